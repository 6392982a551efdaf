/- Contracts of functions of the program, each walked once. -/
import Derived.Test.YtdmiklegahdafaaFnM
import Derived.Test.YtdmiklegahdafaaKCrc2
namespace Go.Proofs.Ytdmiklegahdafaa
open Go Go.RowKit K
namespace FN
theorem mixed : Try.prog.follows .mixedOrders = true := by kernel_rfl
theorem cb11 : callable Try.prog 11 = true := by kernel_rfl
theorem cb12 : callable Try.prog 12 = true := by kernel_rfl
theorem cb13 : callable Try.prog 13 = true := by kernel_rfl
theorem one22 : One Try.prog 22 = true := by kernel_rfl
theorem one5 : One Try.prog 5 = true := by kernel_rfl
theorem ti22 : (Try.prog.info? 22).map (fun i => (i.zero, i.size, i.bytes)) = some (some (.slice none 0 0), 1, 24) := by kernel_rfl
theorem ti5 : (Try.prog.info? 5).map (fun i => (i.zero, i.size, i.bytes)) = some (some (.int .u8 0), 1, 1) := by kernel_rfl

end FN
open FN
attribute [local irreducible] Go.wpList Go.wpQuiet Go.wpStill Go.wpAny Go.Code.wp
set_option maxRecDepth 10000
set_option maxHeartbeats 8000000
set_option linter.unusedVariables false
set_option linter.unusedSimpArgs false
theorem JournalSum_ok (w0 : World) (aA : Option Addr) (cA : Nat) (A : List Nat) (vA : Hp) (hA : Sl .u8 aA cA A vA) (oA : Old w0 [] vA) (aB : Option Addr) (cB : Nat) (B : List Nat) (vB : Hp) (hB : Sl .u8 aB cB B vB) (oB : Old w0 [] vB) :
  Calls Try.prog 3 #[.agg #[.slice aA A.length cA, .slice aB B.length cB]] w0 (Ret fun v w' => v = .bool true ∧ St w0 [] (fl []) w') := by
 refine k_enter (vs := [.agg #[.slice aA A.length cA, .slice aB B.length cB]]) Try.func3 rfl Try.ntmps3 rfl ?_
 have hS : St w0 [] (fl []) w0 := St.init w0
 refine wp_seq ?_
 refine k_reg ?_
 refine s_box rfl rfl rfl (.t rfl rfl) (cs := #[.slice aA A.length cA, .slice aB B.length cB]) rfl hS fun blk1 w1 hb1 hB1 hS1 => ?_
 have hS2 : St w0 [] (fl [[(blk1, .cells #[.slice aA A.length cA, .slice aB B.length cB] 24 (0, 0))]]) w1 := hS1.push 0 rfl
 refine s_val hS2 rfl rfl (r_assign rfl .c) ?_
 refine wpList_nil ?_
 refine x_tn ?_
 refine k_reb [(1, .pointer (some ⟨blk1, 0, none⟩)), (2, .bool false)] ⟨rfl, rfl, trivial⟩ fun G1 => ?_
 refine wp_seq ?_
 refine k_reg ?_
 refine s_val hS2 rfl rfl (r_fieldN rfl Try.underlying24 rfl ti22 (by decide) (.t rfl rfl) (qq := 0) rfl) ?_
 refine s_val hS2 rfl rfl (r_load rfl one22 (.t rfl rfl) (St.cell_own (m := 0) rfl rfl)) ?_
 refine s_val hS2 rfl rfl (r_assign rfl (.t rfl rfl)) ?_
 refine wpList_nil ?_
 refine x_tn ?_
 refine k_reb [(1, .pointer (some ⟨blk1, 0, none⟩)), (2, .bool false), (3, .slice aA A.length cA)] ⟨rfl, rfl, rfl, trivial⟩ fun G2 => ?_
 refine wp_seq ?_
 refine k_reg ?_
 refine s_val hS2 rfl rfl (r_fieldN rfl Try.underlying24 rfl ti22 (by decide) (.t rfl rfl) (qq := 1) rfl) ?_
 refine s_val hS2 rfl rfl (r_load rfl one22 (.t rfl rfl) (St.cell_own (m := 0) rfl rfl)) ?_
 refine s_val hS2 rfl rfl (r_assign rfl (.t rfl rfl)) ?_
 refine wpList_nil ?_
 refine x_tn ?_
 refine k_reb [(2, .bool false), (3, .slice aA A.length cA), (4, .slice aB B.length cB)] ⟨rfl, rfl, rfl, trivial⟩ fun G3 => ?_
 refine wp_seq ?_
 refine wp_seq ?_
 refine k_reg ?_
 refine s_val hS2 rfl rfl (r_move rfl (.t rfl rfl)) ?_
 refine s_val hS2 rfl rfl (r_len rfl rfl Try.underlying22 (.t rfl rfl)) ?_
 refine s_val hS2 rfl rfl (r_cmp_d (p := A.length > 262144) rfl rfl (.t rfl rfl) .c (by show _ ↔ ((A.length : Nat) : Int) > 262144; omega)) ?_
 refine wpList_nil ?_
 refine x_tn ?_
 refine k_reb [(2, .bool false), (3, .slice aA A.length cA), (4, .slice aB B.length cB), (16, .bool (decide (A.length > 262144)))] ⟨rfl, rfl, rfl, rfl, trivial⟩ fun G4 => ?_
 refine k_join (fun a_ w_ => ∃ (G : Nat → Value) (X : List Nat), a_ = fr 101 [(2, .bool false), (3, .slice aA X.length cA), (4, .slice aB B.length cB)] G ∧ St w0 [] (fl [[(blk1, .cells #[.slice aA A.length cA, .slice aB B.length cB] 24 (0, 0))]]) w_ ∧ (Sl .u8 aA cA X vA ∧ X.length ≤ 262144)) ?_ ?_
 ·
  by_cases c1 : A.length > 262144
  ·
   refine k_t (Ev.asb (.t rfl rfl) (decide_eq_true c1)) ?_
   refine k_reb [(2, .bool false), (3, .slice aA A.length cA), (4, .slice aB B.length cB)] ⟨rfl, rfl, rfl, trivial⟩ fun G5 => ?_
   refine k_reg ?_
   refine s_val hS2 rfl rfl (r_move rfl (.t rfl rfl)) ?_
   have hq1 := (hA).le
   have hx1 : Sl .u8 aA cA (A.take 262144) vA := hA.take_ (by omega) (by omega) (by omega)
   have hn1 : (A.take 262144).length = 262144 := by rw [List.length_take]; omega
   refine s_val hS2 rfl rfl (Rn.asSl (ad' := aA) (p' := (A.take 262144).length) (q' := cA) (by simp [cutA]) (by omega) (by omega) (r_cutl rfl Try.underlying22 ti5 (.t rfl rfl) hA rfl .n (.s .c) .n (lw := 0) (hh := 262144) (m := cA) (by omega) (by omega) (by omega) (by omega))) ?_
   refine s_val hS2 rfl rfl (r_assign rfl (.t rfl rfl)) ?_
   refine wpList_nil ?_
   refine x_tn ?_
   refine ⟨_, A.take 262144, fr_reb _ ⟨rfl, rfl, rfl, trivial⟩, hS2, ?_⟩
   exact ⟨hx1, by omega⟩
  ·
   refine k_f (Ev.asb (.t rfl rfl) (decide_eq_false c1)) ?_
   refine k_reb [(2, .bool false), (3, .slice aA A.length cA), (4, .slice aB B.length cB)] ⟨rfl, rfl, rfl, trivial⟩ fun G6 => ?_
   refine wp_skip ?_
   refine x_tn ?_
   refine ⟨_, A, fr_reb _ ⟨rfl, rfl, rfl, trivial⟩, hS2, ?_⟩
   exact ⟨hA, by omega⟩
 ·
  rintro _ w2 ⟨G7, X, rfl, hS3, ⟨hX, lX⟩⟩
  refine x_tn ?_
  refine wp_seq ?_
  refine wp_seq ?_
  refine k_reg ?_
  refine s_val hS3 rfl rfl (r_move rfl (.t rfl rfl)) ?_
  refine s_val hS3 rfl rfl (r_len rfl rfl Try.underlying22 (.t rfl rfl)) ?_
  refine s_val hS3 rfl rfl (r_move rfl (.t rfl rfl)) ?_
  refine s_val hS3 rfl rfl (r_len rfl rfl Try.underlying22 (.t rfl rfl)) ?_
  refine s_val hS3 rfl rfl (r_cmp_d (p := B.length > X.length) rfl rfl (.t rfl rfl) (.t rfl rfl) (by show _ ↔ ((B.length : Nat) : Int) > ((X.length : Nat) : Int); omega)) ?_
  refine wpList_nil ?_
  refine x_tn ?_
  refine k_reb [(2, .bool false), (3, .slice aA X.length cA), (4, .slice aB B.length cB), (23, .bool (decide (B.length > X.length)))] ⟨rfl, rfl, rfl, rfl, trivial⟩ fun G8 => ?_
  refine k_join (fun a_ w_ => ∃ (G : Nat → Value) (Y : List Nat), a_ = fr 101 [(2, .bool false), (3, .slice aA X.length cA), (4, .slice aB Y.length cB)] G ∧ St w0 [] (fl [[(blk1, .cells #[.slice aA A.length cA, .slice aB B.length cB] 24 (0, 0))]]) w_ ∧ (Sl .u8 aB cB Y vB ∧ Y.length ≤ X.length)) ?_ ?_
  ·
   by_cases c2 : B.length > X.length
   ·
    refine k_t (Ev.asb (.t rfl rfl) (decide_eq_true c2)) ?_
    refine k_reb [(2, .bool false), (3, .slice aA X.length cA), (4, .slice aB B.length cB)] ⟨rfl, rfl, rfl, trivial⟩ fun G9 => ?_
    refine k_reg ?_
    refine s_val hS3 rfl rfl (r_move rfl (.t rfl rfl)) ?_
    refine s_val hS3 rfl rfl (r_move rfl (.t rfl rfl)) ?_
    refine s_val hS3 rfl rfl (r_len rfl rfl Try.underlying22 (.t rfl rfl)) ?_
    have hq2 := (hB).le
    have hx2 : Sl .u8 aB cB (B.take X.length) vB := hB.take_ (by omega) (by omega) (by omega)
    have hn2 : (B.take X.length).length = X.length := by rw [List.length_take]; omega
    refine s_val hS3 rfl rfl (Rn.asSl (ad' := aB) (p' := (B.take X.length).length) (q' := cB) (by simp [cutA]) (by omega) (by omega) (r_cutl rfl Try.underlying22 ti5 (.t rfl rfl) hB rfl .n (.s (.t rfl rfl)) .n (lw := 0) (hh := X.length) (m := cB) (by omega) (by omega) (by omega) (by omega))) ?_
    refine s_val hS3 rfl rfl (r_assign rfl (.t rfl rfl)) ?_
    refine wpList_nil ?_
    refine x_tn ?_
    refine ⟨_, B.take X.length, fr_reb _ ⟨rfl, rfl, rfl, trivial⟩, hS3, ?_⟩
    exact ⟨hx2, by omega⟩
   ·
    refine k_f (Ev.asb (.t rfl rfl) (decide_eq_false c2)) ?_
    refine k_reb [(2, .bool false), (3, .slice aA X.length cA), (4, .slice aB B.length cB)] ⟨rfl, rfl, rfl, trivial⟩ fun G10 => ?_
    refine wp_skip ?_
    refine x_tn ?_
    refine ⟨_, B, fr_reb _ ⟨rfl, rfl, rfl, trivial⟩, hS3, ?_⟩
    exact ⟨hB, by omega⟩
  ·
   rintro _ w3 ⟨G11, Y, rfl, hS4, ⟨hY, lY⟩⟩
   refine x_tn ?_
   refine wp_seq ?_
   refine k_reg ?_
   refine s_val hS4 rfl rfl (r_move rfl (.t rfl rfl)) ?_
   refine s_val hS4 rfl rfl (r_move rfl (.t rfl rfl)) ?_
   refine s_val hS4 rfl rfl (r_len rfl rfl Try.underlying22 (.t rfl rfl)) ?_
   have hq3 := (hX).le
   have hx3 : Sl .u8 aA cA (X.take Y.length) vA := hX.take_ (by omega) (by omega) (by omega)
   have hn3 : (X.take Y.length).length = Y.length := by rw [List.length_take]; omega
   refine s_val hS4 rfl rfl (Rn.asSl (ad' := aA) (p' := (X.take Y.length).length) (q' := cA) (by simp [cutA]) (by omega) (by omega) (r_cutl rfl Try.underlying22 ti5 (.t rfl rfl) hX rfl .n (.s (.t rfl rfl)) .n (lw := 0) (hh := Y.length) (m := cA) (by omega) (by omega) (by omega) (by omega))) ?_
   have hZf : ∀ x ∈ (X.take Y.length), x ≤ 255 := fun x hx => hX.fit x (List.mem_of_mem_take hx)
   have hYf : ∀ x ∈ Y, x ≤ 255 := hY.fit
   have hzy : (X.take Y.length).length = Y.length := by rw [List.length_take]; omega
   refine s_val hS4 rfl rfl (r_assign rfl (.t rfl rfl)) ?_
   refine wpList_nil ?_
   refine x_tn ?_
   refine k_reb [(2, .bool false), (3, .slice aA ((X.take Y.length).length) cA), (4, .slice aB Y.length cB)] ⟨rfl, rfl, rfl, trivial⟩ fun G12 => ?_
   refine wp_seq ?_
   refine k_reg ?_
   refine s_val hS4 rfl rfl (r_move rfl (.t rfl rfl)) ?_
   refine s_val hS4 rfl rfl (r_len rfl rfl Try.underlying22 (.t rfl rfl)) ?_
   refine s_make rfl rfl rfl Try.underlying22 ti5 (.t rfl rfl) (.t rfl rfl) (len := (X.take Y.length).length) (cap := (X.take Y.length).length) rfl rfl (by omega) (by omega) (by omega) hS4 fun blk2 w4 hb2 hB2 hS5 => ?_
   have hS6 : St w0 [] (fl [[(blk1, .cells #[.slice aA A.length cA, .slice aB B.length cB] 24 (0, 0))], [(blk2, .cells (encN .u8 (List.replicate ((X.take Y.length).length) 0)) 5 (0, 0))]]) w4 := hS5.push 1 rfl
   refine s_val hS6 rfl rfl (r_assign rfl (.t rfl rfl)) ?_
   refine wpList_nil ?_
   refine x_tn ?_
   refine k_reb [(2, .bool false), (3, .slice aA ((X.take Y.length).length) cA), (4, .slice aB Y.length cB), (5, .slice (some ⟨blk2, 0, none⟩) ((X.take Y.length).length) ((X.take Y.length).length))] ⟨rfl, rfl, rfl, rfl, trivial⟩ fun G13 => ?_
   refine wp_seq ?_
   refine wp_seq ?_
   refine k_reg ?_
   refine s_val hS6 rfl rfl (r_assign rfl .c) ?_
   refine wpList_nil ?_
   refine x_tn ?_
   refine wp_block ?_
   refine wp_loop_ghost (fun (m1 : Nat) a w => ∃ (G : Nat → Value) (i : Nat), a = fr 101 [(2, .bool false), (3, .slice aA ((X.take Y.length).length) cA), (4, .slice aB Y.length cB), (5, .slice (some ⟨blk2, 0, none⟩) ((X.take Y.length).length) ((X.take Y.length).length)), (6, .int .i64 (((i : Nat) : Int)))] G ∧ St w0 [] (fl [[(blk1, .cells #[.slice aA A.length cA, .slice aB B.length cB] 24 (0, 0))], [(blk2, .cells (encN .u8 (xorU (X.take Y.length) Y i)) 5 (0, 0))]]) w ∧ (m1 = (X.take Y.length).length - i ∧ i ≤ (X.take Y.length).length)) ((X.take Y.length).length) ⟨_, 0, fr_reb _ ⟨rfl, rfl, rfl, rfl, rfl, trivial⟩, (by have q := hS6; rw [xorU_zero _ Y] at q; exact q), ?_⟩ ?_
   ·
    exact ⟨by omega, by omega⟩
   ·
    intro m1 _ w5 hI1
    obtain ⟨G14, i, rfl, hS7, ⟨hm, hi⟩⟩ := hI1
    have hxl := xorU_len hzy hi
    refine wp_seq ?_
    refine wp_seq ?_
    refine k_reg ?_
    refine s_val hS7 rfl rfl (r_move rfl (.t rfl rfl)) ?_
    refine s_val hS7 rfl rfl (r_move rfl (.t rfl rfl)) ?_
    refine s_val hS7 rfl rfl (r_len rfl rfl Try.underlying22 (.t rfl rfl)) ?_
    by_cases c3 : i < (X.take Y.length).length
    ·
     refine s_val hS7 rfl rfl (r_cmp_t rfl rfl (.t rfl rfl) (.t rfl rfl) (show ((i : Nat) : Int) < (((X.take Y.length).length : Nat) : Int) from by omega)) ?_
     refine wpList_nil ?_
     refine x_tn ?_
     refine k_reb [(2, .bool false), (3, .slice aA ((X.take Y.length).length) cA), (4, .slice aB Y.length cB), (5, .slice (some ⟨blk2, 0, none⟩) ((X.take Y.length).length) ((X.take Y.length).length)), (6, .int .i64 (((i : Nat) : Int))), (38, .bool true)] ⟨rfl, rfl, rfl, rfl, rfl, rfl, trivial⟩ fun G15 => ?_
     refine k_t (.t rfl rfl) ?_
     refine wp_skip ?_
     refine x_tn ?_
     refine k_reb [(2, .bool false), (3, .slice aA ((X.take Y.length).length) cA), (4, .slice aB Y.length cB), (5, .slice (some ⟨blk2, 0, none⟩) ((X.take Y.length).length) ((X.take Y.length).length)), (6, .int .i64 (((i : Nat) : Int)))] ⟨rfl, rfl, rfl, rfl, rfl, trivial⟩ fun G16 => ?_
     refine wp_seq ?_
     refine wp_block ?_
     refine k_regt 12 mixed (by kernel_rfl) hS7 fun w6 hS8 hB3 => ?_
     refine t_val hS8 rfl rfl (r_move rfl (.t rfl rfl)) ?_
     refine t_val hS8 rfl rfl (r_move rfl (.t rfl rfl)) ?_
     refine t_val hS8 rfl rfl (r_move rfl (.t rfl rfl)) ?_
     refine t_val hS8 rfl rfl (r_move rfl (.t rfl rfl)) ?_
     refine t_val hS8 rfl rfl (r_ixl (j := i) rfl Try.underlying22 ti5 (.t rfl rfl) (.t rfl rfl) hx3 rfl rfl (by omega)) ?_
     have b1 : ((X.take Y.length)).getD i 0 ≤ 255 := hx3.lt _
     refine t_val hS8 rfl rfl (r_load rfl one5 (.t rfl rfl) (hx3.cell_o oA (by omega))) ?_
     refine t_val hS8 rfl rfl (r_move rfl (.t rfl rfl)) ?_
     refine t_val hS8 rfl rfl (r_move rfl (.t rfl rfl)) ?_
     refine t_val hS8 rfl rfl (r_ixl (j := i) rfl Try.underlying22 ti5 (.t rfl rfl) (.t rfl rfl) hY rfl rfl (by omega)) ?_
     have b2 : Y.getD i 0 ≤ 255 := hY.lt _
     refine t_val hS8 rfl rfl (r_load rfl one5 (.t rfl rfl) (hY.cell_o oB (by omega))) ?_
     have hb3 : (((X.take Y.length)).getD i 0) ^^^ (Y.getD i 0) < 256 := Nat.xor_lt_two_pow (n := 8) (show ((X.take Y.length)).getD i 0 < 256 from by omega) (show Y.getD i 0 < 256 from by omega)
     refine t_val hS8 rfl rfl (r_xor rfl (.t rfl rfl) (.t rfl rfl) (show ((X.take Y.length)).getD i 0 < 256 from by omega) (show Y.getD i 0 < 256 from by omega) (c := (((X.take Y.length)).getD i 0) ^^^ (Y.getD i 0)) rfl (wn_u8 rfl (Nat.le_of_lt_succ hb3))) ?_
     refine t_val hS8 rfl rfl (r_ixs (j := i) rfl Try.underlying22 ti5 (.t rfl rfl) (.t rfl rfl) rfl (by omega) (qq := i) (by omega)) ?_
     refine t_nil ?_
     refine s_store (m := 1) rfl rfl rfl one5 (.t rfl rfl) (.t rfl rfl) rfl hS8 rfl (encN_get (by first | omega | (simp only [List.length_set, List.length_append, List.length_replicate]; omega))) encN_set (h' := (fl [[(blk1, .cells #[.slice aA A.length cA, .slice aB B.length cB] 24 (0, 0))], [(blk2, .cells (encN .u8 ((xorU (X.take Y.length) Y i).set i ((((X.take Y.length)).getD i 0) ^^^ (Y.getD i 0)))) 5 (0, 0))]])) rfl fun w7 hS9 => ?_
     rw [show (xorU (X.take Y.length) Y i).set i ((((X.take Y.length)).getD i 0) ^^^ (Y.getD i 0)) = xorU (X.take Y.length) Y (i + 1) from (xorU_set hzy (by omega))] at hS9
     refine wpList_nil ?_
     refine x_bn ?_
     refine x_tn ?_
     refine k_reb [(2, .bool false), (3, .slice aA ((X.take Y.length).length) cA), (4, .slice aB Y.length cB), (5, .slice (some ⟨blk2, 0, none⟩) ((X.take Y.length).length) ((X.take Y.length).length)), (6, .int .i64 (((i : Nat) : Int)))] ⟨rfl, rfl, rfl, rfl, rfl, trivial⟩ fun G17 => ?_
     refine k_reg ?_
     refine s_val hS9 rfl rfl (r_move rfl (.t rfl rfl)) ?_
     refine s_val hS9 rfl rfl (r_arith rfl rfl (.t rfl rfl) .c (c := ((i + 1 : Nat) : Int)) (wn_i64 (by show (((i : Nat) : Int) : Int) + 1 = _; omega) (by omega))) ?_
     refine s_val hS9 rfl rfl (r_assign rfl (.t rfl rfl)) ?_
     refine wpList_nil ?_
     refine x_tn ?_
     refine ⟨(X.take Y.length).length - (i + 1), by omega, _, i + 1, fr_reb _ ⟨rfl, rfl, rfl, rfl, rfl, trivial⟩, hS9, ?_⟩
     exact ⟨by omega, by omega⟩
    ·
     refine s_val hS7 rfl rfl (r_cmp_f rfl rfl (.t rfl rfl) (.t rfl rfl) (show ¬ (((i : Nat) : Int) < (((X.take Y.length).length : Nat) : Int)) from by omega)) ?_
     refine wpList_nil ?_
     refine x_tn ?_
     refine k_reb [(2, .bool false), (3, .slice aA ((X.take Y.length).length) cA), (4, .slice aB Y.length cB), (5, .slice (some ⟨blk2, 0, none⟩) ((X.take Y.length).length) ((X.take Y.length).length)), (6, .int .i64 (((i : Nat) : Int))), (38, .bool false)] ⟨rfl, rfl, rfl, rfl, rfl, rfl, trivial⟩ fun G18 => ?_
     refine k_f (.t rfl rfl) ?_
     refine wp_exit ?_
     refine x_te ?_
     refine x_te ?_
     refine x_be ?_
     refine x_tn ?_
     refine k_reb [(2, .bool false), (3, .slice aA ((X.take Y.length).length) cA), (4, .slice aB Y.length cB), (5, .slice (some ⟨blk2, 0, none⟩) ((X.take Y.length).length) ((X.take Y.length).length))] ⟨rfl, rfl, rfl, rfl, trivial⟩ fun G19 => ?_
     refine wp_seq ?_
     refine k_reg ?_
     refine s_val hS7 rfl rfl (r_move rfl (.t rfl rfl)) ?_
     refine s_val hS7 rfl rfl (r_len rfl rfl Try.underlying22 (.t rfl rfl)) ?_
     refine s_make rfl rfl rfl Try.underlying22 ti5 (.t rfl rfl) (.t rfl rfl) (len := (X.take Y.length).length) (cap := (X.take Y.length).length) rfl rfl (by omega) (by omega) (by omega) hS7 fun blk3 w8 hb4 hB4 hS10 => ?_
     have hS11 : St w0 [] (fl [[(blk1, .cells #[.slice aA A.length cA, .slice aB B.length cB] 24 (0, 0))], [(blk2, .cells (encN .u8 (xorU (X.take Y.length) Y i)) 5 (0, 0))], [(blk3, .cells (encN .u8 (List.replicate ((X.take Y.length).length) 0)) 5 (0, 0))]]) w8 := hS10.push 2 rfl
     refine s_val hS11 rfl rfl (r_assign rfl (.t rfl rfl)) ?_
     refine wpList_nil ?_
     refine x_tn ?_
     refine k_reb [(2, .bool false), (3, .slice aA ((X.take Y.length).length) cA), (4, .slice aB Y.length cB), (5, .slice (some ⟨blk2, 0, none⟩) ((X.take Y.length).length) ((X.take Y.length).length)), (7, .slice (some ⟨blk3, 0, none⟩) ((X.take Y.length).length) ((X.take Y.length).length))] ⟨rfl, rfl, rfl, rfl, rfl, trivial⟩ fun G20 => ?_
     refine wp_seq ?_
     refine wp_seq ?_
     refine k_reg ?_
     refine s_val hS11 rfl rfl (r_move rfl (.t rfl rfl)) ?_
     have hxl := xorU_len hzy hi
     have hrl : (List.replicate (X.take Y.length).length 0).length = (X.take Y.length).length := List.length_replicate
     have hii : i = (X.take Y.length).length := by omega
     have hlaw : crcM 0 (X.take Y.length) ^^^ crcM 0 Y = crcM 0 (xorU (X.take Y.length) Y i) ^^^ crcM 0 (List.replicate (X.take Y.length).length 0) := by rw [hii]; exact sum_law hZf hYf hzy
     have hc1 := crcM_lt (L := (X.take Y.length)) (s := 0)
     have hc2 := crcM_lt (L := Y) (s := 0)
     have hc3 := crcM_lt (L := xorU (X.take Y.length) Y i) (s := 0)
     have hc4 := crcM_lt (L := List.replicate (X.take Y.length).length 0) (s := 0)
     refine s_call rfl rfl rfl (vs := [.slice aA ((X.take Y.length).length) cA]) ⟨(.t rfl rfl), trivial⟩ cb11 (Sum_ok w8 aA cA (X.take Y.length) vA hx3 (Old.of_old (xs := []) [] oA hS11 rfl (by decide)) ) ?_
     rintro _ w9 ⟨rfl, ht1⟩
     have hS12 : St w0 [] (fl [[(blk1, .cells #[.slice aA A.length cA, .slice aB B.length cB] 24 (0, 0))], [(blk2, .cells (encN .u8 (xorU (X.take Y.length) Y i)) 5 (0, 0))], [(blk3, .cells (encN .u8 (List.replicate ((X.take Y.length).length) 0)) 5 (0, 0))]]) w9 := hS11.callL (xs := []) (xs' := []) (zs := []) [] rfl (by decide) ht1 rfl rfl
     refine s_val hS12 rfl rfl (r_move rfl (.t rfl rfl)) ?_
     refine s_call rfl rfl rfl (vs := [.slice aB Y.length cB]) ⟨(.t rfl rfl), trivial⟩ cb11 (Sum_ok w9 aB cB Y vB hY (Old.of_old (xs := []) [] oB hS12 rfl (by decide)) ) ?_
     rintro _ w10 ⟨rfl, ht2⟩
     have hS13 : St w0 [] (fl [[(blk1, .cells #[.slice aA A.length cA, .slice aB B.length cB] 24 (0, 0))], [(blk2, .cells (encN .u8 (xorU (X.take Y.length) Y i)) 5 (0, 0))], [(blk3, .cells (encN .u8 (List.replicate ((X.take Y.length).length) 0)) 5 (0, 0))]]) w10 := hS12.callL (xs := []) (xs' := []) (zs := []) [] rfl (by decide) ht2 rfl rfl
     have hb5 : (crcM 0 ((X.take Y.length))) ^^^ (crcM 0 Y) < 4294967296 := Nat.xor_lt_two_pow (n := 32) (show crcM 0 ((X.take Y.length)) < 4294967296 from by omega) (show crcM 0 Y < 4294967296 from by omega)
     refine s_val hS13 rfl rfl (r_xor rfl (.t rfl rfl) (.t rfl rfl) (show crcM 0 ((X.take Y.length)) < 4294967296 from by omega) (show crcM 0 Y < 4294967296 from by omega) (c := (crcM 0 ((X.take Y.length))) ^^^ (crcM 0 Y)) rfl (wn_u32 rfl (Nat.le_of_lt_succ hb5))) ?_
     obtain ⟨sg1, hG1, hS14⟩ : ∃ sg1 : Hp, Gr .u8 5 (some ⟨blk2, 0, none⟩) (xorU (X.take Y.length) Y i).length (xorU (X.take Y.length) Y i) sg1 ∧ St w0 [] (fl [[(blk1, .cells #[.slice aA A.length cA, .slice aB B.length cB] 24 (0, 0))], [(blk3, .cells (encN .u8 (List.replicate ((X.take Y.length).length) 0)) 5 (0, 0))], sg1]) w10 := ⟨_, Gr.of_row (by first | rfl | (simp; done) | omega), hS13.pick [0, 2, 1] rfl (by decide)⟩
     refine s_val hS14 rfl rfl (Rn.asS (p' := (xorU (X.take Y.length) Y i).length) (q' := (xorU (X.take Y.length) Y i).length) (by omega) (by omega) (r_move rfl (.t rfl rfl))) ?_
     refine s_call rfl rfl rfl (vs := [.slice (some ⟨blk2, 0, none⟩) ((xorU (X.take Y.length) Y i).length) ((xorU (X.take Y.length) Y i).length)]) ⟨(.t rfl rfl), trivial⟩ cb11 (Sum_ok w10 (some ⟨blk2, 0, none⟩) ((xorU (X.take Y.length) Y i).length) (xorU (X.take Y.length) Y i) sg1 (hG1.sl (by omega) (xorU_fit hZf hYf _)) (Old.of_piece (i := 2) (xs := []) [] hS14 rfl rfl (by decide)) ) ?_
     rintro _ w11 ⟨rfl, ht3⟩
     have hS15 : St w0 [] (fl [[(blk1, .cells #[.slice aA A.length cA, .slice aB B.length cB] 24 (0, 0))], [(blk3, .cells (encN .u8 (List.replicate ((X.take Y.length).length) 0)) 5 (0, 0))], sg1]) w11 := hS14.callL (xs := []) (xs' := []) (zs := []) [] rfl (by decide) ht3 rfl rfl
     obtain ⟨sg2, hG2, hS16⟩ : ∃ sg2 : Hp, Gr .u8 5 (some ⟨blk3, 0, none⟩) (List.replicate ((X.take Y.length).length) 0).length (List.replicate ((X.take Y.length).length) 0) sg2 ∧ St w0 [] (fl [[(blk1, .cells #[.slice aA A.length cA, .slice aB B.length cB] 24 (0, 0))], sg1, sg2]) w11 := ⟨_, Gr.of_row (by first | rfl | (simp; done) | omega), hS15.pick [0, 2, 1] rfl (by decide)⟩
     refine s_val hS16 rfl rfl (Rn.asS (p' := (List.replicate (X.take Y.length).length 0).length) (q' := (List.replicate (X.take Y.length).length 0).length) (by omega) (by omega) (r_move rfl (.t rfl rfl))) ?_
     refine s_call rfl rfl rfl (vs := [.slice (some ⟨blk3, 0, none⟩) ((List.replicate (X.take Y.length).length 0).length) ((List.replicate (X.take Y.length).length 0).length)]) ⟨(.t rfl rfl), trivial⟩ cb11 (Sum_ok w11 (some ⟨blk3, 0, none⟩) ((List.replicate (X.take Y.length).length 0).length) (List.replicate ((X.take Y.length).length) 0) sg2 (hG2.sl (by omega) (rep_fit255 _)) (Old.of_piece (i := 2) (xs := []) [] hS16 rfl rfl (by decide)) ) ?_
     rintro _ w12 ⟨rfl, ht4⟩
     have hS17 : St w0 [] (fl [[(blk1, .cells #[.slice aA A.length cA, .slice aB B.length cB] 24 (0, 0))], sg1, sg2]) w12 := hS16.callL (xs := []) (xs' := []) (zs := []) [] rfl (by decide) ht4 rfl rfl
     have hb6 : (crcM 0 ((xorU (X.take Y.length) Y i))) ^^^ (crcM 0 ((List.replicate ((X.take Y.length).length) 0))) < 4294967296 := Nat.xor_lt_two_pow (n := 32) (show crcM 0 ((xorU (X.take Y.length) Y i)) < 4294967296 from by omega) (show crcM 0 ((List.replicate ((X.take Y.length).length) 0)) < 4294967296 from by omega)
     refine s_val hS17 rfl rfl (r_xor rfl (.t rfl rfl) (.t rfl rfl) (show crcM 0 ((xorU (X.take Y.length) Y i)) < 4294967296 from by omega) (show crcM 0 ((List.replicate ((X.take Y.length).length) 0)) < 4294967296 from by omega) (c := (crcM 0 ((xorU (X.take Y.length) Y i))) ^^^ (crcM 0 ((List.replicate ((X.take Y.length).length) 0)))) rfl (wn_u32 rfl (Nat.le_of_lt_succ hb6))) ?_
     refine s_val hS17 rfl rfl (r_cmp_f rfl rfl (.t rfl rfl) (.t rfl rfl) (show ¬ (¬ (((crcM 0 ((X.take Y.length))) ^^^ (crcM 0 Y) : Nat) : Int) = (((crcM 0 ((xorU (X.take Y.length) Y i))) ^^^ (crcM 0 ((List.replicate ((X.take Y.length).length) 0))) : Nat) : Int)) from (by rw [hlaw]; exact fun q => q rfl))) ?_
     refine s_val hS17 rfl rfl (r_move rfl (.t rfl rfl)) ?_
     refine s_callg (wanted_of (j := 11) (b := false) (d := 67) rfl rfl rfl rfl) rfl rfl (vs := []) trivial cb12 (works_ok w12  ) ?_
     rintro _ w13 ⟨rfl, ht5⟩
     have hS18 : St w0 [] (fl [[(blk1, .cells #[.slice aA A.length cA, .slice aB B.length cB] 24 (0, 0))], sg1, sg2]) w13 := hS17.callL (xs := []) (xs' := []) (zs := []) [] rfl (by decide) ht5 rfl rfl
     refine s_valg hS18 (wanted_of (j := 11) (b := false) (d := 67) rfl rfl rfl rfl) rfl (r_lnot rfl (.t rfl rfl)) ?_
     refine s_val hS18 rfl rfl (r_pick rfl (.t rfl rfl) (.t rfl rfl)) ?_
     refine wpList_nil ?_
     refine x_tn ?_
     refine k_reb [(2, .bool false), (3, .slice aA ((X.take Y.length).length) cA), (70, .bool false)] ⟨rfl, rfl, rfl, trivial⟩ fun G21 => ?_
     refine k_f (.t rfl rfl) ?_
     refine wp_skip ?_
     refine x_tn ?_
     refine k_reb [(2, .bool false), (3, .slice aA ((X.take Y.length).length) cA)] ⟨rfl, rfl, trivial⟩ fun G22 => ?_
     refine wp_seq ?_
     refine wp_seq ?_
     refine k_reg ?_
     refine s_val hS18 rfl rfl (r_assign rfl .c) ?_
     refine wpList_nil ?_
     refine x_tn ?_
     refine wp_block ?_
     have hS19 : St w0 [] (fl []) w13 := hS18.pick [] rfl (by decide)
     refine wp_loop_ghost (fun (m2 : Nat) a w => ∃ (G : Nat → Value) (j : Nat), a = fr 101 [(2, .bool false), (3, .slice aA ((X.take Y.length).length) cA), (8, .int .i64 (((j : Nat) : Int)))] G ∧ St w0 [] (fl []) w ∧ (m2 = (X.take Y.length).length - j ∧ j ≤ (X.take Y.length).length)) ((X.take Y.length).length) ⟨_, 0, fr_reb _ ⟨rfl, rfl, rfl, trivial⟩, hS19, ?_⟩ ?_
     ·
      exact ⟨by omega, by omega⟩
     ·
      intro m2 _ w14 hI2
      obtain ⟨G23, j, rfl, hS20, ⟨hm, hj⟩⟩ := hI2
      refine wp_seq ?_
      refine wp_seq ?_
      refine k_reg ?_
      refine s_val hS20 rfl rfl (r_move rfl (.t rfl rfl)) ?_
      refine s_val hS20 rfl rfl (r_move rfl (.t rfl rfl)) ?_
      refine s_val hS20 rfl rfl (r_len rfl rfl Try.underlying22 (.t rfl rfl)) ?_
      by_cases c4 : j < (X.take Y.length).length
      ·
       refine s_val hS20 rfl rfl (r_cmp_t rfl rfl (.t rfl rfl) (.t rfl rfl) (show ((j : Nat) : Int) < (((X.take Y.length).length : Nat) : Int) from by omega)) ?_
       refine s_val hS20 rfl rfl (r_move rfl (.t rfl rfl)) ?_
       refine s_valg hS20 (wanted_of (j := 4) (b := true) (d := 75) rfl rfl rfl rfl) rfl (r_move rfl (.t rfl rfl)) ?_
       by_cases c5 : j < 40
       ·
        refine s_valg hS20 (wanted_of (j := 4) (b := true) (d := 75) rfl rfl rfl rfl) rfl (r_cmp_t rfl rfl (.t rfl rfl) .c (show ((j : Nat) : Int) < 40 from by omega)) ?_
        refine s_val hS20 rfl rfl (r_pick rfl (.t rfl rfl) (.t rfl rfl)) ?_
        refine wpList_nil ?_
        refine x_tn ?_
        refine k_reb [(2, .bool false), (3, .slice aA ((X.take Y.length).length) cA), (8, .int .i64 (((j : Nat) : Int))), (78, .bool true)] ⟨rfl, rfl, rfl, rfl, trivial⟩ fun G24 => ?_
        refine k_t (.t rfl rfl) ?_
        refine wp_skip ?_
        refine x_tn ?_
        refine k_reb [(2, .bool false), (3, .slice aA ((X.take Y.length).length) cA), (8, .int .i64 (((j : Nat) : Int)))] ⟨rfl, rfl, rfl, trivial⟩ fun G25 => ?_
        refine wp_seq ?_
        refine wp_block ?_
        refine wp_seq ?_
        refine k_reg ?_
        refine s_val hS20 rfl rfl (r_move rfl (.t rfl rfl)) ?_
        refine s_call rfl rfl rfl (vs := [.slice aA ((X.take Y.length).length) cA]) ⟨(.t rfl rfl), trivial⟩ cb13 (Copy_ok w14 aA cA (X.take Y.length) vA hx3 (Old.of_old (xs := []) [] oA hS20 rfl (by decide)) (by first | omega | simp) ) ?_
        rintro _ w15 ⟨ra1, rc1, sg3, rfl, hG3, ht6⟩
        have hS21 : St w0 [] (fl [sg3]) w15 := hS20.callL (xs := []) (xs' := []) (zs := [sg3]) [] rfl (by decide) ht6 rfl rfl
        refine s_val hS21 rfl rfl (r_assign rfl (.t rfl rfl)) ?_
        refine wpList_nil ?_
        refine x_tn ?_
        refine k_reb [(2, .bool false), (3, .slice aA ((X.take Y.length).length) cA), (8, .int .i64 (((j : Nat) : Int))), (9, .slice ra1 (((X.take Y.length)).length) rc1)] ⟨rfl, rfl, rfl, rfl, trivial⟩ fun G26 => ?_
        refine wp_seq ?_
        refine k_reg ?_
        refine s_val hS21 rfl rfl (r_move rfl (.t rfl rfl)) ?_
        refine s_val hS21 rfl rfl (r_move rfl (.t rfl rfl)) ?_
        refine s_val hS21 rfl rfl (r_move rfl (.t rfl rfl)) ?_
        refine s_val hS21 rfl rfl (r_move rfl (.t rfl rfl)) ?_
        refine s_val hS21 rfl rfl (r_ixl (j := j) rfl Try.underlying22 ti5 (.t rfl rfl) (.t rfl rfl) (hG3.sl (by omega) (by assumption)) rfl rfl (by omega)) ?_
        have b3 : (((X.take Y.length))).getD j 0 ≤ 255 := (hG3.sl (by omega) (by assumption)).lt _
        refine s_val hS21 rfl rfl (r_load rfl one5 (.t rfl rfl) ((hG3.sl (by omega) (by assumption)).cell_p (i := 0) rfl (by omega))) ?_
        refine s_val hS21 rfl rfl (r_move rfl (.t rfl rfl)) ?_
        refine s_val hS21 rfl rfl (r_arith rfl rfl (.t rfl rfl) .c (c := ((j * 7 : Nat) : Int)) (wn_i64 (Int.natCast_mul _ _).symm (by omega))) ?_
        refine s_val hS21 rfl rfl (r_rem (b := ((255 : Nat) : Int)) rfl (.t rfl rfl) .c (nz_nat (by omega)) (c := (((j * 7) % 255 : Nat) : Int)) tmod_nat) ?_
        refine s_val hS21 rfl rfl (r_arith rfl rfl .c (.t rfl rfl) (c := ((1 + ((j * 7) % 255) : Nat) : Int)) (wn_i64 (by show (1 : Int) + (((j * 7) % 255 : Nat) : Int) = _; omega) (by omega))) ?_
        refine s_val hS21 rfl rfl (r_conv rfl Try.underlying3 Try.underlying5 (.t rfl rfl) (c := ((1 + ((j * 7) % 255) : Nat) : Int)) (wn_u8 rfl (by omega))) ?_
        have hb7 : ((((X.take Y.length))).getD j 0) ^^^ (1 + ((j * 7) % 255)) < 256 := Nat.xor_lt_two_pow (n := 8) (show (((X.take Y.length))).getD j 0 < 256 from by omega) (show 1 + ((j * 7) % 255) < 256 from by omega)
        refine s_val hS21 rfl rfl (r_xor rfl (.t rfl rfl) (.t rfl rfl) (show (((X.take Y.length))).getD j 0 < 256 from by omega) (show 1 + ((j * 7) % 255) < 256 from by omega) (c := ((((X.take Y.length))).getD j 0) ^^^ (1 + ((j * 7) % 255))) rfl (wn_u8 rfl (Nat.le_of_lt_succ hb7))) ?_
        refine s_val hS21 rfl rfl (r_ixl (j := j) rfl Try.underlying22 ti5 (.t rfl rfl) (.t rfl rfl) (hG3.sl (by omega) (by assumption)) rfl rfl (by omega)) ?_
        refine s_storeG (i := 0) (j := j) (z := ((((X.take Y.length))).getD j 0) ^^^ (1 + ((j * 7) % 255))) rfl rfl rfl one5 (.t rfl rfl) (.t rfl rfl) hG3 (by omega) hS21 rfl fun sg4 w16 hG4 hS22 => ?_
        have hS23 : St w0 [] (fl [sg4]) w16 := hS22
        refine wpList_nil ?_
        refine x_tn ?_
        refine k_reb [(2, .bool false), (3, .slice aA ((X.take Y.length).length) cA), (8, .int .i64 (((j : Nat) : Int))), (9, .slice ra1 (((X.take Y.length)).length) rc1)] ⟨rfl, rfl, rfl, rfl, trivial⟩ fun G27 => ?_
        refine wp_seq ?_
        refine k_reg ?_
        have hsl : (((X.take Y.length)).set j (((((X.take Y.length))).getD j 0) ^^^ (1 + ((j * 7) % 255)))).length = (X.take Y.length).length := List.length_set
        refine s_val hS23 rfl rfl (Rn.asS (p' := (((X.take Y.length)).set j (((((X.take Y.length))).getD j 0) ^^^ (1 + ((j * 7) % 255)))).length) (q' := rc1) (by omega) (by omega) (r_move rfl (.t rfl rfl))) ?_
        refine s_call rfl rfl rfl (vs := [.slice ra1 ((((X.take Y.length)).set j (((((X.take Y.length))).getD j 0) ^^^ (1 + ((j * 7) % 255)))).length) rc1]) ⟨(.t rfl rfl), trivial⟩ cb11 (Sum_ok w16 ra1 rc1 (((X.take Y.length)).set j (((((X.take Y.length))).getD j 0) ^^^ (1 + ((j * 7) % 255)))) sg4 (hG4.sl (by omega) (set_fit hZf (xor_fit (getD_le hZf j) (by omega)))) (Old.of_piece (i := 0) (xs := []) [] hS23 rfl rfl (by decide)) ) ?_
        rintro _ w17 ⟨rfl, ht7⟩
        have hS24 : St w0 [] (fl [sg4]) w17 := hS23.callL (xs := []) (xs' := []) (zs := []) [] rfl (by decide) ht7 rfl rfl
        refine s_val hS24 rfl rfl (r_move rfl (.t rfl rfl)) ?_
        refine s_call rfl rfl rfl (vs := [.slice aA ((X.take Y.length).length) cA]) ⟨(.t rfl rfl), trivial⟩ cb11 (Sum_ok w17 aA cA (X.take Y.length) vA hx3 (Old.of_old (xs := []) [] oA hS24 rfl (by decide)) ) ?_
        rintro _ w18 ⟨rfl, ht8⟩
        have hS25 : St w0 [] (fl [sg4]) w18 := hS24.callL (xs := []) (xs' := []) (zs := []) [] rfl (by decide) ht8 rfl rfl
        refine s_val hS25 rfl rfl (r_cmp_f rfl rfl (.t rfl rfl) (.t rfl rfl) (show ¬ (((crcM 0 ((((X.take Y.length)).set j (((((X.take Y.length))).getD j 0) ^^^ (1 + ((j * 7) % 255))))) : Nat) : Int) = ((crcM 0 ((X.take Y.length)) : Nat) : Int)) from (fun q => absurd (Int.ofNat.inj q) (crcM_other hZf (by omega) (by omega) (by omega))))) ?_
        refine wpList_nil ?_
        refine x_tn ?_
        refine k_reb [(2, .bool false), (3, .slice aA ((X.take Y.length).length) cA), (8, .int .i64 (((j : Nat) : Int))), (100, .bool false)] ⟨rfl, rfl, rfl, rfl, trivial⟩ fun G28 => ?_
        refine k_f (.t rfl rfl) ?_
        refine wp_skip ?_
        refine x_bn ?_
        refine x_tn ?_
        refine k_reb [(2, .bool false), (3, .slice aA ((X.take Y.length).length) cA), (8, .int .i64 (((j : Nat) : Int)))] ⟨rfl, rfl, rfl, trivial⟩ fun G29 => ?_
        refine k_reg ?_
        refine s_val hS25 rfl rfl (r_move rfl (.t rfl rfl)) ?_
        refine s_val hS25 rfl rfl (r_arith rfl rfl (.t rfl rfl) .c (c := ((j + 1 : Nat) : Int)) (wn_i64 (by show (((j : Nat) : Int) : Int) + 1 = _; omega) (by omega))) ?_
        refine s_val hS25 rfl rfl (r_assign rfl (.t rfl rfl)) ?_
        refine wpList_nil ?_
        refine x_tn ?_
        have hS26 : St w0 [] (fl []) w18 := hS25.pick [] rfl (by decide)
        refine ⟨(X.take Y.length).length - (j + 1), by omega, _, j + 1, fr_reb _ ⟨rfl, rfl, rfl, trivial⟩, hS26, ?_⟩
        exact ⟨by omega, by omega⟩
       ·
        refine s_valg hS20 (wanted_of (j := 4) (b := true) (d := 75) rfl rfl rfl rfl) rfl (r_cmp_f rfl rfl (.t rfl rfl) .c (show ¬ (((j : Nat) : Int) < 40) from by omega)) ?_
        refine s_val hS20 rfl rfl (r_pick rfl (.t rfl rfl) (.t rfl rfl)) ?_
        refine wpList_nil ?_
        refine x_tn ?_
        refine k_reb [(2, .bool false), (3, .slice aA ((X.take Y.length).length) cA), (8, .int .i64 (((j : Nat) : Int))), (78, .bool false)] ⟨rfl, rfl, rfl, rfl, trivial⟩ fun G30 => ?_
        refine k_f (.t rfl rfl) ?_
        refine wp_exit ?_
        refine x_te ?_
        refine x_te ?_
        refine x_be ?_
        refine x_tn ?_
        refine k_reb [(2, .bool false)] ⟨rfl, trivial⟩ fun G31 => ?_
        refine wp_seq ?_
        refine k_reg ?_
        refine s_val hS20 rfl rfl (r_assign rfl .c) ?_
        refine wpList_nil ?_
        refine x_tn ?_
        refine wp_ret ?_
        refine k_ret1 Try.results3 rfl rfl ?_
        refine ⟨_, rfl, ?_⟩
        exact ⟨rfl, hS20⟩
      ·
       refine s_val hS20 rfl rfl (r_cmp_f rfl rfl (.t rfl rfl) (.t rfl rfl) (show ¬ (((j : Nat) : Int) < (((X.take Y.length).length : Nat) : Int)) from by omega)) ?_
       refine s_val hS20 rfl rfl (r_move rfl (.t rfl rfl)) ?_
       refine s_skip (unwanted_of (j := 4) (b := true) (b' := false) (d := 75) rfl rfl rfl rfl rfl) rfl ?_
       refine s_skip (unwanted_of (j := 4) (b := true) (b' := false) (d := 75) rfl rfl rfl rfl rfl) rfl ?_
       refine s_val hS20 rfl rfl (r_pick rfl (.t rfl rfl) .c) ?_
       refine wpList_nil ?_
       refine x_tn ?_
       refine k_reb [(2, .bool false), (3, .slice aA ((X.take Y.length).length) cA), (8, .int .i64 (((j : Nat) : Int))), (78, .bool false)] ⟨rfl, rfl, rfl, rfl, trivial⟩ fun G32 => ?_
       refine k_f (.t rfl rfl) ?_
       refine wp_exit ?_
       refine x_te ?_
       refine x_te ?_
       refine x_be ?_
       refine x_tn ?_
       refine k_reb [(2, .bool false)] ⟨rfl, trivial⟩ fun G33 => ?_
       refine wp_seq ?_
       refine k_reg ?_
       refine s_val hS20 rfl rfl (r_assign rfl .c) ?_
       refine wpList_nil ?_
       refine x_tn ?_
       refine wp_ret ?_
       refine k_ret1 Try.results3 rfl rfl ?_
       refine ⟨_, rfl, ?_⟩
       exact ⟨rfl, hS20⟩

end Go.Proofs.Ytdmiklegahdafaa

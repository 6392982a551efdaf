/- Contracts of functions of the program, each walked once. -/
import Derived.Test.YtnbklceenfjojaaFnD
namespace Go.Proofs.Ytnbklceenfjojaa
open Go Go.RowKit K
namespace FE
theorem mixed : Try.prog.follows .mixedOrders = true := by kernel_rfl
theorem cb63 : callable Try.prog 63 = true := by kernel_rfl
theorem cb68 : callable Try.prog 68 = true := by kernel_rfl
theorem one57 : One Try.prog 57 = true := by kernel_rfl
theorem ti57 : (Try.prog.info? 57).map (fun i => (i.zero, i.size, i.bytes)) = some (some (.int .u32 0), 1, 4) := by kernel_rfl

end FE
open FE
attribute [local irreducible] Go.wpList Go.wpQuiet Go.wpStill Go.wpAny Go.Code.wp
set_option maxRecDepth 10000
set_option maxHeartbeats 8000000
set_option linter.unusedVariables false
set_option linter.unusedSimpArgs false
theorem clone_new (w0 : World) (aA : Option Addr) (cA : Nat) (A : List Nat) (hA : Rd w0 .u32 aA cA A) (hlA : A.length ≤ 1000000) :
    Calls Try.prog 63 #[.slice aA A.length cA] w0 (Ret fun v w' => (A = [] ∧ v = .slice none 0 0 ∧ St w0 [] [] w') ∨ ∃ b cap X, v = .slice (some ⟨b, 0, none⟩) A.length cap ∧ w0.heap.size ≤ b ∧ St w0 [] [(b, .cells (encN .u32 (A ++ X)) 57 (0, 0))] w' ∧ A.length ≤ cap ∧ cap ≤ A.length + X.length) := by
  refine (clone_ok w0 aA cA A hA hlA).mono ?_
  rintro e w' ⟨v, rfl, a, cap, hv, rfl, g, s⟩
  rcases g with ⟨rfl, rfl, rfl, rfl⟩ | ⟨b, X, rfl, rfl, h1, h2⟩
  · exact ⟨_, rfl, .inl ⟨rfl, rfl, s⟩⟩
  · have hb := s.place (b, .cells (encN .u32 (A ++ X)) 57 (0, 0)) (by simp)
    exact ⟨_, rfl, .inr ⟨b, cap, X, rfl, by simpa using hb, s, h2, h1⟩⟩

theorem sub_ok (w0 : World) (aA : Option Addr) (cA : Nat) (A : List Nat) (hA : Rd w0 .u32 aA cA A) (aB : Option Addr) (cB : Nat) (B : List Nat) (hB : Rd w0 .u32 aB cB B) (hlA : A.length ≤ 1000000) (hBA : B.length ≤ A.length) (hle : lv B ≤ lv A) :
    Calls Try.prog 62 #[.slice aA A.length cA, .slice aB B.length cB] w0 (Ret fun v w' => ∃ L, Ow w0 w' .u32 57 v L ∧ Lim L ∧ L.length = A.length ∧ lv L = lv A - lv B) := by
  refine k_enter (vs := [.slice aA A.length cA, .slice aB B.length cB]) Try.func62 rfl Try.ntmps62 rfl ?_
  have hS := St.init w0
  have lA := hA.le
  have lB := hB.le
  refine wp_seq ?_
  refine k_reg ?_
  refine s_val hS rfl rfl (r_assign rfl .c) ?_
  refine wpList_nil ?_
  refine x_tn ?_
  refine wp_seq ?_
  refine k_reg ?_
  refine s_val hS rfl rfl (r_move rfl (.t rfl rfl)) ?_
  refine s_call rfl rfl rfl (vs := [.slice aA A.length cA]) ⟨(.t rfl rfl), trivial⟩ cb63 (clone_new w0 aA cA A hA (by omega)) ?_
  rintro _ w1 (⟨hnil, rfl, hT1⟩ | ⟨blk1, cap1, X1, rfl, hb1, hT1, hc1, hc2⟩)
  · have hS1 := hS.keep hT1
    refine s_val hS1 rfl rfl (r_assign rfl (.t rfl rfl)) ?_
    refine wpList_nil ?_
    refine x_tn ?_
    refine k_reb [(0, .slice aA A.length cA), (1, .slice aB B.length cB), (4, .slice none 0 0), (5, .slice none 0 0)] ⟨rfl, rfl, rfl, rfl, trivial⟩ fun G1 => ?_
    refine wp_seq ?_
    refine k_reg ?_
    refine s_val hS1 rfl rfl (r_assign rfl .c) ?_
    refine wpList_nil ?_
    refine x_tn ?_
    refine wp_seq ?_
    refine wp_seq ?_
    refine k_reg ?_
    refine s_val hS1 rfl rfl (r_move rfl (.t rfl rfl)) ?_
    refine s_val hS1 rfl rfl (r_len rfl rfl Try.underlying26 (.t rfl rfl)) ?_
    refine s_val hS1 rfl rfl (r_move rfl .c) ?_
    refine wpList_nil ?_
    refine x_tn ?_
    refine k_reb [(0, .slice aA A.length cA), (1, .slice aB B.length cB), (4, .slice none 0 0), (5, .slice none 0 0), (6, .int .u32 0), (12, .int .i64 (((A.length : Nat) : Int))), (13, .int .i64 0)] ⟨rfl, rfl, rfl, rfl, rfl, rfl, rfl, trivial⟩ fun G2 => ?_
    refine wp_block ?_
    refine wp_loop_ghost (fun (m1 : Nat) a w => ∃ (G : Nat → Value), a = fr 39 [(0, .slice aA A.length cA), (1, .slice aB B.length cB), (4, .slice none 0 0), (5, .slice none 0 0), (6, .int .u32 0), (12, .int .i64 (((A.length : Nat) : Int))), (13, .int .i64 0)] G ∧ St w0 [] [] w ∧ (m1 = 0)) (0) ⟨_, fr_reb _ ⟨rfl, rfl, rfl, rfl, rfl, rfl, rfl, trivial⟩, hS1, ?_⟩ ?_
    · rfl
    · intro m1 _ w2 hI1
      obtain ⟨G3, rfl, hS2, _⟩ := hI1
      refine wp_seq ?_
      refine k_reg ?_
      refine s_val hS2 rfl rfl (r_cmp_f rfl rfl (.t rfl rfl) (.t rfl rfl) (show ¬ (0 < ((A.length : Nat) : Int)) from (by rw [hnil]; decide))) ?_
      refine wpList_nil ?_
      refine x_tn ?_
      refine wp_seq ?_
      refine k_f (.t rfl rfl) ?_
      refine wp_exit ?_
      refine x_te ?_
      refine x_te ?_
      refine x_be ?_
      refine x_tn ?_
      refine k_reb [(4, .slice none 0 0), (5, .slice none 0 0)] ⟨rfl, rfl, trivial⟩ fun G4 => ?_
      refine wp_seq ?_
      refine k_reg ?_
      refine s_val hS2 rfl rfl (r_move rfl (.t rfl rfl)) ?_
      refine s_val hS2 rfl rfl (r_assign rfl (.t rfl rfl)) ?_
      refine wpList_nil ?_
      refine x_tn ?_
      refine k_reb [(4, .slice none 0 0)] ⟨rfl, trivial⟩ fun G5 => ?_
      refine wp_ret ?_
      refine k_ret1 Try.results62 rfl rfl ?_
      refine ⟨_, rfl, ?_⟩
      exact ⟨[], Ow.empty hS2, lim_nil, by rw [hnil], by subst hnil; simp [lv]⟩
  · have hS1 := hS.join hT1 hb1
    refine s_val hS1 rfl rfl (r_assign rfl (.t rfl rfl)) ?_
    refine wpList_nil ?_
    refine x_tn ?_
    refine k_reb [(0, .slice aA A.length cA), (1, .slice aB B.length cB), (4, .slice none 0 0), (5, .slice (some ⟨blk1, 0, none⟩) A.length cap1)] ⟨rfl, rfl, rfl, rfl, trivial⟩ fun G6 => ?_
    refine wp_seq ?_
    refine k_reg ?_
    refine s_val hS1 rfl rfl (r_assign rfl .c) ?_
    refine wpList_nil ?_
    refine x_tn ?_
    refine wp_seq ?_
    refine wp_seq ?_
    refine k_reg ?_
    refine s_val hS1 rfl rfl (r_move rfl (.t rfl rfl)) ?_
    refine s_val hS1 rfl rfl (r_len rfl rfl Try.underlying26 (.t rfl rfl)) ?_
    refine s_val hS1 rfl rfl (r_move rfl .c) ?_
    refine wpList_nil ?_
    refine x_tn ?_
    refine k_reb [(0, .slice aA A.length cA), (1, .slice aB B.length cB), (4, .slice none 0 0), (5, .slice (some ⟨blk1, 0, none⟩) A.length cap1), (6, .int .u32 0), (12, .int .i64 (((A.length : Nat) : Int))), (13, .int .i64 0)] ⟨rfl, rfl, rfl, rfl, rfl, rfl, rfl, trivial⟩ fun G7 => ?_
    refine wp_block ?_
    refine wp_loop_ghost (fun (m2 : Nat) a w => ∃ (G : Nat → Value) (i : Nat) (br : Nat) (O : List Nat), a = fr 39 [(0, .slice aA A.length cA), (1, .slice aB B.length cB), (4, .slice none 0 0), (5, .slice (some ⟨blk1, 0, none⟩) A.length cap1), (6, .int .u32 (((br : Nat) : Int))), (12, .int .i64 (((A.length : Nat) : Int))), (13, .int .i64 (((i : Nat) : Int)))] G ∧ St w0 [] [(blk1, .cells (encN .u32 (O ++ X1)) 57 (0, 0))] w ∧ (m2 = A.length - i ∧ i ≤ A.length ∧ O.length = A.length ∧ Lim O ∧ br ≤ 1 ∧ lv (A.take i) + br * pw i = lv (O.take i) + lv (B.take i))) (A.length) ⟨_, 0, 0, A, fr_reb _ ⟨rfl, rfl, rfl, rfl, rfl, rfl, rfl, trivial⟩, hS1, ?_⟩ ?_
    · exact ⟨rfl, Nat.zero_le _, rfl, hA.fit, by omega, by simp [lv]⟩
    · intro m2 _ w3 hI2
      obtain ⟨G8, i, br, O, rfl, hS3, ⟨hmi, hi, hOl, hOlim, hbr, hv⟩⟩ := hI2
      refine wp_seq ?_
      refine k_reg ?_
      by_cases c1 : i < A.length
      · refine s_val hS3 rfl rfl (r_cmp_t rfl rfl (.t rfl rfl) (.t rfl rfl) (show ((i : Nat) : Int) < ((A.length : Nat) : Int) from by omega)) ?_
        refine wpList_nil ?_
        refine x_tn ?_
        refine wp_seq ?_
        refine k_t (.t rfl rfl) ?_
        refine wp_skip ?_
        refine x_tn ?_
        refine k_reb [(0, .slice aA A.length cA), (1, .slice aB B.length cB), (4, .slice none 0 0), (5, .slice (some ⟨blk1, 0, none⟩) A.length cap1), (6, .int .u32 (((br : Nat) : Int))), (12, .int .i64 (((A.length : Nat) : Int))), (13, .int .i64 (((i : Nat) : Int)))] ⟨rfl, rfl, rfl, rfl, rfl, rfl, rfl, trivial⟩ fun G9 => ?_
        refine wp_seq ?_
        refine wp_block ?_
        refine wp_seq ?_
        refine k_reg ?_
        refine s_val hS3 rfl rfl (r_move rfl (.t rfl rfl)) ?_
        refine s_val hS3 rfl rfl (r_assign rfl (.t rfl rfl)) ?_
        refine wpList_nil ?_
        refine x_tn ?_
        refine k_reb [(0, .slice aA A.length cA), (1, .slice aB B.length cB), (4, .slice none 0 0), (5, .slice (some ⟨blk1, 0, none⟩) A.length cap1), (6, .int .u32 (((br : Nat) : Int))), (7, .int .i64 (((i : Nat) : Int))), (12, .int .i64 (((A.length : Nat) : Int))), (13, .int .i64 (((i : Nat) : Int)))] ⟨rfl, rfl, rfl, rfl, rfl, rfl, rfl, rfl, trivial⟩ fun G10 => ?_
        refine wp_seq ?_
        refine k_reg ?_
        refine s_val hS3 rfl rfl (r_assign rfl .c) ?_
        refine wpList_nil ?_
        refine x_tn ?_
        refine wp_seq ?_
        refine wp_seq ?_
        refine k_reg ?_
        refine s_val hS3 rfl rfl (r_move rfl (.t rfl rfl)) ?_
        refine s_val hS3 rfl rfl (r_move rfl (.t rfl rfl)) ?_
        refine s_val hS3 rfl rfl (r_len rfl rfl Try.underlying26 (.t rfl rfl)) ?_
        by_cases c2 : i < B.length
        · refine s_val hS3 rfl rfl (r_cmp_t rfl rfl (.t rfl rfl) (.t rfl rfl) (show ((i : Nat) : Int) < ((B.length : Nat) : Int) from by omega)) ?_
          refine wpList_nil ?_
          refine x_tn ?_
          refine k_reb [(0, .slice aA A.length cA), (1, .slice aB B.length cB), (4, .slice none 0 0), (5, .slice (some ⟨blk1, 0, none⟩) A.length cap1), (6, .int .u32 (((br : Nat) : Int))), (7, .int .i64 (((i : Nat) : Int))), (8, .int .u32 0), (12, .int .i64 (((A.length : Nat) : Int))), (13, .int .i64 (((i : Nat) : Int))), (19, .bool true)] ⟨rfl, rfl, rfl, rfl, rfl, rfl, rfl, rfl, rfl, rfl, trivial⟩ fun G11 => ?_
          refine k_t (.t rfl rfl) ?_
          refine k_reg ?_
          refine s_val hS3 rfl rfl (r_move rfl (.t rfl rfl)) ?_
          refine s_val hS3 rfl rfl (r_move rfl (.t rfl rfl)) ?_
          refine s_val hS3 rfl rfl (r_ixr (j := i) rfl Try.underlying26 ti57 (.t rfl rfl) (.t rfl rfl) hB rfl rfl (by omega)) ?_
          have b1 : B.getD i 0 ≤ 4294967295 := hB.lt _
          refine s_val hS3 rfl rfl (r_load rfl one57 (.t rfl rfl) (St.cell_rd hB (by omega) (by simp))) ?_
          refine s_val hS3 rfl rfl (r_assign rfl (.t rfl rfl)) ?_
          refine wpList_nil ?_
          refine x_tn ?_
          refine k_reb [(0, .slice aA A.length cA), (1, .slice aB B.length cB), (4, .slice none 0 0), (5, .slice (some ⟨blk1, 0, none⟩) A.length cap1), (6, .int .u32 (((br : Nat) : Int))), (7, .int .i64 (((i : Nat) : Int))), (8, .int .u32 (((B.getD i 0 : Nat) : Int))), (12, .int .i64 (((A.length : Nat) : Int))), (13, .int .i64 (((i : Nat) : Int)))] ⟨rfl, rfl, rfl, rfl, rfl, rfl, rfl, rfl, rfl, trivial⟩ fun G12 => ?_
          refine k_reg ?_
          refine s_val hS3 rfl rfl (r_move rfl (.t rfl rfl)) ?_
          refine s_val hS3 rfl rfl (r_move rfl (.t rfl rfl)) ?_
          refine s_val hS3 rfl rfl (r_move rfl (.t rfl rfl)) ?_
          refine s_val hS3 rfl rfl (r_move rfl (.t rfl rfl)) ?_
          refine s_val hS3 rfl rfl (r_ixr (j := i) rfl Try.underlying26 ti57 (.t rfl rfl) (.t rfl rfl) hA rfl rfl (by omega)) ?_
          have b2 : A.getD i 0 ≤ 4294967295 := hA.lt _
          refine s_val hS3 rfl rfl (r_load rfl one57 (.t rfl rfl) (St.cell_rd hA (by omega) (by simp))) ?_
          refine s_val hS3 rfl rfl (r_move rfl (.t rfl rfl)) ?_
          refine s_val hS3 rfl rfl (r_move rfl (.t rfl rfl)) ?_
          refine s_call rfl rfl rfl (vs := [.int .u32 (((A.getD i 0 : Nat) : Int)), .int .u32 (((B.getD i 0 : Nat) : Int)), .int .u32 (((br : Nat) : Int))]) ⟨(.t rfl rfl), (.t rfl rfl), (.t rfl rfl), trivial⟩ cb68 (sub32_ok w3 (A.getD i 0) (B.getD i 0) br (by omega) (by omega) (by omega)) ?_
          rintro _ w3 ⟨d1, o1, rfl, rfl, hd1, ho1, hd1o1⟩
          refine s_val hS3 rfl rfl (r_move rfl (.t rfl rfl)) ?_
          refine s_val hS3 rfl rfl (r_extract rfl (.t rfl rfl) rfl) ?_
          refine s_val hS3 rfl rfl (r_extract rfl (.t rfl rfl) rfl) ?_
          refine s_val hS3 rfl rfl (r_ixs (j := i) rfl Try.underlying26 ti57 (.t rfl rfl) (.t rfl rfl) rfl (by omega) (qq := i) (by omega)) ?_
          refine s_store (m := 0) rfl rfl rfl one57 (.t rfl rfl) (.t rfl rfl) rfl hS3 rfl (encP_get (by first | omega | (simp only [List.length_set, List.length_append, List.length_replicate]; omega))) (encP_set (by first | omega | (simp only [List.length_set, List.length_append, List.length_replicate]; omega))) rfl fun w4 hS4 => ?_
          refine s_val hS4 rfl rfl (r_assign rfl (.t rfl rfl)) ?_
          refine wpList_nil ?_
          refine x_bn ?_
          refine x_tn ?_
          refine k_reb [(0, .slice aA A.length cA), (1, .slice aB B.length cB), (4, .slice none 0 0), (5, .slice (some ⟨blk1, 0, none⟩) A.length cap1), (6, .int .u32 (((o1 : Nat) : Int))), (12, .int .i64 (((A.length : Nat) : Int))), (13, .int .i64 (((i : Nat) : Int)))] ⟨rfl, rfl, rfl, rfl, rfl, rfl, rfl, trivial⟩ fun G13 => ?_
          refine k_reg ?_
          refine s_val hS4 rfl rfl (r_arith rfl rfl (.t rfl rfl) .c (c := ((i + 1 : Nat) : Int)) (wn_i64 (by show (((i : Nat) : Int) : Int) + 1 = _; omega) (by omega))) ?_
          refine s_val hS4 rfl rfl (r_move rfl (.t rfl rfl)) ?_
          refine wpList_nil ?_
          refine x_tn ?_
          refine ⟨A.length - (i + 1), by omega, _, i + 1, o1, O.set i d1, fr_reb _ ⟨rfl, rfl, rfl, rfl, rfl, rfl, rfl, trivial⟩, hS4, ?_⟩
          exact ⟨by omega, by omega, by simpa using hOl, lim_set hOlim hd1, ho1, sub_next (by omega) (by omega) hv (lv_take_succ (by omega)) hd1o1⟩
        · refine s_val hS3 rfl rfl (r_cmp_f rfl rfl (.t rfl rfl) (.t rfl rfl) (show ¬ (((i : Nat) : Int) < ((B.length : Nat) : Int)) from by omega)) ?_
          refine wpList_nil ?_
          refine x_tn ?_
          refine k_reb [(0, .slice aA A.length cA), (1, .slice aB B.length cB), (4, .slice none 0 0), (5, .slice (some ⟨blk1, 0, none⟩) A.length cap1), (6, .int .u32 (((br : Nat) : Int))), (7, .int .i64 (((i : Nat) : Int))), (8, .int .u32 0), (12, .int .i64 (((A.length : Nat) : Int))), (13, .int .i64 (((i : Nat) : Int))), (19, .bool false)] ⟨rfl, rfl, rfl, rfl, rfl, rfl, rfl, rfl, rfl, rfl, trivial⟩ fun G14 => ?_
          refine k_f (.t rfl rfl) ?_
          refine wp_skip ?_
          refine x_tn ?_
          refine k_reb [(0, .slice aA A.length cA), (1, .slice aB B.length cB), (4, .slice none 0 0), (5, .slice (some ⟨blk1, 0, none⟩) A.length cap1), (6, .int .u32 (((br : Nat) : Int))), (7, .int .i64 (((i : Nat) : Int))), (8, .int .u32 0), (12, .int .i64 (((A.length : Nat) : Int))), (13, .int .i64 (((i : Nat) : Int)))] ⟨rfl, rfl, rfl, rfl, rfl, rfl, rfl, rfl, rfl, trivial⟩ fun G15 => ?_
          refine k_reg ?_
          refine s_val hS3 rfl rfl (r_move rfl (.t rfl rfl)) ?_
          refine s_val hS3 rfl rfl (r_move rfl (.t rfl rfl)) ?_
          refine s_val hS3 rfl rfl (r_move rfl (.t rfl rfl)) ?_
          refine s_val hS3 rfl rfl (r_move rfl (.t rfl rfl)) ?_
          refine s_val hS3 rfl rfl (r_ixr (j := i) rfl Try.underlying26 ti57 (.t rfl rfl) (.t rfl rfl) hA rfl rfl (by omega)) ?_
          have b3 : A.getD i 0 ≤ 4294967295 := hA.lt _
          refine s_val hS3 rfl rfl (r_load rfl one57 (.t rfl rfl) (St.cell_rd hA (by omega) (by simp))) ?_
          refine s_val hS3 rfl rfl (r_move rfl (.t rfl rfl)) ?_
          refine s_val hS3 rfl rfl (r_move rfl (.t rfl rfl)) ?_
          refine s_call rfl rfl rfl (vs := [.int .u32 (((A.getD i 0 : Nat) : Int)), .int .u32 0, .int .u32 (((br : Nat) : Int))]) ⟨(.t rfl rfl), (.t rfl rfl), (.t rfl rfl), trivial⟩ cb68 (sub32_ok w3 (A.getD i 0) 0 br (by omega) (by omega) (by omega)) ?_
          rintro _ w3 ⟨d2, o2, rfl, rfl, hd2, ho2, hd2o2⟩
          refine s_val hS3 rfl rfl (r_move rfl (.t rfl rfl)) ?_
          refine s_val hS3 rfl rfl (r_extract rfl (.t rfl rfl) rfl) ?_
          refine s_val hS3 rfl rfl (r_extract rfl (.t rfl rfl) rfl) ?_
          refine s_val hS3 rfl rfl (r_ixs (j := i) rfl Try.underlying26 ti57 (.t rfl rfl) (.t rfl rfl) rfl (by omega) (qq := i) (by omega)) ?_
          refine s_store (m := 0) rfl rfl rfl one57 (.t rfl rfl) (.t rfl rfl) rfl hS3 rfl (encP_get (by first | omega | (simp only [List.length_set, List.length_append, List.length_replicate]; omega))) (encP_set (by first | omega | (simp only [List.length_set, List.length_append, List.length_replicate]; omega))) rfl fun w5 hS5 => ?_
          refine s_val hS5 rfl rfl (r_assign rfl (.t rfl rfl)) ?_
          refine wpList_nil ?_
          refine x_bn ?_
          refine x_tn ?_
          refine k_reb [(0, .slice aA A.length cA), (1, .slice aB B.length cB), (4, .slice none 0 0), (5, .slice (some ⟨blk1, 0, none⟩) A.length cap1), (6, .int .u32 (((o2 : Nat) : Int))), (12, .int .i64 (((A.length : Nat) : Int))), (13, .int .i64 (((i : Nat) : Int)))] ⟨rfl, rfl, rfl, rfl, rfl, rfl, rfl, trivial⟩ fun G16 => ?_
          refine k_reg ?_
          refine s_val hS5 rfl rfl (r_arith rfl rfl (.t rfl rfl) .c (c := ((i + 1 : Nat) : Int)) (wn_i64 (by show (((i : Nat) : Int) : Int) + 1 = _; omega) (by omega))) ?_
          refine s_val hS5 rfl rfl (r_move rfl (.t rfl rfl)) ?_
          refine wpList_nil ?_
          refine x_tn ?_
          refine ⟨A.length - (i + 1), by omega, _, i + 1, o2, O.set i d2, fr_reb _ ⟨rfl, rfl, rfl, rfl, rfl, rfl, rfl, trivial⟩, hS5, ?_⟩
          exact ⟨by omega, by omega, by simpa using hOl, lim_set hOlim hd2, ho2, sub_next (by omega) (by omega) hv (take_succ_none (by omega)) hd2o2⟩
      · refine s_val hS3 rfl rfl (r_cmp_f rfl rfl (.t rfl rfl) (.t rfl rfl) (show ¬ (((i : Nat) : Int) < ((A.length : Nat) : Int)) from by omega)) ?_
        refine wpList_nil ?_
        refine x_tn ?_
        refine wp_seq ?_
        refine k_f (.t rfl rfl) ?_
        refine wp_exit ?_
        refine x_te ?_
        refine x_te ?_
        refine x_be ?_
        refine x_tn ?_
        refine k_reb [(4, .slice none 0 0), (5, .slice (some ⟨blk1, 0, none⟩) A.length cap1)] ⟨rfl, rfl, trivial⟩ fun G17 => ?_
        refine wp_seq ?_
        refine k_reg ?_
        refine s_val hS3 rfl rfl (r_move rfl (.t rfl rfl)) ?_
        refine s_val hS3 rfl rfl (r_assign rfl (.t rfl rfl)) ?_
        refine wpList_nil ?_
        refine x_tn ?_
        refine k_reb [(4, .slice (some ⟨blk1, 0, none⟩) A.length cap1)] ⟨rfl, trivial⟩ fun G18 => ?_
        refine wp_ret ?_
        refine k_ret1 Try.results62 rfl rfl ?_
        refine ⟨_, rfl, ?_⟩
        obtain rfl : i = A.length := by omega
        have hOv := sub_end hOlim hOl hBA hle hbr hv
        exact ⟨O, by rw [← hOl]; exact Ow.of_chunk (m := 0) hS3 rfl (by omega) (by omega) (by omega) hOlim, hOlim, hOl, hOv⟩

theorem times_nil (w0 : World) (A : List Nat) (hA0 : A = []) (y c0 : Nat) (hy : y ≤ 4294967295) (hc0 : c0 ≤ 4294967295) :
    Calls Try.prog 50 #[.slice none 0 0, .int .u64 (((y : Nat) : Int)), .int .u64 (((c0 : Nat) : Int))] w0 (Ret fun v w' => ∃ A' a' cap' hv', v = .slice a' A'.length cap' ∧ Gr .u32 57 a' cap' A' hv' ∧ St w0 [] hv' w' ∧ Lim A' ∧ A'.length ≤ A.length + 1 ∧ lv A' = lv A * y + c0) := by
  refine k_enter (vs := [.slice none 0 0, .int .u64 (((y : Nat) : Int)), .int .u64 (((c0 : Nat) : Int))]) Try.func50 rfl Try.ntmps50 rfl ?_
  have hS := St.init w0
  subst hA0
  refine wp_seq ?_
  refine k_reg ?_
  refine s_val hS rfl rfl (r_assign rfl .c) ?_
  refine wpList_nil ?_
  refine x_tn ?_
  refine wp_seq ?_
  refine wp_seq ?_
  refine k_reg ?_
  refine s_val hS rfl rfl (r_move rfl (.t rfl rfl)) ?_
  refine s_val hS rfl rfl (r_len rfl rfl Try.underlying26 (.t rfl rfl)) ?_
  refine s_val hS rfl rfl (r_move rfl .c) ?_
  refine wpList_nil ?_
  refine x_tn ?_
  refine k_reb [(0, .slice none 0 0), (1, .int .u64 (((y : Nat) : Int))), (2, .int .u64 (((c0 : Nat) : Int))), (6, .slice none 0 0), (9, .int .i64 0), (10, .int .i64 0)] ⟨rfl, rfl, rfl, rfl, rfl, rfl, trivial⟩ fun G1 => ?_
  refine wp_block ?_
  refine wp_loop_ghost (fun (m1 : Nat) a w => ∃ (G : Nat → Value), a = fr 38 [(0, .slice none 0 0), (1, .int .u64 (((y : Nat) : Int))), (2, .int .u64 (((c0 : Nat) : Int))), (6, .slice none 0 0), (9, .int .i64 0), (10, .int .i64 0)] G ∧ St w0 [] [] w ∧ (m1 = 0)) (0) ⟨_, fr_reb _ ⟨rfl, rfl, rfl, rfl, rfl, rfl, trivial⟩, hS, ?_⟩ ?_
  · rfl
  · intro m1 _ w1 hI1
    obtain ⟨G2, rfl, hS1, _⟩ := hI1
    refine wp_seq ?_
    refine k_reg ?_
    refine s_val hS1 rfl rfl (r_cmp_f rfl rfl (.t rfl rfl) (.t rfl rfl) (show ¬ (0 < 0) from (by decide))) ?_
    refine wpList_nil ?_
    refine x_tn ?_
    refine wp_seq ?_
    refine k_f (.t rfl rfl) ?_
    refine wp_exit ?_
    refine x_te ?_
    refine x_te ?_
    refine x_be ?_
    refine x_tn ?_
    refine k_reb [(0, .slice none 0 0), (2, .int .u64 (((c0 : Nat) : Int))), (6, .slice none 0 0)] ⟨rfl, rfl, rfl, trivial⟩ fun G3 => ?_
    refine wp_seq ?_
    refine wp_seq ?_
    refine k_reg ?_
    refine s_val hS1 rfl rfl (r_move rfl (.t rfl rfl)) ?_
    by_cases c1 : c0 > 0
    · refine s_val hS1 rfl rfl (r_cmp_t rfl rfl (.t rfl rfl) .c (show ((c0 : Nat) : Int) > 0 from by omega)) ?_
      refine wpList_nil ?_
      refine x_tn ?_
      refine k_reb [(0, .slice none 0 0), (2, .int .u64 (((c0 : Nat) : Int))), (6, .slice none 0 0), (31, .bool true)] ⟨rfl, rfl, rfl, rfl, trivial⟩ fun G4 => ?_
      refine k_t (.t rfl rfl) ?_
      refine k_reg ?_
      refine s_val hS1 rfl rfl (r_move rfl (.t rfl rfl)) ?_
      refine s_val hS1 rfl rfl (r_move rfl (.t rfl rfl)) ?_
      refine s_val hS1 rfl rfl (r_conv rfl Try.underlying40 Try.underlying57 (.t rfl rfl) (c := ((c0 : Nat) : Int)) (wn_u32 rfl (by omega))) ?_
      refine s_lit rfl rfl rfl Try.underlying26 ti57 (vs := [(0, .int .u32 (((c0 : Nat) : Int)))]) ⟨rfl, (.t rfl rfl), trivial⟩ (L := [c0]) rfl (by omega) rfl hS1 fun blk1 w2 hb1 hB1 hS2 => ?_
      refine s_append (h1 := [(blk1, .cells (encN .u32 ([c0])) 57 (0, 0))]) (L := []) rfl rfl rfl rfl ⟨_, _, rfl, Try.underlying26⟩ Try.underlying26 ti57 (by omega) (by omega) (.t rfl rfl) (.t rfl rfl) rfl rfl .nil (by simpa using hS2) (rd_own0 (m := 0) hS2 rfl (by simp) (by simp) (by intro x hx; simp only [List.mem_cons, List.not_mem_nil, or_false] at hx; first | (subst hx; first | omega | (simp only [maxK]; omega)) | (rcases hx with rfl | rfl <;> first | omega | (simp only [maxK]; omega)))) (by simp) fun ga1 gc1 gh1 w3 hG1 hS3 hF1 => ?_
      refine s_val hS3 rfl rfl (r_assign rfl (.t rfl rfl)) ?_
      refine wpList_nil ?_
      refine x_tn ?_
      refine k_reb [(0, .slice ga1 (0 + 1) gc1), (6, .slice none 0 0)] ⟨rfl, rfl, trivial⟩ fun G5 => ?_
      refine wp_seq ?_
      refine k_reg ?_
      refine s_val hS3 rfl rfl (r_move rfl (.t rfl rfl)) ?_
      refine s_val hS3 rfl rfl (r_assign rfl (.t rfl rfl)) ?_
      refine wpList_nil ?_
      refine x_tn ?_
      refine k_reb [(6, .slice ga1 (0 + 1) gc1)] ⟨rfl, trivial⟩ fun G6 => ?_
      refine wp_ret ?_
      refine k_ret1 Try.results50 rfl rfl ?_
      refine ⟨_, rfl, ?_⟩
      exact ⟨[c0], _, _, _, rfl, hG1, hS3.weaken _ (List.sublist_append_right ..), by intro x hx; simp at hx; omega, by simp, by simp [lv]⟩
    · refine s_val hS1 rfl rfl (r_cmp_f rfl rfl (.t rfl rfl) .c (show ¬ (((c0 : Nat) : Int) > 0) from by omega)) ?_
      refine wpList_nil ?_
      refine x_tn ?_
      refine k_reb [(0, .slice none 0 0), (2, .int .u64 (((c0 : Nat) : Int))), (6, .slice none 0 0), (31, .bool false)] ⟨rfl, rfl, rfl, rfl, trivial⟩ fun G7 => ?_
      refine k_f (.t rfl rfl) ?_
      refine wp_skip ?_
      refine x_tn ?_
      refine k_reb [(0, .slice none 0 0), (6, .slice none 0 0)] ⟨rfl, rfl, trivial⟩ fun G8 => ?_
      refine wp_seq ?_
      refine k_reg ?_
      refine s_val hS1 rfl rfl (r_move rfl (.t rfl rfl)) ?_
      refine s_val hS1 rfl rfl (r_assign rfl (.t rfl rfl)) ?_
      refine wpList_nil ?_
      refine x_tn ?_
      refine k_reb [(6, .slice none 0 0)] ⟨rfl, trivial⟩ fun G9 => ?_
      refine wp_ret ?_
      refine k_ret1 Try.results50 rfl rfl ?_
      refine ⟨_, rfl, ?_⟩
      exact ⟨[], _, _, _, rfl, .nil, hS1, lim_nil, by simp, by simp [lv]; omega⟩

theorem times_own (w0 : World) (b cap : Nat) (A X : List Nat) (hb : w0.heap[b]? = some (.cells (encN .u32 (A ++ X)) 57 (0, 0))) (hc1 : cap ≤ A.length + X.length) (hc2 : A.length ≤ cap) (hAl : Lim A) (hlA : A.length ≤ 1000000) (y c0 : Nat) (hy : y ≤ 4294967295) (hc0 : c0 ≤ 4294967295) :
    Calls Try.prog 50 #[.slice (some ⟨b, 0, none⟩) A.length cap, .int .u64 (((y : Nat) : Int)), .int .u64 (((c0 : Nat) : Int))] w0 (Ret fun v w' => ∃ A' a' cap' hv', v = .slice a' A'.length cap' ∧ Gr .u32 57 a' cap' A' hv' ∧ St w0 [b] hv' w' ∧ Lim A' ∧ A'.length ≤ A.length + 1 ∧ lv A' = lv A * y + c0) := by
  refine k_enter (vs := [.slice (some ⟨b, 0, none⟩) A.length cap, .int .u64 (((y : Nat) : Int)), .int .u64 (((c0 : Nat) : Int))]) Try.func50 rfl Try.ntmps50 rfl ?_
  have hS := St.init1 hb
  refine wp_seq ?_
  refine k_reg ?_
  refine s_val hS rfl rfl (r_assign rfl .c) ?_
  refine wpList_nil ?_
  refine x_tn ?_
  refine wp_seq ?_
  refine wp_seq ?_
  refine k_reg ?_
  refine s_val hS rfl rfl (r_move rfl (.t rfl rfl)) ?_
  refine s_val hS rfl rfl (r_len rfl rfl Try.underlying26 (.t rfl rfl)) ?_
  refine s_val hS rfl rfl (r_move rfl .c) ?_
  refine wpList_nil ?_
  refine x_tn ?_
  refine k_reb [(0, .slice (some ⟨b, 0, none⟩) A.length cap), (1, .int .u64 (((y : Nat) : Int))), (2, .int .u64 (((c0 : Nat) : Int))), (6, .slice none 0 0), (9, .int .i64 (((A.length : Nat) : Int))), (10, .int .i64 0)] ⟨rfl, rfl, rfl, rfl, rfl, rfl, trivial⟩ fun G1 => ?_
  refine wp_block ?_
  refine wp_loop_ghost (fun (m1 : Nat) a w => ∃ (G : Nat → Value) (i : Nat) (c : Nat) (O : List Nat), a = fr 38 [(0, .slice (some ⟨b, 0, none⟩) A.length cap), (1, .int .u64 (((y : Nat) : Int))), (2, .int .u64 (((c : Nat) : Int))), (6, .slice none 0 0), (9, .int .i64 (((A.length : Nat) : Int))), (10, .int .i64 (((i : Nat) : Int)))] G ∧ St w0 [b] [(b, .cells (encN .u32 (O ++ X)) 57 (0, 0))] w ∧ (m1 = A.length - i ∧ i ≤ A.length ∧ O.length = A.length ∧ Lim O ∧ c ≤ 4294967295 ∧ (∀ j, i ≤ j → O.getD j 0 = A.getD j 0) ∧ lv (A.take i) * y + c0 = lv (O.take i) + c * pw i)) (A.length) ⟨_, 0, c0, A, fr_reb _ ⟨rfl, rfl, rfl, rfl, rfl, rfl, trivial⟩, hS, ?_⟩ ?_
  · exact ⟨rfl, Nat.zero_le _, rfl, hAl, hc0, fun _ _ => rfl, by simp [lv, pw_zero]⟩
  · intro m1 _ w1 hI1
    obtain ⟨G2, i, c, O, rfl, hS1, ⟨hmi, hi, hOl, hOlim, hc, hOA, hv⟩⟩ := hI1
    refine wp_seq ?_
    refine k_reg ?_
    by_cases c1 : i < A.length
    · refine s_val hS1 rfl rfl (r_cmp_t rfl rfl (.t rfl rfl) (.t rfl rfl) (show ((i : Nat) : Int) < ((A.length : Nat) : Int) from by omega)) ?_
      refine wpList_nil ?_
      refine x_tn ?_
      refine wp_seq ?_
      refine k_t (.t rfl rfl) ?_
      refine wp_skip ?_
      refine x_tn ?_
      refine k_reb [(0, .slice (some ⟨b, 0, none⟩) A.length cap), (1, .int .u64 (((y : Nat) : Int))), (2, .int .u64 (((c : Nat) : Int))), (6, .slice none 0 0), (9, .int .i64 (((A.length : Nat) : Int))), (10, .int .i64 (((i : Nat) : Int)))] ⟨rfl, rfl, rfl, rfl, rfl, rfl, trivial⟩ fun G3 => ?_
      refine wp_seq ?_
      refine wp_block ?_
      refine wp_seq ?_
      refine k_reg ?_
      refine s_val hS1 rfl rfl (r_move rfl (.t rfl rfl)) ?_
      refine s_val hS1 rfl rfl (r_assign rfl (.t rfl rfl)) ?_
      refine wpList_nil ?_
      refine x_tn ?_
      refine k_reb [(0, .slice (some ⟨b, 0, none⟩) A.length cap), (1, .int .u64 (((y : Nat) : Int))), (2, .int .u64 (((c : Nat) : Int))), (6, .slice none 0 0), (7, .int .i64 (((i : Nat) : Int))), (9, .int .i64 (((A.length : Nat) : Int))), (10, .int .i64 (((i : Nat) : Int)))] ⟨rfl, rfl, rfl, rfl, rfl, rfl, rfl, trivial⟩ fun G4 => ?_
      refine wp_seq ?_
      refine k_reg ?_
      refine s_val hS1 rfl rfl (r_move rfl (.t rfl rfl)) ?_
      refine s_val hS1 rfl rfl (r_move rfl (.t rfl rfl)) ?_
      refine s_val hS1 rfl rfl (r_move rfl (.t rfl rfl)) ?_
      refine s_val hS1 rfl rfl (r_ixs (j := i) rfl Try.underlying26 ti57 (.t rfl rfl) (.t rfl rfl) rfl (by omega) (qq := i) (by omega)) ?_
      have b1 : O.getD i 0 ≤ 4294967295 := getD_lim hOlim _
      refine s_val hS1 rfl rfl (r_load rfl one57 (.t rfl rfl) (St.cell_own (m := 0) rfl (encP_get (by first | omega | (simp only [List.length_set, List.length_append, List.length_replicate]; omega))))) ?_
      refine s_val hS1 rfl rfl (r_conv rfl Try.underlying57 Try.underlying40 (.t rfl rfl) (c := ((O.getD i 0 : Nat) : Int)) (wn_u64 rfl (by omega))) ?_
      refine s_val hS1 rfl rfl (r_move rfl (.t rfl rfl)) ?_
      have hay : O.getD i 0 * y ≤ 4294967295 * 4294967295 := Nat.mul_le_mul (getD_lim hOlim i) hy
      refine s_val hS1 rfl rfl (r_arith rfl rfl (.t rfl rfl) (.t rfl rfl) (c := (((O.getD i 0) * y : Nat) : Int)) (wn_u64 (Int.natCast_mul _ _).symm (by omega))) ?_
      refine s_val hS1 rfl rfl (r_arith rfl rfl (.t rfl rfl) (.t rfl rfl) (c := ((c + ((O.getD i 0) * y) : Nat) : Int)) (wn_u64 (by show (((c : Nat) : Int) : Int) + (((O.getD i 0) * y : Nat) : Int) = _; omega) (by omega))) ?_
      refine s_val hS1 rfl rfl (r_assign rfl (.t rfl rfl)) ?_
      refine wpList_nil ?_
      refine x_tn ?_
      refine k_reb [(0, .slice (some ⟨b, 0, none⟩) A.length cap), (1, .int .u64 (((y : Nat) : Int))), (2, .int .u64 (((c + ((O.getD i 0) * y) : Nat) : Int))), (6, .slice none 0 0), (7, .int .i64 (((i : Nat) : Int))), (9, .int .i64 (((A.length : Nat) : Int))), (10, .int .i64 (((i : Nat) : Int)))] ⟨rfl, rfl, rfl, rfl, rfl, rfl, rfl, trivial⟩ fun G5 => ?_
      refine wp_seq ?_
      refine k_reg ?_
      refine s_val hS1 rfl rfl (r_move rfl (.t rfl rfl)) ?_
      refine s_val hS1 rfl rfl (r_move rfl (.t rfl rfl)) ?_
      refine s_val hS1 rfl rfl (r_move rfl (.t rfl rfl)) ?_
      have hoa2 := hOA i (Nat.le_refl _)
      refine s_val hS1 rfl rfl (r_conv rfl Try.underlying40 Try.underlying57 (.t rfl rfl) (wm_u32 rfl)) ?_
      refine s_val hS1 rfl rfl (r_ixs (j := i) rfl Try.underlying26 ti57 (.t rfl rfl) (.t rfl rfl) rfl (by omega) (qq := i) (by omega)) ?_
      refine s_store (m := 0) rfl rfl rfl one57 (.t rfl rfl) (.t rfl rfl) rfl hS1 rfl (encP_get (by first | omega | (simp only [List.length_set, List.length_append, List.length_replicate]; omega))) (encP_set (by first | omega | (simp only [List.length_set, List.length_append, List.length_replicate]; omega))) rfl fun w2 hS2 => ?_
      refine wpList_nil ?_
      refine x_tn ?_
      refine k_reb [(0, .slice (some ⟨b, 0, none⟩) A.length cap), (1, .int .u64 (((y : Nat) : Int))), (2, .int .u64 (((c + ((O.getD i 0) * y) : Nat) : Int))), (6, .slice none 0 0), (9, .int .i64 (((A.length : Nat) : Int))), (10, .int .i64 (((i : Nat) : Int)))] ⟨rfl, rfl, rfl, rfl, rfl, rfl, trivial⟩ fun G6 => ?_
      refine k_reg ?_
      refine s_val hS2 rfl rfl (r_move rfl (.t rfl rfl)) ?_
      refine s_val hS2 rfl rfl (r_shr rfl (.t rfl rfl) .c (by omega) (show (2 : Int) ^ _ = ((4294967296 : Nat) : Int) from rfl) fdiv_nat) ?_
      refine s_val hS2 rfl rfl (r_assign rfl (.t rfl rfl)) ?_
      refine wpList_nil ?_
      refine x_bn ?_
      refine x_tn ?_
      refine k_reb [(0, .slice (some ⟨b, 0, none⟩) A.length cap), (1, .int .u64 (((y : Nat) : Int))), (2, .int .u64 ((((c + ((O.getD i 0) * y)) / 4294967296 : Nat) : Int))), (6, .slice none 0 0), (9, .int .i64 (((A.length : Nat) : Int))), (10, .int .i64 (((i : Nat) : Int)))] ⟨rfl, rfl, rfl, rfl, rfl, rfl, trivial⟩ fun G7 => ?_
      refine k_reg ?_
      refine s_val hS2 rfl rfl (r_arith rfl rfl (.t rfl rfl) .c (c := ((i + 1 : Nat) : Int)) (wn_i64 (by show (((i : Nat) : Int) : Int) + 1 = _; omega) (by omega))) ?_
      refine s_val hS2 rfl rfl (r_move rfl (.t rfl rfl)) ?_
      refine wpList_nil ?_
      refine x_tn ?_
      refine ⟨A.length - (i + 1), by omega, _, i + 1, (c + O.getD i 0 * y) / 4294967296, O.set i ((c + O.getD i 0 * y) % 4294967296), fr_reb _ ⟨rfl, rfl, rfl, rfl, rfl, rfl, trivial⟩, hS2, ?_⟩
      have hoa := hOA i (Nat.le_refl _)
      exact ⟨by omega, by omega, by simpa using hOl, lim_set hOlim (by omega), by omega, fun j hj => by rw [getD_set_ne (by omega)]; exact hOA j (by omega), by rw [hoa]; exact times_step (by omega) (by omega) hv⟩
    · refine s_val hS1 rfl rfl (r_cmp_f rfl rfl (.t rfl rfl) (.t rfl rfl) (show ¬ (((i : Nat) : Int) < ((A.length : Nat) : Int)) from by omega)) ?_
      refine wpList_nil ?_
      refine x_tn ?_
      refine wp_seq ?_
      refine k_f (.t rfl rfl) ?_
      refine wp_exit ?_
      refine x_te ?_
      refine x_te ?_
      refine x_be ?_
      refine x_tn ?_
      refine k_reb [(0, .slice (some ⟨b, 0, none⟩) A.length cap), (2, .int .u64 (((c : Nat) : Int))), (6, .slice none 0 0)] ⟨rfl, rfl, rfl, trivial⟩ fun G8 => ?_
      refine wp_seq ?_
      refine wp_seq ?_
      refine k_reg ?_
      refine s_val hS1 rfl rfl (r_move rfl (.t rfl rfl)) ?_
      by_cases c2 : c > 0
      · refine s_val hS1 rfl rfl (r_cmp_t rfl rfl (.t rfl rfl) .c (show ((c : Nat) : Int) > 0 from by omega)) ?_
        refine wpList_nil ?_
        refine x_tn ?_
        refine k_reb [(0, .slice (some ⟨b, 0, none⟩) A.length cap), (2, .int .u64 (((c : Nat) : Int))), (6, .slice none 0 0), (31, .bool true)] ⟨rfl, rfl, rfl, rfl, trivial⟩ fun G9 => ?_
        refine k_t (.t rfl rfl) ?_
        refine k_reg ?_
        refine s_val hS1 rfl rfl (r_move rfl (.t rfl rfl)) ?_
        refine s_val hS1 rfl rfl (r_move rfl (.t rfl rfl)) ?_
        refine s_val hS1 rfl rfl (r_conv rfl Try.underlying40 Try.underlying57 (.t rfl rfl) (c := ((c : Nat) : Int)) (wn_u32 rfl (by omega))) ?_
        refine s_lit rfl rfl rfl Try.underlying26 ti57 (vs := [(0, .int .u32 (((c : Nat) : Int)))]) ⟨rfl, (.t rfl rfl), trivial⟩ (L := [c]) rfl (by omega) rfl hS1 fun blk1 w3 hb1 hB1 hS3 => ?_
        have hS4 : St w0 [b] [(blk1, .cells (encN .u32 ([c])) 57 (0, 0)), (b, .cells (encN .u32 (O ++ X)) 57 (0, 0))] w3 := hS3.last (m := 0) rfl
        refine s_append (h1 := [(blk1, .cells (encN .u32 ([c])) 57 (0, 0))]) (L := O) rfl rfl rfl rfl ⟨_, _, rfl, Try.underlying26⟩ Try.underlying26 ti57 (by omega) (by omega) (.t rfl rfl) (.t rfl rfl) rfl hOl.symm (Gr.of_own (X := X) (by omega) (by omega)) hS4 (rd_own0 (m := 0) hS4 rfl (by simp) (by simp) (by intro x hx; simp only [List.mem_cons, List.not_mem_nil, or_false] at hx; first | (subst hx; first | omega | (simp only [maxK]; omega)) | (rcases hx with rfl | rfl <;> first | omega | (simp only [maxK]; omega)))) (by simp; omega) fun ga1 gc1 gh1 w4 hG1 hS5 hF1 => ?_
        refine s_val hS5 rfl rfl (r_assign rfl (.t rfl rfl)) ?_
        refine wpList_nil ?_
        refine x_tn ?_
        refine k_reb [(0, .slice ga1 (A.length + 1) gc1), (6, .slice none 0 0)] ⟨rfl, rfl, trivial⟩ fun G10 => ?_
        refine wp_seq ?_
        refine k_reg ?_
        refine s_val hS5 rfl rfl (r_move rfl (.t rfl rfl)) ?_
        refine s_val hS5 rfl rfl (r_assign rfl (.t rfl rfl)) ?_
        refine wpList_nil ?_
        refine x_tn ?_
        refine k_reb [(6, .slice ga1 (A.length + 1) gc1)] ⟨rfl, trivial⟩ fun G11 => ?_
        refine wp_ret ?_
        refine k_ret1 Try.results50 rfl rfl ?_
        refine ⟨_, rfl, ?_⟩
        obtain rfl : i = A.length := by omega
        exact ⟨O ++ [c], _, _, _, by rw [List.length_append, hOl]; rfl, hG1, hS5.weaken _ (List.sublist_append_right ..), lim_append hOlim (by intro x hx; simp at hx; omega), by simp; omega, by rw [take_all (Nat.le_refl _), take_all (by omega)] at hv; rw [lv_append, hOl, hv]; simp [lv, Nat.mul_comm]⟩
      · refine s_val hS1 rfl rfl (r_cmp_f rfl rfl (.t rfl rfl) .c (show ¬ (((c : Nat) : Int) > 0) from by omega)) ?_
        refine wpList_nil ?_
        refine x_tn ?_
        refine k_reb [(0, .slice (some ⟨b, 0, none⟩) A.length cap), (2, .int .u64 (((c : Nat) : Int))), (6, .slice none 0 0), (31, .bool false)] ⟨rfl, rfl, rfl, rfl, trivial⟩ fun G12 => ?_
        refine k_f (.t rfl rfl) ?_
        refine wp_skip ?_
        refine x_tn ?_
        refine k_reb [(0, .slice (some ⟨b, 0, none⟩) A.length cap), (6, .slice none 0 0)] ⟨rfl, rfl, trivial⟩ fun G13 => ?_
        refine wp_seq ?_
        refine k_reg ?_
        refine s_val hS1 rfl rfl (r_move rfl (.t rfl rfl)) ?_
        refine s_val hS1 rfl rfl (r_assign rfl (.t rfl rfl)) ?_
        refine wpList_nil ?_
        refine x_tn ?_
        refine k_reb [(6, .slice (some ⟨b, 0, none⟩) A.length cap)] ⟨rfl, trivial⟩ fun G14 => ?_
        refine wp_ret ?_
        refine k_ret1 Try.results50 rfl rfl ?_
        refine ⟨_, rfl, ?_⟩
        obtain rfl : i = A.length := by omega
        obtain rfl : c = 0 := by omega
        exact ⟨O, _, _, _, by rw [hOl], Gr.of_own (X := X) (by omega) (by omega), hS1, hOlim, by omega, by rw [take_all (Nat.le_refl _), take_all (by omega)] at hv; rw [hv]; omega⟩

end Go.Proofs.Ytnbklceenfjojaa

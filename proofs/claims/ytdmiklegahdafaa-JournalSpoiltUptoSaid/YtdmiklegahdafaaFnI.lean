/- Contracts of functions of the program, each walked once. -/
import Derived.Test.YtdmiklegahdafaaFnH
import Derived.Test.YtdmiklegahdafaaKOp
namespace Go.Proofs.Ytdmiklegahdafaa
open Go Go.RowKit K
namespace FI
theorem mixed : Try.prog.follows .mixedOrders = true := by kernel_rfl
theorem cb24 : callable Try.prog 24 = true := by kernel_rfl
theorem cb26 : callable Try.prog 26 = true := by kernel_rfl
theorem cb57 : callable Try.prog 57 = true := by kernel_rfl
theorem cb58 : callable Try.prog 58 = true := by kernel_rfl
theorem one22 : One Try.prog 22 = true := by kernel_rfl
theorem one3 : One Try.prog 3 = true := by kernel_rfl
theorem one33 : One Try.prog 33 = true := by kernel_rfl
theorem one4 : One Try.prog 4 = true := by kernel_rfl
theorem one9 : One Try.prog 9 = true := by kernel_rfl
theorem ti22 : (Try.prog.info? 22).map (fun i => (i.zero, i.size, i.bytes)) = some (some (.slice none 0 0), 1, 24) := by kernel_rfl
theorem ti3 : (Try.prog.info? 3).map (fun i => (i.zero, i.size, i.bytes)) = some (some (.int .i64 0), 1, 8) := by kernel_rfl
theorem ti33 : (Try.prog.info? 33).map (fun i => (i.zero, i.size, i.bytes)) = some (some (.pointer none), 1, 8) := by kernel_rfl
theorem ti4 : (Try.prog.info? 4).map (fun i => (i.zero, i.size, i.bytes)) = some (some (.bool false), 1, 1) := by kernel_rfl
theorem ti9 : (Try.prog.info? 9).map (fun i => (i.zero, i.size, i.bytes)) = some (some (.string ⟨#[]⟩), 1, 16) := by kernel_rfl

end FI
open FI
attribute [local irreducible] Go.wpList Go.wpQuiet Go.wpStill Go.wpAny Go.Code.wp
set_option maxRecDepth 10000
set_option maxHeartbeats 8000000
set_option linter.unusedVariables false
set_option linter.unusedSimpArgs false
theorem LAppend_ok (w0 : World) (K : List Nat) (d m : Nat) (D : Dk) (ok : D.ok) (l : Nat) (z : Lg) (hzs : z.size ≤ 1000000000000) (hzc : z.count ≤ 1000000000000) (sm : Hp) (hM : MapH U8 m none D.F sm) (s : ByteArray) (ls : s.size ≤ 1000000000000) (hw : D.writes ≤ 1000000000000) (aB : Option Addr) (cB : Nat) (uB : List Value) (B : List (List Nat)) (vB : Hp) (hB : RwV R1 aB cB uB B vB) (oB : Old w0 K vB) (lB : (bodyL B).length ≤ 1000000000000) (hS0 : St w0 K (fl [[(l, .cells #[.pointer (some ⟨d, 0, none⟩), .string s, .int .i64 (z.size : Nat), .int .i64 (z.count : Nat), .bool z.off] LT (0, 0))], [(d, .cells (dkC 0 m D) DT (0, 0))], sm]) w0) :
  Calls Try.prog 27 #[.pointer (some ⟨l, 0, none⟩), .slice aB B.length cB] w0 (Ret fun v w' => ∃ e z1 D1 sm', LgS e z1 D1 (z.append D s B) z D ∧ v = .int .i64 (e : Nat) ∧ MapH U8 m none D1.F sm' ∧ St w0 K (fl [[(l, .cells #[.pointer (some ⟨d, 0, none⟩), .string s, .int .i64 (z1.size : Nat), .int .i64 (z1.count : Nat), .bool z1.off] LT (0, 0))], [(d, .cells (dkC 0 m D1) DT (0, 0))], sm']) w') := by
 refine k_enter (vs := [.pointer (some ⟨l, 0, none⟩), .slice aB B.length cB]) Try.func27 rfl Try.ntmps27 rfl ?_
 have hS : St w0 K (fl [[(l, .cells #[.pointer (some ⟨d, 0, none⟩), .string s, .int .i64 (((z.size : Nat) : Int)), .int .i64 (((z.count : Nat) : Int)), .bool z.off] 92 (0, 0))], (pk d m D), sm]) w0 := hS0
 have mB := hB.most
 refine wp_seq ?_
 refine k_reg ?_
 refine s_val hS rfl rfl (r_assign rfl .c) ?_
 refine wpList_nil ?_
 refine x_tn ?_
 refine wp_seq ?_
 refine wp_seq ?_
 refine k_reg ?_
 refine s_val hS rfl rfl (r_move rfl (.t rfl rfl)) ?_
 refine s_val hS rfl rfl (r_nilCheck rfl (.t rfl rfl)) ?_
 refine s_val hS rfl rfl (r_fieldN rfl Try.underlying92 rfl ti4 (by decide) (.t rfl rfl) (qq := 4) rfl) ?_
 refine s_val hS rfl rfl (r_load rfl one4 (.t rfl rfl) (St.cell_own (m := 0) rfl rfl)) ?_
 by_cases hof : z.off = true
 ·
  refine s_asb (b' := true) (hof) ?_
  refine wpList_nil ?_
  refine x_tn ?_
  refine k_reb [(0, .pointer (some ⟨l, 0, none⟩)), (1, .slice aB B.length cB), (4, .int .i64 0), (13, .bool true)] ⟨rfl, rfl, rfl, rfl, trivial⟩ fun G1 => ?_
  refine k_t (.t rfl rfl) ?_
  refine wp_seq ?_
  refine k_reg ?_
  refine s_val hS rfl rfl (r_assign rfl .c) ?_
  refine wpList_nil ?_
  refine x_tn ?_
  refine k_reb [(0, .pointer (some ⟨l, 0, none⟩)), (1, .slice aB B.length cB), (4, .int .i64 112)] ⟨rfl, rfl, rfl, trivial⟩ fun G2 => ?_
  refine wp_ret ?_
  refine x_tr ?_
  refine k_ret1 Try.results27 rfl rfl ?_
  refine ⟨_, rfl, ?_⟩
  exact ⟨_, _, _, _, lapp_off ok hof, rfl, hM, hS⟩
 ·
  refine s_asb (b' := false) (Bool.eq_false_iff.2 hof) ?_
  replace hof : z.off = false := by simpa using hof
  refine wpList_nil ?_
  refine x_tn ?_
  refine k_reb [(0, .pointer (some ⟨l, 0, none⟩)), (1, .slice aB B.length cB), (4, .int .i64 0), (13, .bool false)] ⟨rfl, rfl, rfl, rfl, trivial⟩ fun G3 => ?_
  refine k_f (.t rfl rfl) ?_
  refine wp_skip ?_
  refine x_tn ?_
  refine k_reb [(0, .pointer (some ⟨l, 0, none⟩)), (1, .slice aB B.length cB), (4, .int .i64 0)] ⟨rfl, rfl, rfl, trivial⟩ fun G4 => ?_
  refine wp_seq ?_
  refine k_reg ?_
  refine s_val hS rfl rfl (r_assign rfl .c) ?_
  refine wpList_nil ?_
  refine x_tn ?_
  refine wp_seq ?_
  refine wp_seq ?_
  refine k_reg ?_
  refine s_val hS rfl rfl (r_move rfl (.t rfl rfl)) ?_
  refine s_val hS rfl rfl (r_len rfl rfl Try.underlying56 (.t rfl rfl)) ?_
  refine s_val hS rfl rfl (r_move rfl .c) ?_
  refine wpList_nil ?_
  refine x_tn ?_
  refine wp_block ?_
  refine wp_loop_ghost (fun (m1 : Nat) a w => ∃ (G : Nat → Value) (i : Nat) (q : Nat), a = fr 78 [(0, .pointer (some ⟨l, 0, none⟩)), (1, .slice aB B.length cB), (4, .int .i64 0), (5, .int .i64 (((q : Nat) : Int))), (14, .slice aB B.length cB), (15, .int .i64 (((B.length : Nat) : Int))), (16, .int .i64 (((i : Nat) : Int)))] G ∧ St w0 K (fl [[(l, .cells #[.pointer (some ⟨d, 0, none⟩), .string s, .int .i64 (((z.size : Nat) : Int)), .int .i64 (((z.count : Nat) : Int)), .bool z.off] 92 (0, 0))], (pk d m D), sm]) w ∧ (m1 = B.length - i ∧ i ≤ B.length ∧ q = (bodyL (B.take i)).length)) (B.length) ⟨_, 0, 0, fr_reb _ ⟨rfl, rfl, rfl, rfl, rfl, rfl, rfl, trivial⟩, hS, ?_⟩ ?_
  ·
   exact ⟨rfl, by omega, rfl⟩
  ·
   intro m1 _ w1 hI1
   obtain ⟨G5, i, q, rfl, hS1, ⟨hm, hi, hq⟩⟩ := hI1
   have hbt := bodyL_take_le B i
   refine wp_seq ?_
   refine k_reg ?_
   by_cases c1 : i < B.length
   ·
    refine s_val hS1 rfl rfl (r_cmp_t rfl rfl (.t rfl rfl) (.t rfl rfl) (show ((i : Nat) : Int) < ((B.length : Nat) : Int) from by omega)) ?_
    refine wpList_nil ?_
    refine x_tn ?_
    refine wp_seq ?_
    refine k_t (.t rfl rfl) ?_
    refine wp_skip ?_
    refine x_tn ?_
    refine k_reb [(0, .pointer (some ⟨l, 0, none⟩)), (1, .slice aB B.length cB), (4, .int .i64 0), (5, .int .i64 (((q : Nat) : Int))), (14, .slice aB B.length cB), (15, .int .i64 (((B.length : Nat) : Int))), (16, .int .i64 (((i : Nat) : Int)))] ⟨rfl, rfl, rfl, rfl, rfl, rfl, rfl, trivial⟩ fun G6 => ?_
    refine wp_seq ?_
    refine wp_block ?_
    refine wp_seq ?_
    refine k_reg ?_
    refine s_val hS1 rfl rfl (r_ixv (j := i) rfl Try.underlying56 ti22 (.t rfl rfl) (.t rfl rfl) hB.sl (hB.len) rfl (by omega)) ?_
    obtain ⟨ea1, ec1, hv1, hx1⟩ := hB.get i (by omega)
    refine s_val hS1 rfl rfl (r_load rfl one22 (.t rfl rfl) (hB.sl.cell_o oB hv1)) ?_
    have hrw := bodyL_row_le (LL := B) (i := i) (by omega)
    refine s_val hS1 rfl rfl (r_assign rfl (.t rfl rfl)) ?_
    refine wpList_nil ?_
    refine x_tn ?_
    refine k_reb [(0, .pointer (some ⟨l, 0, none⟩)), (1, .slice aB B.length cB), (4, .int .i64 0), (5, .int .i64 (((q : Nat) : Int))), (7, .slice ea1 ((B.getD i []).length) ec1), (14, .slice aB B.length cB), (15, .int .i64 (((B.length : Nat) : Int))), (16, .int .i64 (((i : Nat) : Int)))] ⟨rfl, rfl, rfl, rfl, rfl, rfl, rfl, rfl, trivial⟩ fun G7 => ?_
    refine k_reg ?_
    refine s_val hS1 rfl rfl (r_move rfl (.t rfl rfl)) ?_
    refine s_val hS1 rfl rfl (r_move rfl (.t rfl rfl)) ?_
    refine s_val hS1 rfl rfl (r_len rfl rfl Try.underlying22 (.t rfl rfl)) ?_
    refine s_val hS1 rfl rfl (r_arith rfl rfl .c (.t rfl rfl) (c := ((4 + ((B.getD i []).length) : Nat) : Int)) (wn_i64 (by show (4 : Int) + (((B.getD i []).length : Nat) : Int) = _; omega) (by omega))) ?_
    refine s_val hS1 rfl rfl (r_arith rfl rfl (.t rfl rfl) (.t rfl rfl) (c := ((q + (4 + ((B.getD i []).length)) : Nat) : Int)) (wn_i64 (by show (((q : Nat) : Int) : Int) + ((4 + ((B.getD i []).length) : Nat) : Int) = _; omega) (by omega))) ?_
    refine s_val hS1 rfl rfl (r_assign rfl (.t rfl rfl)) ?_
    refine wpList_nil ?_
    refine x_bn ?_
    refine x_tn ?_
    refine k_reb [(0, .pointer (some ⟨l, 0, none⟩)), (1, .slice aB B.length cB), (4, .int .i64 0), (5, .int .i64 (((q + (4 + ((B.getD i []).length)) : Nat) : Int))), (14, .slice aB B.length cB), (15, .int .i64 (((B.length : Nat) : Int))), (16, .int .i64 (((i : Nat) : Int)))] ⟨rfl, rfl, rfl, rfl, rfl, rfl, rfl, trivial⟩ fun G8 => ?_
    refine k_reg ?_
    refine s_val hS1 rfl rfl (r_arith rfl rfl (.t rfl rfl) .c (c := ((i + 1 : Nat) : Int)) (wn_i64 (by show (((i : Nat) : Int) : Int) + 1 = _; omega) (by omega))) ?_
    refine s_val hS1 rfl rfl (r_move rfl (.t rfl rfl)) ?_
    refine wpList_nil ?_
    refine x_tn ?_
    refine ⟨B.length - (i + 1), by omega, _, i + 1, q + (4 + ((B.getD i []).length)), fr_reb _ ⟨rfl, rfl, rfl, rfl, rfl, rfl, rfl, trivial⟩, hS1, ?_⟩
    exact ⟨by omega, by omega, by rw [bodyL_take (by omega), List.length_append, List.length_append, fourL_len, ← hq]; omega⟩
   ·
    refine s_val hS1 rfl rfl (r_cmp_f rfl rfl (.t rfl rfl) (.t rfl rfl) (show ¬ (((i : Nat) : Int) < ((B.length : Nat) : Int)) from by omega)) ?_
    refine wpList_nil ?_
    refine x_tn ?_
    refine wp_seq ?_
    refine k_f (.t rfl rfl) ?_
    refine wp_exit ?_
    refine x_te ?_
    refine x_te ?_
    refine x_be ?_
    refine x_tn ?_
    refine k_reb [(0, .pointer (some ⟨l, 0, none⟩)), (1, .slice aB B.length cB), (4, .int .i64 0), (5, .int .i64 (((q : Nat) : Int)))] ⟨rfl, rfl, rfl, rfl, trivial⟩ fun G9 => ?_
    refine wp_seq ?_
    refine wp_seq ?_
    refine k_reg ?_
    have hie : i = B.length := by omega
    rw [hie, List.take_length] at hq
    refine s_val hS1 rfl rfl (r_move rfl (.t rfl rfl)) ?_
    refine s_val hS1 rfl rfl (r_len rfl rfl Try.underlying56 (.t rfl rfl)) ?_
    by_cases c2 : B.length > 4096
    ·
     refine s_val hS1 rfl rfl (r_cmp_t rfl rfl (.t rfl rfl) .c (show ((B.length : Nat) : Int) > 4096 from by omega)) ?_
     refine s_val hS1 rfl rfl (r_move rfl (.t rfl rfl)) ?_
     refine s_skip (unwanted_of (j := 3) (b := false) (b' := true) (d := 29) rfl rfl rfl rfl rfl) rfl ?_
     refine s_skip (unwanted_of (j := 3) (b := false) (b' := true) (d := 29) rfl rfl rfl rfl rfl) rfl ?_
     refine s_val hS1 rfl rfl (r_pick rfl (.t rfl rfl) .c) ?_
     refine wpList_nil ?_
     refine x_tn ?_
     refine k_reb [(0, .pointer (some ⟨l, 0, none⟩)), (1, .slice aB B.length cB), (4, .int .i64 0), (32, .bool true)] ⟨rfl, rfl, rfl, rfl, trivial⟩ fun G10 => ?_
     refine k_t (.t rfl rfl) ?_
     refine wp_seq ?_
     refine k_reg ?_
     refine s_val hS1 rfl rfl (r_assign rfl .c) ?_
     refine wpList_nil ?_
     refine x_tn ?_
     refine k_reb [(0, .pointer (some ⟨l, 0, none⟩)), (1, .slice aB B.length cB), (4, .int .i64 110)] ⟨rfl, rfl, rfl, trivial⟩ fun G11 => ?_
     refine wp_ret ?_
     refine x_tr ?_
     refine k_ret1 Try.results27 rfl rfl ?_
     refine ⟨_, rfl, ?_⟩
     exact ⟨_, _, _, _, lapp_long ok hof (by omega), rfl, hM, hS1⟩
    ·
     refine s_val hS1 rfl rfl (r_cmp_f rfl rfl (.t rfl rfl) .c (show ¬ (((B.length : Nat) : Int) > 4096) from by omega)) ?_
     refine s_val hS1 rfl rfl (r_move rfl (.t rfl rfl)) ?_
     refine s_valg hS1 (wanted_of (j := 3) (b := false) (d := 29) rfl rfl rfl rfl) rfl (r_move rfl (.t rfl rfl)) ?_
     by_cases c3 : q > 4194304
     ·
      refine s_valg hS1 (wanted_of (j := 3) (b := false) (d := 29) rfl rfl rfl rfl) rfl (r_cmp_t rfl rfl (.t rfl rfl) .c (show ((q : Nat) : Int) > 4194304 from by omega)) ?_
      refine s_val hS1 rfl rfl (r_pick rfl (.t rfl rfl) (.t rfl rfl)) ?_
      refine wpList_nil ?_
      refine x_tn ?_
      refine k_reb [(0, .pointer (some ⟨l, 0, none⟩)), (1, .slice aB B.length cB), (4, .int .i64 0), (32, .bool true)] ⟨rfl, rfl, rfl, rfl, trivial⟩ fun G12 => ?_
      refine k_t (.t rfl rfl) ?_
      refine wp_seq ?_
      refine k_reg ?_
      refine s_val hS1 rfl rfl (r_assign rfl .c) ?_
      refine wpList_nil ?_
      refine x_tn ?_
      refine k_reb [(0, .pointer (some ⟨l, 0, none⟩)), (1, .slice aB B.length cB), (4, .int .i64 110)] ⟨rfl, rfl, rfl, trivial⟩ fun G13 => ?_
      refine wp_ret ?_
      refine x_tr ?_
      refine k_ret1 Try.results27 rfl rfl ?_
      refine ⟨_, rfl, ?_⟩
      exact ⟨_, _, _, _, lapp_long ok hof (by omega), rfl, hM, hS1⟩
     ·
      refine s_valg hS1 (wanted_of (j := 3) (b := false) (d := 29) rfl rfl rfl rfl) rfl (r_cmp_f rfl rfl (.t rfl rfl) .c (show ¬ (((q : Nat) : Int) > 4194304) from by omega)) ?_
      refine s_val hS1 rfl rfl (r_pick rfl (.t rfl rfl) (.t rfl rfl)) ?_
      refine wpList_nil ?_
      refine x_tn ?_
      refine k_reb [(0, .pointer (some ⟨l, 0, none⟩)), (1, .slice aB B.length cB), (4, .int .i64 0), (32, .bool false)] ⟨rfl, rfl, rfl, rfl, trivial⟩ fun G14 => ?_
      refine k_f (.t rfl rfl) ?_
      refine wp_skip ?_
      refine x_tn ?_
      refine k_reb [(0, .pointer (some ⟨l, 0, none⟩)), (1, .slice aB B.length cB), (4, .int .i64 0)] ⟨rfl, rfl, rfl, trivial⟩ fun G15 => ?_
      refine wp_seq ?_
      refine k_reg ?_
      refine s_val hS1 rfl rfl (r_move rfl (.t rfl rfl)) ?_
      have hrl := recL_len B
      refine s_call rfl rfl rfl (vs := [.slice aB B.length cB]) ⟨(.t rfl rfl), trivial⟩ cb57 (laid_ok w1 aB cB _ B vB hB (Old.of_old (xs := []) [] oB hS1 rfl (by decide)) (by omega) ) ?_
      rintro _ w2 ⟨ra1, rc1, sg1, rfl, hG1, ht1⟩
      have hS2 : St w0 K (fl [[(l, .cells #[.pointer (some ⟨d, 0, none⟩), .string s, .int .i64 (((z.size : Nat) : Int)), .int .i64 (((z.count : Nat) : Int)), .bool z.off] 92 (0, 0))], (pk d m D), sm, sg1]) w2 := hS1.callL (xs := []) (xs' := []) (zs := [sg1]) [] rfl (by decide) ht1 rfl rfl
      refine s_val hS2 rfl rfl (r_assign rfl (.t rfl rfl)) ?_
      refine wpList_nil ?_
      refine x_tn ?_
      refine k_reb [(0, .pointer (some ⟨l, 0, none⟩)), (4, .int .i64 0), (8, .slice ra1 ((recL B).length) rc1)] ⟨rfl, rfl, rfl, trivial⟩ fun G16 => ?_
      refine wp_seq ?_
      refine k_regt 9 mixed (by kernel_rfl) hS2 fun w3 hS3 hB1 => ?_
      refine t_val hS3 rfl rfl (r_move rfl (.t rfl rfl)) ?_
      refine t_val hS3 rfl rfl (r_nilCheck rfl (.t rfl rfl)) ?_
      refine t_val hS3 rfl rfl (r_fieldN rfl Try.underlying92 rfl ti33 (by decide) (.t rfl rfl) (qq := 0) rfl) ?_
      refine t_val hS3 rfl rfl (r_load rfl one33 (.t rfl rfl) (St.cell_own (m := 0) rfl rfl)) ?_
      refine t_val hS3 rfl rfl (r_move rfl (.t rfl rfl)) ?_
      refine t_val hS3 rfl rfl (r_nilCheck rfl (.t rfl rfl)) ?_
      refine t_val hS3 rfl rfl (r_fieldN rfl Try.underlying92 rfl ti9 (by decide) (.t rfl rfl) (qq := 1) rfl) ?_
      refine t_val hS3 rfl rfl (r_load rfl one9 (.t rfl rfl) (St.cell_own (m := 0) rfl rfl)) ?_
      refine t_val hS3 rfl rfl (r_move rfl (.t rfl rfl)) ?_
      refine t_nil ?_
      refine s_call rfl rfl rfl (vs := [.pointer (some ⟨d, 0, none⟩), .string s, .slice ra1 ((recL B).length) rc1]) ⟨(.t rfl rfl), (.t rfl rfl), (.t rfl rfl), trivial⟩ cb26 (Append_st w3 _ d m D ok sm hM s (by omega) ra1 rc1 (recL B) sg1 (hG1.sl (by omega) (recL_fit hB.fit)) (Old.of_piece (i := 3) (xs := [(pk d m D), sm]) [1, 2] hS3 rfl rfl (by decide)) (by omega) (hS3.give (xs := [(pk d m D), sm]) [1, 2] rfl (by decide))) ?_
      rintro _ w4 ⟨e1, D1, sm1, hst1, rfl, hM1, ht2⟩
      have hS4 : St w0 K (fl [[(l, .cells #[.pointer (some ⟨d, 0, none⟩), .string s, .int .i64 (((z.size : Nat) : Int)), .int .i64 (((z.count : Nat) : Int)), .bool z.off] 92 (0, 0))], (pk d m D1), sm1, sg1]) w4 := hS3.callL (xs := [(pk d m D), sm]) (xs' := [(pk d m D1), sm1]) (zs := []) [1, 2] rfl (by decide) ht2 rfl rfl
      have hle1 := hst1.le
      have hwr1 := hst1.wr
      refine s_val hS4 rfl rfl (r_assign rfl (.t rfl rfl)) ?_
      refine wpList_nil ?_
      refine x_tn ?_
      refine k_reb [(0, .pointer (some ⟨l, 0, none⟩)), (4, .int .i64 0), (8, .slice ra1 ((recL B).length) rc1), (9, .int .i64 (((e1 : Nat) : Int)))] ⟨rfl, rfl, rfl, rfl, trivial⟩ fun G17 => ?_
      refine wp_seq ?_
      refine wp_seq ?_
      refine k_reg ?_
      refine s_val hS4 rfl rfl (r_move rfl (.t rfl rfl)) ?_
      by_cases c4 : e1 = 0
      ·
       refine s_val hS4 rfl rfl (r_cmp_t rfl rfl (.t rfl rfl) .c (show ((e1 : Nat) : Int) = 0 from by omega)) ?_
       refine wpList_nil ?_
       refine x_tn ?_
       refine k_reb [(0, .pointer (some ⟨l, 0, none⟩)), (4, .int .i64 0), (8, .slice ra1 ((recL B).length) rc1), (9, .int .i64 (((e1 : Nat) : Int))), (46, .bool true)] ⟨rfl, rfl, rfl, rfl, rfl, trivial⟩ fun G18 => ?_
       refine k_t (.t rfl rfl) ?_
       refine k_regt 8 mixed (by kernel_rfl) hS4 fun w5 hS5 hB2 => ?_
       refine t_val hS5 rfl rfl (r_move rfl (.t rfl rfl)) ?_
       refine t_val hS5 rfl rfl (r_nilCheck rfl (.t rfl rfl)) ?_
       refine t_val hS5 rfl rfl (r_fieldN rfl Try.underlying92 rfl ti33 (by decide) (.t rfl rfl) (qq := 0) rfl) ?_
       refine t_val hS5 rfl rfl (r_load rfl one33 (.t rfl rfl) (St.cell_own (m := 0) rfl rfl)) ?_
       refine t_val hS5 rfl rfl (r_move rfl (.t rfl rfl)) ?_
       refine t_val hS5 rfl rfl (r_nilCheck rfl (.t rfl rfl)) ?_
       refine t_val hS5 rfl rfl (r_fieldN rfl Try.underlying92 rfl ti9 (by decide) (.t rfl rfl) (qq := 1) rfl) ?_
       refine t_val hS5 rfl rfl (r_load rfl one9 (.t rfl rfl) (St.cell_own (m := 0) rfl rfl)) ?_
       refine t_nil ?_
       refine s_call rfl rfl rfl (vs := [.pointer (some ⟨d, 0, none⟩), .string s]) ⟨(.t rfl rfl), (.t rfl rfl), trivial⟩ cb58 (Sync_st w5 _ d m D1 hst1.ok sm1 hM1 s (by omega)  (by omega) (hS5.give (xs := [(pk d m D1), sm1]) [1, 2] rfl (by decide))) ?_
       rintro _ w6 ⟨e2, D2, sm2, hst2, rfl, hM2, ht3⟩
       have hS6 : St w0 K (fl [[(l, .cells #[.pointer (some ⟨d, 0, none⟩), .string s, .int .i64 (((z.size : Nat) : Int)), .int .i64 (((z.count : Nat) : Int)), .bool z.off] 92 (0, 0))], (pk d m D2), sm2, sg1]) w6 := hS5.callL (xs := [(pk d m D1), sm1]) (xs' := [(pk d m D2), sm2]) (zs := []) [1, 2] rfl (by decide) ht3 rfl rfl
       have hle2 := hst2.le
       have hwr2 := hst2.wr
       refine s_val hS6 rfl rfl (r_assign rfl (.t rfl rfl)) ?_
       refine wpList_nil ?_
       refine x_tn ?_
       refine k_reb [(0, .pointer (some ⟨l, 0, none⟩)), (4, .int .i64 0), (8, .slice ra1 ((recL B).length) rc1), (9, .int .i64 (((e2 : Nat) : Int)))] ⟨rfl, rfl, rfl, rfl, trivial⟩ fun G19 => ?_
       refine wp_seq ?_
       refine wp_seq ?_
       refine k_reg ?_
       refine s_val hS6 rfl rfl (r_move rfl (.t rfl rfl)) ?_
       by_cases c5 : e2 ≠ 0
       ·
        refine s_val hS6 rfl rfl (r_cmp_t rfl rfl (.t rfl rfl) .c (show ¬ ((e2 : Nat) : Int) = 0 from by omega)) ?_
        refine wpList_nil ?_
        refine x_tn ?_
        refine k_reb [(0, .pointer (some ⟨l, 0, none⟩)), (4, .int .i64 0), (8, .slice ra1 ((recL B).length) rc1), (9, .int .i64 (((e2 : Nat) : Int))), (57, .bool true)] ⟨rfl, rfl, rfl, rfl, rfl, trivial⟩ fun G20 => ?_
        refine k_t (.t rfl rfl) ?_
        refine wp_seq ?_
        refine k_reg ?_
        refine s_val hS6 rfl rfl (r_move rfl (.t rfl rfl)) ?_
        refine s_val hS6 rfl rfl (r_nilCheck rfl (.t rfl rfl)) ?_
        refine s_val hS6 rfl rfl (r_fieldN rfl Try.underlying92 rfl ti4 (by decide) (.t rfl rfl) (qq := 4) rfl) ?_
        refine s_storeB (m := 0) rfl rfl rfl one4 (.t rfl rfl) .c rfl hS6 rfl rfl (c' := #[.pointer (some ⟨d, 0, none⟩), .string s, .int .i64 (((z.size : Nat) : Int)), .int .i64 (((z.count : Nat) : Int)), .bool true]) rfl (h' := (fl [[(l, .cells #[.pointer (some ⟨d, 0, none⟩), .string s, .int .i64 (((z.size : Nat) : Int)), .int .i64 (((z.count : Nat) : Int)), .bool true] 92 (0, 0))], (pk d m D2), sm2, sg1])) rfl fun w7 hS7 hB3 => ?_
        refine wpList_nil ?_
        refine x_tn ?_
        refine k_reb [(0, .pointer (some ⟨l, 0, none⟩)), (4, .int .i64 0), (8, .slice ra1 ((recL B).length) rc1), (9, .int .i64 (((e2 : Nat) : Int)))] ⟨rfl, rfl, rfl, rfl, trivial⟩ fun G21 => ?_
        refine wp_seq ?_
        refine k_reg ?_
        refine s_val hS7 rfl rfl (r_move rfl (.t rfl rfl)) ?_
        refine s_val hS7 rfl rfl (r_assign rfl (.t rfl rfl)) ?_
        refine wpList_nil ?_
        refine x_tn ?_
        refine k_reb [(0, .pointer (some ⟨l, 0, none⟩)), (4, .int .i64 (((e2 : Nat) : Int))), (8, .slice ra1 ((recL B).length) rc1)] ⟨rfl, rfl, rfl, trivial⟩ fun G22 => ?_
        refine wp_ret ?_
        refine x_tr ?_
        refine k_ret1 Try.results27 rfl rfl ?_
        refine ⟨_, rfl, ?_⟩
        have hS8 : St w0 K (fl [[(l, .cells #[.pointer (some ⟨d, 0, none⟩), .string s, .int .i64 (((z.size : Nat) : Int)), .int .i64 (((z.count : Nat) : Int)), .bool true] 92 (0, 0))], (pk d m D2), sm2]) w7 := hS7.pick [0, 1, 2] rfl (by decide)
        exact ⟨_, _, _, _, lapp_f2 hof (by rintro (h | h) <;> omega) hst1 (by omega) hst2 (by omega), rfl, hM2, hS8⟩
       ·
        refine s_val hS6 rfl rfl (r_cmp_f rfl rfl (.t rfl rfl) .c (show ¬ (¬ ((e2 : Nat) : Int) = 0) from by omega)) ?_
        refine wpList_nil ?_
        refine x_tn ?_
        refine k_reb [(0, .pointer (some ⟨l, 0, none⟩)), (4, .int .i64 0), (8, .slice ra1 ((recL B).length) rc1), (9, .int .i64 (((e2 : Nat) : Int))), (57, .bool false)] ⟨rfl, rfl, rfl, rfl, rfl, trivial⟩ fun G23 => ?_
        refine k_f (.t rfl rfl) ?_
        refine wp_skip ?_
        refine x_tn ?_
        refine k_reb [(0, .pointer (some ⟨l, 0, none⟩)), (4, .int .i64 0), (8, .slice ra1 ((recL B).length) rc1)] ⟨rfl, rfl, rfl, trivial⟩ fun G24 => ?_
        refine wp_seq ?_
        refine k_reg ?_
        refine s_val hS6 rfl rfl (r_move rfl (.t rfl rfl)) ?_
        refine s_val hS6 rfl rfl (r_nilCheck rfl (.t rfl rfl)) ?_
        refine s_val hS6 rfl rfl (r_fieldN rfl Try.underlying92 rfl ti3 (by decide) (.t rfl rfl) (qq := 2) rfl) ?_
        refine s_val hS6 rfl rfl (r_load rfl one3 (.t rfl rfl) (St.cell_own (m := 0) rfl rfl)) ?_
        refine s_val hS6 rfl rfl (r_move rfl (.t rfl rfl)) ?_
        refine s_val hS6 rfl rfl (r_len rfl rfl Try.underlying22 (.t rfl rfl)) ?_
        refine s_val hS6 rfl rfl (r_arith rfl rfl (.t rfl rfl) (.t rfl rfl) (c := ((z.size + ((recL B).length) : Nat) : Int)) (wn_i64 (by show (((z.size : Nat) : Int) : Int) + (((recL B).length : Nat) : Int) = _; omega) (by omega))) ?_
        refine s_val hS6 rfl rfl (r_nilCheck rfl (.t rfl rfl)) ?_
        refine s_val hS6 rfl rfl (r_fieldN rfl Try.underlying92 rfl ti3 (by decide) (.t rfl rfl) (qq := 2) rfl) ?_
        refine s_storeB (m := 0) rfl rfl rfl one3 (.t rfl rfl) (.t rfl rfl) rfl hS6 rfl rfl (c' := #[.pointer (some ⟨d, 0, none⟩), .string s, .int .i64 (((z.size + ((recL B).length) : Nat) : Int)), .int .i64 (((z.count : Nat) : Int)), .bool z.off]) rfl (h' := (fl [[(l, .cells #[.pointer (some ⟨d, 0, none⟩), .string s, .int .i64 (((z.size + ((recL B).length) : Nat) : Int)), .int .i64 (((z.count : Nat) : Int)), .bool z.off] 92 (0, 0))], (pk d m D2), sm2, sg1])) rfl fun w8 hS9 hB4 => ?_
        refine wpList_nil ?_
        refine x_tn ?_
        refine k_reb [(0, .pointer (some ⟨l, 0, none⟩)), (4, .int .i64 0)] ⟨rfl, rfl, trivial⟩ fun G25 => ?_
        refine wp_seq ?_
        refine k_reg ?_
        refine s_val hS9 rfl rfl (r_move rfl (.t rfl rfl)) ?_
        refine s_val hS9 rfl rfl (r_nilCheck rfl (.t rfl rfl)) ?_
        refine s_val hS9 rfl rfl (r_fieldN rfl Try.underlying92 rfl ti3 (by decide) (.t rfl rfl) (qq := 3) rfl) ?_
        refine s_val hS9 rfl rfl (r_load rfl one3 (.t rfl rfl) (St.cell_own (m := 0) rfl rfl)) ?_
        refine s_val hS9 rfl rfl (r_arith rfl rfl (.t rfl rfl) .c (c := ((z.count + 1 : Nat) : Int)) (wn_i64 (by show (((z.count : Nat) : Int) : Int) + 1 = _; omega) (by omega))) ?_
        refine s_val hS9 rfl rfl (r_nilCheck rfl (.t rfl rfl)) ?_
        refine s_val hS9 rfl rfl (r_fieldN rfl Try.underlying92 rfl ti3 (by decide) (.t rfl rfl) (qq := 3) rfl) ?_
        refine s_storeB (m := 0) rfl rfl rfl one3 (.t rfl rfl) (.t rfl rfl) rfl hS9 rfl rfl (c' := #[.pointer (some ⟨d, 0, none⟩), .string s, .int .i64 (((z.size + ((recL B).length) : Nat) : Int)), .int .i64 (((z.count + 1 : Nat) : Int)), .bool z.off]) rfl (h' := (fl [[(l, .cells #[.pointer (some ⟨d, 0, none⟩), .string s, .int .i64 (((z.size + ((recL B).length) : Nat) : Int)), .int .i64 (((z.count + 1 : Nat) : Int)), .bool z.off] 92 (0, 0))], (pk d m D2), sm2, sg1])) rfl fun w9 hS10 hB5 => ?_
        refine wpList_nil ?_
        refine x_tn ?_
        refine k_reb [(4, .int .i64 0)] ⟨rfl, trivial⟩ fun G26 => ?_
        refine wp_seq ?_
        refine k_reg ?_
        refine s_val hS10 rfl rfl (r_assign rfl .c) ?_
        refine wpList_nil ?_
        refine x_tn ?_
        refine wp_ret ?_
        refine k_ret1 Try.results27 rfl rfl ?_
        refine ⟨_, rfl, ?_⟩
        have hS11 : St w0 K (fl [[(l, .cells #[.pointer (some ⟨d, 0, none⟩), .string s, .int .i64 (((z.size + ((recL B).length) : Nat) : Int)), .int .i64 (((z.count + 1 : Nat) : Int)), .bool z.off] 92 (0, 0))], (pk d m D2), sm2]) w9 := hS10.pick [0, 1, 2] rfl (by decide)
        exact ⟨_, _, _, _, lapp_ok hof (by rintro (h | h) <;> omega) hst1 (by omega) hst2 (by omega), rfl, hM2, hS11⟩
      ·
       refine s_val hS4 rfl rfl (r_cmp_f rfl rfl (.t rfl rfl) .c (show ¬ (((e1 : Nat) : Int) = 0) from by omega)) ?_
       refine wpList_nil ?_
       refine x_tn ?_
       refine k_reb [(0, .pointer (some ⟨l, 0, none⟩)), (4, .int .i64 0), (8, .slice ra1 ((recL B).length) rc1), (9, .int .i64 (((e1 : Nat) : Int))), (46, .bool false)] ⟨rfl, rfl, rfl, rfl, rfl, trivial⟩ fun G27 => ?_
       refine k_f (.t rfl rfl) ?_
       refine wp_skip ?_
       refine x_tn ?_
       refine k_reb [(0, .pointer (some ⟨l, 0, none⟩)), (4, .int .i64 0), (8, .slice ra1 ((recL B).length) rc1), (9, .int .i64 (((e1 : Nat) : Int)))] ⟨rfl, rfl, rfl, rfl, trivial⟩ fun G28 => ?_
       refine wp_seq ?_
       refine wp_seq ?_
       refine k_reg ?_
       refine s_val hS4 rfl rfl (r_move rfl (.t rfl rfl)) ?_
       refine s_val hS4 rfl rfl (r_cmp_t rfl rfl (.t rfl rfl) .c (show ¬ ((e1 : Nat) : Int) = 0 from by omega)) ?_
       refine wpList_nil ?_
       refine x_tn ?_
       refine k_reb [(0, .pointer (some ⟨l, 0, none⟩)), (4, .int .i64 0), (8, .slice ra1 ((recL B).length) rc1), (9, .int .i64 (((e1 : Nat) : Int))), (57, .bool true)] ⟨rfl, rfl, rfl, rfl, rfl, trivial⟩ fun G29 => ?_
       refine k_t (.t rfl rfl) ?_
       refine wp_seq ?_
       refine k_reg ?_
       refine s_val hS4 rfl rfl (r_move rfl (.t rfl rfl)) ?_
       refine s_val hS4 rfl rfl (r_nilCheck rfl (.t rfl rfl)) ?_
       refine s_val hS4 rfl rfl (r_fieldN rfl Try.underlying92 rfl ti4 (by decide) (.t rfl rfl) (qq := 4) rfl) ?_
       refine s_storeB (m := 0) rfl rfl rfl one4 (.t rfl rfl) .c rfl hS4 rfl rfl (c' := #[.pointer (some ⟨d, 0, none⟩), .string s, .int .i64 (((z.size : Nat) : Int)), .int .i64 (((z.count : Nat) : Int)), .bool true]) rfl (h' := (fl [[(l, .cells #[.pointer (some ⟨d, 0, none⟩), .string s, .int .i64 (((z.size : Nat) : Int)), .int .i64 (((z.count : Nat) : Int)), .bool true] 92 (0, 0))], (pk d m D1), sm1, sg1])) rfl fun w10 hS12 hB6 => ?_
       refine wpList_nil ?_
       refine x_tn ?_
       refine k_reb [(0, .pointer (some ⟨l, 0, none⟩)), (4, .int .i64 0), (8, .slice ra1 ((recL B).length) rc1), (9, .int .i64 (((e1 : Nat) : Int)))] ⟨rfl, rfl, rfl, rfl, trivial⟩ fun G30 => ?_
       refine wp_seq ?_
       refine k_reg ?_
       refine s_val hS12 rfl rfl (r_move rfl (.t rfl rfl)) ?_
       refine s_val hS12 rfl rfl (r_assign rfl (.t rfl rfl)) ?_
       refine wpList_nil ?_
       refine x_tn ?_
       refine k_reb [(0, .pointer (some ⟨l, 0, none⟩)), (4, .int .i64 (((e1 : Nat) : Int))), (8, .slice ra1 ((recL B).length) rc1)] ⟨rfl, rfl, rfl, trivial⟩ fun G31 => ?_
       refine wp_ret ?_
       refine x_tr ?_
       refine k_ret1 Try.results27 rfl rfl ?_
       refine ⟨_, rfl, ?_⟩
       have hS13 : St w0 K (fl [[(l, .cells #[.pointer (some ⟨d, 0, none⟩), .string s, .int .i64 (((z.size : Nat) : Int)), .int .i64 (((z.count : Nat) : Int)), .bool true] 92 (0, 0))], (pk d m D1), sm1]) w10 := hS12.pick [0, 1, 2] rfl (by decide)
       exact ⟨_, _, _, _, lapp_f1 hof (by rintro (h | h) <;> omega) hst1 (by omega), rfl, hM1, hS13⟩

theorem LClear_ok (w0 : World) (K : List Nat) (d m : Nat) (D : Dk) (ok : D.ok) (l : Nat) (z : Lg) (hzs : z.size ≤ 1000000000000) (hzc : z.count ≤ 1000000000000) (sm : Hp) (hM : MapH U8 m none D.F sm) (s : ByteArray) (ls : s.size ≤ 1000000000000) (hw : D.writes ≤ 1000000000000) (hS0 : St w0 K (fl [[(l, .cells #[.pointer (some ⟨d, 0, none⟩), .string s, .int .i64 (z.size : Nat), .int .i64 (z.count : Nat), .bool z.off] LT (0, 0))], [(d, .cells (dkC 0 m D) DT (0, 0))], sm]) w0) :
  Calls Try.prog 36 #[.pointer (some ⟨l, 0, none⟩)] w0 (Ret fun v w' => ∃ e z1 D1 sm', LgS e z1 D1 (z.clear D s) z D ∧ v = .int .i64 (e : Nat) ∧ MapH U8 m none D1.F sm' ∧ St w0 K (fl [[(l, .cells #[.pointer (some ⟨d, 0, none⟩), .string s, .int .i64 (z1.size : Nat), .int .i64 (z1.count : Nat), .bool z1.off] LT (0, 0))], [(d, .cells (dkC 0 m D1) DT (0, 0))], sm']) w') := by
 refine k_enter (vs := [.pointer (some ⟨l, 0, none⟩)]) Try.func36 rfl Try.ntmps36 rfl ?_
 have hS : St w0 K (fl [[(l, .cells #[.pointer (some ⟨d, 0, none⟩), .string s, .int .i64 (((z.size : Nat) : Int)), .int .i64 (((z.count : Nat) : Int)), .bool z.off] 92 (0, 0))], (pk d m D), sm]) w0 := hS0
 refine wp_seq ?_
 refine k_reg ?_
 refine s_val hS rfl rfl (r_assign rfl .c) ?_
 refine wpList_nil ?_
 refine x_tn ?_
 refine wp_seq ?_
 refine wp_seq ?_
 refine k_reg ?_
 refine s_val hS rfl rfl (r_move rfl (.t rfl rfl)) ?_
 refine s_val hS rfl rfl (r_nilCheck rfl (.t rfl rfl)) ?_
 refine s_val hS rfl rfl (r_fieldN rfl Try.underlying92 rfl ti4 (by decide) (.t rfl rfl) (qq := 4) rfl) ?_
 refine s_val hS rfl rfl (r_load rfl one4 (.t rfl rfl) (St.cell_own (m := 0) rfl rfl)) ?_
 by_cases hof : z.off = true
 ·
  refine s_asb (b' := true) (hof) ?_
  refine wpList_nil ?_
  refine x_tn ?_
  refine k_reb [(0, .pointer (some ⟨l, 0, none⟩)), (2, .int .i64 0), (7, .bool true)] ⟨rfl, rfl, rfl, trivial⟩ fun G1 => ?_
  refine k_t (.t rfl rfl) ?_
  refine wp_seq ?_
  refine k_reg ?_
  refine s_val hS rfl rfl (r_assign rfl .c) ?_
  refine wpList_nil ?_
  refine x_tn ?_
  refine k_reb [(0, .pointer (some ⟨l, 0, none⟩)), (2, .int .i64 112)] ⟨rfl, rfl, trivial⟩ fun G2 => ?_
  refine wp_ret ?_
  refine x_tr ?_
  refine k_ret1 Try.results36 rfl rfl ?_
  refine ⟨_, rfl, ?_⟩
  exact ⟨_, _, _, _, lclr_off ok hof, rfl, hM, hS⟩
 ·
  refine s_asb (b' := false) (Bool.eq_false_iff.2 hof) ?_
  replace hof : z.off = false := by simpa using hof
  refine wpList_nil ?_
  refine x_tn ?_
  refine k_reb [(0, .pointer (some ⟨l, 0, none⟩)), (2, .int .i64 0), (7, .bool false)] ⟨rfl, rfl, rfl, trivial⟩ fun G3 => ?_
  refine k_f (.t rfl rfl) ?_
  refine wp_skip ?_
  refine x_tn ?_
  refine k_reb [(0, .pointer (some ⟨l, 0, none⟩)), (2, .int .i64 0)] ⟨rfl, rfl, trivial⟩ fun G4 => ?_
  refine wp_seq ?_
  refine wp_seq ?_
  refine k_regt 8 mixed (by kernel_rfl) hS fun w1 hS1 hB1 => ?_
  refine t_val hS1 rfl rfl (r_move rfl (.t rfl rfl)) ?_
  refine t_val hS1 rfl rfl (r_nilCheck rfl (.t rfl rfl)) ?_
  refine t_val hS1 rfl rfl (r_fieldN rfl Try.underlying92 rfl ti33 (by decide) (.t rfl rfl) (qq := 0) rfl) ?_
  refine t_val hS1 rfl rfl (r_load rfl one33 (.t rfl rfl) (St.cell_own (m := 0) rfl rfl)) ?_
  refine t_val hS1 rfl rfl (r_move rfl (.t rfl rfl)) ?_
  refine t_val hS1 rfl rfl (r_nilCheck rfl (.t rfl rfl)) ?_
  refine t_val hS1 rfl rfl (r_fieldN rfl Try.underlying92 rfl ti9 (by decide) (.t rfl rfl) (qq := 1) rfl) ?_
  refine t_val hS1 rfl rfl (r_load rfl one9 (.t rfl rfl) (St.cell_own (m := 0) rfl rfl)) ?_
  refine t_nil ?_
  refine s_call rfl rfl rfl (vs := [.pointer (some ⟨d, 0, none⟩), .string s, .int .i64 8]) ⟨(.t rfl rfl), (.t rfl rfl), .c, trivial⟩ cb24 (Cut_st w1 _ d m D ok sm hM s (by omega) 8 (by omega) (by omega) (hS1.give (xs := [(pk d m D), sm]) [1, 2] rfl (by decide))) ?_
  rintro _ w2 ⟨e1, D1, sm1, hst1, rfl, hM1, ht1⟩
  have hS2 : St w0 K (fl [[(l, .cells #[.pointer (some ⟨d, 0, none⟩), .string s, .int .i64 (((z.size : Nat) : Int)), .int .i64 (((z.count : Nat) : Int)), .bool z.off] 92 (0, 0))], (pk d m D1), sm1]) w2 := hS1.callL (xs := [(pk d m D), sm]) (xs' := [(pk d m D1), sm1]) (zs := []) [1, 2] rfl (by decide) ht1 rfl rfl
  have hle1 := hst1.le
  have hwr1 := hst1.wr
  refine s_val hS2 rfl rfl (r_assign rfl (.t rfl rfl)) ?_
  refine wpList_nil ?_
  refine x_tn ?_
  refine k_reb [(0, .pointer (some ⟨l, 0, none⟩)), (2, .int .i64 0), (3, .int .i64 (((e1 : Nat) : Int)))] ⟨rfl, rfl, rfl, trivial⟩ fun G5 => ?_
  refine wp_seq ?_
  refine k_reg ?_
  refine s_val hS2 rfl rfl (r_move rfl (.t rfl rfl)) ?_
  by_cases c1 : e1 ≠ 0
  ·
   refine s_val hS2 rfl rfl (r_cmp_t rfl rfl (.t rfl rfl) .c (show ¬ ((e1 : Nat) : Int) = 0 from by omega)) ?_
   refine wpList_nil ?_
   refine x_tn ?_
   refine k_reb [(0, .pointer (some ⟨l, 0, none⟩)), (2, .int .i64 0), (3, .int .i64 (((e1 : Nat) : Int))), (18, .bool true)] ⟨rfl, rfl, rfl, rfl, trivial⟩ fun G6 => ?_
   refine k_t (.t rfl rfl) ?_
   refine wp_seq ?_
   refine k_reg ?_
   refine s_val hS2 rfl rfl (r_move rfl (.t rfl rfl)) ?_
   refine s_val hS2 rfl rfl (r_nilCheck rfl (.t rfl rfl)) ?_
   refine s_val hS2 rfl rfl (r_fieldN rfl Try.underlying92 rfl ti4 (by decide) (.t rfl rfl) (qq := 4) rfl) ?_
   refine s_storeB (m := 0) rfl rfl rfl one4 (.t rfl rfl) .c rfl hS2 rfl rfl (c' := #[.pointer (some ⟨d, 0, none⟩), .string s, .int .i64 (((z.size : Nat) : Int)), .int .i64 (((z.count : Nat) : Int)), .bool true]) rfl (h' := (fl [[(l, .cells #[.pointer (some ⟨d, 0, none⟩), .string s, .int .i64 (((z.size : Nat) : Int)), .int .i64 (((z.count : Nat) : Int)), .bool true] 92 (0, 0))], (pk d m D1), sm1])) rfl fun w3 hS3 hB2 => ?_
   refine wpList_nil ?_
   refine x_tn ?_
   refine k_reb [(0, .pointer (some ⟨l, 0, none⟩)), (2, .int .i64 0), (3, .int .i64 (((e1 : Nat) : Int)))] ⟨rfl, rfl, rfl, trivial⟩ fun G7 => ?_
   refine wp_seq ?_
   refine k_reg ?_
   refine s_val hS3 rfl rfl (r_move rfl (.t rfl rfl)) ?_
   refine s_val hS3 rfl rfl (r_assign rfl (.t rfl rfl)) ?_
   refine wpList_nil ?_
   refine x_tn ?_
   refine k_reb [(0, .pointer (some ⟨l, 0, none⟩)), (2, .int .i64 (((e1 : Nat) : Int)))] ⟨rfl, rfl, trivial⟩ fun G8 => ?_
   refine wp_ret ?_
   refine x_tr ?_
   refine k_ret1 Try.results36 rfl rfl ?_
   refine ⟨_, rfl, ?_⟩
   exact ⟨_, _, _, _, lclr_f hof hst1 (by omega), rfl, hM1, hS3⟩
  ·
   refine s_val hS2 rfl rfl (r_cmp_f rfl rfl (.t rfl rfl) .c (show ¬ (¬ ((e1 : Nat) : Int) = 0) from by omega)) ?_
   refine wpList_nil ?_
   refine x_tn ?_
   refine k_reb [(0, .pointer (some ⟨l, 0, none⟩)), (2, .int .i64 0), (3, .int .i64 (((e1 : Nat) : Int))), (18, .bool false)] ⟨rfl, rfl, rfl, rfl, trivial⟩ fun G9 => ?_
   refine k_f (.t rfl rfl) ?_
   refine wp_skip ?_
   refine x_tn ?_
   refine k_reb [(0, .pointer (some ⟨l, 0, none⟩)), (2, .int .i64 0)] ⟨rfl, rfl, trivial⟩ fun G10 => ?_
   refine wp_seq ?_
   refine k_reg ?_
   refine s_val hS2 rfl rfl (r_move rfl (.t rfl rfl)) ?_
   refine s_val hS2 rfl rfl (r_move rfl (.t rfl rfl)) ?_
   refine s_val hS2 rfl rfl (r_nilCheck rfl (.t rfl rfl)) ?_
   refine s_val hS2 rfl rfl (r_fieldN rfl Try.underlying92 rfl ti3 (by decide) (.t rfl rfl) (qq := 2) rfl) ?_
   refine s_storeB (m := 0) rfl rfl rfl one3 (.t rfl rfl) .c rfl hS2 rfl rfl (c' := #[.pointer (some ⟨d, 0, none⟩), .string s, .int .i64 8, .int .i64 (((z.count : Nat) : Int)), .bool z.off]) rfl (h' := (fl [[(l, .cells #[.pointer (some ⟨d, 0, none⟩), .string s, .int .i64 8, .int .i64 (((z.count : Nat) : Int)), .bool z.off] 92 (0, 0))], (pk d m D1), sm1])) rfl fun w4 hS4 hB3 => ?_
   refine s_val hS4 rfl rfl (r_nilCheck rfl (.t rfl rfl)) ?_
   refine s_val hS4 rfl rfl (r_fieldN rfl Try.underlying92 rfl ti3 (by decide) (.t rfl rfl) (qq := 3) rfl) ?_
   refine s_storeB (m := 0) rfl rfl rfl one3 (.t rfl rfl) .c rfl hS4 rfl rfl (c' := #[.pointer (some ⟨d, 0, none⟩), .string s, .int .i64 8, .int .i64 0, .bool z.off]) rfl (h' := (fl [[(l, .cells #[.pointer (some ⟨d, 0, none⟩), .string s, .int .i64 8, .int .i64 0, .bool z.off] 92 (0, 0))], (pk d m D1), sm1])) rfl fun w5 hS5 hB4 => ?_
   refine wpList_nil ?_
   refine x_tn ?_
   refine k_reb [(2, .int .i64 0)] ⟨rfl, trivial⟩ fun G11 => ?_
   refine wp_seq ?_
   refine k_reg ?_
   refine s_val hS5 rfl rfl (r_assign rfl .c) ?_
   refine wpList_nil ?_
   refine x_tn ?_
   refine wp_ret ?_
   refine k_ret1 Try.results36 rfl rfl ?_
   refine ⟨_, rfl, ?_⟩
   exact ⟨_, _, _, _, lclr_ok hof hst1 (by omega), rfl, hM1, hS5⟩

theorem LSize_ok (w0 : World) (K : List Nat) (l d : Nat) (s : ByteArray) (z : Lg) (hS0 : St w0 K (fl [[(l, .cells #[.pointer (some ⟨d, 0, none⟩), .string s, .int .i64 (z.size : Nat), .int .i64 (z.count : Nat), .bool z.off] LT (0, 0))]]) w0) :
  Calls Try.prog 29 #[.pointer (some ⟨l, 0, none⟩)] w0 (Ret fun v w' => v = .int .i64 (z.size : Nat) ∧ St w0 K (fl [[(l, .cells #[.pointer (some ⟨d, 0, none⟩), .string s, .int .i64 (z.size : Nat), .int .i64 (z.count : Nat), .bool z.off] LT (0, 0))]]) w') := by
 refine k_enter (vs := [.pointer (some ⟨l, 0, none⟩)]) Try.func29 rfl Try.ntmps29 rfl ?_
 have hS : St w0 K (fl [[(l, .cells #[.pointer (some ⟨d, 0, none⟩), .string s, .int .i64 (((z.size : Nat) : Int)), .int .i64 (((z.count : Nat) : Int)), .bool z.off] 92 (0, 0))]]) w0 := hS0
 refine wp_seq ?_
 refine k_reg ?_
 refine s_val hS rfl rfl (r_assign rfl .c) ?_
 refine wpList_nil ?_
 refine x_tn ?_
 refine wp_seq ?_
 refine k_reg ?_
 refine s_val hS rfl rfl (r_move rfl (.t rfl rfl)) ?_
 refine s_val hS rfl rfl (r_nilCheck rfl (.t rfl rfl)) ?_
 refine s_val hS rfl rfl (r_fieldN rfl Try.underlying92 rfl ti3 (by decide) (.t rfl rfl) (qq := 2) rfl) ?_
 refine s_val hS rfl rfl (r_load rfl one3 (.t rfl rfl) (St.cell_own (m := 0) rfl rfl)) ?_
 refine s_val hS rfl rfl (r_assign rfl (.t rfl rfl)) ?_
 refine wpList_nil ?_
 refine x_tn ?_
 refine k_reb [(2, .int .i64 (((z.size : Nat) : Int)))] ⟨rfl, trivial⟩ fun G1 => ?_
 refine wp_ret ?_
 refine k_ret1 Try.results29 rfl rfl ?_
 refine ⟨_, rfl, ?_⟩
 exact ⟨rfl, hS⟩

theorem LCount_ok (w0 : World) (K : List Nat) (l d : Nat) (s : ByteArray) (z : Lg) (hS0 : St w0 K (fl [[(l, .cells #[.pointer (some ⟨d, 0, none⟩), .string s, .int .i64 (z.size : Nat), .int .i64 (z.count : Nat), .bool z.off] LT (0, 0))]]) w0) :
  Calls Try.prog 30 #[.pointer (some ⟨l, 0, none⟩)] w0 (Ret fun v w' => v = .int .i64 (z.count : Nat) ∧ St w0 K (fl [[(l, .cells #[.pointer (some ⟨d, 0, none⟩), .string s, .int .i64 (z.size : Nat), .int .i64 (z.count : Nat), .bool z.off] LT (0, 0))]]) w') := by
 refine k_enter (vs := [.pointer (some ⟨l, 0, none⟩)]) Try.func30 rfl Try.ntmps30 rfl ?_
 have hS : St w0 K (fl [[(l, .cells #[.pointer (some ⟨d, 0, none⟩), .string s, .int .i64 (((z.size : Nat) : Int)), .int .i64 (((z.count : Nat) : Int)), .bool z.off] 92 (0, 0))]]) w0 := hS0
 refine wp_seq ?_
 refine k_reg ?_
 refine s_val hS rfl rfl (r_assign rfl .c) ?_
 refine wpList_nil ?_
 refine x_tn ?_
 refine wp_seq ?_
 refine k_reg ?_
 refine s_val hS rfl rfl (r_move rfl (.t rfl rfl)) ?_
 refine s_val hS rfl rfl (r_nilCheck rfl (.t rfl rfl)) ?_
 refine s_val hS rfl rfl (r_fieldN rfl Try.underlying92 rfl ti3 (by decide) (.t rfl rfl) (qq := 3) rfl) ?_
 refine s_val hS rfl rfl (r_load rfl one3 (.t rfl rfl) (St.cell_own (m := 0) rfl rfl)) ?_
 refine s_val hS rfl rfl (r_assign rfl (.t rfl rfl)) ?_
 refine wpList_nil ?_
 refine x_tn ?_
 refine k_reb [(2, .int .i64 (((z.count : Nat) : Int)))] ⟨rfl, trivial⟩ fun G1 => ?_
 refine wp_ret ?_
 refine k_ret1 Try.results30 rfl rfl ?_
 refine ⟨_, rfl, ?_⟩
 exact ⟨rfl, hS⟩

theorem LName_ok (w0 : World) (K : List Nat) (l d : Nat) (s : ByteArray) (z : Lg) (hS0 : St w0 K (fl [[(l, .cells #[.pointer (some ⟨d, 0, none⟩), .string s, .int .i64 (z.size : Nat), .int .i64 (z.count : Nat), .bool z.off] LT (0, 0))]]) w0) :
  Calls Try.prog 35 #[.pointer (some ⟨l, 0, none⟩)] w0 (Ret fun v w' => v = .string s ∧ St w0 K (fl [[(l, .cells #[.pointer (some ⟨d, 0, none⟩), .string s, .int .i64 (z.size : Nat), .int .i64 (z.count : Nat), .bool z.off] LT (0, 0))]]) w') := by
 refine k_enter (vs := [.pointer (some ⟨l, 0, none⟩)]) Try.func35 rfl Try.ntmps35 rfl ?_
 have hS : St w0 K (fl [[(l, .cells #[.pointer (some ⟨d, 0, none⟩), .string s, .int .i64 (((z.size : Nat) : Int)), .int .i64 (((z.count : Nat) : Int)), .bool z.off] 92 (0, 0))]]) w0 := hS0
 refine wp_seq ?_
 refine k_reg ?_
 refine s_val hS rfl rfl (r_assign rfl .c) ?_
 refine wpList_nil ?_
 refine x_tn ?_
 refine wp_seq ?_
 refine k_reg ?_
 refine s_val hS rfl rfl (r_move rfl (.t rfl rfl)) ?_
 refine s_val hS rfl rfl (r_nilCheck rfl (.t rfl rfl)) ?_
 refine s_val hS rfl rfl (r_fieldN rfl Try.underlying92 rfl ti9 (by decide) (.t rfl rfl) (qq := 1) rfl) ?_
 refine s_val hS rfl rfl (r_load rfl one9 (.t rfl rfl) (St.cell_own (m := 0) rfl rfl)) ?_
 refine s_val hS rfl rfl (r_assign rfl (.t rfl rfl)) ?_
 refine wpList_nil ?_
 refine x_tn ?_
 refine k_reb [(2, .string s)] ⟨rfl, trivial⟩ fun G1 => ?_
 refine wp_ret ?_
 refine k_ret1 Try.results35 rfl rfl ?_
 refine ⟨_, rfl, ?_⟩
 exact ⟨rfl, hS⟩

end Go.Proofs.Ytdmiklegahdafaa

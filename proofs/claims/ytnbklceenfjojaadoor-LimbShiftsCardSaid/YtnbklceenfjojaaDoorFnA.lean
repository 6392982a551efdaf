/- Contracts of functions of the program, each walked once. -/
import Derived.Test.YtnbklceenfjojaaDoorKApp
import Derived.Test.YtnbklceenfjojaaDoorKNum
import Derived.Test.YtnbklceenfjojaaDoorProg
namespace Go.Proofs.YtnbklceenfjojaaDoor
open Go Go.RowKit K
namespace FA
theorem mixed : Tryd.prog.follows .mixedOrders = true := by kernel_rfl
theorem cb27 : callable Tryd.prog 27 = true := by kernel_rfl
theorem cb38 : callable Tryd.prog 38 = true := by kernel_rfl
theorem cb70 : callable Tryd.prog 70 = true := by kernel_rfl
theorem one38 : One Tryd.prog 38 = true := by kernel_rfl
theorem ti38 : (Tryd.prog.info? 38).map (fun i => (i.zero, i.size, i.bytes)) = some (some (.int .u32 0), 1, 4) := by kernel_rfl

end FA
open FA
attribute [local irreducible] Go.wpList Go.wpQuiet Go.wpStill Go.wpAny Go.Code.wp
set_option maxRecDepth 10000
set_option maxHeartbeats 8000000
set_option linter.unusedVariables false
set_option linter.unusedSimpArgs false
theorem normal_ok (w0 : World) (aA : Option Addr) (cA : Nat) (A : List Nat) (hA : Rd w0 .u32 aA cA A) (hlA : A.length ≤ 1000000) :
    Calls Tryd.prog 28 #[.slice aA A.length cA] w0 (Ret fun v w' => ((tlen A A.length ≤ 8192 ∧ v = .tuple #[.slice aA (tlen A A.length) (tlen A A.length), .int .i64 0]) ∨ (8192 < tlen A A.length ∧ v = .tuple #[.slice none 0 0, .int .i64 21])) ∧ St w0 [] [] w') := by
  refine k_enter (vs := [.slice aA A.length cA]) Tryd.func28 rfl Tryd.ntmps28 rfl ?_
  have hS := St.init w0
  have hle := tlen_le A A.length
  have hcp := hA.le
  refine wp_seq ?_
  refine k_reg ?_
  refine s_val hS rfl rfl (r_assign rfl .c) ?_
  refine s_val hS rfl rfl (r_assign rfl .c) ?_
  refine wpList_nil ?_
  refine x_tn ?_
  refine wp_seq ?_
  refine k_reg ?_
  refine s_val hS rfl rfl (r_move rfl (.t rfl rfl)) ?_
  refine s_val hS rfl rfl (r_len rfl rfl Tryd.underlying26 (.t rfl rfl)) ?_
  refine s_val hS rfl rfl (r_assign rfl (.t rfl rfl)) ?_
  refine wpList_nil ?_
  refine x_tn ?_
  refine k_reb [(0, .slice aA A.length cA), (2, .slice none 0 0), (3, .int .i64 0), (4, .int .i64 (((A.length : Nat) : Int)))] ⟨rfl, rfl, rfl, rfl, trivial⟩ fun G1 => ?_
  refine wp_seq ?_
  refine wp_block ?_
  refine wp_loop_ghost (fun (m1 : Nat) a w => ∃ (G : Nat → Value) (k : Nat), a = fr 25 [(0, .slice aA A.length cA), (2, .slice none 0 0), (3, .int .i64 0), (4, .int .i64 (((k : Nat) : Int)))] G ∧ St w0 [] [] w ∧ (m1 = k ∧ k ≤ A.length ∧ tlen A k = tlen A A.length)) (A.length) ⟨_, A.length, fr_reb _ ⟨rfl, rfl, rfl, rfl, trivial⟩, hS, ?_⟩ ?_
  · exact ⟨rfl, Nat.le_refl _, rfl⟩
  · intro m1 _ w1 hI1
    obtain ⟨G2, k, rfl, hS1, ⟨hmk, hk, ht⟩⟩ := hI1
    refine wp_seq ?_
    refine wp_seq ?_
    refine k_reg ?_
    refine s_val hS1 rfl rfl (r_move rfl (.t rfl rfl)) ?_
    by_cases c1 : k > 0
    · refine s_val hS1 rfl rfl (r_cmp_t rfl rfl (.t rfl rfl) .c (show ((k : Nat) : Int) > 0 from by omega)) ?_
      refine s_val hS1 rfl rfl (r_move rfl (.t rfl rfl)) ?_
      refine s_valg hS1 (wanted_of (j := 2) (b := true) (d := 9) rfl rfl rfl rfl) rfl (r_move rfl (.t rfl rfl)) ?_
      refine s_valg hS1 (wanted_of (j := 2) (b := true) (d := 9) rfl rfl rfl rfl) rfl (r_move rfl (.t rfl rfl)) ?_
      refine s_valg hS1 (wanted_of (j := 2) (b := true) (d := 9) rfl rfl rfl rfl) rfl (r_arith rfl rfl (.t rfl rfl) .c (c := ((k - 1 : Nat) : Int)) (wn_i64 (by show (((k : Nat) : Int) : Int) - 1 = _; omega) (by omega))) ?_
      refine s_valg hS1 (wanted_of (j := 2) (b := true) (d := 9) rfl rfl rfl rfl) rfl (r_ixr (j := k - 1) rfl Tryd.underlying26 ti38 (.t rfl rfl) (.t rfl rfl) hA rfl rfl (by omega)) ?_
      have b1 : A.getD (k - 1) 0 ≤ 4294967295 := hA.lt _
      refine s_valg hS1 (wanted_of (j := 2) (b := true) (d := 9) rfl rfl rfl rfl) rfl (r_load rfl one38 (.t rfl rfl) (St.cell_rd hA (by omega) (by simp))) ?_
      by_cases c2 : A.getD (k - 1) 0 = 0
      · refine s_valg hS1 (wanted_of (j := 2) (b := true) (d := 9) rfl rfl rfl rfl) rfl (r_cmp_t rfl rfl (.t rfl rfl) .c (show ((A.getD (k - 1) 0 : Nat) : Int) = 0 from by omega)) ?_
        refine s_val hS1 rfl rfl (r_pick rfl (.t rfl rfl) (.t rfl rfl)) ?_
        refine wpList_nil ?_
        refine x_tn ?_
        refine k_reb [(0, .slice aA A.length cA), (2, .slice none 0 0), (3, .int .i64 0), (4, .int .i64 (((k : Nat) : Int))), (16, .bool true)] ⟨rfl, rfl, rfl, rfl, rfl, trivial⟩ fun G3 => ?_
        refine k_t (.t rfl rfl) ?_
        refine wp_skip ?_
        refine x_tn ?_
        refine k_reb [(0, .slice aA A.length cA), (2, .slice none 0 0), (3, .int .i64 0), (4, .int .i64 (((k : Nat) : Int)))] ⟨rfl, rfl, rfl, rfl, trivial⟩ fun G4 => ?_
        refine wp_block ?_
        refine k_reg ?_
        refine s_val hS1 rfl rfl (r_move rfl (.t rfl rfl)) ?_
        refine s_val hS1 rfl rfl (r_arith rfl rfl (.t rfl rfl) .c (c := ((k - 1 : Nat) : Int)) (wn_i64 (by show (((k : Nat) : Int) : Int) - 1 = _; omega) (by omega))) ?_
        refine s_val hS1 rfl rfl (r_assign rfl (.t rfl rfl)) ?_
        refine wpList_nil ?_
        refine x_bn ?_
        refine x_tn ?_
        refine ⟨k - 1, by omega, _, k - 1, fr_reb _ ⟨rfl, rfl, rfl, rfl, trivial⟩, hS1, ?_⟩
        exact ⟨rfl, by omega, (tlen_zero c1 c2).symm.trans ht⟩
      · refine s_valg hS1 (wanted_of (j := 2) (b := true) (d := 9) rfl rfl rfl rfl) rfl (r_cmp_f rfl rfl (.t rfl rfl) .c (show ¬ (((A.getD (k - 1) 0 : Nat) : Int) = 0) from by omega)) ?_
        refine s_val hS1 rfl rfl (r_pick rfl (.t rfl rfl) (.t rfl rfl)) ?_
        refine wpList_nil ?_
        refine x_tn ?_
        refine k_reb [(0, .slice aA A.length cA), (2, .slice none 0 0), (3, .int .i64 0), (4, .int .i64 (((k : Nat) : Int))), (16, .bool false)] ⟨rfl, rfl, rfl, rfl, rfl, trivial⟩ fun G5 => ?_
        refine k_f (.t rfl rfl) ?_
        refine wp_exit ?_
        refine x_te ?_
        refine x_te ?_
        refine x_be ?_
        refine x_tn ?_
        refine k_reb [(0, .slice aA A.length cA), (2, .slice none 0 0), (3, .int .i64 0), (4, .int .i64 (((k : Nat) : Int)))] ⟨rfl, rfl, rfl, rfl, trivial⟩ fun G6 => ?_
        refine wp_seq ?_
        refine wp_seq ?_
        refine k_reg ?_
        refine s_val hS1 rfl rfl (r_move rfl (.t rfl rfl)) ?_
        have hkt : k = tlen A A.length := by first | exact (tlen_pos c1 c2).symm.trans ht | (have hk0 : k = 0 := (by omega); subst hk0; exact ht)
        by_cases c3 : k > 8192
        · refine s_val hS1 rfl rfl (r_cmp_t rfl rfl (.t rfl rfl) .c (show ((k : Nat) : Int) > 8192 from by omega)) ?_
          refine wpList_nil ?_
          refine x_tn ?_
          refine k_reb [(0, .slice aA A.length cA), (2, .slice none 0 0), (3, .int .i64 0), (4, .int .i64 (((k : Nat) : Int))), (20, .bool true)] ⟨rfl, rfl, rfl, rfl, rfl, trivial⟩ fun G7 => ?_
          refine k_t (.t rfl rfl) ?_
          refine wp_seq ?_
          refine k_reg ?_
          refine s_val hS1 rfl rfl (r_assign rfl .c) ?_
          refine s_val hS1 rfl rfl (r_assign rfl .c) ?_
          refine wpList_nil ?_
          refine x_tn ?_
          refine k_reb [(0, .slice aA A.length cA), (2, .slice none 0 0), (3, .int .i64 21), (4, .int .i64 (((k : Nat) : Int)))] ⟨rfl, rfl, rfl, rfl, trivial⟩ fun G8 => ?_
          refine wp_ret ?_
          refine x_tr ?_
          refine k_ret2 Tryd.results28 rfl rfl rfl rfl ?_
          refine ⟨_, rfl, ?_⟩
          exact ⟨.inr ⟨by omega, rfl⟩, hS1⟩
        · refine s_val hS1 rfl rfl (r_cmp_f rfl rfl (.t rfl rfl) .c (show ¬ (((k : Nat) : Int) > 8192) from by omega)) ?_
          refine wpList_nil ?_
          refine x_tn ?_
          refine k_reb [(0, .slice aA A.length cA), (2, .slice none 0 0), (3, .int .i64 0), (4, .int .i64 (((k : Nat) : Int))), (20, .bool false)] ⟨rfl, rfl, rfl, rfl, rfl, trivial⟩ fun G9 => ?_
          refine k_f (.t rfl rfl) ?_
          refine wp_skip ?_
          refine x_tn ?_
          refine k_reb [(0, .slice aA A.length cA), (2, .slice none 0 0), (3, .int .i64 0), (4, .int .i64 (((k : Nat) : Int)))] ⟨rfl, rfl, rfl, rfl, trivial⟩ fun G10 => ?_
          refine wp_seq ?_
          refine k_reg ?_
          refine s_val hS1 rfl rfl (r_move rfl (.t rfl rfl)) ?_
          refine s_val hS1 rfl rfl (r_move rfl (.t rfl rfl)) ?_
          refine s_val hS1 rfl rfl (r_move rfl (.t rfl rfl)) ?_
          refine s_val hS1 rfl rfl (r_cut0 rfl Tryd.underlying26 ti38 (.t rfl rfl) (.s (.t rfl rfl)) (.s (.t rfl rfl)) (hh := k) (m := k) (by omega) (by omega)) ?_
          refine s_val hS1 rfl rfl (r_assign rfl (.t rfl rfl)) ?_
          refine s_val hS1 rfl rfl (r_assign rfl .c) ?_
          refine wpList_nil ?_
          refine x_tn ?_
          refine k_reb [(2, .slice aA k k), (3, .int .i64 0)] ⟨rfl, rfl, trivial⟩ fun G11 => ?_
          refine wp_ret ?_
          refine k_ret2 Tryd.results28 rfl rfl rfl rfl ?_
          refine ⟨_, rfl, ?_⟩
          exact ⟨.inl ⟨by omega, by rw [← hkt]⟩, hS1⟩
    · refine s_val hS1 rfl rfl (r_cmp_f rfl rfl (.t rfl rfl) .c (show ¬ (((k : Nat) : Int) > 0) from by omega)) ?_
      refine s_val hS1 rfl rfl (r_move rfl (.t rfl rfl)) ?_
      refine s_skip (unwanted_of (j := 2) (b := true) (b' := false) (d := 9) rfl rfl rfl rfl rfl) rfl ?_
      refine s_skip (unwanted_of (j := 2) (b := true) (b' := false) (d := 9) rfl rfl rfl rfl rfl) rfl ?_
      refine s_skip (unwanted_of (j := 2) (b := true) (b' := false) (d := 9) rfl rfl rfl rfl rfl) rfl ?_
      refine s_skip (unwanted_of (j := 2) (b := true) (b' := false) (d := 9) rfl rfl rfl rfl rfl) rfl ?_
      refine s_skip (unwanted_of (j := 2) (b := true) (b' := false) (d := 9) rfl rfl rfl rfl rfl) rfl ?_
      refine s_skip (unwanted_of (j := 2) (b := true) (b' := false) (d := 9) rfl rfl rfl rfl rfl) rfl ?_
      refine s_val hS1 rfl rfl (r_pick rfl (.t rfl rfl) .c) ?_
      refine wpList_nil ?_
      refine x_tn ?_
      refine k_reb [(0, .slice aA A.length cA), (2, .slice none 0 0), (3, .int .i64 0), (4, .int .i64 (((k : Nat) : Int))), (16, .bool false)] ⟨rfl, rfl, rfl, rfl, rfl, trivial⟩ fun G12 => ?_
      refine k_f (.t rfl rfl) ?_
      refine wp_exit ?_
      refine x_te ?_
      refine x_te ?_
      refine x_be ?_
      refine x_tn ?_
      refine k_reb [(0, .slice aA A.length cA), (2, .slice none 0 0), (3, .int .i64 0), (4, .int .i64 (((k : Nat) : Int)))] ⟨rfl, rfl, rfl, rfl, trivial⟩ fun G13 => ?_
      refine wp_seq ?_
      refine wp_seq ?_
      refine k_reg ?_
      refine s_val hS1 rfl rfl (r_move rfl (.t rfl rfl)) ?_
      have hkt : k = tlen A A.length := by first | exact (tlen_pos c1 c2).symm.trans ht | (have hk0 : k = 0 := (by omega); subst hk0; exact ht)
      by_cases c4 : k > 8192
      · refine s_val hS1 rfl rfl (r_cmp_t rfl rfl (.t rfl rfl) .c (show ((k : Nat) : Int) > 8192 from by omega)) ?_
        refine wpList_nil ?_
        refine x_tn ?_
        refine k_reb [(0, .slice aA A.length cA), (2, .slice none 0 0), (3, .int .i64 0), (4, .int .i64 (((k : Nat) : Int))), (20, .bool true)] ⟨rfl, rfl, rfl, rfl, rfl, trivial⟩ fun G14 => ?_
        refine k_t (.t rfl rfl) ?_
        refine wp_seq ?_
        refine k_reg ?_
        refine s_val hS1 rfl rfl (r_assign rfl .c) ?_
        refine s_val hS1 rfl rfl (r_assign rfl .c) ?_
        refine wpList_nil ?_
        refine x_tn ?_
        refine k_reb [(0, .slice aA A.length cA), (2, .slice none 0 0), (3, .int .i64 21), (4, .int .i64 (((k : Nat) : Int)))] ⟨rfl, rfl, rfl, rfl, trivial⟩ fun G15 => ?_
        refine wp_ret ?_
        refine x_tr ?_
        refine k_ret2 Tryd.results28 rfl rfl rfl rfl ?_
        refine ⟨_, rfl, ?_⟩
        exact ⟨.inr ⟨by omega, rfl⟩, hS1⟩
      · refine s_val hS1 rfl rfl (r_cmp_f rfl rfl (.t rfl rfl) .c (show ¬ (((k : Nat) : Int) > 8192) from by omega)) ?_
        refine wpList_nil ?_
        refine x_tn ?_
        refine k_reb [(0, .slice aA A.length cA), (2, .slice none 0 0), (3, .int .i64 0), (4, .int .i64 (((k : Nat) : Int))), (20, .bool false)] ⟨rfl, rfl, rfl, rfl, rfl, trivial⟩ fun G16 => ?_
        refine k_f (.t rfl rfl) ?_
        refine wp_skip ?_
        refine x_tn ?_
        refine k_reb [(0, .slice aA A.length cA), (2, .slice none 0 0), (3, .int .i64 0), (4, .int .i64 (((k : Nat) : Int)))] ⟨rfl, rfl, rfl, rfl, trivial⟩ fun G17 => ?_
        refine wp_seq ?_
        refine k_reg ?_
        refine s_val hS1 rfl rfl (r_move rfl (.t rfl rfl)) ?_
        refine s_val hS1 rfl rfl (r_move rfl (.t rfl rfl)) ?_
        refine s_val hS1 rfl rfl (r_move rfl (.t rfl rfl)) ?_
        refine s_val hS1 rfl rfl (r_cut0 rfl Tryd.underlying26 ti38 (.t rfl rfl) (.s (.t rfl rfl)) (.s (.t rfl rfl)) (hh := k) (m := k) (by omega) (by omega)) ?_
        refine s_val hS1 rfl rfl (r_assign rfl (.t rfl rfl)) ?_
        refine s_val hS1 rfl rfl (r_assign rfl .c) ?_
        refine wpList_nil ?_
        refine x_tn ?_
        refine k_reb [(2, .slice aA k k), (3, .int .i64 0)] ⟨rfl, rfl, trivial⟩ fun G18 => ?_
        refine wp_ret ?_
        refine k_ret2 Tryd.results28 rfl rfl rfl rfl ?_
        refine ⟨_, rfl, ?_⟩
        exact ⟨.inl ⟨by omega, by rw [← hkt]⟩, hS1⟩

theorem check_ok (w0 : World) (aA : Option Addr) (cA : Nat) (A : List Nat) (hA : Rd w0 .u32 aA cA A) :
    Calls Tryd.prog 27 #[.slice aA A.length cA] w0 (Ret fun v w' => v = .int .i64 ((chk A : Nat) : Int) ∧ St w0 [] [] w') := by
  refine k_enter (vs := [.slice aA A.length cA]) Tryd.func27 rfl Tryd.ntmps27 rfl ?_
  have hS := St.init w0
  have hcp := hA.le
  have hmo := hA.most
  refine wp_seq ?_
  refine k_reg ?_
  refine s_val hS rfl rfl (r_assign rfl .c) ?_
  refine wpList_nil ?_
  refine x_tn ?_
  refine wp_seq ?_
  refine wp_seq ?_
  refine k_reg ?_
  refine s_val hS rfl rfl (r_move rfl (.t rfl rfl)) ?_
  refine s_val hS rfl rfl (r_len rfl rfl Tryd.underlying27 (.t rfl rfl)) ?_
  refine s_val hS rfl rfl (r_assign rfl (.t rfl rfl)) ?_
  refine wpList_nil ?_
  refine x_tn ?_
  refine k_reb [(0, .slice aA A.length cA), (2, .int .i64 0), (3, .int .i64 (((A.length : Nat) : Int)))] ⟨rfl, rfl, rfl, trivial⟩ fun G1 => ?_
  refine wp_block ?_
  refine wp_seq ?_
  refine k_reg ?_
  refine s_val hS rfl rfl (r_move rfl (.t rfl rfl)) ?_
  by_cases c1 : A.length > 8192
  · refine s_val hS rfl rfl (r_cmp_t rfl rfl (.t rfl rfl) .c (show ((A.length : Nat) : Int) > 8192 from by omega)) ?_
    refine s_val hS rfl rfl (r_assign rfl (.t rfl rfl)) ?_
    refine wpList_nil ?_
    refine x_tn ?_
    refine k_reb [(0, .slice aA A.length cA), (2, .int .i64 0), (3, .int .i64 (((A.length : Nat) : Int))), (6, .bool true)] ⟨rfl, rfl, rfl, rfl, trivial⟩ fun G2 => ?_
    refine k_t (.t rfl rfl) ?_
    refine wp_seq ?_
    refine k_reg ?_
    refine s_val hS rfl rfl (r_assign rfl .c) ?_
    refine wpList_nil ?_
    refine x_tn ?_
    refine k_reb [(2, .int .i64 21)] ⟨rfl, trivial⟩ fun G3 => ?_
    refine wp_ret ?_
    refine x_br ?_
    refine x_tr ?_
    refine k_ret1 Tryd.results27 rfl rfl ?_
    refine ⟨_, rfl, ?_⟩
    exact ⟨by rw [chk_21 c1]; rfl, hS⟩
  · refine s_val hS rfl rfl (r_cmp_f rfl rfl (.t rfl rfl) .c (show ¬ (((A.length : Nat) : Int) > 8192) from by omega)) ?_
    refine s_val hS rfl rfl (r_assign rfl (.t rfl rfl)) ?_
    refine wpList_nil ?_
    refine x_tn ?_
    refine k_reb [(0, .slice aA A.length cA), (2, .int .i64 0), (3, .int .i64 (((A.length : Nat) : Int))), (6, .bool false)] ⟨rfl, rfl, rfl, rfl, trivial⟩ fun G4 => ?_
    refine k_f (.t rfl rfl) ?_
    refine wp_seq ?_
    refine k_reg ?_
    refine s_val hS rfl rfl (r_move rfl (.t rfl rfl)) ?_
    by_cases c2 : A.length > 0
    · refine s_val hS rfl rfl (r_cmp_t rfl rfl (.t rfl rfl) .c (show ((A.length : Nat) : Int) > 0 from by omega)) ?_
      refine s_val hS rfl rfl (r_move rfl (.t rfl rfl)) ?_
      refine s_valg hS (wanted_of (j := 2) (b := true) (d := 12) rfl rfl rfl rfl) rfl (r_move rfl (.t rfl rfl)) ?_
      refine s_valg hS (wanted_of (j := 2) (b := true) (d := 12) rfl rfl rfl rfl) rfl (r_move rfl (.t rfl rfl)) ?_
      refine s_valg hS (wanted_of (j := 2) (b := true) (d := 12) rfl rfl rfl rfl) rfl (r_arith rfl rfl (.t rfl rfl) .c (c := ((A.length - 1 : Nat) : Int)) (wn_i64 (by show (((A.length : Nat) : Int) : Int) - 1 = _; omega) (by omega))) ?_
      refine s_valg hS (wanted_of (j := 2) (b := true) (d := 12) rfl rfl rfl rfl) rfl (r_ixr (j := A.length - 1) rfl Tryd.underlying27 ti38 (.t rfl rfl) (.t rfl rfl) hA rfl rfl (by omega)) ?_
      have b1 : A.getD (A.length - 1) 0 ≤ 4294967295 := hA.lt _
      refine s_valg hS (wanted_of (j := 2) (b := true) (d := 12) rfl rfl rfl rfl) rfl (r_load rfl one38 (.t rfl rfl) (St.cell_rd hA (by omega) (by simp))) ?_
      by_cases c3 : A.getD (A.length - 1) 0 = 0
      · refine s_valg hS (wanted_of (j := 2) (b := true) (d := 12) rfl rfl rfl rfl) rfl (r_cmp_t rfl rfl (.t rfl rfl) .c (show ((A.getD (A.length - 1) 0 : Nat) : Int) = 0 from by omega)) ?_
        refine s_val hS rfl rfl (r_pick rfl (.t rfl rfl) (.t rfl rfl)) ?_
        refine s_val hS rfl rfl (r_assign rfl (.t rfl rfl)) ?_
        refine wpList_nil ?_
        refine x_tn ?_
        refine k_reb [(2, .int .i64 0), (9, .bool true)] ⟨rfl, rfl, trivial⟩ fun G5 => ?_
        refine k_t (.t rfl rfl) ?_
        refine wp_seq ?_
        refine k_reg ?_
        refine s_val hS rfl rfl (r_assign rfl .c) ?_
        refine wpList_nil ?_
        refine x_tn ?_
        refine k_reb [(2, .int .i64 20)] ⟨rfl, trivial⟩ fun G6 => ?_
        refine wp_ret ?_
        refine x_br ?_
        refine x_tr ?_
        refine k_ret1 Tryd.results27 rfl rfl ?_
        refine ⟨_, rfl, ?_⟩
        exact ⟨by rw [chk_20 c1 c2 c3]; rfl, hS⟩
      · refine s_valg hS (wanted_of (j := 2) (b := true) (d := 12) rfl rfl rfl rfl) rfl (r_cmp_f rfl rfl (.t rfl rfl) .c (show ¬ (((A.getD (A.length - 1) 0 : Nat) : Int) = 0) from by omega)) ?_
        refine s_val hS rfl rfl (r_pick rfl (.t rfl rfl) (.t rfl rfl)) ?_
        refine s_val hS rfl rfl (r_assign rfl (.t rfl rfl)) ?_
        refine wpList_nil ?_
        refine x_tn ?_
        refine k_reb [(2, .int .i64 0), (9, .bool false)] ⟨rfl, rfl, trivial⟩ fun G7 => ?_
        refine k_f (.t rfl rfl) ?_
        refine wp_skip ?_
        refine x_bn ?_
        refine x_tn ?_
        refine k_reb [(2, .int .i64 0)] ⟨rfl, trivial⟩ fun G8 => ?_
        refine wp_seq ?_
        refine k_reg ?_
        refine s_val hS rfl rfl (r_assign rfl .c) ?_
        refine wpList_nil ?_
        refine x_tn ?_
        refine wp_ret ?_
        refine k_ret1 Tryd.results27 rfl rfl ?_
        refine ⟨_, rfl, ?_⟩
        exact ⟨by rw [chk_0 c1 (fun h => c3 h.2)]; rfl, hS⟩
    · refine s_val hS rfl rfl (r_cmp_f rfl rfl (.t rfl rfl) .c (show ¬ (((A.length : Nat) : Int) > 0) from by omega)) ?_
      refine s_val hS rfl rfl (r_move rfl (.t rfl rfl)) ?_
      refine s_skip (unwanted_of (j := 2) (b := true) (b' := false) (d := 12) rfl rfl rfl rfl rfl) rfl ?_
      refine s_skip (unwanted_of (j := 2) (b := true) (b' := false) (d := 12) rfl rfl rfl rfl rfl) rfl ?_
      refine s_skip (unwanted_of (j := 2) (b := true) (b' := false) (d := 12) rfl rfl rfl rfl rfl) rfl ?_
      refine s_skip (unwanted_of (j := 2) (b := true) (b' := false) (d := 12) rfl rfl rfl rfl rfl) rfl ?_
      refine s_skip (unwanted_of (j := 2) (b := true) (b' := false) (d := 12) rfl rfl rfl rfl rfl) rfl ?_
      refine s_skip (unwanted_of (j := 2) (b := true) (b' := false) (d := 12) rfl rfl rfl rfl rfl) rfl ?_
      refine s_val hS rfl rfl (r_pick rfl (.t rfl rfl) .c) ?_
      refine s_val hS rfl rfl (r_assign rfl (.t rfl rfl)) ?_
      refine wpList_nil ?_
      refine x_tn ?_
      refine k_reb [(2, .int .i64 0), (9, .bool false)] ⟨rfl, rfl, trivial⟩ fun G9 => ?_
      refine k_f (.t rfl rfl) ?_
      refine wp_skip ?_
      refine x_bn ?_
      refine x_tn ?_
      refine k_reb [(2, .int .i64 0)] ⟨rfl, trivial⟩ fun G10 => ?_
      refine wp_seq ?_
      refine k_reg ?_
      refine s_val hS rfl rfl (r_assign rfl .c) ?_
      refine wpList_nil ?_
      refine x_tn ?_
      refine wp_ret ?_
      refine k_ret1 Tryd.results27 rfl rfl ?_
      refine ⟨_, rfl, ?_⟩
      exact ⟨by rw [chk_0 c1 (fun h => c2 h.1)]; rfl, hS⟩

theorem both_ok (w0 : World) (aA : Option Addr) (cA : Nat) (A : List Nat) (hA : Rd w0 .u32 aA cA A) (aB : Option Addr) (cB : Nat) (B : List Nat) (hB : Rd w0 .u32 aB cB B) :
    Calls Tryd.prog 40 #[.slice aA A.length cA, .slice aB B.length cB] w0 (Ret fun v w' => v = .int .i64 ((chk2 A B : Nat) : Int) ∧ St w0 [] [] w') := by
  refine k_enter (vs := [.slice aA A.length cA, .slice aB B.length cB]) Tryd.func40 rfl Tryd.ntmps40 rfl ?_
  have hS := St.init w0
  have bA := chk_cases A
  have bB := chk_cases B
  refine wp_seq ?_
  refine k_reg ?_
  refine s_val hS rfl rfl (r_assign rfl .c) ?_
  refine wpList_nil ?_
  refine x_tn ?_
  refine wp_seq ?_
  refine wp_seq ?_
  refine k_reg ?_
  refine s_val hS rfl rfl (r_move rfl (.t rfl rfl)) ?_
  refine s_call rfl rfl rfl (vs := [.slice aA A.length cA]) ⟨(.t rfl rfl), trivial⟩ cb27 (check_ok w0 aA cA A hA) ?_
  intro v1 w1 hp1
  obtain ⟨hp1, hB1⟩ := hp1
  have hS1 := hS.keep hB1
  replace hB1 := hB1.toBelow
  obtain rfl := hp1
  refine s_val hS1 rfl rfl (r_assign rfl (.t rfl rfl)) ?_
  refine wpList_nil ?_
  refine x_tn ?_
  refine k_reb [(1, .slice aB B.length cB), (4, .int .i64 0), (5, .int .i64 (((chk A : Nat) : Int)))] ⟨rfl, rfl, rfl, trivial⟩ fun G1 => ?_
  refine wp_seq ?_
  refine k_reg ?_
  refine s_val hS1 rfl rfl (r_move rfl (.t rfl rfl)) ?_
  by_cases c1 : chk A ≠ 0
  · refine s_val hS1 rfl rfl (r_cmp_t rfl rfl (.t rfl rfl) .c (show ¬ ((chk A : Nat) : Int) = 0 from by omega)) ?_
    refine wpList_nil ?_
    refine x_tn ?_
    refine k_reb [(1, .slice aB B.length cB), (4, .int .i64 0), (5, .int .i64 (((chk A : Nat) : Int))), (9, .bool true)] ⟨rfl, rfl, rfl, rfl, trivial⟩ fun G2 => ?_
    refine k_t (.t rfl rfl) ?_
    refine wp_seq ?_
    refine k_reg ?_
    refine s_val hS1 rfl rfl (r_move rfl (.t rfl rfl)) ?_
    refine s_val hS1 rfl rfl (r_assign rfl (.t rfl rfl)) ?_
    refine wpList_nil ?_
    refine x_tn ?_
    refine k_reb [(1, .slice aB B.length cB), (4, .int .i64 (((chk A : Nat) : Int)))] ⟨rfl, rfl, trivial⟩ fun G3 => ?_
    refine wp_ret ?_
    refine x_tr ?_
    refine k_ret1 Tryd.results40 rfl rfl ?_
    refine ⟨_, rfl, ?_⟩
    exact ⟨by unfold chk2; rw [if_pos c1], hS1⟩
  · refine s_val hS1 rfl rfl (r_cmp_f rfl rfl (.t rfl rfl) .c (show ¬ (¬ ((chk A : Nat) : Int) = 0) from by omega)) ?_
    refine wpList_nil ?_
    refine x_tn ?_
    refine k_reb [(1, .slice aB B.length cB), (4, .int .i64 0), (5, .int .i64 (((chk A : Nat) : Int))), (9, .bool false)] ⟨rfl, rfl, rfl, rfl, trivial⟩ fun G4 => ?_
    refine k_f (.t rfl rfl) ?_
    refine wp_skip ?_
    refine x_tn ?_
    refine k_reb [(1, .slice aB B.length cB), (4, .int .i64 0)] ⟨rfl, rfl, trivial⟩ fun G5 => ?_
    refine wp_seq ?_
    refine k_reg ?_
    refine s_val hS1 rfl rfl (r_move rfl (.t rfl rfl)) ?_
    refine s_call rfl rfl rfl (vs := [.slice aB B.length cB]) ⟨(.t rfl rfl), trivial⟩ cb27 (check_ok w1 aB cB B (rd_st hS1 hB (by simp))) ?_
    intro v2 w2 hp2
    obtain ⟨hp2, hB2⟩ := hp2
    have hS2 := hS1.keep hB2
    replace hB2 := hB2.toBelow
    obtain rfl := hp2
    refine s_val hS2 rfl rfl (r_assign rfl (.t rfl rfl)) ?_
    refine wpList_nil ?_
    refine x_tn ?_
    refine k_reb [(4, .int .i64 (((chk B : Nat) : Int)))] ⟨rfl, trivial⟩ fun G6 => ?_
    refine wp_ret ?_
    refine k_ret1 Tryd.results40 rfl rfl ?_
    refine ⟨_, rfl, ?_⟩
    exact ⟨by unfold chk2; rw [if_neg c1], hS2⟩

theorem cmp_ok (w0 : World) (aA : Option Addr) (cA : Nat) (A : List Nat) (hA : Rd w0 .u32 aA cA A) (aB : Option Addr) (cB : Nat) (B : List Nat) (hB : Rd w0 .u32 aB cB B) (nA : Nz A) (nB : Nz B) :
    Calls Tryd.prog 71 #[.slice aA A.length cA, .slice aB B.length cB] w0 (Ret fun v w' => ((lv A < lv B ∧ v = .int .i64 (-1)) ∨ (lv A = lv B ∧ v = .int .i64 0) ∨ (lv B < lv A ∧ v = .int .i64 1)) ∧ St w0 [] [] w') := by
  refine k_enter (vs := [.slice aA A.length cA, .slice aB B.length cB]) Tryd.func71 rfl Tryd.ntmps71 rfl ?_
  have hS := St.init w0
  have hmA := hA.most
  have hmB := hB.most
  have lA := hA.le
  have lB := hB.le
  refine wp_seq ?_
  refine k_reg ?_
  refine s_val hS rfl rfl (r_assign rfl .c) ?_
  refine wpList_nil ?_
  refine x_tn ?_
  refine wp_seq ?_
  refine wp_block ?_
  refine wp_seq ?_
  refine k_reg ?_
  refine s_val hS rfl rfl (r_move rfl (.t rfl rfl)) ?_
  refine s_val hS rfl rfl (r_len rfl rfl Tryd.underlying26 (.t rfl rfl)) ?_
  refine s_val hS rfl rfl (r_move rfl (.t rfl rfl)) ?_
  refine s_val hS rfl rfl (r_len rfl rfl Tryd.underlying26 (.t rfl rfl)) ?_
  by_cases c1 : A.length < B.length
  · refine s_val hS rfl rfl (r_cmp_t rfl rfl (.t rfl rfl) (.t rfl rfl) (show ((A.length : Nat) : Int) < ((B.length : Nat) : Int) from by omega)) ?_
    refine s_val hS rfl rfl (r_assign rfl (.t rfl rfl)) ?_
    refine wpList_nil ?_
    refine x_tn ?_
    refine k_reb [(0, .slice aA A.length cA), (1, .slice aB B.length cB), (4, .int .i64 0), (6, .bool true)] ⟨rfl, rfl, rfl, rfl, trivial⟩ fun G1 => ?_
    refine k_t (.t rfl rfl) ?_
    refine wp_seq ?_
    refine k_reg ?_
    refine s_val hS rfl rfl (r_assign rfl .c) ?_
    refine wpList_nil ?_
    refine x_tn ?_
    refine k_reb [(0, .slice aA A.length cA), (1, .slice aB B.length cB), (4, .int .i64 ((-1)))] ⟨rfl, rfl, rfl, trivial⟩ fun G2 => ?_
    refine wp_ret ?_
    refine x_br ?_
    refine x_tr ?_
    refine k_ret1 Tryd.results71 rfl rfl ?_
    refine ⟨_, rfl, ?_⟩
    exact ⟨.inl ⟨lv_lt_of_len hA.fit nB c1, rfl⟩, hS⟩
  · refine s_val hS rfl rfl (r_cmp_f rfl rfl (.t rfl rfl) (.t rfl rfl) (show ¬ (((A.length : Nat) : Int) < ((B.length : Nat) : Int)) from by omega)) ?_
    refine s_val hS rfl rfl (r_assign rfl (.t rfl rfl)) ?_
    refine wpList_nil ?_
    refine x_tn ?_
    refine k_reb [(0, .slice aA A.length cA), (1, .slice aB B.length cB), (4, .int .i64 0), (6, .bool false)] ⟨rfl, rfl, rfl, rfl, trivial⟩ fun G3 => ?_
    refine k_f (.t rfl rfl) ?_
    refine wp_seq ?_
    refine k_reg ?_
    refine s_val hS rfl rfl (r_move rfl (.t rfl rfl)) ?_
    refine s_val hS rfl rfl (r_len rfl rfl Tryd.underlying26 (.t rfl rfl)) ?_
    refine s_val hS rfl rfl (r_move rfl (.t rfl rfl)) ?_
    refine s_val hS rfl rfl (r_len rfl rfl Tryd.underlying26 (.t rfl rfl)) ?_
    by_cases c2 : A.length > B.length
    · refine s_val hS rfl rfl (r_cmp_t rfl rfl (.t rfl rfl) (.t rfl rfl) (show ((A.length : Nat) : Int) > ((B.length : Nat) : Int) from by omega)) ?_
      refine s_val hS rfl rfl (r_assign rfl (.t rfl rfl)) ?_
      refine wpList_nil ?_
      refine x_tn ?_
      refine k_reb [(0, .slice aA A.length cA), (1, .slice aB B.length cB), (4, .int .i64 0), (12, .bool true)] ⟨rfl, rfl, rfl, rfl, trivial⟩ fun G4 => ?_
      refine k_t (.t rfl rfl) ?_
      refine wp_seq ?_
      refine k_reg ?_
      refine s_val hS rfl rfl (r_assign rfl .c) ?_
      refine wpList_nil ?_
      refine x_tn ?_
      refine k_reb [(0, .slice aA A.length cA), (1, .slice aB B.length cB), (4, .int .i64 1)] ⟨rfl, rfl, rfl, trivial⟩ fun G5 => ?_
      refine wp_ret ?_
      refine x_br ?_
      refine x_tr ?_
      refine k_ret1 Tryd.results71 rfl rfl ?_
      refine ⟨_, rfl, ?_⟩
      exact ⟨.inr (.inr ⟨lv_lt_of_len hB.fit nA c2, rfl⟩), hS⟩
    · refine s_val hS rfl rfl (r_cmp_f rfl rfl (.t rfl rfl) (.t rfl rfl) (show ¬ (((A.length : Nat) : Int) > ((B.length : Nat) : Int)) from by omega)) ?_
      refine s_val hS rfl rfl (r_assign rfl (.t rfl rfl)) ?_
      refine wpList_nil ?_
      refine x_tn ?_
      refine k_reb [(0, .slice aA A.length cA), (1, .slice aB B.length cB), (4, .int .i64 0), (12, .bool false)] ⟨rfl, rfl, rfl, rfl, trivial⟩ fun G6 => ?_
      refine k_f (.t rfl rfl) ?_
      refine wp_skip ?_
      refine x_bn ?_
      refine x_tn ?_
      refine k_reb [(0, .slice aA A.length cA), (1, .slice aB B.length cB), (4, .int .i64 0)] ⟨rfl, rfl, rfl, trivial⟩ fun G7 => ?_
      refine wp_seq ?_
      refine wp_seq ?_
      refine k_reg ?_
      refine s_val hS rfl rfl (r_move rfl (.t rfl rfl)) ?_
      refine s_val hS rfl rfl (r_len rfl rfl Tryd.underlying26 (.t rfl rfl)) ?_
      refine s_val hS rfl rfl (r_arith rfl rfl (.t rfl rfl) .c (c := (((A.length : Nat) : Int)) - 1) (w_i64 rfl (by omega) (by omega))) ?_
      refine s_val hS rfl rfl (r_assign rfl (.t rfl rfl)) ?_
      refine wpList_nil ?_
      refine x_tn ?_
      refine k_reb [(0, .slice aA A.length cA), (1, .slice aB B.length cB), (4, .int .i64 0), (5, .int .i64 ((((A.length : Nat) : Int)) - 1))] ⟨rfl, rfl, rfl, rfl, trivial⟩ fun G8 => ?_
      refine wp_block ?_
      refine wp_loop_ghost (fun (m1 : Nat) a w => ∃ (G : Nat → Value) (k : Nat), a = fr 45 [(0, .slice aA A.length cA), (1, .slice aB B.length cB), (4, .int .i64 0), (5, .int .i64 (((k : Nat) : Int) - 1))] G ∧ St w0 [] [] w ∧ (m1 = k ∧ k ≤ A.length ∧ lv (A.drop k) = lv (B.drop k))) (A.length) ⟨_, A.length, fr_reb _ ⟨rfl, rfl, rfl, rfl, trivial⟩, hS, ?_⟩ ?_
      · exact ⟨rfl, Nat.le_refl _, by rw [List.drop_length, show A.length = B.length by omega, List.drop_length]⟩
      · intro m1 _ w1 hI1
        obtain ⟨G9, k, rfl, hS1, ⟨hmk, hk, hd⟩⟩ := hI1
        refine wp_seq ?_
        refine wp_seq ?_
        refine k_reg ?_
        refine s_val hS1 rfl rfl (r_move rfl (.t rfl rfl)) ?_
        by_cases c3 : ((k : Nat) : Int) - 1 ≥ 0
        · refine s_val hS1 rfl rfl (r_cmp_t rfl rfl (.t rfl rfl) .c (show ((k : Nat) : Int) - 1 ≥ 0 from by omega)) ?_
          refine wpList_nil ?_
          refine x_tn ?_
          refine k_reb [(0, .slice aA A.length cA), (1, .slice aB B.length cB), (4, .int .i64 0), (5, .int .i64 (((k : Nat) : Int) - 1)), (22, .bool true)] ⟨rfl, rfl, rfl, rfl, rfl, trivial⟩ fun G10 => ?_
          refine k_t (.t rfl rfl) ?_
          refine wp_skip ?_
          refine x_tn ?_
          refine k_reb [(0, .slice aA A.length cA), (1, .slice aB B.length cB), (4, .int .i64 0), (5, .int .i64 (((k : Nat) : Int) - 1))] ⟨rfl, rfl, rfl, rfl, trivial⟩ fun G11 => ?_
          refine wp_seq ?_
          refine wp_block ?_
          refine wp_block ?_
          refine wp_seq ?_
          refine k_regq mixed (by kernel_rfl) hS1 ?_
          refine q_val rfl rfl (r_move rfl (.t rfl rfl)) ?_
          refine q_val rfl rfl (r_move rfl (.t rfl rfl)) ?_
          refine q_val rfl rfl (r_ixr (j := k - 1) rfl Tryd.underlying26 ti38 (.t rfl rfl) (.t rfl rfl) hA rfl (by omega) (by omega)) ?_
          have b1 : A.getD (k - 1) 0 ≤ 4294967295 := hA.lt _
          refine q_val rfl rfl (r_load rfl one38 (.t rfl rfl) (St.cell_rd hA (by omega) (by simp))) ?_
          refine q_val rfl rfl (r_move rfl (.t rfl rfl)) ?_
          refine q_val rfl rfl (r_move rfl (.t rfl rfl)) ?_
          refine q_val rfl rfl (r_ixr (j := k - 1) rfl Tryd.underlying26 ti38 (.t rfl rfl) (.t rfl rfl) hB rfl (by omega) (by omega)) ?_
          have b2 : B.getD (k - 1) 0 ≤ 4294967295 := hB.lt _
          refine q_val rfl rfl (r_load rfl one38 (.t rfl rfl) (St.cell_rd hB (by omega) (by simp))) ?_
          by_cases c4 : A.getD (k - 1) 0 < B.getD (k - 1) 0
          · refine q_val rfl rfl (r_cmp_t rfl rfl (.t rfl rfl) (.t rfl rfl) (show ((A.getD (k - 1) 0 : Nat) : Int) < ((B.getD (k - 1) 0 : Nat) : Int) from by omega)) ?_
            refine q_val rfl rfl (r_assign rfl (.t rfl rfl)) ?_
            refine q_nil ?_
            intro w2 hS2
            refine x_tn ?_
            refine k_reb [(0, .slice aA A.length cA), (1, .slice aB B.length cB), (4, .int .i64 0), (5, .int .i64 (((k : Nat) : Int) - 1)), (25, .bool true)] ⟨rfl, rfl, rfl, rfl, rfl, trivial⟩ fun G12 => ?_
            refine k_t (.t rfl rfl) ?_
            refine wp_seq ?_
            refine k_reg ?_
            refine s_val hS2 rfl rfl (r_assign rfl .c) ?_
            refine wpList_nil ?_
            refine x_tn ?_
            refine k_reb [(0, .slice aA A.length cA), (1, .slice aB B.length cB), (4, .int .i64 ((-1))), (5, .int .i64 (((k : Nat) : Int) - 1))] ⟨rfl, rfl, rfl, rfl, trivial⟩ fun G13 => ?_
            refine wp_ret ?_
            refine x_br ?_
            refine x_br ?_
            refine x_tr ?_
            refine x_tr ?_
            refine x_br ?_
            refine x_tr ?_
            refine k_ret1 Tryd.results71 rfl rfl ?_
            refine ⟨_, rfl, ?_⟩
            exact ⟨.inl ⟨cmp_lt (k := k - 1) hA.fit (by omega) (by omega) (by rw [show k - 1 + 1 = k by omega]; exact hd) c4, rfl⟩, hS2⟩
          · refine q_val rfl rfl (r_cmp_f rfl rfl (.t rfl rfl) (.t rfl rfl) (show ¬ (((A.getD (k - 1) 0 : Nat) : Int) < ((B.getD (k - 1) 0 : Nat) : Int)) from by omega)) ?_
            refine q_val rfl rfl (r_assign rfl (.t rfl rfl)) ?_
            refine q_nil ?_
            intro w3 hS3
            refine x_tn ?_
            refine k_reb [(0, .slice aA A.length cA), (1, .slice aB B.length cB), (4, .int .i64 0), (5, .int .i64 (((k : Nat) : Int) - 1)), (25, .bool false)] ⟨rfl, rfl, rfl, rfl, rfl, trivial⟩ fun G14 => ?_
            refine k_f (.t rfl rfl) ?_
            refine wp_seq ?_
            refine k_regq mixed (by kernel_rfl) hS3 ?_
            refine q_val rfl rfl (r_move rfl (.t rfl rfl)) ?_
            refine q_val rfl rfl (r_move rfl (.t rfl rfl)) ?_
            refine q_val rfl rfl (r_ixr (j := k - 1) rfl Tryd.underlying26 ti38 (.t rfl rfl) (.t rfl rfl) hA rfl (by omega) (by omega)) ?_
            have b3 : A.getD (k - 1) 0 ≤ 4294967295 := hA.lt _
            refine q_val rfl rfl (r_load rfl one38 (.t rfl rfl) (St.cell_rd hA (by omega) (by simp))) ?_
            refine q_val rfl rfl (r_move rfl (.t rfl rfl)) ?_
            refine q_val rfl rfl (r_move rfl (.t rfl rfl)) ?_
            refine q_val rfl rfl (r_ixr (j := k - 1) rfl Tryd.underlying26 ti38 (.t rfl rfl) (.t rfl rfl) hB rfl (by omega) (by omega)) ?_
            have b4 : B.getD (k - 1) 0 ≤ 4294967295 := hB.lt _
            refine q_val rfl rfl (r_load rfl one38 (.t rfl rfl) (St.cell_rd hB (by omega) (by simp))) ?_
            by_cases c5 : A.getD (k - 1) 0 > B.getD (k - 1) 0
            · refine q_val rfl rfl (r_cmp_t rfl rfl (.t rfl rfl) (.t rfl rfl) (show ((A.getD (k - 1) 0 : Nat) : Int) > ((B.getD (k - 1) 0 : Nat) : Int) from by omega)) ?_
              refine q_val rfl rfl (r_assign rfl (.t rfl rfl)) ?_
              refine q_nil ?_
              intro w4 hS4
              refine x_tn ?_
              refine k_reb [(0, .slice aA A.length cA), (1, .slice aB B.length cB), (4, .int .i64 0), (5, .int .i64 (((k : Nat) : Int) - 1)), (35, .bool true)] ⟨rfl, rfl, rfl, rfl, rfl, trivial⟩ fun G15 => ?_
              refine k_t (.t rfl rfl) ?_
              refine wp_seq ?_
              refine k_reg ?_
              refine s_val hS4 rfl rfl (r_assign rfl .c) ?_
              refine wpList_nil ?_
              refine x_tn ?_
              refine k_reb [(0, .slice aA A.length cA), (1, .slice aB B.length cB), (4, .int .i64 1), (5, .int .i64 (((k : Nat) : Int) - 1))] ⟨rfl, rfl, rfl, rfl, trivial⟩ fun G16 => ?_
              refine wp_ret ?_
              refine x_br ?_
              refine x_br ?_
              refine x_tr ?_
              refine x_tr ?_
              refine x_br ?_
              refine x_tr ?_
              refine k_ret1 Tryd.results71 rfl rfl ?_
              refine ⟨_, rfl, ?_⟩
              exact ⟨.inr (.inr ⟨cmp_lt (k := k - 1) hB.fit (by omega) (by omega) (by rw [show k - 1 + 1 = k by omega]; exact hd.symm) c5, rfl⟩), hS4⟩
            · refine q_val rfl rfl (r_cmp_f rfl rfl (.t rfl rfl) (.t rfl rfl) (show ¬ (((A.getD (k - 1) 0 : Nat) : Int) > ((B.getD (k - 1) 0 : Nat) : Int)) from by omega)) ?_
              refine q_val rfl rfl (r_assign rfl (.t rfl rfl)) ?_
              refine q_nil ?_
              intro w5 hS5
              refine x_tn ?_
              refine k_reb [(0, .slice aA A.length cA), (1, .slice aB B.length cB), (4, .int .i64 0), (5, .int .i64 (((k : Nat) : Int) - 1)), (35, .bool false)] ⟨rfl, rfl, rfl, rfl, rfl, trivial⟩ fun G17 => ?_
              refine k_f (.t rfl rfl) ?_
              refine wp_skip ?_
              refine x_bn ?_
              refine x_bn ?_
              refine x_tn ?_
              refine k_reb [(0, .slice aA A.length cA), (1, .slice aB B.length cB), (4, .int .i64 0), (5, .int .i64 (((k : Nat) : Int) - 1))] ⟨rfl, rfl, rfl, rfl, trivial⟩ fun G18 => ?_
              refine k_reg ?_
              refine s_val hS5 rfl rfl (r_move rfl (.t rfl rfl)) ?_
              refine s_val hS5 rfl rfl (r_arith rfl rfl (.t rfl rfl) .c (c := ((k - 1 : Nat) : Int) - 1) (w_i64 (by show (((k : Nat) : Int) - 1 : Int) - 1 = _; omega) (by omega) (by omega))) ?_
              refine s_val hS5 rfl rfl (r_assign rfl (.t rfl rfl)) ?_
              refine wpList_nil ?_
              refine x_tn ?_
              refine ⟨k - 1, by omega, _, k - 1, fr_reb _ ⟨rfl, rfl, rfl, rfl, trivial⟩, hS5, ?_⟩
              exact ⟨rfl, by omega, by have := cmp_drop (A := A) (B := B) (k := k - 1) (by omega) (by omega) (by rw [show k - 1 + 1 = k by omega]; exact hd); omega⟩
        · refine s_val hS1 rfl rfl (r_cmp_f rfl rfl (.t rfl rfl) .c (show ¬ (((k : Nat) : Int) - 1 ≥ 0) from by omega)) ?_
          refine wpList_nil ?_
          refine x_tn ?_
          refine k_reb [(0, .slice aA A.length cA), (1, .slice aB B.length cB), (4, .int .i64 0), (5, .int .i64 (((k : Nat) : Int) - 1)), (22, .bool false)] ⟨rfl, rfl, rfl, rfl, rfl, trivial⟩ fun G19 => ?_
          refine k_f (.t rfl rfl) ?_
          refine wp_exit ?_
          refine x_te ?_
          refine x_te ?_
          refine x_be ?_
          refine x_tn ?_
          refine k_reb [(4, .int .i64 0)] ⟨rfl, trivial⟩ fun G20 => ?_
          refine wp_seq ?_
          refine k_reg ?_
          refine s_val hS1 rfl rfl (r_assign rfl .c) ?_
          refine wpList_nil ?_
          refine x_tn ?_
          refine wp_ret ?_
          refine k_ret1 Tryd.results71 rfl rfl ?_
          refine ⟨_, rfl, ?_⟩
          exact ⟨.inr (.inl ⟨by have hk0 : k = 0 := (by omega); subst hk0; exact hd, rfl⟩), hS1⟩

theorem add_ok (w0 : World) (aA : Option Addr) (cA : Nat) (A : List Nat) (hA : Rd w0 .u32 aA cA A) (aB : Option Addr) (cB : Nat) (B : List Nat) (hB : Rd w0 .u32 aB cB B) (hlA : A.length ≤ 1000000) (hlB : B.length ≤ 1000000) :
    Calls Tryd.prog 82 #[.slice aA A.length cA, .slice aB B.length cB] w0 (Ret fun v w' => ∃ O, Row w0 w' .u32 38 v O ∧ O.length = max A.length B.length + 1 ∧ Lim O ∧ lv O = lv A + lv B) := by
  refine k_enter (vs := [.slice aA A.length cA, .slice aB B.length cB]) Tryd.func82 rfl Tryd.ntmps82 rfl ?_
  have hS := St.init w0
  have lA := hA.le
  have lB := hB.le
  refine wp_seq ?_
  refine k_reg ?_
  refine s_val hS rfl rfl (r_assign rfl .c) ?_
  refine wpList_nil ?_
  refine x_tn ?_
  refine wp_seq ?_
  refine wp_seq ?_
  refine k_reg ?_
  refine s_val hS rfl rfl (r_move rfl (.t rfl rfl)) ?_
  refine s_val hS rfl rfl (r_len rfl rfl Tryd.underlying26 (.t rfl rfl)) ?_
  refine s_val hS rfl rfl (r_move rfl (.t rfl rfl)) ?_
  refine s_val hS rfl rfl (r_len rfl rfl Tryd.underlying26 (.t rfl rfl)) ?_
  by_cases c1 : A.length < B.length
  · refine s_val hS rfl rfl (r_cmp_t rfl rfl (.t rfl rfl) (.t rfl rfl) (show ((A.length : Nat) : Int) < ((B.length : Nat) : Int) from by omega)) ?_
    refine wpList_nil ?_
    refine x_tn ?_
    refine k_reb [(0, .slice aA A.length cA), (1, .slice aB B.length cB), (4, .slice none 0 0), (12, .bool true)] ⟨rfl, rfl, rfl, rfl, trivial⟩ fun G1 => ?_
    refine k_t (.t rfl rfl) ?_
    refine k_reg ?_
    refine s_val hS rfl rfl (r_move rfl (.t rfl rfl)) ?_
    refine s_val hS rfl rfl (r_move rfl (.t rfl rfl)) ?_
    refine s_val hS rfl rfl (r_assign rfl (.t rfl rfl)) ?_
    refine s_val hS rfl rfl (r_assign rfl (.t rfl rfl)) ?_
    refine wpList_nil ?_
    refine x_tn ?_
    refine k_reb [(0, .slice aB B.length cB), (1, .slice aA A.length cA), (4, .slice none 0 0)] ⟨rfl, rfl, rfl, trivial⟩ fun G2 => ?_
    refine wp_seq ?_
    refine k_reg ?_
    refine s_val hS rfl rfl (r_move rfl (.t rfl rfl)) ?_
    refine s_val hS rfl rfl (r_len rfl rfl Tryd.underlying26 (.t rfl rfl)) ?_
    refine s_val hS rfl rfl (r_arith rfl rfl (.t rfl rfl) .c (c := ((B.length + 1 : Nat) : Int)) (wn_i64 (by show (((B.length : Nat) : Int) : Int) + 1 = _; omega) (by omega))) ?_
    refine s_make rfl rfl rfl Tryd.underlying26 ti38 (.t rfl rfl) (.t rfl rfl) (len := B.length + 1) (cap := B.length + 1) rfl rfl (by omega) (by omega) (by omega) hS fun blk1 w1 hb1 hB1 hS1 => ?_
    refine s_val hS1 rfl rfl (r_assign rfl (.t rfl rfl)) ?_
    refine wpList_nil ?_
    refine x_tn ?_
    refine k_reb [(0, .slice aB B.length cB), (1, .slice aA A.length cA), (4, .slice none 0 0), (5, .slice (some ⟨blk1, 0, none⟩) (B.length + 1) (B.length + 1))] ⟨rfl, rfl, rfl, rfl, trivial⟩ fun G3 => ?_
    refine wp_seq ?_
    refine k_reg ?_
    refine s_val hS1 rfl rfl (r_assign rfl .c) ?_
    refine wpList_nil ?_
    refine x_tn ?_
    refine wp_seq ?_
    refine wp_seq ?_
    refine k_reg ?_
    refine s_val hS1 rfl rfl (r_move rfl (.t rfl rfl)) ?_
    refine s_val hS1 rfl rfl (r_len rfl rfl Tryd.underlying26 (.t rfl rfl)) ?_
    refine s_val hS1 rfl rfl (r_move rfl .c) ?_
    refine wpList_nil ?_
    refine x_tn ?_
    refine k_reb [(0, .slice aB B.length cB), (1, .slice aA A.length cA), (4, .slice none 0 0), (5, .slice (some ⟨blk1, 0, none⟩) (B.length + 1) (B.length + 1)), (6, .int .u64 0), (20, .int .i64 (((B.length : Nat) : Int))), (21, .int .i64 0)] ⟨rfl, rfl, rfl, rfl, rfl, rfl, rfl, trivial⟩ fun G4 => ?_
    refine wp_block ?_
    refine wp_loop_ghost (fun (m1 : Nat) a w => ∃ (G : Nat → Value) (k : Nat) (c : Nat) (O : List Nat), a = fr 57 [(0, .slice aB B.length cB), (1, .slice aA A.length cA), (4, .slice none 0 0), (5, .slice (some ⟨blk1, 0, none⟩) (B.length + 1) (B.length + 1)), (6, .int .u64 (((c : Nat) : Int))), (20, .int .i64 (((B.length : Nat) : Int))), (21, .int .i64 (((k : Nat) : Int)))] G ∧ St w0 [] [(blk1, .cells (encN .u32 O) 38 (0, 0))] w ∧ (m1 = B.length - k ∧ k ≤ B.length ∧ O.length = B.length + 1 ∧ Lim O ∧ c ≤ 1 ∧ lv (O.take k) + c * pw k = lv (B.take k) + lv (A.take k))) (B.length) ⟨_, 0, 0, List.replicate (B.length + 1) 0, fr_reb _ ⟨rfl, rfl, rfl, rfl, rfl, rfl, rfl, trivial⟩, hS1, ?_⟩ ?_
    · exact ⟨rfl, Nat.zero_le _, by simp, lim_rep _, by omega, by simp [lv]⟩
    · intro m1 _ w2 hI1
      obtain ⟨G5, k, c, O, rfl, hS2, ⟨hmk, hk, hOl, hOlim, hc, hv⟩⟩ := hI1
      refine wp_seq ?_
      refine k_reg ?_
      by_cases c2 : k < B.length
      · refine s_val hS2 rfl rfl (r_cmp_t rfl rfl (.t rfl rfl) (.t rfl rfl) (show ((k : Nat) : Int) < ((B.length : Nat) : Int) from by omega)) ?_
        refine wpList_nil ?_
        refine x_tn ?_
        refine wp_seq ?_
        refine k_t (.t rfl rfl) ?_
        refine wp_skip ?_
        refine x_tn ?_
        refine k_reb [(0, .slice aB B.length cB), (1, .slice aA A.length cA), (4, .slice none 0 0), (5, .slice (some ⟨blk1, 0, none⟩) (B.length + 1) (B.length + 1)), (6, .int .u64 (((c : Nat) : Int))), (20, .int .i64 (((B.length : Nat) : Int))), (21, .int .i64 (((k : Nat) : Int)))] ⟨rfl, rfl, rfl, rfl, rfl, rfl, rfl, trivial⟩ fun G6 => ?_
        refine wp_seq ?_
        refine wp_block ?_
        refine wp_seq ?_
        refine k_reg ?_
        refine s_val hS2 rfl rfl (r_move rfl (.t rfl rfl)) ?_
        refine s_val hS2 rfl rfl (r_assign rfl (.t rfl rfl)) ?_
        refine wpList_nil ?_
        refine x_tn ?_
        refine k_reb [(0, .slice aB B.length cB), (1, .slice aA A.length cA), (4, .slice none 0 0), (5, .slice (some ⟨blk1, 0, none⟩) (B.length + 1) (B.length + 1)), (6, .int .u64 (((c : Nat) : Int))), (7, .int .i64 (((k : Nat) : Int))), (20, .int .i64 (((B.length : Nat) : Int))), (21, .int .i64 (((k : Nat) : Int)))] ⟨rfl, rfl, rfl, rfl, rfl, rfl, rfl, rfl, trivial⟩ fun G7 => ?_
        refine wp_seq ?_
        refine k_reg ?_
        refine s_val hS2 rfl rfl (r_move rfl (.t rfl rfl)) ?_
        refine s_val hS2 rfl rfl (r_move rfl (.t rfl rfl)) ?_
        refine s_val hS2 rfl rfl (r_move rfl (.t rfl rfl)) ?_
        refine s_val hS2 rfl rfl (r_ixr (j := k) rfl Tryd.underlying26 ti38 (.t rfl rfl) (.t rfl rfl) hB rfl rfl (by omega)) ?_
        have b1 : B.getD k 0 ≤ 4294967295 := hB.lt _
        refine s_val hS2 rfl rfl (r_load rfl one38 (.t rfl rfl) (St.cell_rd hB (by omega) (by simp))) ?_
        refine s_val hS2 rfl rfl (r_conv rfl Tryd.underlying38 Tryd.underlying47 (.t rfl rfl) (c := ((B.getD k 0 : Nat) : Int)) (wn_u64 rfl (by omega))) ?_
        refine s_val hS2 rfl rfl (r_arith rfl rfl (.t rfl rfl) (.t rfl rfl) (c := ((c + (B.getD k 0) : Nat) : Int)) (wn_u64 (by show (((c : Nat) : Int) : Int) + ((B.getD k 0 : Nat) : Int) = _; omega) (by omega))) ?_
        refine s_val hS2 rfl rfl (r_assign rfl (.t rfl rfl)) ?_
        refine wpList_nil ?_
        refine x_tn ?_
        refine k_reb [(0, .slice aB B.length cB), (1, .slice aA A.length cA), (4, .slice none 0 0), (5, .slice (some ⟨blk1, 0, none⟩) (B.length + 1) (B.length + 1)), (6, .int .u64 (((c + (B.getD k 0) : Nat) : Int))), (7, .int .i64 (((k : Nat) : Int))), (20, .int .i64 (((B.length : Nat) : Int))), (21, .int .i64 (((k : Nat) : Int)))] ⟨rfl, rfl, rfl, rfl, rfl, rfl, rfl, rfl, trivial⟩ fun G8 => ?_
        refine wp_seq ?_
        refine wp_seq ?_
        refine k_reg ?_
        refine s_val hS2 rfl rfl (r_move rfl (.t rfl rfl)) ?_
        refine s_val hS2 rfl rfl (r_move rfl (.t rfl rfl)) ?_
        refine s_val hS2 rfl rfl (r_len rfl rfl Tryd.underlying26 (.t rfl rfl)) ?_
        by_cases c3 : k < A.length
        · refine s_val hS2 rfl rfl (r_cmp_t rfl rfl (.t rfl rfl) (.t rfl rfl) (show ((k : Nat) : Int) < ((A.length : Nat) : Int) from by omega)) ?_
          refine wpList_nil ?_
          refine x_tn ?_
          refine k_reb [(0, .slice aB B.length cB), (1, .slice aA A.length cA), (4, .slice none 0 0), (5, .slice (some ⟨blk1, 0, none⟩) (B.length + 1) (B.length + 1)), (6, .int .u64 (((c + (B.getD k 0) : Nat) : Int))), (7, .int .i64 (((k : Nat) : Int))), (20, .int .i64 (((B.length : Nat) : Int))), (21, .int .i64 (((k : Nat) : Int))), (34, .bool true)] ⟨rfl, rfl, rfl, rfl, rfl, rfl, rfl, rfl, rfl, trivial⟩ fun G9 => ?_
          refine k_t (.t rfl rfl) ?_
          refine k_reg ?_
          refine s_val hS2 rfl rfl (r_move rfl (.t rfl rfl)) ?_
          refine s_val hS2 rfl rfl (r_move rfl (.t rfl rfl)) ?_
          refine s_val hS2 rfl rfl (r_move rfl (.t rfl rfl)) ?_
          refine s_val hS2 rfl rfl (r_ixr (j := k) rfl Tryd.underlying26 ti38 (.t rfl rfl) (.t rfl rfl) hA rfl rfl (by omega)) ?_
          have b2 : A.getD k 0 ≤ 4294967295 := hA.lt _
          refine s_val hS2 rfl rfl (r_load rfl one38 (.t rfl rfl) (St.cell_rd hA (by omega) (by simp))) ?_
          refine s_val hS2 rfl rfl (r_conv rfl Tryd.underlying38 Tryd.underlying47 (.t rfl rfl) (c := ((A.getD k 0 : Nat) : Int)) (wn_u64 rfl (by omega))) ?_
          refine s_val hS2 rfl rfl (r_arith rfl rfl (.t rfl rfl) (.t rfl rfl) (c := (((c + (B.getD k 0)) + (A.getD k 0) : Nat) : Int)) (wn_u64 (by show (((c + (B.getD k 0) : Nat) : Int) : Int) + ((A.getD k 0 : Nat) : Int) = _; omega) (by omega))) ?_
          refine s_val hS2 rfl rfl (r_assign rfl (.t rfl rfl)) ?_
          refine wpList_nil ?_
          refine x_tn ?_
          refine k_reb [(0, .slice aB B.length cB), (1, .slice aA A.length cA), (4, .slice none 0 0), (5, .slice (some ⟨blk1, 0, none⟩) (B.length + 1) (B.length + 1)), (6, .int .u64 ((((c + (B.getD k 0)) + (A.getD k 0) : Nat) : Int))), (7, .int .i64 (((k : Nat) : Int))), (20, .int .i64 (((B.length : Nat) : Int))), (21, .int .i64 (((k : Nat) : Int)))] ⟨rfl, rfl, rfl, rfl, rfl, rfl, rfl, rfl, trivial⟩ fun G10 => ?_
          refine wp_seq ?_
          refine k_reg ?_
          refine s_val hS2 rfl rfl (r_move rfl (.t rfl rfl)) ?_
          refine s_val hS2 rfl rfl (r_move rfl (.t rfl rfl)) ?_
          refine s_val hS2 rfl rfl (r_move rfl (.t rfl rfl)) ?_
          refine s_val hS2 rfl rfl (r_conv rfl Tryd.underlying47 Tryd.underlying38 (.t rfl rfl) (wm_u32 rfl)) ?_
          refine s_val hS2 rfl rfl (r_ixs (j := k) rfl Tryd.underlying26 ti38 (.t rfl rfl) (.t rfl rfl) rfl (by omega) (qq := k) (by omega)) ?_
          refine s_store (m := 0) rfl rfl rfl one38 (.t rfl rfl) (.t rfl rfl) rfl hS2 rfl (encN_get (by first | omega | (simp only [List.length_set, List.length_append, List.length_replicate]; omega))) (encN_set) rfl fun w3 hS3 => ?_
          refine wpList_nil ?_
          refine x_tn ?_
          refine k_reb [(0, .slice aB B.length cB), (1, .slice aA A.length cA), (4, .slice none 0 0), (5, .slice (some ⟨blk1, 0, none⟩) (B.length + 1) (B.length + 1)), (6, .int .u64 ((((c + (B.getD k 0)) + (A.getD k 0) : Nat) : Int))), (20, .int .i64 (((B.length : Nat) : Int))), (21, .int .i64 (((k : Nat) : Int)))] ⟨rfl, rfl, rfl, rfl, rfl, rfl, rfl, trivial⟩ fun G11 => ?_
          refine k_reg ?_
          refine s_val hS3 rfl rfl (r_move rfl (.t rfl rfl)) ?_
          refine s_val hS3 rfl rfl (r_shr rfl (.t rfl rfl) .c (by omega) (show (2 : Int) ^ _ = ((4294967296 : Nat) : Int) from rfl) fdiv_nat) ?_
          refine s_val hS3 rfl rfl (r_assign rfl (.t rfl rfl)) ?_
          refine wpList_nil ?_
          refine x_bn ?_
          refine x_tn ?_
          refine k_reb [(0, .slice aB B.length cB), (1, .slice aA A.length cA), (4, .slice none 0 0), (5, .slice (some ⟨blk1, 0, none⟩) (B.length + 1) (B.length + 1)), (6, .int .u64 (((((c + (B.getD k 0)) + (A.getD k 0)) / 4294967296 : Nat) : Int))), (20, .int .i64 (((B.length : Nat) : Int))), (21, .int .i64 (((k : Nat) : Int)))] ⟨rfl, rfl, rfl, rfl, rfl, rfl, rfl, trivial⟩ fun G12 => ?_
          refine k_reg ?_
          refine s_val hS3 rfl rfl (r_arith rfl rfl (.t rfl rfl) .c (c := ((k + 1 : Nat) : Int)) (wn_i64 (by show (((k : Nat) : Int) : Int) + 1 = _; omega) (by omega))) ?_
          refine s_val hS3 rfl rfl (r_move rfl (.t rfl rfl)) ?_
          refine wpList_nil ?_
          refine x_tn ?_
          refine ⟨B.length - (k + 1), by omega, _, k + 1, (c + B.getD k 0 + A.getD k 0) / 4294967296, O.set k ((c + B.getD k 0 + A.getD k 0) % 4294967296), fr_reb _ ⟨rfl, rfl, rfl, rfl, rfl, rfl, rfl, trivial⟩, hS3, ?_⟩
          exact ⟨by omega, by omega, by simpa using hOl, lim_set hOlim (by omega), by omega, add_step (k := k) (c := c) (by omega) (by omega) hv (lv_take_succ (by omega)) rfl⟩
        · refine s_val hS2 rfl rfl (r_cmp_f rfl rfl (.t rfl rfl) (.t rfl rfl) (show ¬ (((k : Nat) : Int) < ((A.length : Nat) : Int)) from by omega)) ?_
          refine wpList_nil ?_
          refine x_tn ?_
          refine k_reb [(0, .slice aB B.length cB), (1, .slice aA A.length cA), (4, .slice none 0 0), (5, .slice (some ⟨blk1, 0, none⟩) (B.length + 1) (B.length + 1)), (6, .int .u64 (((c + (B.getD k 0) : Nat) : Int))), (7, .int .i64 (((k : Nat) : Int))), (20, .int .i64 (((B.length : Nat) : Int))), (21, .int .i64 (((k : Nat) : Int))), (34, .bool false)] ⟨rfl, rfl, rfl, rfl, rfl, rfl, rfl, rfl, rfl, trivial⟩ fun G13 => ?_
          refine k_f (.t rfl rfl) ?_
          refine wp_skip ?_
          refine x_tn ?_
          refine k_reb [(0, .slice aB B.length cB), (1, .slice aA A.length cA), (4, .slice none 0 0), (5, .slice (some ⟨blk1, 0, none⟩) (B.length + 1) (B.length + 1)), (6, .int .u64 (((c + (B.getD k 0) : Nat) : Int))), (7, .int .i64 (((k : Nat) : Int))), (20, .int .i64 (((B.length : Nat) : Int))), (21, .int .i64 (((k : Nat) : Int)))] ⟨rfl, rfl, rfl, rfl, rfl, rfl, rfl, rfl, trivial⟩ fun G14 => ?_
          refine wp_seq ?_
          refine k_reg ?_
          refine s_val hS2 rfl rfl (r_move rfl (.t rfl rfl)) ?_
          refine s_val hS2 rfl rfl (r_move rfl (.t rfl rfl)) ?_
          refine s_val hS2 rfl rfl (r_move rfl (.t rfl rfl)) ?_
          refine s_val hS2 rfl rfl (r_conv rfl Tryd.underlying47 Tryd.underlying38 (.t rfl rfl) (wm_u32 rfl)) ?_
          refine s_val hS2 rfl rfl (r_ixs (j := k) rfl Tryd.underlying26 ti38 (.t rfl rfl) (.t rfl rfl) rfl (by omega) (qq := k) (by omega)) ?_
          refine s_store (m := 0) rfl rfl rfl one38 (.t rfl rfl) (.t rfl rfl) rfl hS2 rfl (encN_get (by first | omega | (simp only [List.length_set, List.length_append, List.length_replicate]; omega))) (encN_set) rfl fun w4 hS4 => ?_
          refine wpList_nil ?_
          refine x_tn ?_
          refine k_reb [(0, .slice aB B.length cB), (1, .slice aA A.length cA), (4, .slice none 0 0), (5, .slice (some ⟨blk1, 0, none⟩) (B.length + 1) (B.length + 1)), (6, .int .u64 (((c + (B.getD k 0) : Nat) : Int))), (20, .int .i64 (((B.length : Nat) : Int))), (21, .int .i64 (((k : Nat) : Int)))] ⟨rfl, rfl, rfl, rfl, rfl, rfl, rfl, trivial⟩ fun G15 => ?_
          refine k_reg ?_
          refine s_val hS4 rfl rfl (r_move rfl (.t rfl rfl)) ?_
          refine s_val hS4 rfl rfl (r_shr rfl (.t rfl rfl) .c (by omega) (show (2 : Int) ^ _ = ((4294967296 : Nat) : Int) from rfl) fdiv_nat) ?_
          refine s_val hS4 rfl rfl (r_assign rfl (.t rfl rfl)) ?_
          refine wpList_nil ?_
          refine x_bn ?_
          refine x_tn ?_
          refine k_reb [(0, .slice aB B.length cB), (1, .slice aA A.length cA), (4, .slice none 0 0), (5, .slice (some ⟨blk1, 0, none⟩) (B.length + 1) (B.length + 1)), (6, .int .u64 ((((c + (B.getD k 0)) / 4294967296 : Nat) : Int))), (20, .int .i64 (((B.length : Nat) : Int))), (21, .int .i64 (((k : Nat) : Int)))] ⟨rfl, rfl, rfl, rfl, rfl, rfl, rfl, trivial⟩ fun G16 => ?_
          refine k_reg ?_
          refine s_val hS4 rfl rfl (r_arith rfl rfl (.t rfl rfl) .c (c := ((k + 1 : Nat) : Int)) (wn_i64 (by show (((k : Nat) : Int) : Int) + 1 = _; omega) (by omega))) ?_
          refine s_val hS4 rfl rfl (r_move rfl (.t rfl rfl)) ?_
          refine wpList_nil ?_
          refine x_tn ?_
          refine ⟨B.length - (k + 1), by omega, _, k + 1, (c + B.getD k 0) / 4294967296, O.set k ((c + B.getD k 0) % 4294967296), fr_reb _ ⟨rfl, rfl, rfl, rfl, rfl, rfl, rfl, trivial⟩, hS4, ?_⟩
          exact ⟨by omega, by omega, by simpa using hOl, lim_set hOlim (by omega), by omega, by simpa using add_step (k := k) (c := c) (by omega) (by omega) hv (take_succ_none (by omega)) rfl⟩
      · refine s_val hS2 rfl rfl (r_cmp_f rfl rfl (.t rfl rfl) (.t rfl rfl) (show ¬ (((k : Nat) : Int) < ((B.length : Nat) : Int)) from by omega)) ?_
        refine wpList_nil ?_
        refine x_tn ?_
        refine wp_seq ?_
        refine k_f (.t rfl rfl) ?_
        refine wp_exit ?_
        refine x_te ?_
        refine x_te ?_
        refine x_be ?_
        refine x_tn ?_
        refine k_reb [(0, .slice aB B.length cB), (4, .slice none 0 0), (5, .slice (some ⟨blk1, 0, none⟩) (B.length + 1) (B.length + 1)), (6, .int .u64 (((c : Nat) : Int)))] ⟨rfl, rfl, rfl, rfl, trivial⟩ fun G17 => ?_
        refine wp_seq ?_
        refine k_reg ?_
        refine s_val hS2 rfl rfl (r_move rfl (.t rfl rfl)) ?_
        refine s_val hS2 rfl rfl (r_move rfl (.t rfl rfl)) ?_
        refine s_val hS2 rfl rfl (r_len rfl rfl Tryd.underlying26 (.t rfl rfl)) ?_
        refine s_val hS2 rfl rfl (r_move rfl (.t rfl rfl)) ?_
        refine s_val hS2 rfl rfl (r_conv rfl Tryd.underlying47 Tryd.underlying38 (.t rfl rfl) (c := ((c : Nat) : Int)) (wn_u32 rfl (by omega))) ?_
        refine s_val hS2 rfl rfl (r_ixs (j := B.length) rfl Tryd.underlying26 ti38 (.t rfl rfl) (.t rfl rfl) rfl (by omega) (qq := B.length) (by omega)) ?_
        refine s_store (m := 0) rfl rfl rfl one38 (.t rfl rfl) (.t rfl rfl) rfl hS2 rfl (encN_get (by first | omega | (simp only [List.length_set, List.length_append, List.length_replicate]; omega))) (encN_set) rfl fun w5 hS5 => ?_
        refine wpList_nil ?_
        refine x_tn ?_
        refine k_reb [(4, .slice none 0 0), (5, .slice (some ⟨blk1, 0, none⟩) (B.length + 1) (B.length + 1))] ⟨rfl, rfl, trivial⟩ fun G18 => ?_
        refine wp_seq ?_
        refine k_reg ?_
        refine s_val hS5 rfl rfl (r_move rfl (.t rfl rfl)) ?_
        refine s_val hS5 rfl rfl (r_assign rfl (.t rfl rfl)) ?_
        refine wpList_nil ?_
        refine x_tn ?_
        refine k_reb [(4, .slice (some ⟨blk1, 0, none⟩) (B.length + 1) (B.length + 1))] ⟨rfl, trivial⟩ fun G19 => ?_
        refine wp_ret ?_
        refine k_ret1 Tryd.results82 rfl rfl ?_
        refine ⟨_, rfl, ?_⟩
        have hk' : k = B.length := (by omega)
        subst hk'
        refine ⟨O.set B.length c, ⟨blk1, by simp [hOl], (by assumption), hS5⟩, by simp [hOl]; omega, lim_set hOlim (by omega), ?_⟩
        have e1 := lv_take_set (l := O) (k := B.length) (x := c) (by omega)
        rw [take_all (by simp; omega)] at e1
        rw [take_all (Nat.le_refl _), take_all (l := A) (by omega)] at hv
        omega
  · refine s_val hS rfl rfl (r_cmp_f rfl rfl (.t rfl rfl) (.t rfl rfl) (show ¬ (((A.length : Nat) : Int) < ((B.length : Nat) : Int)) from by omega)) ?_
    refine wpList_nil ?_
    refine x_tn ?_
    refine k_reb [(0, .slice aA A.length cA), (1, .slice aB B.length cB), (4, .slice none 0 0), (12, .bool false)] ⟨rfl, rfl, rfl, rfl, trivial⟩ fun G20 => ?_
    refine k_f (.t rfl rfl) ?_
    refine wp_skip ?_
    refine x_tn ?_
    refine k_reb [(0, .slice aA A.length cA), (1, .slice aB B.length cB), (4, .slice none 0 0)] ⟨rfl, rfl, rfl, trivial⟩ fun G21 => ?_
    refine wp_seq ?_
    refine k_reg ?_
    refine s_val hS rfl rfl (r_move rfl (.t rfl rfl)) ?_
    refine s_val hS rfl rfl (r_len rfl rfl Tryd.underlying26 (.t rfl rfl)) ?_
    refine s_val hS rfl rfl (r_arith rfl rfl (.t rfl rfl) .c (c := ((A.length + 1 : Nat) : Int)) (wn_i64 (by show (((A.length : Nat) : Int) : Int) + 1 = _; omega) (by omega))) ?_
    refine s_make rfl rfl rfl Tryd.underlying26 ti38 (.t rfl rfl) (.t rfl rfl) (len := A.length + 1) (cap := A.length + 1) rfl rfl (by omega) (by omega) (by omega) hS fun blk2 w6 hb2 hB2 hS6 => ?_
    refine s_val hS6 rfl rfl (r_assign rfl (.t rfl rfl)) ?_
    refine wpList_nil ?_
    refine x_tn ?_
    refine k_reb [(0, .slice aA A.length cA), (1, .slice aB B.length cB), (4, .slice none 0 0), (5, .slice (some ⟨blk2, 0, none⟩) (A.length + 1) (A.length + 1))] ⟨rfl, rfl, rfl, rfl, trivial⟩ fun G22 => ?_
    refine wp_seq ?_
    refine k_reg ?_
    refine s_val hS6 rfl rfl (r_assign rfl .c) ?_
    refine wpList_nil ?_
    refine x_tn ?_
    refine wp_seq ?_
    refine wp_seq ?_
    refine k_reg ?_
    refine s_val hS6 rfl rfl (r_move rfl (.t rfl rfl)) ?_
    refine s_val hS6 rfl rfl (r_len rfl rfl Tryd.underlying26 (.t rfl rfl)) ?_
    refine s_val hS6 rfl rfl (r_move rfl .c) ?_
    refine wpList_nil ?_
    refine x_tn ?_
    refine k_reb [(0, .slice aA A.length cA), (1, .slice aB B.length cB), (4, .slice none 0 0), (5, .slice (some ⟨blk2, 0, none⟩) (A.length + 1) (A.length + 1)), (6, .int .u64 0), (20, .int .i64 (((A.length : Nat) : Int))), (21, .int .i64 0)] ⟨rfl, rfl, rfl, rfl, rfl, rfl, rfl, trivial⟩ fun G23 => ?_
    refine wp_block ?_
    refine wp_loop_ghost (fun (m2 : Nat) a w => ∃ (G : Nat → Value) (k : Nat) (c : Nat) (O : List Nat), a = fr 57 [(0, .slice aA A.length cA), (1, .slice aB B.length cB), (4, .slice none 0 0), (5, .slice (some ⟨blk2, 0, none⟩) (A.length + 1) (A.length + 1)), (6, .int .u64 (((c : Nat) : Int))), (20, .int .i64 (((A.length : Nat) : Int))), (21, .int .i64 (((k : Nat) : Int)))] G ∧ St w0 [] [(blk2, .cells (encN .u32 O) 38 (0, 0))] w ∧ (m2 = A.length - k ∧ k ≤ A.length ∧ O.length = A.length + 1 ∧ Lim O ∧ c ≤ 1 ∧ lv (O.take k) + c * pw k = lv (A.take k) + lv (B.take k))) (A.length) ⟨_, 0, 0, List.replicate (A.length + 1) 0, fr_reb _ ⟨rfl, rfl, rfl, rfl, rfl, rfl, rfl, trivial⟩, hS6, ?_⟩ ?_
    · exact ⟨rfl, Nat.zero_le _, by simp, lim_rep _, by omega, by simp [lv]⟩
    · intro m2 _ w7 hI2
      obtain ⟨G24, k, c, O, rfl, hS7, ⟨hmk, hk, hOl, hOlim, hc, hv⟩⟩ := hI2
      refine wp_seq ?_
      refine k_reg ?_
      by_cases c4 : k < A.length
      · refine s_val hS7 rfl rfl (r_cmp_t rfl rfl (.t rfl rfl) (.t rfl rfl) (show ((k : Nat) : Int) < ((A.length : Nat) : Int) from by omega)) ?_
        refine wpList_nil ?_
        refine x_tn ?_
        refine wp_seq ?_
        refine k_t (.t rfl rfl) ?_
        refine wp_skip ?_
        refine x_tn ?_
        refine k_reb [(0, .slice aA A.length cA), (1, .slice aB B.length cB), (4, .slice none 0 0), (5, .slice (some ⟨blk2, 0, none⟩) (A.length + 1) (A.length + 1)), (6, .int .u64 (((c : Nat) : Int))), (20, .int .i64 (((A.length : Nat) : Int))), (21, .int .i64 (((k : Nat) : Int)))] ⟨rfl, rfl, rfl, rfl, rfl, rfl, rfl, trivial⟩ fun G25 => ?_
        refine wp_seq ?_
        refine wp_block ?_
        refine wp_seq ?_
        refine k_reg ?_
        refine s_val hS7 rfl rfl (r_move rfl (.t rfl rfl)) ?_
        refine s_val hS7 rfl rfl (r_assign rfl (.t rfl rfl)) ?_
        refine wpList_nil ?_
        refine x_tn ?_
        refine k_reb [(0, .slice aA A.length cA), (1, .slice aB B.length cB), (4, .slice none 0 0), (5, .slice (some ⟨blk2, 0, none⟩) (A.length + 1) (A.length + 1)), (6, .int .u64 (((c : Nat) : Int))), (7, .int .i64 (((k : Nat) : Int))), (20, .int .i64 (((A.length : Nat) : Int))), (21, .int .i64 (((k : Nat) : Int)))] ⟨rfl, rfl, rfl, rfl, rfl, rfl, rfl, rfl, trivial⟩ fun G26 => ?_
        refine wp_seq ?_
        refine k_reg ?_
        refine s_val hS7 rfl rfl (r_move rfl (.t rfl rfl)) ?_
        refine s_val hS7 rfl rfl (r_move rfl (.t rfl rfl)) ?_
        refine s_val hS7 rfl rfl (r_move rfl (.t rfl rfl)) ?_
        refine s_val hS7 rfl rfl (r_ixr (j := k) rfl Tryd.underlying26 ti38 (.t rfl rfl) (.t rfl rfl) hA rfl rfl (by omega)) ?_
        have b3 : A.getD k 0 ≤ 4294967295 := hA.lt _
        refine s_val hS7 rfl rfl (r_load rfl one38 (.t rfl rfl) (St.cell_rd hA (by omega) (by simp))) ?_
        refine s_val hS7 rfl rfl (r_conv rfl Tryd.underlying38 Tryd.underlying47 (.t rfl rfl) (c := ((A.getD k 0 : Nat) : Int)) (wn_u64 rfl (by omega))) ?_
        refine s_val hS7 rfl rfl (r_arith rfl rfl (.t rfl rfl) (.t rfl rfl) (c := ((c + (A.getD k 0) : Nat) : Int)) (wn_u64 (by show (((c : Nat) : Int) : Int) + ((A.getD k 0 : Nat) : Int) = _; omega) (by omega))) ?_
        refine s_val hS7 rfl rfl (r_assign rfl (.t rfl rfl)) ?_
        refine wpList_nil ?_
        refine x_tn ?_
        refine k_reb [(0, .slice aA A.length cA), (1, .slice aB B.length cB), (4, .slice none 0 0), (5, .slice (some ⟨blk2, 0, none⟩) (A.length + 1) (A.length + 1)), (6, .int .u64 (((c + (A.getD k 0) : Nat) : Int))), (7, .int .i64 (((k : Nat) : Int))), (20, .int .i64 (((A.length : Nat) : Int))), (21, .int .i64 (((k : Nat) : Int)))] ⟨rfl, rfl, rfl, rfl, rfl, rfl, rfl, rfl, trivial⟩ fun G27 => ?_
        refine wp_seq ?_
        refine wp_seq ?_
        refine k_reg ?_
        refine s_val hS7 rfl rfl (r_move rfl (.t rfl rfl)) ?_
        refine s_val hS7 rfl rfl (r_move rfl (.t rfl rfl)) ?_
        refine s_val hS7 rfl rfl (r_len rfl rfl Tryd.underlying26 (.t rfl rfl)) ?_
        by_cases c5 : k < B.length
        · refine s_val hS7 rfl rfl (r_cmp_t rfl rfl (.t rfl rfl) (.t rfl rfl) (show ((k : Nat) : Int) < ((B.length : Nat) : Int) from by omega)) ?_
          refine wpList_nil ?_
          refine x_tn ?_
          refine k_reb [(0, .slice aA A.length cA), (1, .slice aB B.length cB), (4, .slice none 0 0), (5, .slice (some ⟨blk2, 0, none⟩) (A.length + 1) (A.length + 1)), (6, .int .u64 (((c + (A.getD k 0) : Nat) : Int))), (7, .int .i64 (((k : Nat) : Int))), (20, .int .i64 (((A.length : Nat) : Int))), (21, .int .i64 (((k : Nat) : Int))), (34, .bool true)] ⟨rfl, rfl, rfl, rfl, rfl, rfl, rfl, rfl, rfl, trivial⟩ fun G28 => ?_
          refine k_t (.t rfl rfl) ?_
          refine k_reg ?_
          refine s_val hS7 rfl rfl (r_move rfl (.t rfl rfl)) ?_
          refine s_val hS7 rfl rfl (r_move rfl (.t rfl rfl)) ?_
          refine s_val hS7 rfl rfl (r_move rfl (.t rfl rfl)) ?_
          refine s_val hS7 rfl rfl (r_ixr (j := k) rfl Tryd.underlying26 ti38 (.t rfl rfl) (.t rfl rfl) hB rfl rfl (by omega)) ?_
          have b4 : B.getD k 0 ≤ 4294967295 := hB.lt _
          refine s_val hS7 rfl rfl (r_load rfl one38 (.t rfl rfl) (St.cell_rd hB (by omega) (by simp))) ?_
          refine s_val hS7 rfl rfl (r_conv rfl Tryd.underlying38 Tryd.underlying47 (.t rfl rfl) (c := ((B.getD k 0 : Nat) : Int)) (wn_u64 rfl (by omega))) ?_
          refine s_val hS7 rfl rfl (r_arith rfl rfl (.t rfl rfl) (.t rfl rfl) (c := (((c + (A.getD k 0)) + (B.getD k 0) : Nat) : Int)) (wn_u64 (by show (((c + (A.getD k 0) : Nat) : Int) : Int) + ((B.getD k 0 : Nat) : Int) = _; omega) (by omega))) ?_
          refine s_val hS7 rfl rfl (r_assign rfl (.t rfl rfl)) ?_
          refine wpList_nil ?_
          refine x_tn ?_
          refine k_reb [(0, .slice aA A.length cA), (1, .slice aB B.length cB), (4, .slice none 0 0), (5, .slice (some ⟨blk2, 0, none⟩) (A.length + 1) (A.length + 1)), (6, .int .u64 ((((c + (A.getD k 0)) + (B.getD k 0) : Nat) : Int))), (7, .int .i64 (((k : Nat) : Int))), (20, .int .i64 (((A.length : Nat) : Int))), (21, .int .i64 (((k : Nat) : Int)))] ⟨rfl, rfl, rfl, rfl, rfl, rfl, rfl, rfl, trivial⟩ fun G29 => ?_
          refine wp_seq ?_
          refine k_reg ?_
          refine s_val hS7 rfl rfl (r_move rfl (.t rfl rfl)) ?_
          refine s_val hS7 rfl rfl (r_move rfl (.t rfl rfl)) ?_
          refine s_val hS7 rfl rfl (r_move rfl (.t rfl rfl)) ?_
          refine s_val hS7 rfl rfl (r_conv rfl Tryd.underlying47 Tryd.underlying38 (.t rfl rfl) (wm_u32 rfl)) ?_
          refine s_val hS7 rfl rfl (r_ixs (j := k) rfl Tryd.underlying26 ti38 (.t rfl rfl) (.t rfl rfl) rfl (by omega) (qq := k) (by omega)) ?_
          refine s_store (m := 0) rfl rfl rfl one38 (.t rfl rfl) (.t rfl rfl) rfl hS7 rfl (encN_get (by first | omega | (simp only [List.length_set, List.length_append, List.length_replicate]; omega))) (encN_set) rfl fun w8 hS8 => ?_
          refine wpList_nil ?_
          refine x_tn ?_
          refine k_reb [(0, .slice aA A.length cA), (1, .slice aB B.length cB), (4, .slice none 0 0), (5, .slice (some ⟨blk2, 0, none⟩) (A.length + 1) (A.length + 1)), (6, .int .u64 ((((c + (A.getD k 0)) + (B.getD k 0) : Nat) : Int))), (20, .int .i64 (((A.length : Nat) : Int))), (21, .int .i64 (((k : Nat) : Int)))] ⟨rfl, rfl, rfl, rfl, rfl, rfl, rfl, trivial⟩ fun G30 => ?_
          refine k_reg ?_
          refine s_val hS8 rfl rfl (r_move rfl (.t rfl rfl)) ?_
          refine s_val hS8 rfl rfl (r_shr rfl (.t rfl rfl) .c (by omega) (show (2 : Int) ^ _ = ((4294967296 : Nat) : Int) from rfl) fdiv_nat) ?_
          refine s_val hS8 rfl rfl (r_assign rfl (.t rfl rfl)) ?_
          refine wpList_nil ?_
          refine x_bn ?_
          refine x_tn ?_
          refine k_reb [(0, .slice aA A.length cA), (1, .slice aB B.length cB), (4, .slice none 0 0), (5, .slice (some ⟨blk2, 0, none⟩) (A.length + 1) (A.length + 1)), (6, .int .u64 (((((c + (A.getD k 0)) + (B.getD k 0)) / 4294967296 : Nat) : Int))), (20, .int .i64 (((A.length : Nat) : Int))), (21, .int .i64 (((k : Nat) : Int)))] ⟨rfl, rfl, rfl, rfl, rfl, rfl, rfl, trivial⟩ fun G31 => ?_
          refine k_reg ?_
          refine s_val hS8 rfl rfl (r_arith rfl rfl (.t rfl rfl) .c (c := ((k + 1 : Nat) : Int)) (wn_i64 (by show (((k : Nat) : Int) : Int) + 1 = _; omega) (by omega))) ?_
          refine s_val hS8 rfl rfl (r_move rfl (.t rfl rfl)) ?_
          refine wpList_nil ?_
          refine x_tn ?_
          refine ⟨A.length - (k + 1), by omega, _, k + 1, (c + A.getD k 0 + B.getD k 0) / 4294967296, O.set k ((c + A.getD k 0 + B.getD k 0) % 4294967296), fr_reb _ ⟨rfl, rfl, rfl, rfl, rfl, rfl, rfl, trivial⟩, hS8, ?_⟩
          exact ⟨by omega, by omega, by simpa using hOl, lim_set hOlim (by omega), by omega, add_step (k := k) (c := c) (by omega) (by omega) hv (lv_take_succ (by omega)) rfl⟩
        · refine s_val hS7 rfl rfl (r_cmp_f rfl rfl (.t rfl rfl) (.t rfl rfl) (show ¬ (((k : Nat) : Int) < ((B.length : Nat) : Int)) from by omega)) ?_
          refine wpList_nil ?_
          refine x_tn ?_
          refine k_reb [(0, .slice aA A.length cA), (1, .slice aB B.length cB), (4, .slice none 0 0), (5, .slice (some ⟨blk2, 0, none⟩) (A.length + 1) (A.length + 1)), (6, .int .u64 (((c + (A.getD k 0) : Nat) : Int))), (7, .int .i64 (((k : Nat) : Int))), (20, .int .i64 (((A.length : Nat) : Int))), (21, .int .i64 (((k : Nat) : Int))), (34, .bool false)] ⟨rfl, rfl, rfl, rfl, rfl, rfl, rfl, rfl, rfl, trivial⟩ fun G32 => ?_
          refine k_f (.t rfl rfl) ?_
          refine wp_skip ?_
          refine x_tn ?_
          refine k_reb [(0, .slice aA A.length cA), (1, .slice aB B.length cB), (4, .slice none 0 0), (5, .slice (some ⟨blk2, 0, none⟩) (A.length + 1) (A.length + 1)), (6, .int .u64 (((c + (A.getD k 0) : Nat) : Int))), (7, .int .i64 (((k : Nat) : Int))), (20, .int .i64 (((A.length : Nat) : Int))), (21, .int .i64 (((k : Nat) : Int)))] ⟨rfl, rfl, rfl, rfl, rfl, rfl, rfl, rfl, trivial⟩ fun G33 => ?_
          refine wp_seq ?_
          refine k_reg ?_
          refine s_val hS7 rfl rfl (r_move rfl (.t rfl rfl)) ?_
          refine s_val hS7 rfl rfl (r_move rfl (.t rfl rfl)) ?_
          refine s_val hS7 rfl rfl (r_move rfl (.t rfl rfl)) ?_
          refine s_val hS7 rfl rfl (r_conv rfl Tryd.underlying47 Tryd.underlying38 (.t rfl rfl) (wm_u32 rfl)) ?_
          refine s_val hS7 rfl rfl (r_ixs (j := k) rfl Tryd.underlying26 ti38 (.t rfl rfl) (.t rfl rfl) rfl (by omega) (qq := k) (by omega)) ?_
          refine s_store (m := 0) rfl rfl rfl one38 (.t rfl rfl) (.t rfl rfl) rfl hS7 rfl (encN_get (by first | omega | (simp only [List.length_set, List.length_append, List.length_replicate]; omega))) (encN_set) rfl fun w9 hS9 => ?_
          refine wpList_nil ?_
          refine x_tn ?_
          refine k_reb [(0, .slice aA A.length cA), (1, .slice aB B.length cB), (4, .slice none 0 0), (5, .slice (some ⟨blk2, 0, none⟩) (A.length + 1) (A.length + 1)), (6, .int .u64 (((c + (A.getD k 0) : Nat) : Int))), (20, .int .i64 (((A.length : Nat) : Int))), (21, .int .i64 (((k : Nat) : Int)))] ⟨rfl, rfl, rfl, rfl, rfl, rfl, rfl, trivial⟩ fun G34 => ?_
          refine k_reg ?_
          refine s_val hS9 rfl rfl (r_move rfl (.t rfl rfl)) ?_
          refine s_val hS9 rfl rfl (r_shr rfl (.t rfl rfl) .c (by omega) (show (2 : Int) ^ _ = ((4294967296 : Nat) : Int) from rfl) fdiv_nat) ?_
          refine s_val hS9 rfl rfl (r_assign rfl (.t rfl rfl)) ?_
          refine wpList_nil ?_
          refine x_bn ?_
          refine x_tn ?_
          refine k_reb [(0, .slice aA A.length cA), (1, .slice aB B.length cB), (4, .slice none 0 0), (5, .slice (some ⟨blk2, 0, none⟩) (A.length + 1) (A.length + 1)), (6, .int .u64 ((((c + (A.getD k 0)) / 4294967296 : Nat) : Int))), (20, .int .i64 (((A.length : Nat) : Int))), (21, .int .i64 (((k : Nat) : Int)))] ⟨rfl, rfl, rfl, rfl, rfl, rfl, rfl, trivial⟩ fun G35 => ?_
          refine k_reg ?_
          refine s_val hS9 rfl rfl (r_arith rfl rfl (.t rfl rfl) .c (c := ((k + 1 : Nat) : Int)) (wn_i64 (by show (((k : Nat) : Int) : Int) + 1 = _; omega) (by omega))) ?_
          refine s_val hS9 rfl rfl (r_move rfl (.t rfl rfl)) ?_
          refine wpList_nil ?_
          refine x_tn ?_
          refine ⟨A.length - (k + 1), by omega, _, k + 1, (c + A.getD k 0) / 4294967296, O.set k ((c + A.getD k 0) % 4294967296), fr_reb _ ⟨rfl, rfl, rfl, rfl, rfl, rfl, rfl, trivial⟩, hS9, ?_⟩
          exact ⟨by omega, by omega, by simpa using hOl, lim_set hOlim (by omega), by omega, by simpa using add_step (k := k) (c := c) (by omega) (by omega) hv (take_succ_none (by omega)) rfl⟩
      · refine s_val hS7 rfl rfl (r_cmp_f rfl rfl (.t rfl rfl) (.t rfl rfl) (show ¬ (((k : Nat) : Int) < ((A.length : Nat) : Int)) from by omega)) ?_
        refine wpList_nil ?_
        refine x_tn ?_
        refine wp_seq ?_
        refine k_f (.t rfl rfl) ?_
        refine wp_exit ?_
        refine x_te ?_
        refine x_te ?_
        refine x_be ?_
        refine x_tn ?_
        refine k_reb [(0, .slice aA A.length cA), (4, .slice none 0 0), (5, .slice (some ⟨blk2, 0, none⟩) (A.length + 1) (A.length + 1)), (6, .int .u64 (((c : Nat) : Int)))] ⟨rfl, rfl, rfl, rfl, trivial⟩ fun G36 => ?_
        refine wp_seq ?_
        refine k_reg ?_
        refine s_val hS7 rfl rfl (r_move rfl (.t rfl rfl)) ?_
        refine s_val hS7 rfl rfl (r_move rfl (.t rfl rfl)) ?_
        refine s_val hS7 rfl rfl (r_len rfl rfl Tryd.underlying26 (.t rfl rfl)) ?_
        refine s_val hS7 rfl rfl (r_move rfl (.t rfl rfl)) ?_
        refine s_val hS7 rfl rfl (r_conv rfl Tryd.underlying47 Tryd.underlying38 (.t rfl rfl) (c := ((c : Nat) : Int)) (wn_u32 rfl (by omega))) ?_
        refine s_val hS7 rfl rfl (r_ixs (j := A.length) rfl Tryd.underlying26 ti38 (.t rfl rfl) (.t rfl rfl) rfl (by omega) (qq := A.length) (by omega)) ?_
        refine s_store (m := 0) rfl rfl rfl one38 (.t rfl rfl) (.t rfl rfl) rfl hS7 rfl (encN_get (by first | omega | (simp only [List.length_set, List.length_append, List.length_replicate]; omega))) (encN_set) rfl fun w10 hS10 => ?_
        refine wpList_nil ?_
        refine x_tn ?_
        refine k_reb [(4, .slice none 0 0), (5, .slice (some ⟨blk2, 0, none⟩) (A.length + 1) (A.length + 1))] ⟨rfl, rfl, trivial⟩ fun G37 => ?_
        refine wp_seq ?_
        refine k_reg ?_
        refine s_val hS10 rfl rfl (r_move rfl (.t rfl rfl)) ?_
        refine s_val hS10 rfl rfl (r_assign rfl (.t rfl rfl)) ?_
        refine wpList_nil ?_
        refine x_tn ?_
        refine k_reb [(4, .slice (some ⟨blk2, 0, none⟩) (A.length + 1) (A.length + 1))] ⟨rfl, trivial⟩ fun G38 => ?_
        refine wp_ret ?_
        refine k_ret1 Tryd.results82 rfl rfl ?_
        refine ⟨_, rfl, ?_⟩
        have hk' : k = A.length := (by omega)
        subst hk'
        refine ⟨O.set A.length c, ⟨blk2, by simp [hOl], (by assumption), hS10⟩, by simp [hOl]; omega, lim_set hOlim (by omega), ?_⟩
        have e1 := lv_take_set (l := O) (k := A.length) (x := c) (by omega)
        rw [take_all (by simp; omega)] at e1
        rw [take_all (Nat.le_refl _), take_all (l := B) (by omega)] at hv
        omega

theorem add32_ok (w0 : World) (x y c : Nat) (hx : x ≤ 4294967295) (hy : y ≤ 4294967295) (hc : c ≤ 1) :
    Calls Tryd.prog 96 #[.int .u32 (((x : Nat) : Int)), .int .u32 (((y : Nat) : Int)), .int .u32 (((c : Nat) : Int))] w0 (Ret fun v w' => v = .tuple #[.int .u32 (((x + y + c) % 4294967296 : Nat) : Int), .int .u32 (((x + y + c) / 4294967296 : Nat) : Int)] ∧ w' = w0) := by
  refine k_enter (vs := [.int .u32 (((x : Nat) : Int)), .int .u32 (((y : Nat) : Int)), .int .u32 (((c : Nat) : Int))]) Tryd.func96 rfl Tryd.ntmps96 rfl ?_
  have hS := St.init w0
  refine wp_seq ?_
  refine k_reg ?_
  refine s_val hS rfl rfl (r_assign rfl .c) ?_
  refine s_val hS rfl rfl (r_assign rfl .c) ?_
  refine wpList_nil ?_
  refine x_tn ?_
  refine wp_seq ?_
  refine k_reg ?_
  refine s_val hS rfl rfl (r_move rfl (.t rfl rfl)) ?_
  refine s_val hS rfl rfl (r_conv rfl Tryd.underlying38 Tryd.underlying47 (.t rfl rfl) (c := ((x : Nat) : Int)) (wn_u64 rfl (by omega))) ?_
  refine s_val hS rfl rfl (r_move rfl (.t rfl rfl)) ?_
  refine s_val hS rfl rfl (r_conv rfl Tryd.underlying38 Tryd.underlying47 (.t rfl rfl) (c := ((y : Nat) : Int)) (wn_u64 rfl (by omega))) ?_
  refine s_val hS rfl rfl (r_arith rfl rfl (.t rfl rfl) (.t rfl rfl) (c := ((x + y : Nat) : Int)) (wn_u64 (by show (((x : Nat) : Int) : Int) + ((y : Nat) : Int) = _; omega) (by omega))) ?_
  refine s_val hS rfl rfl (r_move rfl (.t rfl rfl)) ?_
  refine s_val hS rfl rfl (r_conv rfl Tryd.underlying38 Tryd.underlying47 (.t rfl rfl) (c := ((c : Nat) : Int)) (wn_u64 rfl (by omega))) ?_
  refine s_val hS rfl rfl (r_arith rfl rfl (.t rfl rfl) (.t rfl rfl) (c := (((x + y) + c : Nat) : Int)) (wn_u64 (by show (((x + y : Nat) : Int) : Int) + ((c : Nat) : Int) = _; omega) (by omega))) ?_
  refine s_val hS rfl rfl (r_assign rfl (.t rfl rfl)) ?_
  refine wpList_nil ?_
  refine x_tn ?_
  refine k_reb [(6, .int .u32 0), (7, .int .u32 0), (8, .int .u64 ((((x + y) + c : Nat) : Int)))] ⟨rfl, rfl, rfl, trivial⟩ fun G1 => ?_
  refine wp_seq ?_
  refine k_reg ?_
  refine s_val hS rfl rfl (r_move rfl (.t rfl rfl)) ?_
  refine s_val hS rfl rfl (r_conv rfl Tryd.underlying47 Tryd.underlying38 (.t rfl rfl) (wm_u32 rfl)) ?_
  refine s_val hS rfl rfl (r_assign rfl (.t rfl rfl)) ?_
  refine wpList_nil ?_
  refine x_tn ?_
  refine k_reb [(6, .int .u32 (((((x + y) + c) % 4294967296 : Nat) : Int))), (7, .int .u32 0), (8, .int .u64 ((((x + y) + c : Nat) : Int)))] ⟨rfl, rfl, rfl, trivial⟩ fun G2 => ?_
  refine wp_seq ?_
  refine k_reg ?_
  refine s_val hS rfl rfl (r_move rfl (.t rfl rfl)) ?_
  refine s_val hS rfl rfl (r_shr rfl (.t rfl rfl) .c (by omega) (show (2 : Int) ^ _ = ((4294967296 : Nat) : Int) from rfl) fdiv_nat) ?_
  refine s_val hS rfl rfl (r_conv rfl Tryd.underlying47 Tryd.underlying38 (.t rfl rfl) (c := ((((x + y) + c) / 4294967296 : Nat) : Int)) (wn_u32 rfl (by omega))) ?_
  refine s_val hS rfl rfl (r_assign rfl (.t rfl rfl)) ?_
  refine wpList_nil ?_
  refine x_tn ?_
  refine k_reb [(6, .int .u32 (((((x + y) + c) % 4294967296 : Nat) : Int))), (7, .int .u32 (((((x + y) + c) / 4294967296 : Nat) : Int)))] ⟨rfl, rfl, trivial⟩ fun G3 => ?_
  refine wp_ret ?_
  refine k_ret2 Tryd.results96 rfl rfl rfl rfl ?_
  refine ⟨_, rfl, ?_⟩
  exact ⟨rfl, rfl⟩

theorem sub32_ok (w0 : World) (x y c : Nat) (hx : x ≤ 4294967295) (hy : y ≤ 4294967295) (hc : c ≤ 1) :
    Calls Tryd.prog 95 #[.int .u32 (((x : Nat) : Int)), .int .u32 (((y : Nat) : Int)), .int .u32 (((c : Nat) : Int))] w0 (Ret fun v w' => ∃ d o, v = .tuple #[.int .u32 ((d : Nat) : Int), .int .u32 ((o : Nat) : Int)] ∧ w' = w0 ∧ d ≤ 4294967295 ∧ o ≤ 1 ∧ x + 4294967296 * o = d + y + c) := by
  refine k_enter (vs := [.int .u32 (((x : Nat) : Int)), .int .u32 (((y : Nat) : Int)), .int .u32 (((c : Nat) : Int))]) Tryd.func95 rfl Tryd.ntmps95 rfl ?_
  have hS := St.init w0
  refine wp_seq ?_
  refine k_reg ?_
  refine s_val hS rfl rfl (r_assign rfl .c) ?_
  refine s_val hS rfl rfl (r_assign rfl .c) ?_
  refine wpList_nil ?_
  refine x_tn ?_
  refine wp_seq ?_
  refine k_reg ?_
  refine s_val hS rfl rfl (r_move rfl (.t rfl rfl)) ?_
  refine s_val hS rfl rfl (r_move rfl (.t rfl rfl)) ?_
  refine s_val hS rfl rfl (r_arith rfl rfl (.t rfl rfl) (.t rfl rfl) (wms_u32 (m := x) (p := y) (by omega))) ?_
  refine s_val hS rfl rfl (r_move rfl (.t rfl rfl)) ?_
  refine s_val hS rfl rfl (r_arith rfl rfl (.t rfl rfl) (.t rfl rfl) (wms_u32 (m := (x + 4294967296 - y) % 4294967296) (p := c) (by omega))) ?_
  refine s_val hS rfl rfl (r_assign rfl (.t rfl rfl)) ?_
  refine wpList_nil ?_
  refine x_tn ?_
  refine k_reb [(0, .int .u32 (((x : Nat) : Int))), (1, .int .u32 (((y : Nat) : Int))), (6, .int .u32 ((((((x + 4294967296 - y) % 4294967296) + 4294967296 - c) % 4294967296 : Nat) : Int))), (7, .int .u32 0)] ⟨rfl, rfl, rfl, rfl, trivial⟩ fun G1 => ?_
  refine wp_seq ?_
  refine k_reg ?_
  refine s_val hS rfl rfl (r_move rfl (.t rfl rfl)) ?_
  refine s_val hS rfl rfl (r_not rfl (.t rfl rfl) rfl (show x < 4294967296 from by omega)) ?_
  refine s_val hS rfl rfl (r_move rfl (.t rfl rfl)) ?_
  have hz1 : x ^^^ y ≤ 4294967295 := Nat.le_of_lt_succ (Nat.xor_lt_two_pow (n := 32) (by omega) (by omega))
  refine s_val hS rfl rfl (r_and rfl (.t rfl rfl) (.t rfl rfl) (show 4294967295 - x < 4294967296 from by omega) (show y < 4294967296 from by omega) (c := (4294967295 - x) &&& y) rfl (wn_u32 rfl (Nat.le_of_lt_succ (Nat.and_lt_two_pow (n := 32) _ (show y < 4294967296 from by omega))))) ?_
  refine s_val hS rfl rfl (r_move rfl (.t rfl rfl)) ?_
  refine s_val hS rfl rfl (r_move rfl (.t rfl rfl)) ?_
  refine s_val hS rfl rfl (r_xor rfl (.t rfl rfl) (.t rfl rfl) (show x < 4294967296 from by omega) (show y < 4294967296 from by omega) (c := x ^^^ y) rfl (wn_u32 rfl (Nat.le_of_lt_succ (Nat.xor_lt_two_pow (n := 32) (show x < 4294967296 from by omega) (show y < 4294967296 from by omega))))) ?_
  refine s_val hS rfl rfl (r_not rfl (.t rfl rfl) rfl (show x ^^^ y < 4294967296 from by omega)) ?_
  refine s_val hS rfl rfl (r_move rfl (.t rfl rfl)) ?_
  refine s_val hS rfl rfl (r_and rfl (.t rfl rfl) (.t rfl rfl) (show 4294967295 - (x ^^^ y) < 4294967296 from by omega) (show (((x + 4294967296 - y) % 4294967296) + 4294967296 - c) % 4294967296 < 4294967296 from by omega) (c := (4294967295 - (x ^^^ y)) &&& ((((x + 4294967296 - y) % 4294967296) + 4294967296 - c) % 4294967296)) rfl (wn_u32 rfl (Nat.le_of_lt_succ (Nat.and_lt_two_pow (n := 32) _ (show (((x + 4294967296 - y) % 4294967296) + 4294967296 - c) % 4294967296 < 4294967296 from by omega))))) ?_
  have hz2 : (4294967295 - x) &&& y ≤ 4294967295 := Nat.le_trans Nat.and_le_right hy
  have hz3 : ∀ q, (4294967295 - (x ^^^ y)) &&& q ≤ 4294967295 := fun q => Nat.le_trans Nat.and_le_left (Nat.sub_le _ _)
  have hz4 := hz3 (((x + 4294967296 - y) % 4294967296 + 4294967296 - c) % 4294967296)
  refine s_val hS rfl rfl (r_or rfl (.t rfl rfl) (.t rfl rfl) (show (4294967295 - x) &&& y < 4294967296 from by omega) (show (4294967295 - (x ^^^ y)) &&& ((((x + 4294967296 - y) % 4294967296) + 4294967296 - c) % 4294967296) < 4294967296 from by omega) (c := ((4294967295 - x) &&& y) ||| ((4294967295 - (x ^^^ y)) &&& ((((x + 4294967296 - y) % 4294967296) + 4294967296 - c) % 4294967296))) rfl (wn_u32 rfl (Nat.le_of_lt_succ (Nat.or_lt_two_pow (n := 32) (show (4294967295 - x) &&& y < 4294967296 from by omega) (show (4294967295 - (x ^^^ y)) &&& ((((x + 4294967296 - y) % 4294967296) + 4294967296 - c) % 4294967296) < 4294967296 from by omega))))) ?_
  refine s_val hS rfl rfl (r_shr rfl (.t rfl rfl) .c (by omega) (show (2 : Int) ^ _ = ((2147483648 : Nat) : Int) from rfl) fdiv_nat) ?_
  refine s_val hS rfl rfl (r_assign rfl (.t rfl rfl)) ?_
  refine wpList_nil ?_
  refine x_tn ?_
  refine k_reb [(6, .int .u32 ((((((x + 4294967296 - y) % 4294967296) + 4294967296 - c) % 4294967296 : Nat) : Int))), (7, .int .u32 ((((((4294967295 - x) &&& y) ||| ((4294967295 - (x ^^^ y)) &&& ((((x + 4294967296 - y) % 4294967296) + 4294967296 - c) % 4294967296))) / 2147483648 : Nat) : Int)))] ⟨rfl, rfl, trivial⟩ fun G2 => ?_
  refine wp_ret ?_
  refine k_ret2 Tryd.results95 rfl rfl rfl rfl ?_
  refine ⟨_, rfl, ?_⟩
  have e := sub_borrow (x := x) (y := y) (b := c) (d := ((x + 4294967296 - y) % 4294967296 + 4294967296 - c) % 4294967296) hx hy hc (by omega)
  exact ⟨_, _, rfl, rfl, by omega, sub_bit hx hy hc (by omega) e, e⟩

theorem len8_at : ∀ j, j < 256 → (⟨#[0, 1, 2, 2, 3, 3, 3, 3, 4, 4, 4, 4, 4, 4, 4, 4, 5, 5, 5, 5, 5, 5, 5, 5, 5, 5, 5, 5, 5, 5, 5, 5, 6, 6, 6, 6, 6, 6, 6, 6, 6, 6, 6, 6, 6, 6, 6, 6, 6, 6, 6, 6, 6, 6, 6, 6, 6, 6, 6, 6, 6, 6, 6, 6, 7, 7, 7, 7, 7, 7, 7, 7, 7, 7, 7, 7, 7, 7, 7, 7, 7, 7, 7, 7, 7, 7, 7, 7, 7, 7, 7, 7, 7, 7, 7, 7, 7, 7, 7, 7, 7, 7, 7, 7, 7, 7, 7, 7, 7, 7, 7, 7, 7, 7, 7, 7, 7, 7, 7, 7, 7, 7, 7, 7, 7, 7, 7, 7, 8, 8, 8, 8, 8, 8, 8, 8, 8, 8, 8, 8, 8, 8, 8, 8, 8, 8, 8, 8, 8, 8, 8, 8, 8, 8, 8, 8, 8, 8, 8, 8, 8, 8, 8, 8, 8, 8, 8, 8, 8, 8, 8, 8, 8, 8, 8, 8, 8, 8, 8, 8, 8, 8, 8, 8, 8, 8, 8, 8, 8, 8, 8, 8, 8, 8, 8, 8, 8, 8, 8, 8, 8, 8, 8, 8, 8, 8, 8, 8, 8, 8, 8, 8, 8, 8, 8, 8, 8, 8, 8, 8, 8, 8, 8, 8, 8, 8, 8, 8, 8, 8, 8, 8, 8, 8, 8, 8, 8, 8, 8, 8, 8, 8, 8, 8, 8, 8, 8, 8, 8, 8, 8, 8, 8, 8, 8, 8]⟩ : ByteArray).data.toList[j]? = some (bl j).toUInt8 := by decide +kernel
theorem bl8_lt : ∀ j, j < 256 → bl j < 256 := by decide +kernel

theorem len32_ok (w0 : World) (x : Nat) (hx : x ≤ 4294967295) :
    Calls Tryd.prog 38 #[.int .u32 (((x : Nat) : Int))] w0 (Ret fun v w' => v = .int .i64 ((bl x : Nat) : Int) ∧ w' = w0) := by
  refine k_enter (vs := [.int .u32 (((x : Nat) : Int))]) Tryd.func38 rfl Tryd.ntmps38 rfl ?_
  have hS := St.init w0
  refine wp_seq ?_
  refine k_reg ?_
  refine s_val hS rfl rfl (r_assign rfl .c) ?_
  refine wpList_nil ?_
  refine x_tn ?_
  refine wp_seq ?_
  refine wp_seq ?_
  refine k_reg ?_
  refine s_val hS rfl rfl (r_move rfl (.t rfl rfl)) ?_
  by_cases c1 : x ≥ 65536
  · refine s_val hS rfl rfl (r_cmp_t rfl rfl (.t rfl rfl) .c (show ((x : Nat) : Int) ≥ 65536 from by omega)) ?_
    refine wpList_nil ?_
    refine x_tn ?_
    refine k_reb [(0, .int .u32 (((x : Nat) : Int))), (2, .int .i64 0), (4, .bool true)] ⟨rfl, rfl, rfl, trivial⟩ fun G1 => ?_
    refine k_t (.t rfl rfl) ?_
    refine wp_seq ?_
    refine k_reg ?_
    refine s_val hS rfl rfl (r_move rfl (.t rfl rfl)) ?_
    refine s_val hS rfl rfl (r_shr rfl (.t rfl rfl) .c (by omega) (show (2 : Int) ^ _ = ((65536 : Nat) : Int) from rfl) fdiv_nat) ?_
    refine s_val hS rfl rfl (r_assign rfl (.t rfl rfl)) ?_
    refine wpList_nil ?_
    refine x_tn ?_
    refine k_reb [(0, .int .u32 (((x / 65536 : Nat) : Int))), (2, .int .i64 0)] ⟨rfl, rfl, trivial⟩ fun G2 => ?_
    refine k_reg ?_
    refine s_val hS rfl rfl (r_assign rfl .c) ?_
    refine wpList_nil ?_
    refine x_tn ?_
    refine wp_seq ?_
    refine wp_seq ?_
    refine k_reg ?_
    refine s_val hS rfl rfl (r_move rfl (.t rfl rfl)) ?_
    by_cases c2 : x / 65536 ≥ 256
    · refine s_val hS rfl rfl (r_cmp_t rfl rfl (.t rfl rfl) .c (show ((x / 65536 : Nat) : Int) ≥ 256 from by omega)) ?_
      refine wpList_nil ?_
      refine x_tn ?_
      refine k_reb [(0, .int .u32 (((x / 65536 : Nat) : Int))), (2, .int .i64 16), (8, .bool true)] ⟨rfl, rfl, rfl, trivial⟩ fun G3 => ?_
      refine k_t (.t rfl rfl) ?_
      refine wp_seq ?_
      refine k_reg ?_
      refine s_val hS rfl rfl (r_move rfl (.t rfl rfl)) ?_
      refine s_val hS rfl rfl (r_shr rfl (.t rfl rfl) .c (by omega) (show (2 : Int) ^ _ = ((256 : Nat) : Int) from rfl) fdiv_nat) ?_
      refine s_val hS rfl rfl (r_assign rfl (.t rfl rfl)) ?_
      refine wpList_nil ?_
      refine x_tn ?_
      refine k_reb [(0, .int .u32 ((((x / 65536) / 256 : Nat) : Int))), (2, .int .i64 16)] ⟨rfl, rfl, trivial⟩ fun G4 => ?_
      refine k_reg ?_
      refine s_val hS rfl rfl (r_move rfl (.t rfl rfl)) ?_
      refine s_val hS rfl rfl (r_arith rfl rfl (.t rfl rfl) .c (c := ((24 : Nat) : Int)) (wn_i64 (by show (16 : Int) + 8 = _; omega) (by omega))) ?_
      refine s_val hS rfl rfl (r_assign rfl (.t rfl rfl)) ?_
      refine wpList_nil ?_
      refine x_tn ?_
      refine k_reb [(0, .int .u32 ((((x / 65536) / 256 : Nat) : Int))), (2, .int .i64 24)] ⟨rfl, rfl, trivial⟩ fun G5 => ?_
      refine wp_seq ?_
      refine k_reg ?_
      refine s_val hS rfl rfl (r_move rfl (.t rfl rfl)) ?_
      refine s_val hS rfl rfl (r_move rfl (.t rfl rfl)) ?_
      refine s_val hS rfl rfl (r_conv rfl Tryd.underlying38 Tryd.underlying5 (.t rfl rfl) (c := (((x / 65536) / 256 : Nat) : Int)) (wn_u8 rfl (by omega))) ?_
      have hj_ : ((x / 65536) / 256) < 256 := by omega
      have hb_ := bl_le (n := 8) hj_
      refine s_val hS rfl rfl (r_idxs (j := (x / 65536) / 256) (c := bl ((x / 65536) / 256)) rfl Tryd.underlying9 .c (.t rfl rfl) rfl (len8_at _ hj_) (bl8_lt _ hj_)) ?_
      refine s_val hS rfl rfl (r_conv rfl Tryd.underlying5 Tryd.underlying3 (.t rfl rfl) (c := ((bl ((x / 65536) / 256) : Nat) : Int)) (wn_i64 rfl (by omega))) ?_
      refine s_val hS rfl rfl (r_arith rfl rfl (.t rfl rfl) (.t rfl rfl) (c := ((24 + (bl ((x / 65536) / 256)) : Nat) : Int)) (wn_i64 (by show (24 : Int) + ((bl ((x / 65536) / 256) : Nat) : Int) = _; omega) (by omega))) ?_
      refine s_val hS rfl rfl (r_assign rfl (.t rfl rfl)) ?_
      refine wpList_nil ?_
      refine x_tn ?_
      refine k_reb [(2, .int .i64 (((24 + (bl ((x / 65536) / 256)) : Nat) : Int)))] ⟨rfl, trivial⟩ fun G6 => ?_
      refine wp_ret ?_
      refine k_ret1 Tryd.results38 rfl rfl ?_
      refine ⟨_, rfl, ?_⟩
      have e0 : bl (x) = 16 + bl (x / 65536) := bl_shift (s := 16) (show 65536 ≤ x from by omega)
      have e1 : bl (x / 65536) = 8 + bl ((x / 65536) / 256) := bl_shift (s := 8) (show 256 ≤ x / 65536 from by omega)
      exact ⟨congrArg (fun z : Nat => Value.int .i64 (z : Int)) (by omega), rfl⟩
    · refine s_val hS rfl rfl (r_cmp_f rfl rfl (.t rfl rfl) .c (show ¬ (((x / 65536 : Nat) : Int) ≥ 256) from by omega)) ?_
      refine wpList_nil ?_
      refine x_tn ?_
      refine k_reb [(0, .int .u32 (((x / 65536 : Nat) : Int))), (2, .int .i64 16), (8, .bool false)] ⟨rfl, rfl, rfl, trivial⟩ fun G7 => ?_
      refine k_f (.t rfl rfl) ?_
      refine wp_skip ?_
      refine x_tn ?_
      refine k_reb [(0, .int .u32 (((x / 65536 : Nat) : Int))), (2, .int .i64 16)] ⟨rfl, rfl, trivial⟩ fun G8 => ?_
      refine wp_seq ?_
      refine k_reg ?_
      refine s_val hS rfl rfl (r_move rfl (.t rfl rfl)) ?_
      refine s_val hS rfl rfl (r_move rfl (.t rfl rfl)) ?_
      refine s_val hS rfl rfl (r_conv rfl Tryd.underlying38 Tryd.underlying5 (.t rfl rfl) (c := ((x / 65536 : Nat) : Int)) (wn_u8 rfl (by omega))) ?_
      have hj_ : (x / 65536) < 256 := by omega
      have hb_ := bl_le (n := 8) hj_
      refine s_val hS rfl rfl (r_idxs (j := x / 65536) (c := bl (x / 65536)) rfl Tryd.underlying9 .c (.t rfl rfl) rfl (len8_at _ hj_) (bl8_lt _ hj_)) ?_
      refine s_val hS rfl rfl (r_conv rfl Tryd.underlying5 Tryd.underlying3 (.t rfl rfl) (c := ((bl (x / 65536) : Nat) : Int)) (wn_i64 rfl (by omega))) ?_
      refine s_val hS rfl rfl (r_arith rfl rfl (.t rfl rfl) (.t rfl rfl) (c := ((16 + (bl (x / 65536)) : Nat) : Int)) (wn_i64 (by show (16 : Int) + ((bl (x / 65536) : Nat) : Int) = _; omega) (by omega))) ?_
      refine s_val hS rfl rfl (r_assign rfl (.t rfl rfl)) ?_
      refine wpList_nil ?_
      refine x_tn ?_
      refine k_reb [(2, .int .i64 (((16 + (bl (x / 65536)) : Nat) : Int)))] ⟨rfl, trivial⟩ fun G9 => ?_
      refine wp_ret ?_
      refine k_ret1 Tryd.results38 rfl rfl ?_
      refine ⟨_, rfl, ?_⟩
      have e0 : bl (x) = 16 + bl (x / 65536) := bl_shift (s := 16) (show 65536 ≤ x from by omega)
      exact ⟨congrArg (fun z : Nat => Value.int .i64 (z : Int)) (by omega), rfl⟩
  · refine s_val hS rfl rfl (r_cmp_f rfl rfl (.t rfl rfl) .c (show ¬ (((x : Nat) : Int) ≥ 65536) from by omega)) ?_
    refine wpList_nil ?_
    refine x_tn ?_
    refine k_reb [(0, .int .u32 (((x : Nat) : Int))), (2, .int .i64 0), (4, .bool false)] ⟨rfl, rfl, rfl, trivial⟩ fun G10 => ?_
    refine k_f (.t rfl rfl) ?_
    refine wp_skip ?_
    refine x_tn ?_
    refine k_reb [(0, .int .u32 (((x : Nat) : Int))), (2, .int .i64 0)] ⟨rfl, rfl, trivial⟩ fun G11 => ?_
    refine wp_seq ?_
    refine wp_seq ?_
    refine k_reg ?_
    refine s_val hS rfl rfl (r_move rfl (.t rfl rfl)) ?_
    by_cases c3 : x ≥ 256
    · refine s_val hS rfl rfl (r_cmp_t rfl rfl (.t rfl rfl) .c (show ((x : Nat) : Int) ≥ 256 from by omega)) ?_
      refine wpList_nil ?_
      refine x_tn ?_
      refine k_reb [(0, .int .u32 (((x : Nat) : Int))), (2, .int .i64 0), (8, .bool true)] ⟨rfl, rfl, rfl, trivial⟩ fun G12 => ?_
      refine k_t (.t rfl rfl) ?_
      refine wp_seq ?_
      refine k_reg ?_
      refine s_val hS rfl rfl (r_move rfl (.t rfl rfl)) ?_
      refine s_val hS rfl rfl (r_shr rfl (.t rfl rfl) .c (by omega) (show (2 : Int) ^ _ = ((256 : Nat) : Int) from rfl) fdiv_nat) ?_
      refine s_val hS rfl rfl (r_assign rfl (.t rfl rfl)) ?_
      refine wpList_nil ?_
      refine x_tn ?_
      refine k_reb [(0, .int .u32 (((x / 256 : Nat) : Int))), (2, .int .i64 0)] ⟨rfl, rfl, trivial⟩ fun G13 => ?_
      refine k_reg ?_
      refine s_val hS rfl rfl (r_move rfl (.t rfl rfl)) ?_
      refine s_val hS rfl rfl (r_arith rfl rfl (.t rfl rfl) .c (c := ((8 : Nat) : Int)) (wn_i64 (by show (0 : Int) + 8 = _; omega) (by omega))) ?_
      refine s_val hS rfl rfl (r_assign rfl (.t rfl rfl)) ?_
      refine wpList_nil ?_
      refine x_tn ?_
      refine k_reb [(0, .int .u32 (((x / 256 : Nat) : Int))), (2, .int .i64 8)] ⟨rfl, rfl, trivial⟩ fun G14 => ?_
      refine wp_seq ?_
      refine k_reg ?_
      refine s_val hS rfl rfl (r_move rfl (.t rfl rfl)) ?_
      refine s_val hS rfl rfl (r_move rfl (.t rfl rfl)) ?_
      refine s_val hS rfl rfl (r_conv rfl Tryd.underlying38 Tryd.underlying5 (.t rfl rfl) (c := ((x / 256 : Nat) : Int)) (wn_u8 rfl (by omega))) ?_
      have hj_ : (x / 256) < 256 := by omega
      have hb_ := bl_le (n := 8) hj_
      refine s_val hS rfl rfl (r_idxs (j := x / 256) (c := bl (x / 256)) rfl Tryd.underlying9 .c (.t rfl rfl) rfl (len8_at _ hj_) (bl8_lt _ hj_)) ?_
      refine s_val hS rfl rfl (r_conv rfl Tryd.underlying5 Tryd.underlying3 (.t rfl rfl) (c := ((bl (x / 256) : Nat) : Int)) (wn_i64 rfl (by omega))) ?_
      refine s_val hS rfl rfl (r_arith rfl rfl (.t rfl rfl) (.t rfl rfl) (c := ((8 + (bl (x / 256)) : Nat) : Int)) (wn_i64 (by show (8 : Int) + ((bl (x / 256) : Nat) : Int) = _; omega) (by omega))) ?_
      refine s_val hS rfl rfl (r_assign rfl (.t rfl rfl)) ?_
      refine wpList_nil ?_
      refine x_tn ?_
      refine k_reb [(2, .int .i64 (((8 + (bl (x / 256)) : Nat) : Int)))] ⟨rfl, trivial⟩ fun G15 => ?_
      refine wp_ret ?_
      refine k_ret1 Tryd.results38 rfl rfl ?_
      refine ⟨_, rfl, ?_⟩
      have e0 : bl (x) = 8 + bl (x / 256) := bl_shift (s := 8) (show 256 ≤ x from by omega)
      exact ⟨congrArg (fun z : Nat => Value.int .i64 (z : Int)) (by omega), rfl⟩
    · refine s_val hS rfl rfl (r_cmp_f rfl rfl (.t rfl rfl) .c (show ¬ (((x : Nat) : Int) ≥ 256) from by omega)) ?_
      refine wpList_nil ?_
      refine x_tn ?_
      refine k_reb [(0, .int .u32 (((x : Nat) : Int))), (2, .int .i64 0), (8, .bool false)] ⟨rfl, rfl, rfl, trivial⟩ fun G16 => ?_
      refine k_f (.t rfl rfl) ?_
      refine wp_skip ?_
      refine x_tn ?_
      refine k_reb [(0, .int .u32 (((x : Nat) : Int))), (2, .int .i64 0)] ⟨rfl, rfl, trivial⟩ fun G17 => ?_
      refine wp_seq ?_
      refine k_reg ?_
      refine s_val hS rfl rfl (r_move rfl (.t rfl rfl)) ?_
      refine s_val hS rfl rfl (r_move rfl (.t rfl rfl)) ?_
      refine s_val hS rfl rfl (r_conv rfl Tryd.underlying38 Tryd.underlying5 (.t rfl rfl) (c := ((x : Nat) : Int)) (wn_u8 rfl (by omega))) ?_
      have hj_ : x < 256 := by omega
      have hb_ := bl_le (n := 8) hj_
      refine s_val hS rfl rfl (r_idxs (j := x) (c := bl x) rfl Tryd.underlying9 .c (.t rfl rfl) rfl (len8_at _ hj_) (bl8_lt _ hj_)) ?_
      refine s_val hS rfl rfl (r_conv rfl Tryd.underlying5 Tryd.underlying3 (.t rfl rfl) (c := ((bl x : Nat) : Int)) (wn_i64 rfl (by omega))) ?_
      refine s_val hS rfl rfl (r_arith rfl rfl (.t rfl rfl) (.t rfl rfl) (c := ((0 + (bl x) : Nat) : Int)) (wn_i64 (by show (0 : Int) + ((bl x : Nat) : Int) = _; omega) (by omega))) ?_
      refine s_val hS rfl rfl (r_assign rfl (.t rfl rfl)) ?_
      refine wpList_nil ?_
      refine x_tn ?_
      refine k_reb [(2, .int .i64 (((0 + (bl x) : Nat) : Int)))] ⟨rfl, trivial⟩ fun G18 => ?_
      refine wp_ret ?_
      refine k_ret1 Tryd.results38 rfl rfl ?_
      refine ⟨_, rfl, ?_⟩
      exact ⟨congrArg (fun z : Nat => Value.int .i64 (z : Int)) (by omega), rfl⟩

theorem len64_ok (w0 : World) (x : Nat) (hx : x ≤ 18446744073709551615) :
    Calls Tryd.prog 70 #[.int .u64 (((x : Nat) : Int))] w0 (Ret fun v w' => v = .int .i64 ((bl x : Nat) : Int) ∧ w' = w0) := by
  refine k_enter (vs := [.int .u64 (((x : Nat) : Int))]) Tryd.func70 rfl Tryd.ntmps70 rfl ?_
  have hS := St.init w0
  refine wp_seq ?_
  refine k_reg ?_
  refine s_val hS rfl rfl (r_assign rfl .c) ?_
  refine wpList_nil ?_
  refine x_tn ?_
  refine wp_seq ?_
  refine wp_seq ?_
  refine k_reg ?_
  refine s_val hS rfl rfl (r_move rfl (.t rfl rfl)) ?_
  by_cases c1 : x ≥ 4294967296
  · refine s_val hS rfl rfl (r_cmp_t rfl rfl (.t rfl rfl) .c (show ((x : Nat) : Int) ≥ 4294967296 from by omega)) ?_
    refine wpList_nil ?_
    refine x_tn ?_
    refine k_reb [(0, .int .u64 (((x : Nat) : Int))), (2, .int .i64 0), (4, .bool true)] ⟨rfl, rfl, rfl, trivial⟩ fun G1 => ?_
    refine k_t (.t rfl rfl) ?_
    refine wp_seq ?_
    refine k_reg ?_
    refine s_val hS rfl rfl (r_move rfl (.t rfl rfl)) ?_
    refine s_val hS rfl rfl (r_shr rfl (.t rfl rfl) .c (by omega) (show (2 : Int) ^ _ = ((4294967296 : Nat) : Int) from rfl) fdiv_nat) ?_
    refine s_val hS rfl rfl (r_assign rfl (.t rfl rfl)) ?_
    refine wpList_nil ?_
    refine x_tn ?_
    refine k_reb [(0, .int .u64 (((x / 4294967296 : Nat) : Int))), (2, .int .i64 0)] ⟨rfl, rfl, trivial⟩ fun G2 => ?_
    refine k_reg ?_
    refine s_val hS rfl rfl (r_assign rfl .c) ?_
    refine wpList_nil ?_
    refine x_tn ?_
    refine wp_seq ?_
    refine wp_seq ?_
    refine k_reg ?_
    refine s_val hS rfl rfl (r_move rfl (.t rfl rfl)) ?_
    by_cases c2 : x / 4294967296 ≥ 65536
    · refine s_val hS rfl rfl (r_cmp_t rfl rfl (.t rfl rfl) .c (show ((x / 4294967296 : Nat) : Int) ≥ 65536 from by omega)) ?_
      refine wpList_nil ?_
      refine x_tn ?_
      refine k_reb [(0, .int .u64 (((x / 4294967296 : Nat) : Int))), (2, .int .i64 32), (8, .bool true)] ⟨rfl, rfl, rfl, trivial⟩ fun G3 => ?_
      refine k_t (.t rfl rfl) ?_
      refine wp_seq ?_
      refine k_reg ?_
      refine s_val hS rfl rfl (r_move rfl (.t rfl rfl)) ?_
      refine s_val hS rfl rfl (r_shr rfl (.t rfl rfl) .c (by omega) (show (2 : Int) ^ _ = ((65536 : Nat) : Int) from rfl) fdiv_nat) ?_
      refine s_val hS rfl rfl (r_assign rfl (.t rfl rfl)) ?_
      refine wpList_nil ?_
      refine x_tn ?_
      refine k_reb [(0, .int .u64 ((((x / 4294967296) / 65536 : Nat) : Int))), (2, .int .i64 32)] ⟨rfl, rfl, trivial⟩ fun G4 => ?_
      refine k_reg ?_
      refine s_val hS rfl rfl (r_move rfl (.t rfl rfl)) ?_
      refine s_val hS rfl rfl (r_arith rfl rfl (.t rfl rfl) .c (c := ((48 : Nat) : Int)) (wn_i64 (by show (32 : Int) + 16 = _; omega) (by omega))) ?_
      refine s_val hS rfl rfl (r_assign rfl (.t rfl rfl)) ?_
      refine wpList_nil ?_
      refine x_tn ?_
      refine k_reb [(0, .int .u64 ((((x / 4294967296) / 65536 : Nat) : Int))), (2, .int .i64 48)] ⟨rfl, rfl, trivial⟩ fun G5 => ?_
      refine wp_seq ?_
      refine wp_seq ?_
      refine k_reg ?_
      refine s_val hS rfl rfl (r_move rfl (.t rfl rfl)) ?_
      by_cases c3 : (x / 4294967296) / 65536 ≥ 256
      · refine s_val hS rfl rfl (r_cmp_t rfl rfl (.t rfl rfl) .c (show (((x / 4294967296) / 65536 : Nat) : Int) ≥ 256 from by omega)) ?_
        refine wpList_nil ?_
        refine x_tn ?_
        refine k_reb [(0, .int .u64 ((((x / 4294967296) / 65536 : Nat) : Int))), (2, .int .i64 48), (14, .bool true)] ⟨rfl, rfl, rfl, trivial⟩ fun G6 => ?_
        refine k_t (.t rfl rfl) ?_
        refine wp_seq ?_
        refine k_reg ?_
        refine s_val hS rfl rfl (r_move rfl (.t rfl rfl)) ?_
        refine s_val hS rfl rfl (r_shr rfl (.t rfl rfl) .c (by omega) (show (2 : Int) ^ _ = ((256 : Nat) : Int) from rfl) fdiv_nat) ?_
        refine s_val hS rfl rfl (r_assign rfl (.t rfl rfl)) ?_
        refine wpList_nil ?_
        refine x_tn ?_
        refine k_reb [(0, .int .u64 (((((x / 4294967296) / 65536) / 256 : Nat) : Int))), (2, .int .i64 48)] ⟨rfl, rfl, trivial⟩ fun G7 => ?_
        refine k_reg ?_
        refine s_val hS rfl rfl (r_move rfl (.t rfl rfl)) ?_
        refine s_val hS rfl rfl (r_arith rfl rfl (.t rfl rfl) .c (c := ((56 : Nat) : Int)) (wn_i64 (by show (48 : Int) + 8 = _; omega) (by omega))) ?_
        refine s_val hS rfl rfl (r_assign rfl (.t rfl rfl)) ?_
        refine wpList_nil ?_
        refine x_tn ?_
        refine k_reb [(0, .int .u64 (((((x / 4294967296) / 65536) / 256 : Nat) : Int))), (2, .int .i64 56)] ⟨rfl, rfl, trivial⟩ fun G8 => ?_
        refine wp_seq ?_
        refine k_reg ?_
        refine s_val hS rfl rfl (r_move rfl (.t rfl rfl)) ?_
        refine s_val hS rfl rfl (r_move rfl (.t rfl rfl)) ?_
        refine s_val hS rfl rfl (r_conv rfl Tryd.underlying47 Tryd.underlying5 (.t rfl rfl) (c := ((((x / 4294967296) / 65536) / 256 : Nat) : Int)) (wn_u8 rfl (by omega))) ?_
        have hj_ : (((x / 4294967296) / 65536) / 256) < 256 := by omega
        have hb_ := bl_le (n := 8) hj_
        refine s_val hS rfl rfl (r_idxs (j := ((x / 4294967296) / 65536) / 256) (c := bl (((x / 4294967296) / 65536) / 256)) rfl Tryd.underlying9 .c (.t rfl rfl) rfl (len8_at _ hj_) (bl8_lt _ hj_)) ?_
        refine s_val hS rfl rfl (r_conv rfl Tryd.underlying5 Tryd.underlying3 (.t rfl rfl) (c := ((bl (((x / 4294967296) / 65536) / 256) : Nat) : Int)) (wn_i64 rfl (by omega))) ?_
        refine s_val hS rfl rfl (r_arith rfl rfl (.t rfl rfl) (.t rfl rfl) (c := ((56 + (bl (((x / 4294967296) / 65536) / 256)) : Nat) : Int)) (wn_i64 (by show (56 : Int) + ((bl (((x / 4294967296) / 65536) / 256) : Nat) : Int) = _; omega) (by omega))) ?_
        refine s_val hS rfl rfl (r_assign rfl (.t rfl rfl)) ?_
        refine wpList_nil ?_
        refine x_tn ?_
        refine k_reb [(2, .int .i64 (((56 + (bl (((x / 4294967296) / 65536) / 256)) : Nat) : Int)))] ⟨rfl, trivial⟩ fun G9 => ?_
        refine wp_ret ?_
        refine k_ret1 Tryd.results70 rfl rfl ?_
        refine ⟨_, rfl, ?_⟩
        have e0 : bl (x) = 32 + bl (x / 4294967296) := bl_shift (s := 32) (show 4294967296 ≤ x from by omega)
        have e1 : bl (x / 4294967296) = 16 + bl ((x / 4294967296) / 65536) := bl_shift (s := 16) (show 65536 ≤ x / 4294967296 from by omega)
        have e2 : bl ((x / 4294967296) / 65536) = 8 + bl (((x / 4294967296) / 65536) / 256) := bl_shift (s := 8) (show 256 ≤ (x / 4294967296) / 65536 from by omega)
        exact ⟨congrArg (fun z : Nat => Value.int .i64 (z : Int)) (by omega), rfl⟩
      · refine s_val hS rfl rfl (r_cmp_f rfl rfl (.t rfl rfl) .c (show ¬ ((((x / 4294967296) / 65536 : Nat) : Int) ≥ 256) from by omega)) ?_
        refine wpList_nil ?_
        refine x_tn ?_
        refine k_reb [(0, .int .u64 ((((x / 4294967296) / 65536 : Nat) : Int))), (2, .int .i64 48), (14, .bool false)] ⟨rfl, rfl, rfl, trivial⟩ fun G10 => ?_
        refine k_f (.t rfl rfl) ?_
        refine wp_skip ?_
        refine x_tn ?_
        refine k_reb [(0, .int .u64 ((((x / 4294967296) / 65536 : Nat) : Int))), (2, .int .i64 48)] ⟨rfl, rfl, trivial⟩ fun G11 => ?_
        refine wp_seq ?_
        refine k_reg ?_
        refine s_val hS rfl rfl (r_move rfl (.t rfl rfl)) ?_
        refine s_val hS rfl rfl (r_move rfl (.t rfl rfl)) ?_
        refine s_val hS rfl rfl (r_conv rfl Tryd.underlying47 Tryd.underlying5 (.t rfl rfl) (c := (((x / 4294967296) / 65536 : Nat) : Int)) (wn_u8 rfl (by omega))) ?_
        have hj_ : ((x / 4294967296) / 65536) < 256 := by omega
        have hb_ := bl_le (n := 8) hj_
        refine s_val hS rfl rfl (r_idxs (j := (x / 4294967296) / 65536) (c := bl ((x / 4294967296) / 65536)) rfl Tryd.underlying9 .c (.t rfl rfl) rfl (len8_at _ hj_) (bl8_lt _ hj_)) ?_
        refine s_val hS rfl rfl (r_conv rfl Tryd.underlying5 Tryd.underlying3 (.t rfl rfl) (c := ((bl ((x / 4294967296) / 65536) : Nat) : Int)) (wn_i64 rfl (by omega))) ?_
        refine s_val hS rfl rfl (r_arith rfl rfl (.t rfl rfl) (.t rfl rfl) (c := ((48 + (bl ((x / 4294967296) / 65536)) : Nat) : Int)) (wn_i64 (by show (48 : Int) + ((bl ((x / 4294967296) / 65536) : Nat) : Int) = _; omega) (by omega))) ?_
        refine s_val hS rfl rfl (r_assign rfl (.t rfl rfl)) ?_
        refine wpList_nil ?_
        refine x_tn ?_
        refine k_reb [(2, .int .i64 (((48 + (bl ((x / 4294967296) / 65536)) : Nat) : Int)))] ⟨rfl, trivial⟩ fun G12 => ?_
        refine wp_ret ?_
        refine k_ret1 Tryd.results70 rfl rfl ?_
        refine ⟨_, rfl, ?_⟩
        have e0 : bl (x) = 32 + bl (x / 4294967296) := bl_shift (s := 32) (show 4294967296 ≤ x from by omega)
        have e1 : bl (x / 4294967296) = 16 + bl ((x / 4294967296) / 65536) := bl_shift (s := 16) (show 65536 ≤ x / 4294967296 from by omega)
        exact ⟨congrArg (fun z : Nat => Value.int .i64 (z : Int)) (by omega), rfl⟩
    · refine s_val hS rfl rfl (r_cmp_f rfl rfl (.t rfl rfl) .c (show ¬ (((x / 4294967296 : Nat) : Int) ≥ 65536) from by omega)) ?_
      refine wpList_nil ?_
      refine x_tn ?_
      refine k_reb [(0, .int .u64 (((x / 4294967296 : Nat) : Int))), (2, .int .i64 32), (8, .bool false)] ⟨rfl, rfl, rfl, trivial⟩ fun G13 => ?_
      refine k_f (.t rfl rfl) ?_
      refine wp_skip ?_
      refine x_tn ?_
      refine k_reb [(0, .int .u64 (((x / 4294967296 : Nat) : Int))), (2, .int .i64 32)] ⟨rfl, rfl, trivial⟩ fun G14 => ?_
      refine wp_seq ?_
      refine wp_seq ?_
      refine k_reg ?_
      refine s_val hS rfl rfl (r_move rfl (.t rfl rfl)) ?_
      by_cases c4 : x / 4294967296 ≥ 256
      · refine s_val hS rfl rfl (r_cmp_t rfl rfl (.t rfl rfl) .c (show ((x / 4294967296 : Nat) : Int) ≥ 256 from by omega)) ?_
        refine wpList_nil ?_
        refine x_tn ?_
        refine k_reb [(0, .int .u64 (((x / 4294967296 : Nat) : Int))), (2, .int .i64 32), (14, .bool true)] ⟨rfl, rfl, rfl, trivial⟩ fun G15 => ?_
        refine k_t (.t rfl rfl) ?_
        refine wp_seq ?_
        refine k_reg ?_
        refine s_val hS rfl rfl (r_move rfl (.t rfl rfl)) ?_
        refine s_val hS rfl rfl (r_shr rfl (.t rfl rfl) .c (by omega) (show (2 : Int) ^ _ = ((256 : Nat) : Int) from rfl) fdiv_nat) ?_
        refine s_val hS rfl rfl (r_assign rfl (.t rfl rfl)) ?_
        refine wpList_nil ?_
        refine x_tn ?_
        refine k_reb [(0, .int .u64 ((((x / 4294967296) / 256 : Nat) : Int))), (2, .int .i64 32)] ⟨rfl, rfl, trivial⟩ fun G16 => ?_
        refine k_reg ?_
        refine s_val hS rfl rfl (r_move rfl (.t rfl rfl)) ?_
        refine s_val hS rfl rfl (r_arith rfl rfl (.t rfl rfl) .c (c := ((40 : Nat) : Int)) (wn_i64 (by show (32 : Int) + 8 = _; omega) (by omega))) ?_
        refine s_val hS rfl rfl (r_assign rfl (.t rfl rfl)) ?_
        refine wpList_nil ?_
        refine x_tn ?_
        refine k_reb [(0, .int .u64 ((((x / 4294967296) / 256 : Nat) : Int))), (2, .int .i64 40)] ⟨rfl, rfl, trivial⟩ fun G17 => ?_
        refine wp_seq ?_
        refine k_reg ?_
        refine s_val hS rfl rfl (r_move rfl (.t rfl rfl)) ?_
        refine s_val hS rfl rfl (r_move rfl (.t rfl rfl)) ?_
        refine s_val hS rfl rfl (r_conv rfl Tryd.underlying47 Tryd.underlying5 (.t rfl rfl) (c := (((x / 4294967296) / 256 : Nat) : Int)) (wn_u8 rfl (by omega))) ?_
        have hj_ : ((x / 4294967296) / 256) < 256 := by omega
        have hb_ := bl_le (n := 8) hj_
        refine s_val hS rfl rfl (r_idxs (j := (x / 4294967296) / 256) (c := bl ((x / 4294967296) / 256)) rfl Tryd.underlying9 .c (.t rfl rfl) rfl (len8_at _ hj_) (bl8_lt _ hj_)) ?_
        refine s_val hS rfl rfl (r_conv rfl Tryd.underlying5 Tryd.underlying3 (.t rfl rfl) (c := ((bl ((x / 4294967296) / 256) : Nat) : Int)) (wn_i64 rfl (by omega))) ?_
        refine s_val hS rfl rfl (r_arith rfl rfl (.t rfl rfl) (.t rfl rfl) (c := ((40 + (bl ((x / 4294967296) / 256)) : Nat) : Int)) (wn_i64 (by show (40 : Int) + ((bl ((x / 4294967296) / 256) : Nat) : Int) = _; omega) (by omega))) ?_
        refine s_val hS rfl rfl (r_assign rfl (.t rfl rfl)) ?_
        refine wpList_nil ?_
        refine x_tn ?_
        refine k_reb [(2, .int .i64 (((40 + (bl ((x / 4294967296) / 256)) : Nat) : Int)))] ⟨rfl, trivial⟩ fun G18 => ?_
        refine wp_ret ?_
        refine k_ret1 Tryd.results70 rfl rfl ?_
        refine ⟨_, rfl, ?_⟩
        have e0 : bl (x) = 32 + bl (x / 4294967296) := bl_shift (s := 32) (show 4294967296 ≤ x from by omega)
        have e1 : bl (x / 4294967296) = 8 + bl ((x / 4294967296) / 256) := bl_shift (s := 8) (show 256 ≤ x / 4294967296 from by omega)
        exact ⟨congrArg (fun z : Nat => Value.int .i64 (z : Int)) (by omega), rfl⟩
      · refine s_val hS rfl rfl (r_cmp_f rfl rfl (.t rfl rfl) .c (show ¬ (((x / 4294967296 : Nat) : Int) ≥ 256) from by omega)) ?_
        refine wpList_nil ?_
        refine x_tn ?_
        refine k_reb [(0, .int .u64 (((x / 4294967296 : Nat) : Int))), (2, .int .i64 32), (14, .bool false)] ⟨rfl, rfl, rfl, trivial⟩ fun G19 => ?_
        refine k_f (.t rfl rfl) ?_
        refine wp_skip ?_
        refine x_tn ?_
        refine k_reb [(0, .int .u64 (((x / 4294967296 : Nat) : Int))), (2, .int .i64 32)] ⟨rfl, rfl, trivial⟩ fun G20 => ?_
        refine wp_seq ?_
        refine k_reg ?_
        refine s_val hS rfl rfl (r_move rfl (.t rfl rfl)) ?_
        refine s_val hS rfl rfl (r_move rfl (.t rfl rfl)) ?_
        refine s_val hS rfl rfl (r_conv rfl Tryd.underlying47 Tryd.underlying5 (.t rfl rfl) (c := ((x / 4294967296 : Nat) : Int)) (wn_u8 rfl (by omega))) ?_
        have hj_ : (x / 4294967296) < 256 := by omega
        have hb_ := bl_le (n := 8) hj_
        refine s_val hS rfl rfl (r_idxs (j := x / 4294967296) (c := bl (x / 4294967296)) rfl Tryd.underlying9 .c (.t rfl rfl) rfl (len8_at _ hj_) (bl8_lt _ hj_)) ?_
        refine s_val hS rfl rfl (r_conv rfl Tryd.underlying5 Tryd.underlying3 (.t rfl rfl) (c := ((bl (x / 4294967296) : Nat) : Int)) (wn_i64 rfl (by omega))) ?_
        refine s_val hS rfl rfl (r_arith rfl rfl (.t rfl rfl) (.t rfl rfl) (c := ((32 + (bl (x / 4294967296)) : Nat) : Int)) (wn_i64 (by show (32 : Int) + ((bl (x / 4294967296) : Nat) : Int) = _; omega) (by omega))) ?_
        refine s_val hS rfl rfl (r_assign rfl (.t rfl rfl)) ?_
        refine wpList_nil ?_
        refine x_tn ?_
        refine k_reb [(2, .int .i64 (((32 + (bl (x / 4294967296)) : Nat) : Int)))] ⟨rfl, trivial⟩ fun G21 => ?_
        refine wp_ret ?_
        refine k_ret1 Tryd.results70 rfl rfl ?_
        refine ⟨_, rfl, ?_⟩
        have e0 : bl (x) = 32 + bl (x / 4294967296) := bl_shift (s := 32) (show 4294967296 ≤ x from by omega)
        exact ⟨congrArg (fun z : Nat => Value.int .i64 (z : Int)) (by omega), rfl⟩
  · refine s_val hS rfl rfl (r_cmp_f rfl rfl (.t rfl rfl) .c (show ¬ (((x : Nat) : Int) ≥ 4294967296) from by omega)) ?_
    refine wpList_nil ?_
    refine x_tn ?_
    refine k_reb [(0, .int .u64 (((x : Nat) : Int))), (2, .int .i64 0), (4, .bool false)] ⟨rfl, rfl, rfl, trivial⟩ fun G22 => ?_
    refine k_f (.t rfl rfl) ?_
    refine wp_skip ?_
    refine x_tn ?_
    refine k_reb [(0, .int .u64 (((x : Nat) : Int))), (2, .int .i64 0)] ⟨rfl, rfl, trivial⟩ fun G23 => ?_
    refine wp_seq ?_
    refine wp_seq ?_
    refine k_reg ?_
    refine s_val hS rfl rfl (r_move rfl (.t rfl rfl)) ?_
    by_cases c5 : x ≥ 65536
    · refine s_val hS rfl rfl (r_cmp_t rfl rfl (.t rfl rfl) .c (show ((x : Nat) : Int) ≥ 65536 from by omega)) ?_
      refine wpList_nil ?_
      refine x_tn ?_
      refine k_reb [(0, .int .u64 (((x : Nat) : Int))), (2, .int .i64 0), (8, .bool true)] ⟨rfl, rfl, rfl, trivial⟩ fun G24 => ?_
      refine k_t (.t rfl rfl) ?_
      refine wp_seq ?_
      refine k_reg ?_
      refine s_val hS rfl rfl (r_move rfl (.t rfl rfl)) ?_
      refine s_val hS rfl rfl (r_shr rfl (.t rfl rfl) .c (by omega) (show (2 : Int) ^ _ = ((65536 : Nat) : Int) from rfl) fdiv_nat) ?_
      refine s_val hS rfl rfl (r_assign rfl (.t rfl rfl)) ?_
      refine wpList_nil ?_
      refine x_tn ?_
      refine k_reb [(0, .int .u64 (((x / 65536 : Nat) : Int))), (2, .int .i64 0)] ⟨rfl, rfl, trivial⟩ fun G25 => ?_
      refine k_reg ?_
      refine s_val hS rfl rfl (r_move rfl (.t rfl rfl)) ?_
      refine s_val hS rfl rfl (r_arith rfl rfl (.t rfl rfl) .c (c := ((16 : Nat) : Int)) (wn_i64 (by show (0 : Int) + 16 = _; omega) (by omega))) ?_
      refine s_val hS rfl rfl (r_assign rfl (.t rfl rfl)) ?_
      refine wpList_nil ?_
      refine x_tn ?_
      refine k_reb [(0, .int .u64 (((x / 65536 : Nat) : Int))), (2, .int .i64 16)] ⟨rfl, rfl, trivial⟩ fun G26 => ?_
      refine wp_seq ?_
      refine wp_seq ?_
      refine k_reg ?_
      refine s_val hS rfl rfl (r_move rfl (.t rfl rfl)) ?_
      by_cases c6 : x / 65536 ≥ 256
      · refine s_val hS rfl rfl (r_cmp_t rfl rfl (.t rfl rfl) .c (show ((x / 65536 : Nat) : Int) ≥ 256 from by omega)) ?_
        refine wpList_nil ?_
        refine x_tn ?_
        refine k_reb [(0, .int .u64 (((x / 65536 : Nat) : Int))), (2, .int .i64 16), (14, .bool true)] ⟨rfl, rfl, rfl, trivial⟩ fun G27 => ?_
        refine k_t (.t rfl rfl) ?_
        refine wp_seq ?_
        refine k_reg ?_
        refine s_val hS rfl rfl (r_move rfl (.t rfl rfl)) ?_
        refine s_val hS rfl rfl (r_shr rfl (.t rfl rfl) .c (by omega) (show (2 : Int) ^ _ = ((256 : Nat) : Int) from rfl) fdiv_nat) ?_
        refine s_val hS rfl rfl (r_assign rfl (.t rfl rfl)) ?_
        refine wpList_nil ?_
        refine x_tn ?_
        refine k_reb [(0, .int .u64 ((((x / 65536) / 256 : Nat) : Int))), (2, .int .i64 16)] ⟨rfl, rfl, trivial⟩ fun G28 => ?_
        refine k_reg ?_
        refine s_val hS rfl rfl (r_move rfl (.t rfl rfl)) ?_
        refine s_val hS rfl rfl (r_arith rfl rfl (.t rfl rfl) .c (c := ((24 : Nat) : Int)) (wn_i64 (by show (16 : Int) + 8 = _; omega) (by omega))) ?_
        refine s_val hS rfl rfl (r_assign rfl (.t rfl rfl)) ?_
        refine wpList_nil ?_
        refine x_tn ?_
        refine k_reb [(0, .int .u64 ((((x / 65536) / 256 : Nat) : Int))), (2, .int .i64 24)] ⟨rfl, rfl, trivial⟩ fun G29 => ?_
        refine wp_seq ?_
        refine k_reg ?_
        refine s_val hS rfl rfl (r_move rfl (.t rfl rfl)) ?_
        refine s_val hS rfl rfl (r_move rfl (.t rfl rfl)) ?_
        refine s_val hS rfl rfl (r_conv rfl Tryd.underlying47 Tryd.underlying5 (.t rfl rfl) (c := (((x / 65536) / 256 : Nat) : Int)) (wn_u8 rfl (by omega))) ?_
        have hj_ : ((x / 65536) / 256) < 256 := by omega
        have hb_ := bl_le (n := 8) hj_
        refine s_val hS rfl rfl (r_idxs (j := (x / 65536) / 256) (c := bl ((x / 65536) / 256)) rfl Tryd.underlying9 .c (.t rfl rfl) rfl (len8_at _ hj_) (bl8_lt _ hj_)) ?_
        refine s_val hS rfl rfl (r_conv rfl Tryd.underlying5 Tryd.underlying3 (.t rfl rfl) (c := ((bl ((x / 65536) / 256) : Nat) : Int)) (wn_i64 rfl (by omega))) ?_
        refine s_val hS rfl rfl (r_arith rfl rfl (.t rfl rfl) (.t rfl rfl) (c := ((24 + (bl ((x / 65536) / 256)) : Nat) : Int)) (wn_i64 (by show (24 : Int) + ((bl ((x / 65536) / 256) : Nat) : Int) = _; omega) (by omega))) ?_
        refine s_val hS rfl rfl (r_assign rfl (.t rfl rfl)) ?_
        refine wpList_nil ?_
        refine x_tn ?_
        refine k_reb [(2, .int .i64 (((24 + (bl ((x / 65536) / 256)) : Nat) : Int)))] ⟨rfl, trivial⟩ fun G30 => ?_
        refine wp_ret ?_
        refine k_ret1 Tryd.results70 rfl rfl ?_
        refine ⟨_, rfl, ?_⟩
        have e0 : bl (x) = 16 + bl (x / 65536) := bl_shift (s := 16) (show 65536 ≤ x from by omega)
        have e1 : bl (x / 65536) = 8 + bl ((x / 65536) / 256) := bl_shift (s := 8) (show 256 ≤ x / 65536 from by omega)
        exact ⟨congrArg (fun z : Nat => Value.int .i64 (z : Int)) (by omega), rfl⟩
      · refine s_val hS rfl rfl (r_cmp_f rfl rfl (.t rfl rfl) .c (show ¬ (((x / 65536 : Nat) : Int) ≥ 256) from by omega)) ?_
        refine wpList_nil ?_
        refine x_tn ?_
        refine k_reb [(0, .int .u64 (((x / 65536 : Nat) : Int))), (2, .int .i64 16), (14, .bool false)] ⟨rfl, rfl, rfl, trivial⟩ fun G31 => ?_
        refine k_f (.t rfl rfl) ?_
        refine wp_skip ?_
        refine x_tn ?_
        refine k_reb [(0, .int .u64 (((x / 65536 : Nat) : Int))), (2, .int .i64 16)] ⟨rfl, rfl, trivial⟩ fun G32 => ?_
        refine wp_seq ?_
        refine k_reg ?_
        refine s_val hS rfl rfl (r_move rfl (.t rfl rfl)) ?_
        refine s_val hS rfl rfl (r_move rfl (.t rfl rfl)) ?_
        refine s_val hS rfl rfl (r_conv rfl Tryd.underlying47 Tryd.underlying5 (.t rfl rfl) (c := ((x / 65536 : Nat) : Int)) (wn_u8 rfl (by omega))) ?_
        have hj_ : (x / 65536) < 256 := by omega
        have hb_ := bl_le (n := 8) hj_
        refine s_val hS rfl rfl (r_idxs (j := x / 65536) (c := bl (x / 65536)) rfl Tryd.underlying9 .c (.t rfl rfl) rfl (len8_at _ hj_) (bl8_lt _ hj_)) ?_
        refine s_val hS rfl rfl (r_conv rfl Tryd.underlying5 Tryd.underlying3 (.t rfl rfl) (c := ((bl (x / 65536) : Nat) : Int)) (wn_i64 rfl (by omega))) ?_
        refine s_val hS rfl rfl (r_arith rfl rfl (.t rfl rfl) (.t rfl rfl) (c := ((16 + (bl (x / 65536)) : Nat) : Int)) (wn_i64 (by show (16 : Int) + ((bl (x / 65536) : Nat) : Int) = _; omega) (by omega))) ?_
        refine s_val hS rfl rfl (r_assign rfl (.t rfl rfl)) ?_
        refine wpList_nil ?_
        refine x_tn ?_
        refine k_reb [(2, .int .i64 (((16 + (bl (x / 65536)) : Nat) : Int)))] ⟨rfl, trivial⟩ fun G33 => ?_
        refine wp_ret ?_
        refine k_ret1 Tryd.results70 rfl rfl ?_
        refine ⟨_, rfl, ?_⟩
        have e0 : bl (x) = 16 + bl (x / 65536) := bl_shift (s := 16) (show 65536 ≤ x from by omega)
        exact ⟨congrArg (fun z : Nat => Value.int .i64 (z : Int)) (by omega), rfl⟩
    · refine s_val hS rfl rfl (r_cmp_f rfl rfl (.t rfl rfl) .c (show ¬ (((x : Nat) : Int) ≥ 65536) from by omega)) ?_
      refine wpList_nil ?_
      refine x_tn ?_
      refine k_reb [(0, .int .u64 (((x : Nat) : Int))), (2, .int .i64 0), (8, .bool false)] ⟨rfl, rfl, rfl, trivial⟩ fun G34 => ?_
      refine k_f (.t rfl rfl) ?_
      refine wp_skip ?_
      refine x_tn ?_
      refine k_reb [(0, .int .u64 (((x : Nat) : Int))), (2, .int .i64 0)] ⟨rfl, rfl, trivial⟩ fun G35 => ?_
      refine wp_seq ?_
      refine wp_seq ?_
      refine k_reg ?_
      refine s_val hS rfl rfl (r_move rfl (.t rfl rfl)) ?_
      by_cases c7 : x ≥ 256
      · refine s_val hS rfl rfl (r_cmp_t rfl rfl (.t rfl rfl) .c (show ((x : Nat) : Int) ≥ 256 from by omega)) ?_
        refine wpList_nil ?_
        refine x_tn ?_
        refine k_reb [(0, .int .u64 (((x : Nat) : Int))), (2, .int .i64 0), (14, .bool true)] ⟨rfl, rfl, rfl, trivial⟩ fun G36 => ?_
        refine k_t (.t rfl rfl) ?_
        refine wp_seq ?_
        refine k_reg ?_
        refine s_val hS rfl rfl (r_move rfl (.t rfl rfl)) ?_
        refine s_val hS rfl rfl (r_shr rfl (.t rfl rfl) .c (by omega) (show (2 : Int) ^ _ = ((256 : Nat) : Int) from rfl) fdiv_nat) ?_
        refine s_val hS rfl rfl (r_assign rfl (.t rfl rfl)) ?_
        refine wpList_nil ?_
        refine x_tn ?_
        refine k_reb [(0, .int .u64 (((x / 256 : Nat) : Int))), (2, .int .i64 0)] ⟨rfl, rfl, trivial⟩ fun G37 => ?_
        refine k_reg ?_
        refine s_val hS rfl rfl (r_move rfl (.t rfl rfl)) ?_
        refine s_val hS rfl rfl (r_arith rfl rfl (.t rfl rfl) .c (c := ((8 : Nat) : Int)) (wn_i64 (by show (0 : Int) + 8 = _; omega) (by omega))) ?_
        refine s_val hS rfl rfl (r_assign rfl (.t rfl rfl)) ?_
        refine wpList_nil ?_
        refine x_tn ?_
        refine k_reb [(0, .int .u64 (((x / 256 : Nat) : Int))), (2, .int .i64 8)] ⟨rfl, rfl, trivial⟩ fun G38 => ?_
        refine wp_seq ?_
        refine k_reg ?_
        refine s_val hS rfl rfl (r_move rfl (.t rfl rfl)) ?_
        refine s_val hS rfl rfl (r_move rfl (.t rfl rfl)) ?_
        refine s_val hS rfl rfl (r_conv rfl Tryd.underlying47 Tryd.underlying5 (.t rfl rfl) (c := ((x / 256 : Nat) : Int)) (wn_u8 rfl (by omega))) ?_
        have hj_ : (x / 256) < 256 := by omega
        have hb_ := bl_le (n := 8) hj_
        refine s_val hS rfl rfl (r_idxs (j := x / 256) (c := bl (x / 256)) rfl Tryd.underlying9 .c (.t rfl rfl) rfl (len8_at _ hj_) (bl8_lt _ hj_)) ?_
        refine s_val hS rfl rfl (r_conv rfl Tryd.underlying5 Tryd.underlying3 (.t rfl rfl) (c := ((bl (x / 256) : Nat) : Int)) (wn_i64 rfl (by omega))) ?_
        refine s_val hS rfl rfl (r_arith rfl rfl (.t rfl rfl) (.t rfl rfl) (c := ((8 + (bl (x / 256)) : Nat) : Int)) (wn_i64 (by show (8 : Int) + ((bl (x / 256) : Nat) : Int) = _; omega) (by omega))) ?_
        refine s_val hS rfl rfl (r_assign rfl (.t rfl rfl)) ?_
        refine wpList_nil ?_
        refine x_tn ?_
        refine k_reb [(2, .int .i64 (((8 + (bl (x / 256)) : Nat) : Int)))] ⟨rfl, trivial⟩ fun G39 => ?_
        refine wp_ret ?_
        refine k_ret1 Tryd.results70 rfl rfl ?_
        refine ⟨_, rfl, ?_⟩
        have e0 : bl (x) = 8 + bl (x / 256) := bl_shift (s := 8) (show 256 ≤ x from by omega)
        exact ⟨congrArg (fun z : Nat => Value.int .i64 (z : Int)) (by omega), rfl⟩
      · refine s_val hS rfl rfl (r_cmp_f rfl rfl (.t rfl rfl) .c (show ¬ (((x : Nat) : Int) ≥ 256) from by omega)) ?_
        refine wpList_nil ?_
        refine x_tn ?_
        refine k_reb [(0, .int .u64 (((x : Nat) : Int))), (2, .int .i64 0), (14, .bool false)] ⟨rfl, rfl, rfl, trivial⟩ fun G40 => ?_
        refine k_f (.t rfl rfl) ?_
        refine wp_skip ?_
        refine x_tn ?_
        refine k_reb [(0, .int .u64 (((x : Nat) : Int))), (2, .int .i64 0)] ⟨rfl, rfl, trivial⟩ fun G41 => ?_
        refine wp_seq ?_
        refine k_reg ?_
        refine s_val hS rfl rfl (r_move rfl (.t rfl rfl)) ?_
        refine s_val hS rfl rfl (r_move rfl (.t rfl rfl)) ?_
        refine s_val hS rfl rfl (r_conv rfl Tryd.underlying47 Tryd.underlying5 (.t rfl rfl) (c := ((x : Nat) : Int)) (wn_u8 rfl (by omega))) ?_
        have hj_ : x < 256 := by omega
        have hb_ := bl_le (n := 8) hj_
        refine s_val hS rfl rfl (r_idxs (j := x) (c := bl x) rfl Tryd.underlying9 .c (.t rfl rfl) rfl (len8_at _ hj_) (bl8_lt _ hj_)) ?_
        refine s_val hS rfl rfl (r_conv rfl Tryd.underlying5 Tryd.underlying3 (.t rfl rfl) (c := ((bl x : Nat) : Int)) (wn_i64 rfl (by omega))) ?_
        refine s_val hS rfl rfl (r_arith rfl rfl (.t rfl rfl) (.t rfl rfl) (c := ((0 + (bl x) : Nat) : Int)) (wn_i64 (by show (0 : Int) + ((bl x : Nat) : Int) = _; omega) (by omega))) ?_
        refine s_val hS rfl rfl (r_assign rfl (.t rfl rfl)) ?_
        refine wpList_nil ?_
        refine x_tn ?_
        refine k_reb [(2, .int .i64 (((0 + (bl x) : Nat) : Int)))] ⟨rfl, trivial⟩ fun G42 => ?_
        refine wp_ret ?_
        refine k_ret1 Tryd.results70 rfl rfl ?_
        refine ⟨_, rfl, ?_⟩
        exact ⟨congrArg (fun z : Nat => Value.int .i64 (z : Int)) (by omega), rfl⟩

theorem lz32_ok (w0 : World) (x : Nat) (hx : x ≤ 4294967295) :
    Calls Tryd.prog 74 #[.int .u32 (((x : Nat) : Int))] w0 (Ret fun v w' => v = .int .i64 ((32 - bl x : Nat) : Int) ∧ w' = w0) := by
  refine k_enter (vs := [.int .u32 (((x : Nat) : Int))]) Tryd.func74 rfl Tryd.ntmps74 rfl ?_
  have hS := St.init w0
  have hb := bl_le (n := 32) (x := x) (by omega)
  refine wp_seq ?_
  refine k_reg ?_
  refine s_val hS rfl rfl (r_assign rfl .c) ?_
  refine wpList_nil ?_
  refine x_tn ?_
  refine wp_seq ?_
  refine k_reg ?_
  refine s_val hS rfl rfl (r_move rfl (.t rfl rfl)) ?_
  refine s_call rfl rfl rfl (vs := [.int .u32 (((x : Nat) : Int))]) ⟨(.t rfl rfl), trivial⟩ cb38 (len32_ok w0 x (by omega)) ?_
  rintro _ w0 ⟨rfl, rfl⟩
  refine s_val hS rfl rfl (r_arith rfl rfl .c (.t rfl rfl) (c := ((32 - (bl x) : Nat) : Int)) (wn_i64 (by show (32 : Int) - ((bl x : Nat) : Int) = _; omega) (by omega))) ?_
  refine s_val hS rfl rfl (r_assign rfl (.t rfl rfl)) ?_
  refine wpList_nil ?_
  refine x_tn ?_
  refine k_reb [(2, .int .i64 (((32 - (bl x) : Nat) : Int)))] ⟨rfl, trivial⟩ fun G1 => ?_
  refine wp_ret ?_
  refine k_ret1 Tryd.results74 rfl rfl ?_
  refine ⟨_, rfl, ?_⟩
  exact ⟨rfl, rfl⟩

theorem len_ok (w0 : World) (x : Nat) (hx : x ≤ 18446744073709551615) :
    Calls Tryd.prog 31 #[.int .u64 (((x : Nat) : Int))] w0 (Ret fun v w' => v = .int .i64 ((bl x : Nat) : Int) ∧ w' = w0) := by
  refine k_enter (vs := [.int .u64 (((x : Nat) : Int))]) Tryd.func31 rfl Tryd.ntmps31 rfl ?_
  have hS := St.init w0
  refine wp_seq ?_
  refine k_reg ?_
  refine s_val hS rfl rfl (r_assign rfl .c) ?_
  refine wpList_nil ?_
  refine x_tn ?_
  refine wp_seq ?_
  refine k_f .c ?_
  refine wp_skip ?_
  refine x_tn ?_
  refine wp_seq ?_
  refine k_reg ?_
  refine s_val hS rfl rfl (r_move rfl (.t rfl rfl)) ?_
  refine s_call rfl rfl rfl (vs := [.int .u64 (((x : Nat) : Int))]) ⟨(.t rfl rfl), trivial⟩ cb70 (len64_ok w0 x (by omega)) ?_
  rintro _ w0 ⟨rfl, rfl⟩
  refine s_val hS rfl rfl (r_assign rfl (.t rfl rfl)) ?_
  refine wpList_nil ?_
  refine x_tn ?_
  refine k_reb [(2, .int .i64 (((bl x : Nat) : Int)))] ⟨rfl, trivial⟩ fun G1 => ?_
  refine wp_ret ?_
  refine k_ret1 Tryd.results31 rfl rfl ?_
  refine ⟨_, rfl, ?_⟩
  exact ⟨rfl, rfl⟩

theorem div32_ok (w0 : World) (hi lo y : Nat) (hh : hi ≤ 4294967295) (hl : lo ≤ 4294967295) (hy : y ≤ 4294967295) (hlt : hi < y) :
    Calls Tryd.prog 94 #[.int .u32 (((hi : Nat) : Int)), .int .u32 (((lo : Nat) : Int)), .int .u32 (((y : Nat) : Int))] w0 (Ret fun v w' => v = .tuple #[.int .u32 (((hi * 4294967296 + lo) / y : Nat) : Int), .int .u32 (((hi * 4294967296 + lo) % y : Nat) : Int)] ∧ St w0 [] [] w') := by
  refine k_enter (vs := [.int .u32 (((hi : Nat) : Int)), .int .u32 (((lo : Nat) : Int)), .int .u32 (((y : Nat) : Int))]) Tryd.func94 rfl Tryd.ntmps94 rfl ?_
  have hS := St.init w0
  refine wp_seq ?_
  refine k_reg ?_
  refine s_val hS rfl rfl (r_assign rfl .c) ?_
  refine s_val hS rfl rfl (r_assign rfl .c) ?_
  refine wpList_nil ?_
  refine x_tn ?_
  refine wp_seq ?_
  refine wp_seq ?_
  refine k_reg ?_
  refine s_val hS rfl rfl (r_move rfl (.t rfl rfl)) ?_
  refine s_val hS rfl rfl (r_cmp_t rfl rfl (.t rfl rfl) .c (show ¬ ((y : Nat) : Int) = 0 from by omega)) ?_
  refine s_val hS rfl rfl (r_move rfl (.t rfl rfl)) ?_
  refine s_valg hS (wanted_of (j := 2) (b := true) (d := 11) rfl rfl rfl rfl) rfl (r_move rfl (.t rfl rfl)) ?_
  refine s_valg hS (wanted_of (j := 2) (b := true) (d := 11) rfl rfl rfl rfl) rfl (r_move rfl (.t rfl rfl)) ?_
  refine s_valg hS (wanted_of (j := 2) (b := true) (d := 11) rfl rfl rfl rfl) rfl (r_cmp_f rfl rfl (.t rfl rfl) (.t rfl rfl) (show ¬ (((y : Nat) : Int) ≤ ((hi : Nat) : Int)) from by omega)) ?_
  refine s_val hS rfl rfl (r_pick rfl (.t rfl rfl) (.t rfl rfl)) ?_
  refine wpList_nil ?_
  refine x_tn ?_
  refine k_reb [(0, .int .u32 (((hi : Nat) : Int))), (1, .int .u32 (((lo : Nat) : Int))), (2, .int .u32 (((y : Nat) : Int))), (6, .int .u32 0), (7, .int .u32 0), (15, .bool false)] ⟨rfl, rfl, rfl, rfl, rfl, rfl, trivial⟩ fun G1 => ?_
  refine k_f (.t rfl rfl) ?_
  refine wp_skip ?_
  refine x_tn ?_
  refine k_reb [(0, .int .u32 (((hi : Nat) : Int))), (1, .int .u32 (((lo : Nat) : Int))), (2, .int .u32 (((y : Nat) : Int))), (6, .int .u32 0), (7, .int .u32 0)] ⟨rfl, rfl, rfl, rfl, rfl, trivial⟩ fun G2 => ?_
  refine wp_seq ?_
  refine k_reg ?_
  refine s_val hS rfl rfl (r_move rfl (.t rfl rfl)) ?_
  refine s_val hS rfl rfl (r_conv rfl Tryd.underlying38 Tryd.underlying47 (.t rfl rfl) (c := ((hi : Nat) : Int)) (wn_u64 rfl (by omega))) ?_
  refine s_val hS rfl rfl (r_shl rfl (.t rfl rfl) .c (by omega) (show (2 : Int) ^ _ = ((4294967296 : Nat) : Int) from rfl) (c := ((hi * 4294967296 : Nat) : Int)) (wn_u64 (Int.natCast_mul _ _).symm (by omega))) ?_
  refine s_val hS rfl rfl (r_move rfl (.t rfl rfl)) ?_
  refine s_val hS rfl rfl (r_conv rfl Tryd.underlying38 Tryd.underlying47 (.t rfl rfl) (c := ((lo : Nat) : Int)) (wn_u64 rfl (by omega))) ?_
  refine s_val hS rfl rfl (r_or rfl (.t rfl rfl) (.t rfl rfl) (show hi * 4294967296 < 18446744073709551616 from by omega) (show lo < 18446744073709551616 from by omega) (c := hi * 4294967296 + lo) ((or_add hl)) (wn_u64 rfl (by omega))) ?_
  refine s_val hS rfl rfl (r_assign rfl (.t rfl rfl)) ?_
  refine wpList_nil ?_
  refine x_tn ?_
  refine k_reb [(2, .int .u32 (((y : Nat) : Int))), (6, .int .u32 0), (7, .int .u32 0), (8, .int .u64 (((hi * 4294967296 + lo : Nat) : Int)))] ⟨rfl, rfl, rfl, rfl, trivial⟩ fun G3 => ?_
  refine wp_seq ?_
  refine k_regq mixed (by kernel_rfl) hS ?_
  refine q_val rfl rfl (r_move rfl (.t rfl rfl)) ?_
  refine q_val rfl rfl (r_move rfl (.t rfl rfl)) ?_
  refine q_val rfl rfl (r_conv rfl Tryd.underlying38 Tryd.underlying47 (.t rfl rfl) (c := ((y : Nat) : Int)) (wn_u64 rfl (by omega))) ?_
  refine q_val rfl rfl (r_quo rfl (.t rfl rfl) (.t rfl rfl) (nz_nat (by omega)) (wn_u64 (c := (hi * 4294967296 + lo) / y) tdiv_nat (Nat.le_trans (Nat.div_le_self _ _) (by omega)))) ?_
  have hq := div_small (lo := lo) (by omega) hlt
  refine q_val rfl rfl (r_conv rfl Tryd.underlying47 Tryd.underlying38 (.t rfl rfl) (c := (((hi * 4294967296 + lo) / y : Nat) : Int)) (wn_u32 rfl (by omega))) ?_
  refine q_val rfl rfl (r_move rfl (.t rfl rfl)) ?_
  refine q_val rfl rfl (r_move rfl (.t rfl rfl)) ?_
  refine q_val rfl rfl (r_conv rfl Tryd.underlying38 Tryd.underlying47 (.t rfl rfl) (c := ((y : Nat) : Int)) (wn_u64 rfl (by omega))) ?_
  refine q_val rfl rfl (r_rem rfl (.t rfl rfl) (.t rfl rfl) (nz_nat (by omega)) (c := (((hi * 4294967296 + lo) % y : Nat) : Int)) tmod_nat) ?_
  have hr := Nat.mod_lt (hi * 4294967296 + lo) (show 0 < y from by omega)
  refine q_val rfl rfl (r_conv rfl Tryd.underlying47 Tryd.underlying38 (.t rfl rfl) (c := (((hi * 4294967296 + lo) % y : Nat) : Int)) (wn_u32 rfl (by omega))) ?_
  refine q_val rfl rfl (r_assign rfl (.t rfl rfl)) ?_
  refine q_val rfl rfl (r_assign rfl (.t rfl rfl)) ?_
  refine q_nil ?_
  intro w1 hS1
  refine x_tn ?_
  refine k_reb [(6, .int .u32 ((((hi * 4294967296 + lo) / y : Nat) : Int))), (7, .int .u32 ((((hi * 4294967296 + lo) % y : Nat) : Int)))] ⟨rfl, rfl, trivial⟩ fun G4 => ?_
  refine wp_ret ?_
  refine k_ret2 Tryd.results94 rfl rfl rfl rfl ?_
  refine ⟨_, rfl, ?_⟩
  exact ⟨rfl, hS1⟩

theorem clone_ok (w0 : World) (aA : Option Addr) (cA : Nat) (A : List Nat) (hA : Rd w0 .u32 aA cA A) (hlA : A.length ≤ 1000000) :
    Calls Tryd.prog 72 #[.slice aA A.length cA] w0 (Ret fun v w' => ∃ a cap hv, v = .slice a A.length cap ∧ Gr .u32 38 a cap A hv ∧ St w0 [] hv w') := by
  refine k_enter (vs := [.slice aA A.length cA]) Tryd.func72 rfl Tryd.ntmps72 rfl ?_
  have hS := St.init w0
  refine wp_seq ?_
  refine k_reg ?_
  refine s_val hS rfl rfl (r_assign rfl .c) ?_
  refine wpList_nil ?_
  refine x_tn ?_
  refine wp_seq ?_
  refine wp_seq ?_
  refine k_reg ?_
  refine s_val hS rfl rfl (r_move rfl (.t rfl rfl)) ?_
  by_cases c1 : aA.isNone = true
  · refine s_val hS rfl rfl (r_eqnil_b rfl Tryd.underlying26 (.t rfl rfl) .c (show aA.isNone = true from c1)) ?_
    refine wpList_nil ?_
    refine x_tn ?_
    refine k_reb [(0, .slice aA A.length cA), (2, .slice none 0 0), (4, .bool true)] ⟨rfl, rfl, rfl, trivial⟩ fun G1 => ?_
    refine k_t (.t rfl rfl) ?_
    refine wp_seq ?_
    refine k_reg ?_
    refine s_val hS rfl rfl (r_assign rfl .c) ?_
    refine wpList_nil ?_
    refine x_tn ?_
    refine k_reb [(0, .slice aA A.length cA), (2, .slice none 0 0)] ⟨rfl, rfl, trivial⟩ fun G2 => ?_
    refine wp_ret ?_
    refine x_tr ?_
    refine k_ret1 Tryd.results72 rfl rfl ?_
    refine ⟨_, rfl, ?_⟩
    have e1 : aA = none := by simpa using c1
    subst e1
    obtain rfl := hA.none_nil
    exact ⟨none, 0, [], rfl, .nil, hS⟩
  · refine s_val hS rfl rfl (r_eqnil_b rfl Tryd.underlying26 (.t rfl rfl) .c (show aA.isNone = false from Bool.eq_false_iff.2 c1)) ?_
    refine wpList_nil ?_
    refine x_tn ?_
    refine k_reb [(0, .slice aA A.length cA), (2, .slice none 0 0), (4, .bool false)] ⟨rfl, rfl, rfl, trivial⟩ fun G3 => ?_
    refine k_f (.t rfl rfl) ?_
    refine wp_skip ?_
    refine x_tn ?_
    refine k_reb [(0, .slice aA A.length cA), (2, .slice none 0 0)] ⟨rfl, rfl, trivial⟩ fun G4 => ?_
    refine wp_seq ?_
    refine k_reg ?_
    refine s_lit rfl rfl rfl Tryd.underlying26 ti38 (vs := []) trivial (L := []) rfl (by omega) rfl hS fun blk1 w1 hb1 hB1 hS1 => ?_
    refine s_val hS1 rfl rfl (r_move rfl (.t rfl rfl)) ?_
    refine s_append (h1 := []) (L := []) rfl rfl rfl rfl ⟨_, _, rfl, Tryd.underlying26⟩ Tryd.underlying26 ti38 (by omega) (by omega) (.t rfl rfl) (.t rfl rfl) rfl rfl (Gr.of_row (by simp)) hS1 (rd_st hS1 hA (by simp)) (by simp; omega) fun ga1 gc1 gh1 w2 hG1 hS2 hF1 => ?_
    refine s_val hS2 rfl rfl (r_assign rfl (.t rfl rfl)) ?_
    refine wpList_nil ?_
    refine x_tn ?_
    refine k_reb [(2, .slice ga1 (0 + A.length) gc1)] ⟨rfl, trivial⟩ fun G5 => ?_
    refine wp_ret ?_
    refine k_ret1 Tryd.results72 rfl rfl ?_
    refine ⟨_, rfl, ?_⟩
    refine ⟨ga1, gc1, gh1, by simp, by simpa using hG1, by simpa using hS2⟩

theorem cloneN_ok (w0 : World) (aA : Option Addr) (cA : Nat) (A : List Nat) (hA : Rd w0 .u32 aA cA A) (hlA : A.length ≤ 1000000) :
    Calls Tryd.prog 92 #[.slice aA A.length cA] w0 (Ret fun v w' => ∃ a cap hv, v = .slice a A.length cap ∧ Gr .u32 38 a cap A hv ∧ St w0 [] hv w') := by
  refine k_enter (vs := [.slice aA A.length cA]) Tryd.func92 rfl Tryd.ntmps92 rfl ?_
  have hS := St.init w0
  refine wp_seq ?_
  refine k_reg ?_
  refine s_val hS rfl rfl (r_assign rfl .c) ?_
  refine wpList_nil ?_
  refine x_tn ?_
  refine wp_seq ?_
  refine wp_seq ?_
  refine k_reg ?_
  refine s_val hS rfl rfl (r_move rfl (.t rfl rfl)) ?_
  by_cases c1 : aA.isNone = true
  · refine s_val hS rfl rfl (r_eqnil_b rfl Tryd.underlying27 (.t rfl rfl) .c (show aA.isNone = true from c1)) ?_
    refine wpList_nil ?_
    refine x_tn ?_
    refine k_reb [(0, .slice aA A.length cA), (2, .slice none 0 0), (4, .bool true)] ⟨rfl, rfl, rfl, trivial⟩ fun G1 => ?_
    refine k_t (.t rfl rfl) ?_
    refine wp_seq ?_
    refine k_reg ?_
    refine s_val hS rfl rfl (r_assign rfl .c) ?_
    refine wpList_nil ?_
    refine x_tn ?_
    refine k_reb [(0, .slice aA A.length cA), (2, .slice none 0 0)] ⟨rfl, rfl, trivial⟩ fun G2 => ?_
    refine wp_ret ?_
    refine x_tr ?_
    refine k_ret1 Tryd.results92 rfl rfl ?_
    refine ⟨_, rfl, ?_⟩
    have e1 : aA = none := by simpa using c1
    subst e1
    obtain rfl := hA.none_nil
    exact ⟨none, 0, [], rfl, .nil, hS⟩
  · refine s_val hS rfl rfl (r_eqnil_b rfl Tryd.underlying27 (.t rfl rfl) .c (show aA.isNone = false from Bool.eq_false_iff.2 c1)) ?_
    refine wpList_nil ?_
    refine x_tn ?_
    refine k_reb [(0, .slice aA A.length cA), (2, .slice none 0 0), (4, .bool false)] ⟨rfl, rfl, rfl, trivial⟩ fun G3 => ?_
    refine k_f (.t rfl rfl) ?_
    refine wp_skip ?_
    refine x_tn ?_
    refine k_reb [(0, .slice aA A.length cA), (2, .slice none 0 0)] ⟨rfl, rfl, trivial⟩ fun G4 => ?_
    refine wp_seq ?_
    refine k_reg ?_
    refine s_lit rfl rfl rfl Tryd.underlying27 ti38 (vs := []) trivial (L := []) rfl (by omega) rfl hS fun blk1 w1 hb1 hB1 hS1 => ?_
    refine s_val hS1 rfl rfl (r_move rfl (.t rfl rfl)) ?_
    refine s_append (h1 := []) (L := []) rfl rfl rfl rfl ⟨_, _, rfl, Tryd.underlying27⟩ Tryd.underlying27 ti38 (by omega) (by omega) (.t rfl rfl) (.t rfl rfl) rfl rfl (Gr.of_row (by simp)) hS1 (rd_st hS1 hA (by simp)) (by simp; omega) fun ga1 gc1 gh1 w2 hG1 hS2 hF1 => ?_
    refine s_val hS2 rfl rfl (r_assign rfl (.t rfl rfl)) ?_
    refine wpList_nil ?_
    refine x_tn ?_
    refine k_reb [(2, .slice ga1 (0 + A.length) gc1)] ⟨rfl, trivial⟩ fun G5 => ?_
    refine wp_ret ?_
    refine k_ret1 Tryd.results92 rfl rfl ?_
    refine ⟨_, rfl, ?_⟩
    refine ⟨ga1, gc1, gh1, by simp, by simpa using hG1, by simpa using hS2⟩

end Go.Proofs.YtnbklceenfjojaaDoor

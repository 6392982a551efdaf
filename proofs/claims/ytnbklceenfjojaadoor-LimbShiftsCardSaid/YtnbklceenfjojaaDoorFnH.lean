/- Contracts of functions of the program, each walked once. -/
import Derived.Test.YtnbklceenfjojaaDoorFnG
import Derived.Test.YtnbklceenfjojaaDoorKRow
namespace Go.Proofs.YtnbklceenfjojaaDoor
open Go Go.RowKit K
namespace FH
theorem mixed : Tryd.prog.follows .mixedOrders = true := by kernel_rfl
theorem cb26 : callable Tryd.prog 26 = true := by kernel_rfl
theorem cb27 : callable Tryd.prog 27 = true := by kernel_rfl
theorem cb33 : callable Tryd.prog 33 = true := by kernel_rfl
theorem cb34 : callable Tryd.prog 34 = true := by kernel_rfl
theorem cb35 : callable Tryd.prog 35 = true := by kernel_rfl
theorem cb36 : callable Tryd.prog 36 = true := by kernel_rfl
theorem cb8 : callable Tryd.prog 8 = true := by kernel_rfl
theorem one22 : One Tryd.prog 22 = true := by kernel_rfl
theorem one26 : One Tryd.prog 26 = true := by kernel_rfl
theorem one27 : One Tryd.prog 27 = true := by kernel_rfl
theorem one38 : One Tryd.prog 38 = true := by kernel_rfl
theorem ti22 : (Tryd.prog.info? 22).map (fun i => (i.zero, i.size, i.bytes)) = some (some (.slice none 0 0), 1, 24) := by kernel_rfl
theorem ti26 : (Tryd.prog.info? 26).map (fun i => (i.zero, i.size, i.bytes)) = some (some (.slice none 0 0), 1, 24) := by kernel_rfl
theorem ti27 : (Tryd.prog.info? 27).map (fun i => (i.zero, i.size, i.bytes)) = some (some (.slice none 0 0), 1, 24) := by kernel_rfl
theorem ti38 : (Tryd.prog.info? 38).map (fun i => (i.zero, i.size, i.bytes)) = some (some (.int .u32 0), 1, 4) := by kernel_rfl
theorem ti59 : (Tryd.prog.info? 59).map (fun i => (i.zero, i.size, i.bytes)) = some (some (.agg #[.slice none 0 0, .slice none 0 0, .slice none 0 0]), 3, 72) := by kernel_rfl

end FH
open FH
attribute [local irreducible] Go.wpList Go.wpQuiet Go.wpStill Go.wpAny Go.Code.wp
set_option maxRecDepth 10000
set_option maxHeartbeats 8000000
set_option linter.unusedVariables false
set_option linter.unusedSimpArgs false
theorem num_ok (w0 : World) (x : Int) :
    Calls Tryd.prog 8 #[.int .i64 x] w0 (Ret fun v w' => v = .int .i64 x ∧ w' = w0) := by
  refine k_enter (vs := [.int .i64 x]) Tryd.func8 rfl Tryd.ntmps8 rfl ?_
  have hS := St.init w0
  refine wp_seq ?_
  refine k_reg ?_
  refine s_val hS rfl rfl (r_assign rfl .c) ?_
  refine wpList_nil ?_
  refine x_tn ?_
  refine wp_seq ?_
  refine k_reg ?_
  refine s_val hS rfl rfl (r_move rfl (.t rfl rfl)) ?_
  refine s_val hS rfl rfl (r_assign rfl (.t rfl rfl)) ?_
  refine wpList_nil ?_
  refine x_tn ?_
  refine k_reb [(2, .int .i64 x)] ⟨rfl, trivial⟩ fun G1 => ?_
  refine wp_ret ?_
  refine k_ret1 Tryd.results8 rfl rfl ?_
  refine ⟨_, rfl, ?_⟩
  exact ⟨rfl, rfl⟩

theorem ok_ok (w0 : World) (aA : Option Addr) (cA : Nat) (A : List Nat) (hA : Rd w0 .u32 aA cA A) (nA : Nm A) :
    Calls Tryd.prog 35 #[.slice aA A.length cA, .int .i64 0] w0 (Ret fun v w' => v = .tuple #[.slice aA A.length cA, .bool true] ∧ St w0 [] [] w') := by
  refine k_enter (vs := [.slice aA A.length cA, .int .i64 0]) Tryd.func35 rfl Tryd.ntmps35 rfl ?_
  have hS := St.init w0
  refine wp_seq ?_
  refine k_reg ?_
  refine s_val hS rfl rfl (r_assign rfl .c) ?_
  refine s_val hS rfl rfl (r_assign rfl .c) ?_
  refine wpList_nil ?_
  refine x_tn ?_
  refine wp_seq ?_
  refine k_reg ?_
  refine s_val hS rfl rfl (r_move rfl (.t rfl rfl)) ?_
  refine s_val hS rfl rfl (r_move rfl (.t rfl rfl)) ?_
  refine s_call rfl rfl rfl (vs := [.int .i64 0]) ⟨(.t rfl rfl), trivial⟩ cb8 (num_ok w0 0) ?_
  rintro _ w0 ⟨rfl, rfl⟩
  refine s_val hS rfl rfl (r_cmp_t rfl rfl (.t rfl rfl) .c (show 0 = 0 from by omega)) ?_
  refine s_val hS rfl rfl (r_move rfl (.t rfl rfl)) ?_
  refine s_valg hS (wanted_of (j := 4) (b := true) (d := 10) rfl rfl rfl rfl) rfl (r_move rfl (.t rfl rfl)) ?_
  refine s_callg (wanted_of (j := 4) (b := true) (d := 10) rfl rfl rfl rfl) rfl rfl (vs := [.slice aA A.length cA]) ⟨(.t rfl rfl), trivial⟩ cb27 (check_nm w0 aA cA A hA nA) ?_
  intro v1 w1 hp1
  obtain ⟨hp1, hB1⟩ := hp1
  have hS1 := hS.keep hB1
  replace hB1 := hB1.toBelow
  obtain rfl := hp1
  refine s_callg (wanted_of (j := 4) (b := true) (d := 10) rfl rfl rfl rfl) rfl rfl (vs := [.int .i64 0]) ⟨(.t rfl rfl), trivial⟩ cb8 (num_ok w1 0) ?_
  rintro _ w1 ⟨rfl, rfl⟩
  refine s_valg hS1 (wanted_of (j := 4) (b := true) (d := 10) rfl rfl rfl rfl) rfl (r_cmp_t rfl rfl (.t rfl rfl) .c (show 0 = 0 from by omega)) ?_
  refine s_val hS1 rfl rfl (r_pick rfl (.t rfl rfl) (.t rfl rfl)) ?_
  refine s_val hS1 rfl rfl (r_assign rfl (.t rfl rfl)) ?_
  refine s_val hS1 rfl rfl (r_assign rfl (.t rfl rfl)) ?_
  refine wpList_nil ?_
  refine x_tn ?_
  refine k_reb [(4, .slice aA A.length cA), (5, .bool true)] ⟨rfl, rfl, trivial⟩ fun G1 => ?_
  refine wp_ret ?_
  refine k_ret2 Tryd.results35 rfl rfl rfl rfl ?_
  refine ⟨_, rfl, ?_⟩
  exact ⟨rfl, hS1⟩

theorem EqNat_ok (w0 : World) (aA : Option Addr) (cA : Nat) (A : List Nat) (hA : Rd w0 .u32 aA cA A) (aB : Option Addr) (cB : Nat) (B : List Nat) (hB : Rd w0 .u32 aB cB B) :
    Calls Tryd.prog 33 #[.slice aA A.length cA, .slice aB B.length cB] w0 (Ret fun v w' => ((A = B ∧ v = .bool true) ∨ (A ≠ B ∧ v = .bool false)) ∧ St w0 [] [] w') := by
  refine k_enter (vs := [.slice aA A.length cA, .slice aB B.length cB]) Tryd.func33 rfl Tryd.ntmps33 rfl ?_
  have hS := St.init w0
  have lA := hA.le
  have lB := hB.le
  have mA := hA.most
  have mB := hB.most
  refine wp_seq ?_
  refine k_reg ?_
  refine s_val hS rfl rfl (r_assign rfl .c) ?_
  refine wpList_nil ?_
  refine x_tn ?_
  refine wp_seq ?_
  refine wp_seq ?_
  refine k_reg ?_
  refine s_val hS rfl rfl (r_move rfl (.t rfl rfl)) ?_
  refine s_val hS rfl rfl (r_len rfl rfl Tryd.underlying27 (.t rfl rfl)) ?_
  refine s_val hS rfl rfl (r_move rfl (.t rfl rfl)) ?_
  refine s_val hS rfl rfl (r_len rfl rfl Tryd.underlying27 (.t rfl rfl)) ?_
  by_cases c1 : A.length ≠ B.length
  · refine s_val hS rfl rfl (r_cmp_t rfl rfl (.t rfl rfl) (.t rfl rfl) (show ¬ ((A.length : Nat) : Int) = ((B.length : Nat) : Int) from by omega)) ?_
    refine wpList_nil ?_
    refine x_tn ?_
    refine k_reb [(0, .slice aA A.length cA), (1, .slice aB B.length cB), (4, .bool false), (10, .bool true)] ⟨rfl, rfl, rfl, rfl, trivial⟩ fun G1 => ?_
    refine k_t (.t rfl rfl) ?_
    refine wp_seq ?_
    refine k_reg ?_
    refine s_val hS rfl rfl (r_assign rfl .c) ?_
    refine wpList_nil ?_
    refine x_tn ?_
    refine k_reb [(0, .slice aA A.length cA), (1, .slice aB B.length cB), (4, .bool false)] ⟨rfl, rfl, rfl, trivial⟩ fun G2 => ?_
    refine wp_ret ?_
    refine x_tr ?_
    refine k_ret1 Tryd.results33 rfl rfl ?_
    refine ⟨_, rfl, ?_⟩
    exact ⟨.inr ⟨fun h => by rw [h] at c1; omega, rfl⟩, hS⟩
  · refine s_val hS rfl rfl (r_cmp_f rfl rfl (.t rfl rfl) (.t rfl rfl) (show ¬ (¬ ((A.length : Nat) : Int) = ((B.length : Nat) : Int)) from by omega)) ?_
    refine wpList_nil ?_
    refine x_tn ?_
    refine k_reb [(0, .slice aA A.length cA), (1, .slice aB B.length cB), (4, .bool false), (10, .bool false)] ⟨rfl, rfl, rfl, rfl, trivial⟩ fun G3 => ?_
    refine k_f (.t rfl rfl) ?_
    refine wp_skip ?_
    refine x_tn ?_
    refine k_reb [(0, .slice aA A.length cA), (1, .slice aB B.length cB), (4, .bool false)] ⟨rfl, rfl, rfl, trivial⟩ fun G4 => ?_
    refine wp_seq ?_
    refine wp_seq ?_
    refine k_reg ?_
    refine s_val hS rfl rfl (r_assign rfl .c) ?_
    refine wpList_nil ?_
    refine x_tn ?_
    refine wp_block ?_
    refine wp_loop_ghost (fun (m1 : Nat) a w => ∃ (G : Nat → Value) (i : Nat), a = fr 26 [(0, .slice aA A.length cA), (1, .slice aB B.length cB), (4, .bool false), (5, .int .i64 (((i : Nat) : Int)))] G ∧ St w0 [] [] w ∧ (m1 = A.length - i ∧ i ≤ A.length ∧ ∀ j, j < i → A.getD j 0 = B.getD j 0)) (A.length) ⟨_, 0, fr_reb _ ⟨rfl, rfl, rfl, rfl, trivial⟩, hS, ?_⟩ ?_
    · exact ⟨rfl, Nat.zero_le _, fun _ h => absurd h (Nat.not_lt_zero _)⟩
    · intro m1 _ w1 hI1
      obtain ⟨G5, i, rfl, hS1, ⟨hm, hi, he⟩⟩ := hI1
      refine wp_seq ?_
      refine wp_seq ?_
      refine k_reg ?_
      refine s_val hS1 rfl rfl (r_move rfl (.t rfl rfl)) ?_
      refine s_val hS1 rfl rfl (r_move rfl (.t rfl rfl)) ?_
      refine s_val hS1 rfl rfl (r_len rfl rfl Tryd.underlying27 (.t rfl rfl)) ?_
      by_cases c2 : i < A.length
      · refine s_val hS1 rfl rfl (r_cmp_t rfl rfl (.t rfl rfl) (.t rfl rfl) (show ((i : Nat) : Int) < ((A.length : Nat) : Int) from by omega)) ?_
        refine wpList_nil ?_
        refine x_tn ?_
        refine k_reb [(0, .slice aA A.length cA), (1, .slice aB B.length cB), (4, .bool false), (5, .int .i64 (((i : Nat) : Int))), (14, .bool true)] ⟨rfl, rfl, rfl, rfl, rfl, trivial⟩ fun G6 => ?_
        refine k_t (.t rfl rfl) ?_
        refine wp_skip ?_
        refine x_tn ?_
        refine k_reb [(0, .slice aA A.length cA), (1, .slice aB B.length cB), (4, .bool false), (5, .int .i64 (((i : Nat) : Int)))] ⟨rfl, rfl, rfl, rfl, trivial⟩ fun G7 => ?_
        refine wp_seq ?_
        refine wp_block ?_
        refine wp_seq ?_
        refine k_regq mixed (by kernel_rfl) hS1 ?_
        refine q_val rfl rfl (r_move rfl (.t rfl rfl)) ?_
        refine q_val rfl rfl (r_move rfl (.t rfl rfl)) ?_
        refine q_val rfl rfl (r_ixr (j := i) rfl Tryd.underlying27 ti38 (.t rfl rfl) (.t rfl rfl) hA rfl rfl (by omega)) ?_
        have b1 : A.getD i 0 ≤ 4294967295 := hA.lt _
        refine q_val rfl rfl (r_load rfl one38 (.t rfl rfl) (St.cell_rd hA (by omega) (by simp))) ?_
        refine q_val rfl rfl (r_move rfl (.t rfl rfl)) ?_
        refine q_val rfl rfl (r_move rfl (.t rfl rfl)) ?_
        refine q_val rfl rfl (r_ixr (j := i) rfl Tryd.underlying27 ti38 (.t rfl rfl) (.t rfl rfl) hB rfl rfl (by omega)) ?_
        have b2 : B.getD i 0 ≤ 4294967295 := hB.lt _
        refine q_val rfl rfl (r_load rfl one38 (.t rfl rfl) (St.cell_rd hB (by omega) (by simp))) ?_
        by_cases c3 : A.getD i 0 ≠ B.getD i 0
        · refine q_val rfl rfl (r_cmp_t rfl rfl (.t rfl rfl) (.t rfl rfl) (show ¬ ((A.getD i 0 : Nat) : Int) = ((B.getD i 0 : Nat) : Int) from by omega)) ?_
          refine q_nil ?_
          intro w2 hS2
          refine x_tn ?_
          refine k_reb [(0, .slice aA A.length cA), (1, .slice aB B.length cB), (4, .bool false), (5, .int .i64 (((i : Nat) : Int))), (25, .bool true)] ⟨rfl, rfl, rfl, rfl, rfl, trivial⟩ fun G8 => ?_
          refine k_t (.t rfl rfl) ?_
          refine wp_seq ?_
          refine k_reg ?_
          refine s_val hS2 rfl rfl (r_assign rfl .c) ?_
          refine wpList_nil ?_
          refine x_tn ?_
          refine k_reb [(0, .slice aA A.length cA), (1, .slice aB B.length cB), (4, .bool false), (5, .int .i64 (((i : Nat) : Int)))] ⟨rfl, rfl, rfl, rfl, trivial⟩ fun G9 => ?_
          refine wp_ret ?_
          refine x_br ?_
          refine x_tr ?_
          refine x_tr ?_
          refine x_br ?_
          refine x_tr ?_
          refine k_ret1 Tryd.results33 rfl rfl ?_
          refine ⟨_, rfl, ?_⟩
          exact ⟨.inr ⟨fun h => by rw [h] at c3; omega, rfl⟩, hS2⟩
        · refine q_val rfl rfl (r_cmp_f rfl rfl (.t rfl rfl) (.t rfl rfl) (show ¬ (¬ ((A.getD i 0 : Nat) : Int) = ((B.getD i 0 : Nat) : Int)) from by omega)) ?_
          refine q_nil ?_
          intro w3 hS3
          refine x_tn ?_
          refine k_reb [(0, .slice aA A.length cA), (1, .slice aB B.length cB), (4, .bool false), (5, .int .i64 (((i : Nat) : Int))), (25, .bool false)] ⟨rfl, rfl, rfl, rfl, rfl, trivial⟩ fun G10 => ?_
          refine k_f (.t rfl rfl) ?_
          refine wp_skip ?_
          refine x_bn ?_
          refine x_tn ?_
          refine k_reb [(0, .slice aA A.length cA), (1, .slice aB B.length cB), (4, .bool false), (5, .int .i64 (((i : Nat) : Int)))] ⟨rfl, rfl, rfl, rfl, trivial⟩ fun G11 => ?_
          refine k_reg ?_
          refine s_val hS3 rfl rfl (r_move rfl (.t rfl rfl)) ?_
          refine s_val hS3 rfl rfl (r_arith rfl rfl (.t rfl rfl) .c (c := ((i + 1 : Nat) : Int)) (wn_i64 (by show (((i : Nat) : Int) : Int) + 1 = _; omega) (by omega))) ?_
          refine s_val hS3 rfl rfl (r_assign rfl (.t rfl rfl)) ?_
          refine wpList_nil ?_
          refine x_tn ?_
          refine ⟨A.length - (i + 1), by omega, _, i + 1, fr_reb _ ⟨rfl, rfl, rfl, rfl, trivial⟩, hS3, ?_⟩
          exact ⟨by omega, by omega, fun j hj => by
            rcases Nat.lt_or_ge j i with q | q
            · exact he j q
            · rw [show j = i by omega]; omega⟩
      · refine s_val hS1 rfl rfl (r_cmp_f rfl rfl (.t rfl rfl) (.t rfl rfl) (show ¬ (((i : Nat) : Int) < ((A.length : Nat) : Int)) from by omega)) ?_
        refine wpList_nil ?_
        refine x_tn ?_
        refine k_reb [(0, .slice aA A.length cA), (1, .slice aB B.length cB), (4, .bool false), (5, .int .i64 (((i : Nat) : Int))), (14, .bool false)] ⟨rfl, rfl, rfl, rfl, rfl, trivial⟩ fun G12 => ?_
        refine k_f (.t rfl rfl) ?_
        refine wp_exit ?_
        refine x_te ?_
        refine x_te ?_
        refine x_be ?_
        refine x_tn ?_
        refine k_reb [(4, .bool false)] ⟨rfl, trivial⟩ fun G13 => ?_
        refine wp_seq ?_
        refine k_reg ?_
        refine s_val hS1 rfl rfl (r_assign rfl .c) ?_
        refine wpList_nil ?_
        refine x_tn ?_
        refine wp_ret ?_
        refine k_ret1 Tryd.results33 rfl rfl ?_
        refine ⟨_, rfl, ?_⟩
        exact ⟨.inl ⟨list_eq (by omega) (fun j hj => he j (by omega)), rfl⟩, hS1⟩

theorem eq_ok (w0 : World) (aA : Option Addr) (cA : Nat) (A : List Nat) (hA : Rd w0 .u32 aA cA A) (aB : Option Addr) (cB : Nat) (B : List Nat) (hB : Rd w0 .u32 aB cB B) (nA : Nm A) (nB : Nm B) :
    Calls Tryd.prog 11 #[.slice aA A.length cA, .slice aB B.length cB] w0 (Ret fun v w' => ((lv A = lv B ∧ v = .bool true) ∨ (lv A ≠ lv B ∧ v = .bool false)) ∧ St w0 [] [] w') := by
  refine k_enter (vs := [.slice aA A.length cA, .slice aB B.length cB]) Tryd.func11 rfl Tryd.ntmps11 rfl ?_
  have hS := St.init w0
  have lA := hA.le
  have lB := hB.le
  have lA2 := nA.len
  have lB2 := nB.len
  refine wp_seq ?_
  refine k_reg ?_
  refine s_val hS rfl rfl (r_assign rfl .c) ?_
  refine wpList_nil ?_
  refine x_tn ?_
  refine wp_seq ?_
  refine k_reg ?_
  refine s_val hS rfl rfl (r_move rfl (.t rfl rfl)) ?_
  refine s_val hS rfl rfl (r_move rfl (.t rfl rfl)) ?_
  refine s_call rfl rfl rfl (vs := [.slice aA A.length cA, .slice aB B.length cB]) ⟨(.t rfl rfl), (.t rfl rfl), trivial⟩ cb33 (EqNat_ok w0 aA cA A hA aB cB B hB) ?_
  intro v1 w1 hp1
  obtain ⟨hp1, hB1⟩ := hp1
  have hS1 := hS.keep hB1
  replace hB1 := hB1.toBelow
  rcases hp1 with ⟨hc1, rfl⟩ | ⟨hc1, rfl⟩
  · refine s_val hS1 rfl rfl (r_move rfl (.t rfl rfl)) ?_
    refine s_valg hS1 (wanted_of (j := 3) (b := true) (d := 8) rfl rfl rfl rfl) rfl (r_move rfl (.t rfl rfl)) ?_
    refine s_valg hS1 (wanted_of (j := 3) (b := true) (d := 8) rfl rfl rfl rfl) rfl (r_len rfl rfl Tryd.underlying27 (.t rfl rfl)) ?_
    by_cases c1 : A.length = 0
    · refine s_valg hS1 (wanted_of (j := 3) (b := true) (d := 8) rfl rfl rfl rfl) rfl (r_cmp_t rfl rfl (.t rfl rfl) .c (show ((A.length : Nat) : Int) = 0 from by omega)) ?_
      refine s_valg hS1 (wanted_of (j := 3) (b := true) (d := 8) rfl rfl rfl rfl) rfl (r_move rfl (.t rfl rfl)) ?_
      refine s_skip (unwanted_of (j := 7) (b := false) (b' := true) (d := 12) rfl rfl rfl rfl rfl) rfl ?_
      refine s_skip (unwanted_of (j := 7) (b := false) (b' := true) (d := 12) rfl rfl rfl rfl rfl) rfl ?_
      refine s_skip (unwanted_of (j := 7) (b := false) (b' := true) (d := 12) rfl rfl rfl rfl rfl) rfl ?_
      refine s_skip (unwanted_of (j := 7) (b := false) (b' := true) (d := 12) rfl rfl rfl rfl rfl) rfl ?_
      refine s_skip (unwanted_of (j := 7) (b := false) (b' := true) (d := 12) rfl rfl rfl rfl rfl) rfl ?_
      refine s_skip (unwanted_of (j := 7) (b := false) (b' := true) (d := 12) rfl rfl rfl rfl rfl) rfl ?_
      refine s_skip (unwanted_of (j := 7) (b := false) (b' := true) (d := 12) rfl rfl rfl rfl rfl) rfl ?_
      refine s_valg hS1 (wanted_of (j := 3) (b := true) (d := 8) rfl rfl rfl rfl) rfl (r_pick rfl (.t rfl rfl) .c) ?_
      refine s_val hS1 rfl rfl (r_pick rfl (.t rfl rfl) (.t rfl rfl)) ?_
      refine s_val hS1 rfl rfl (r_move rfl (.t rfl rfl)) ?_
      refine s_valg hS1 (wanted_of (j := 17) (b := true) (d := 22) rfl rfl rfl rfl) rfl (r_move rfl (.t rfl rfl)) ?_
      refine s_valg hS1 (wanted_of (j := 17) (b := true) (d := 22) rfl rfl rfl rfl) rfl (r_move rfl (.t rfl rfl)) ?_
      refine s_callg (wanted_of (j := 17) (b := true) (d := 22) rfl rfl rfl rfl) rfl rfl (vs := [.slice aA A.length cA, .slice aB B.length cB]) ⟨(.t rfl rfl), (.t rfl rfl), trivial⟩ cb34 (Cmp_ok w1 aA cA A (rd_st hS1 hA (by simp)) aB cB B (rd_st hS1 hB (by simp)) nA nB) ?_
      rintro _ w2 ⟨hp2, hB2⟩
      have hS2 := hS1.keep hB2
      replace hB2 := hB2.toBelow
      rcases hp2 with ⟨hc2, rfl⟩ | ⟨hc2, rfl⟩ | ⟨hc2, rfl⟩
      · refine s_valg hS2 (wanted_of (j := 17) (b := true) (d := 22) rfl rfl rfl rfl) rfl (r_cmp_f rfl rfl (.t rfl rfl) .c (show ¬ ((-1) = 0) from by omega)) ?_
        refine s_val hS2 rfl rfl (r_pick rfl (.t rfl rfl) (.t rfl rfl)) ?_
        refine s_val hS2 rfl rfl (r_assign rfl (.t rfl rfl)) ?_
        refine wpList_nil ?_
        refine x_tn ?_
        refine k_reb [(4, .bool false)] ⟨rfl, trivial⟩ fun G1 => ?_
        refine wp_ret ?_
        refine k_ret1 Tryd.results11 rfl rfl ?_
        refine ⟨_, rfl, ?_⟩
        exact ⟨.inr ⟨by first | omega | exact fun h => absurd (lv_uniq nA.lim nB.lim nA.nz nB.nz h) ‹A ≠ B›, rfl⟩, hS2⟩
      · refine s_valg hS2 (wanted_of (j := 17) (b := true) (d := 22) rfl rfl rfl rfl) rfl (r_cmp_t rfl rfl (.t rfl rfl) .c (show 0 = 0 from by omega)) ?_
        refine s_val hS2 rfl rfl (r_pick rfl (.t rfl rfl) (.t rfl rfl)) ?_
        refine s_val hS2 rfl rfl (r_assign rfl (.t rfl rfl)) ?_
        refine wpList_nil ?_
        refine x_tn ?_
        refine k_reb [(4, .bool true)] ⟨rfl, trivial⟩ fun G2 => ?_
        refine wp_ret ?_
        refine k_ret1 Tryd.results11 rfl rfl ?_
        refine ⟨_, rfl, ?_⟩
        exact ⟨.inl ⟨by first | omega | exact congrArg lv ‹A = B›, rfl⟩, hS2⟩
      · refine s_valg hS2 (wanted_of (j := 17) (b := true) (d := 22) rfl rfl rfl rfl) rfl (r_cmp_f rfl rfl (.t rfl rfl) .c (show ¬ (1 = 0) from by omega)) ?_
        refine s_val hS2 rfl rfl (r_pick rfl (.t rfl rfl) (.t rfl rfl)) ?_
        refine s_val hS2 rfl rfl (r_assign rfl (.t rfl rfl)) ?_
        refine wpList_nil ?_
        refine x_tn ?_
        refine k_reb [(4, .bool false)] ⟨rfl, trivial⟩ fun G3 => ?_
        refine wp_ret ?_
        refine k_ret1 Tryd.results11 rfl rfl ?_
        refine ⟨_, rfl, ?_⟩
        exact ⟨.inr ⟨by first | omega | exact fun h => absurd (lv_uniq nA.lim nB.lim nA.nz nB.nz h) ‹A ≠ B›, rfl⟩, hS2⟩
    · refine s_valg hS1 (wanted_of (j := 3) (b := true) (d := 8) rfl rfl rfl rfl) rfl (r_cmp_f rfl rfl (.t rfl rfl) .c (show ¬ (((A.length : Nat) : Int) = 0) from by omega)) ?_
      refine s_valg hS1 (wanted_of (j := 3) (b := true) (d := 8) rfl rfl rfl rfl) rfl (r_move rfl (.t rfl rfl)) ?_
      refine s_valg hS1 (wanted_of (j := 7) (b := false) (d := 12) rfl rfl rfl rfl) rfl (r_move rfl (.t rfl rfl)) ?_
      refine s_valg hS1 (wanted_of (j := 7) (b := false) (d := 12) rfl rfl rfl rfl) rfl (r_move rfl (.t rfl rfl)) ?_
      refine s_valg hS1 (wanted_of (j := 7) (b := false) (d := 12) rfl rfl rfl rfl) rfl (r_len rfl rfl Tryd.underlying27 (.t rfl rfl)) ?_
      refine s_valg hS1 (wanted_of (j := 7) (b := false) (d := 12) rfl rfl rfl rfl) rfl (r_arith rfl rfl (.t rfl rfl) .c (c := ((A.length - 1 : Nat) : Int)) (wn_i64 (by show (((A.length : Nat) : Int) : Int) - 1 = _; omega) (by omega))) ?_
      refine s_valg hS1 (wanted_of (j := 7) (b := false) (d := 12) rfl rfl rfl rfl) rfl (r_ixr (j := A.length - 1) rfl Tryd.underlying27 ti38 (.t rfl rfl) (.t rfl rfl) hA rfl rfl (by omega)) ?_
      have b1 : A.getD (A.length - 1) 0 ≤ 4294967295 := hA.lt _
      refine s_valg hS1 (wanted_of (j := 7) (b := false) (d := 12) rfl rfl rfl rfl) rfl (r_load rfl one38 (.t rfl rfl) (St.cell_rd hA (by omega) (by simp))) ?_
      by_cases c2 : A.getD (A.length - 1) 0 ≠ 0
      · refine s_valg hS1 (wanted_of (j := 7) (b := false) (d := 12) rfl rfl rfl rfl) rfl (r_cmp_t rfl rfl (.t rfl rfl) .c (show ¬ ((A.getD (A.length - 1) 0 : Nat) : Int) = 0 from by omega)) ?_
        refine s_valg hS1 (wanted_of (j := 3) (b := true) (d := 8) rfl rfl rfl rfl) rfl (r_pick rfl (.t rfl rfl) (.t rfl rfl)) ?_
        refine s_val hS1 rfl rfl (r_pick rfl (.t rfl rfl) (.t rfl rfl)) ?_
        refine s_val hS1 rfl rfl (r_move rfl (.t rfl rfl)) ?_
        refine s_valg hS1 (wanted_of (j := 17) (b := true) (d := 22) rfl rfl rfl rfl) rfl (r_move rfl (.t rfl rfl)) ?_
        refine s_valg hS1 (wanted_of (j := 17) (b := true) (d := 22) rfl rfl rfl rfl) rfl (r_move rfl (.t rfl rfl)) ?_
        refine s_callg (wanted_of (j := 17) (b := true) (d := 22) rfl rfl rfl rfl) rfl rfl (vs := [.slice aA A.length cA, .slice aB B.length cB]) ⟨(.t rfl rfl), (.t rfl rfl), trivial⟩ cb34 (Cmp_ok w1 aA cA A (rd_st hS1 hA (by simp)) aB cB B (rd_st hS1 hB (by simp)) nA nB) ?_
        rintro _ w3 ⟨hp3, hB3⟩
        have hS3 := hS1.keep hB3
        replace hB3 := hB3.toBelow
        rcases hp3 with ⟨hc3, rfl⟩ | ⟨hc3, rfl⟩ | ⟨hc3, rfl⟩
        · refine s_valg hS3 (wanted_of (j := 17) (b := true) (d := 22) rfl rfl rfl rfl) rfl (r_cmp_f rfl rfl (.t rfl rfl) .c (show ¬ ((-1) = 0) from by omega)) ?_
          refine s_val hS3 rfl rfl (r_pick rfl (.t rfl rfl) (.t rfl rfl)) ?_
          refine s_val hS3 rfl rfl (r_assign rfl (.t rfl rfl)) ?_
          refine wpList_nil ?_
          refine x_tn ?_
          refine k_reb [(4, .bool false)] ⟨rfl, trivial⟩ fun G4 => ?_
          refine wp_ret ?_
          refine k_ret1 Tryd.results11 rfl rfl ?_
          refine ⟨_, rfl, ?_⟩
          exact ⟨.inr ⟨by first | omega | exact fun h => absurd (lv_uniq nA.lim nB.lim nA.nz nB.nz h) ‹A ≠ B›, rfl⟩, hS3⟩
        · refine s_valg hS3 (wanted_of (j := 17) (b := true) (d := 22) rfl rfl rfl rfl) rfl (r_cmp_t rfl rfl (.t rfl rfl) .c (show 0 = 0 from by omega)) ?_
          refine s_val hS3 rfl rfl (r_pick rfl (.t rfl rfl) (.t rfl rfl)) ?_
          refine s_val hS3 rfl rfl (r_assign rfl (.t rfl rfl)) ?_
          refine wpList_nil ?_
          refine x_tn ?_
          refine k_reb [(4, .bool true)] ⟨rfl, trivial⟩ fun G5 => ?_
          refine wp_ret ?_
          refine k_ret1 Tryd.results11 rfl rfl ?_
          refine ⟨_, rfl, ?_⟩
          exact ⟨.inl ⟨by first | omega | exact congrArg lv ‹A = B›, rfl⟩, hS3⟩
        · refine s_valg hS3 (wanted_of (j := 17) (b := true) (d := 22) rfl rfl rfl rfl) rfl (r_cmp_f rfl rfl (.t rfl rfl) .c (show ¬ (1 = 0) from by omega)) ?_
          refine s_val hS3 rfl rfl (r_pick rfl (.t rfl rfl) (.t rfl rfl)) ?_
          refine s_val hS3 rfl rfl (r_assign rfl (.t rfl rfl)) ?_
          refine wpList_nil ?_
          refine x_tn ?_
          refine k_reb [(4, .bool false)] ⟨rfl, trivial⟩ fun G6 => ?_
          refine wp_ret ?_
          refine k_ret1 Tryd.results11 rfl rfl ?_
          refine ⟨_, rfl, ?_⟩
          exact ⟨.inr ⟨by first | omega | exact fun h => absurd (lv_uniq nA.lim nB.lim nA.nz nB.nz h) ‹A ≠ B›, rfl⟩, hS3⟩
      · have htp := top_pos nA.nz (by omega)
        omega
  · refine s_val hS1 rfl rfl (r_move rfl (.t rfl rfl)) ?_
    refine s_skip (unwanted_of (j := 3) (b := true) (b' := false) (d := 8) rfl rfl rfl rfl rfl) rfl ?_
    refine s_skip (unwanted_of (j := 3) (b := true) (b' := false) (d := 8) rfl rfl rfl rfl rfl) rfl ?_
    refine s_skip (unwanted_of (j := 3) (b := true) (b' := false) (d := 8) rfl rfl rfl rfl rfl) rfl ?_
    refine s_skip (unwanted_of (j := 3) (b := true) (b' := false) (d := 8) rfl rfl rfl rfl rfl) rfl ?_
    refine s_skip (unwanted_undef (j := 7) (b := false) (d := 12) rfl rfl rfl rfl) rfl ?_
    refine s_skip (unwanted_undef (j := 7) (b := false) (d := 12) rfl rfl rfl rfl) rfl ?_
    refine s_skip (unwanted_undef (j := 7) (b := false) (d := 12) rfl rfl rfl rfl) rfl ?_
    refine s_skip (unwanted_undef (j := 7) (b := false) (d := 12) rfl rfl rfl rfl) rfl ?_
    refine s_skip (unwanted_undef (j := 7) (b := false) (d := 12) rfl rfl rfl rfl) rfl ?_
    refine s_skip (unwanted_undef (j := 7) (b := false) (d := 12) rfl rfl rfl rfl) rfl ?_
    refine s_skip (unwanted_undef (j := 7) (b := false) (d := 12) rfl rfl rfl rfl) rfl ?_
    refine s_skip (unwanted_of (j := 3) (b := true) (b' := false) (d := 8) rfl rfl rfl rfl rfl) rfl ?_
    refine s_val hS1 rfl rfl (r_pick rfl (.t rfl rfl) .c) ?_
    refine s_val hS1 rfl rfl (r_move rfl (.t rfl rfl)) ?_
    refine s_skip (unwanted_of (j := 17) (b := true) (b' := false) (d := 22) rfl rfl rfl rfl rfl) rfl ?_
    refine s_skip (unwanted_of (j := 17) (b := true) (b' := false) (d := 22) rfl rfl rfl rfl rfl) rfl ?_
    refine s_skip (unwanted_of (j := 17) (b := true) (b' := false) (d := 22) rfl rfl rfl rfl rfl) rfl ?_
    refine s_skip (unwanted_of (j := 17) (b := true) (b' := false) (d := 22) rfl rfl rfl rfl rfl) rfl ?_
    refine s_val hS1 rfl rfl (r_pick rfl (.t rfl rfl) .c) ?_
    refine s_val hS1 rfl rfl (r_assign rfl (.t rfl rfl)) ?_
    refine wpList_nil ?_
    refine x_tn ?_
    refine k_reb [(4, .bool false)] ⟨rfl, trivial⟩ fun G7 => ?_
    refine wp_ret ?_
    refine k_ret1 Tryd.results11 rfl rfl ?_
    refine ⟨_, rfl, ?_⟩
    exact ⟨.inr ⟨by first | omega | exact fun h => absurd (lv_uniq nA.lim nB.lim nA.nz nB.nz h) ‹A ≠ B›, rfl⟩, hS1⟩

theorem lmul_ok (w0 : World) (aA : Option Addr) (cA : Nat) (A : List Nat) (hA : Rd w0 .u32 aA cA A) (aB : Option Addr) (cB : Nat) (B : List Nat) (hB : Rd w0 .u32 aB cB B) (nA : Nm A) (nB : Nm B) (hT : lv A * lv B < Top) :
    Calls Tryd.prog 12 #[.slice aA A.length cA, .slice aB B.length cB] w0 (Ret fun v w' => ∃ L, Ow w0 w' .u32 38 v L ∧ Nm L ∧ lv L = lv A * lv B) := by
  refine k_enter (vs := [.slice aA A.length cA, .slice aB B.length cB]) Tryd.func12 rfl Tryd.ntmps12 rfl ?_
  have hS := St.init w0
  have lA := hA.le
  have lB := hB.le
  have lA2 := nA.len
  have lB2 := nB.len
  refine wp_seq ?_
  refine k_reg ?_
  refine s_val hS rfl rfl (r_assign rfl .c) ?_
  refine wpList_nil ?_
  refine x_tn ?_
  refine wp_seq ?_
  refine k_reg ?_
  refine s_val hS rfl rfl (r_move rfl (.t rfl rfl)) ?_
  refine s_val hS rfl rfl (r_move rfl (.t rfl rfl)) ?_
  refine s_call rfl rfl rfl (vs := [.slice aA A.length cA, .slice aB B.length cB]) ⟨(.t rfl rfl), (.t rfl rfl), trivial⟩ cb36 (Mul_ok w0 aA cA A hA aB cB B hB nA nB) ?_
  rintro v1 w1 hp1
  obtain ⟨htN1, N1, _, rfl, hp1, hNN1, hlN1⟩ := hp1.fits hT
  obtain ⟨a1, c1, rfl, hR1, -, hT2⟩ := id hp1
  have hW1 := Ow.from_ hS hp1
  have hS2 := hS.keep hT2
  have hnN1 := hNN1.len
  refine s_val hS2 rfl rfl (r_extract rfl (.t rfl rfl) rfl) ?_
  refine s_val hS2 rfl rfl (r_extract rfl (.t rfl rfl) rfl) ?_
  refine s_call rfl rfl rfl (vs := [.slice a1 N1.length c1, .int .i64 0]) ⟨(.t rfl rfl), (.t rfl rfl), trivial⟩ cb35 (ok_ok w1 a1 c1 N1 hR1 hNN1) ?_
  rintro _ w2 ⟨rfl, hB1⟩
  have hS3 := hS2.keep hB1
  replace hB1 := hB1.toBelow
  have hR2 := hR1.below hB1 (Nat.le_refl _)
  have hW2 := hW1.later hB1
  refine s_val hS3 rfl rfl (r_move rfl (.t rfl rfl)) ?_
  refine s_val hS3 rfl rfl (r_extract rfl (.t rfl rfl) rfl) ?_
  refine s_val hS3 rfl rfl (r_extract rfl (.t rfl rfl) rfl) ?_
  refine s_val hS3 rfl rfl (r_assign rfl (.t rfl rfl)) ?_
  refine s_val hS3 rfl rfl (r_assign rfl (.t rfl rfl)) ?_
  refine wpList_nil ?_
  refine x_tn ?_
  refine k_reb [(4, .slice none 0 0), (5, .slice a1 N1.length c1), (6, .bool true)] ⟨rfl, rfl, rfl, trivial⟩ fun G1 => ?_
  refine wp_seq ?_
  refine wp_seq ?_
  refine k_reg ?_
  refine s_val hS3 rfl rfl (r_move rfl (.t rfl rfl)) ?_
  refine s_val hS3 rfl rfl (r_lnot rfl (.t rfl rfl)) ?_
  refine wpList_nil ?_
  refine x_tn ?_
  refine k_reb [(4, .slice none 0 0), (5, .slice a1 N1.length c1), (17, .bool false)] ⟨rfl, rfl, rfl, trivial⟩ fun G2 => ?_
  refine k_f (.t rfl rfl) ?_
  refine wp_skip ?_
  refine x_tn ?_
  refine k_reb [(4, .slice none 0 0), (5, .slice a1 N1.length c1)] ⟨rfl, rfl, trivial⟩ fun G3 => ?_
  refine wp_seq ?_
  refine k_reg ?_
  refine s_val hS3 rfl rfl (r_move rfl (.t rfl rfl)) ?_
  refine s_val hS3 rfl rfl (r_assign rfl (.t rfl rfl)) ?_
  refine wpList_nil ?_
  refine x_tn ?_
  refine k_reb [(4, .slice a1 N1.length c1)] ⟨rfl, trivial⟩ fun G4 => ?_
  refine wp_ret ?_
  refine k_ret1 Tryd.results12 rfl rfl ?_
  refine ⟨_, rfl, ?_⟩
  exact ⟨N1, hW2, hNN1, by omega⟩

theorem nat_ok (w0 : World) (aA : Option Addr) (cA : Nat) (A : List Nat) (hA : Rd w0 .u32 aA cA A) (M : Nat) (hM : M ≤ 8192) :
    Calls Tryd.prog 26 #[.slice aA A.length cA, .int .i64 (((M : Nat) : Int))] w0 (Ret fun v w' => ∃ L, Ow w0 w' .u32 38 v L ∧ Nm L ∧ L.length ≤ M) := by
  refine k_enter (vs := [.slice aA A.length cA, .int .i64 (((M : Nat) : Int))]) Tryd.func26 rfl Tryd.ntmps26 rfl ?_
  have hS := St.init w0
  have lA := hA.le
  have mA := hA.most
  refine wp_seq ?_
  refine k_reg ?_
  refine s_val hS rfl rfl (r_assign rfl .c) ?_
  refine wpList_nil ?_
  refine x_tn ?_
  refine wp_seq ?_
  refine k_reg ?_
  refine s_val hS rfl rfl (r_assign rfl .c) ?_
  refine wpList_nil ?_
  refine x_tn ?_
  refine wp_seq ?_
  refine wp_seq ?_
  refine k_reg ?_
  refine s_val hS rfl rfl (r_assign rfl .c) ?_
  refine wpList_nil ?_
  refine x_tn ?_
  refine wp_block ?_
  refine wp_loop_ghost (fun (m1 : Nat) a w => ∃ (G : Nat → Value) (i : Nat) (ga : Option Addr) (gc : Nat) (L : List Nat) (hv : Hp), a = fr 43 [(0, .slice aA A.length cA), (1, .int .i64 (((M : Nat) : Int))), (4, .slice none 0 0), (5, .slice ga i gc), (6, .int .i64 (((i : Nat) : Int)))] G ∧ St w0 [] ([] ++ hv) w ∧ (m1 = M - i ∧ i ≤ M ∧ i ≤ A.length ∧ L.length = i ∧ Lim L ∧ Gr .u32 38 ga gc L hv)) (M) ⟨_, 0, none, 0, [], [], fr_reb _ ⟨rfl, rfl, rfl, rfl, rfl, trivial⟩, hS, ?_⟩ ?_
  · exact ⟨rfl, Nat.zero_le _, Nat.zero_le _, rfl, lim_nil, .nil⟩
  · intro m1 _ w1 hI1
    obtain ⟨G1, i, ga, gc, L, hv, rfl, hS1, ⟨hm, hi, hi2, hLi, hLlim, hG⟩⟩ := hI1
    refine wp_seq ?_
    refine wp_seq ?_
    refine k_reg ?_
    refine s_val hS1 rfl rfl (r_move rfl (.t rfl rfl)) ?_
    refine s_val hS1 rfl rfl (r_move rfl (.t rfl rfl)) ?_
    refine s_val hS1 rfl rfl (r_len rfl rfl Tryd.underlying26 (.t rfl rfl)) ?_
    by_cases c1 : i < A.length
    · refine s_val hS1 rfl rfl (r_cmp_t rfl rfl (.t rfl rfl) (.t rfl rfl) (show ((i : Nat) : Int) < ((A.length : Nat) : Int) from by omega)) ?_
      refine s_val hS1 rfl rfl (r_move rfl (.t rfl rfl)) ?_
      refine s_valg hS1 (wanted_of (j := 4) (b := true) (d := 11) rfl rfl rfl rfl) rfl (r_move rfl (.t rfl rfl)) ?_
      refine s_valg hS1 (wanted_of (j := 4) (b := true) (d := 11) rfl rfl rfl rfl) rfl (r_move rfl (.t rfl rfl)) ?_
      by_cases c2 : i < M
      · refine s_valg hS1 (wanted_of (j := 4) (b := true) (d := 11) rfl rfl rfl rfl) rfl (r_cmp_t rfl rfl (.t rfl rfl) (.t rfl rfl) (show ((i : Nat) : Int) < ((M : Nat) : Int) from by omega)) ?_
        refine s_val hS1 rfl rfl (r_pick rfl (.t rfl rfl) (.t rfl rfl)) ?_
        refine wpList_nil ?_
        refine x_tn ?_
        refine k_reb [(0, .slice aA A.length cA), (1, .int .i64 (((M : Nat) : Int))), (4, .slice none 0 0), (5, .slice ga i gc), (6, .int .i64 (((i : Nat) : Int))), (15, .bool true)] ⟨rfl, rfl, rfl, rfl, rfl, rfl, trivial⟩ fun G2 => ?_
        refine k_t (.t rfl rfl) ?_
        refine wp_skip ?_
        refine x_tn ?_
        refine k_reb [(0, .slice aA A.length cA), (1, .int .i64 (((M : Nat) : Int))), (4, .slice none 0 0), (5, .slice ga i gc), (6, .int .i64 (((i : Nat) : Int)))] ⟨rfl, rfl, rfl, rfl, rfl, trivial⟩ fun G3 => ?_
        refine wp_seq ?_
        refine wp_block ?_
        refine k_reg ?_
        refine s_val hS1 rfl rfl (r_move rfl (.t rfl rfl)) ?_
        refine s_val hS1 rfl rfl (r_move rfl (.t rfl rfl)) ?_
        refine s_val hS1 rfl rfl (r_move rfl (.t rfl rfl)) ?_
        refine s_val hS1 rfl rfl (r_ixr (j := i) rfl Tryd.underlying26 ti38 (.t rfl rfl) (.t rfl rfl) hA rfl rfl (by omega)) ?_
        have b1 : A.getD i 0 ≤ 4294967295 := hA.lt _
        refine s_val hS1 rfl rfl (r_load rfl one38 (.t rfl rfl) (St.cell_rd hA (by omega) (by simp))) ?_
        refine s_lit rfl rfl rfl Tryd.underlying27 ti38 (vs := [(0, .int .u32 (((A.getD i 0 : Nat) : Int)))]) ⟨rfl, (.t rfl rfl), trivial⟩ (L := [A.getD i 0]) rfl (by omega) rfl hS1 fun blk1 w2 hb1 hB1 hS2 => ?_
        have hS3 := hS2.seg
        refine s_append (h1 := [(blk1, .cells (encN .u32 ([A.getD i 0])) 38 (0, 0))]) (L := L) rfl rfl rfl rfl ⟨_, _, rfl, Tryd.underlying27⟩ Tryd.underlying27 ti38 (by omega) (by omega) (.t rfl rfl) (.t rfl rfl) rfl hLi.symm hG hS3 (rd_own0 (m := 0) hS3 rfl (by simp) (by simp) (by intro x hx; simp only [List.mem_cons, List.not_mem_nil, or_false] at hx; first | (subst hx; first | omega | (simp only [maxK]; omega)) | (rcases hx with rfl | rfl <;> first | omega | (simp only [maxK]; omega)))) (by first | omega | (simp only [List.length_cons, List.length_nil]; omega)) fun ga1 gc1 gh1 w3 hG1 hS4 hF1 => ?_
        refine s_val hS4 rfl rfl (r_assign rfl (.t rfl rfl)) ?_
        refine wpList_nil ?_
        refine x_bn ?_
        refine x_tn ?_
        refine k_reb [(0, .slice aA A.length cA), (1, .int .i64 (((M : Nat) : Int))), (4, .slice none 0 0), (5, .slice ga1 (i + 1) gc1), (6, .int .i64 (((i : Nat) : Int)))] ⟨rfl, rfl, rfl, rfl, rfl, trivial⟩ fun G4 => ?_
        refine k_reg ?_
        refine s_val hS4 rfl rfl (r_move rfl (.t rfl rfl)) ?_
        refine s_val hS4 rfl rfl (r_arith rfl rfl (.t rfl rfl) .c (c := ((i + 1 : Nat) : Int)) (wn_i64 (by show (((i : Nat) : Int) : Int) + 1 = _; omega) (by omega))) ?_
        refine s_val hS4 rfl rfl (r_assign rfl (.t rfl rfl)) ?_
        refine wpList_nil ?_
        refine x_tn ?_
        have hS5 : St w0 [] (([] ++ gh1)) w3 := hS4.weaken _ (List.Sublist.append_right (by repeat (first | exact List.nil_sublist _ | exact List.Sublist.refl _ | apply List.Sublist.cons₂ | apply List.Sublist.cons)) _)
        refine ⟨M - (i + 1), by omega, _, i + 1, ga1, gc1, L ++ ([A.getD i 0]), gh1, fr_reb _ ⟨rfl, rfl, rfl, rfl, rfl, trivial⟩, hS5, ?_⟩
        exact ⟨by omega, by omega, by omega, by rw [List.length_append, hLi]; rfl, lim_append hLlim (by intro x hx; simp only [List.mem_cons, List.not_mem_nil, or_false] at hx; first | (subst hx; first | omega | (simp only [maxK]; omega)) | (rcases hx with rfl | rfl <;> first | omega | (simp only [maxK]; omega))), hG1⟩
      · refine s_valg hS1 (wanted_of (j := 4) (b := true) (d := 11) rfl rfl rfl rfl) rfl (r_cmp_f rfl rfl (.t rfl rfl) (.t rfl rfl) (show ¬ (((i : Nat) : Int) < ((M : Nat) : Int)) from by omega)) ?_
        refine s_val hS1 rfl rfl (r_pick rfl (.t rfl rfl) (.t rfl rfl)) ?_
        refine wpList_nil ?_
        refine x_tn ?_
        refine k_reb [(0, .slice aA A.length cA), (1, .int .i64 (((M : Nat) : Int))), (4, .slice none 0 0), (5, .slice ga i gc), (6, .int .i64 (((i : Nat) : Int))), (15, .bool false)] ⟨rfl, rfl, rfl, rfl, rfl, rfl, trivial⟩ fun G5 => ?_
        refine k_f (.t rfl rfl) ?_
        refine wp_exit ?_
        refine x_te ?_
        refine x_te ?_
        refine x_be ?_
        refine x_tn ?_
        refine k_reb [(4, .slice none 0 0), (5, .slice ga i gc)] ⟨rfl, rfl, trivial⟩ fun G6 => ?_
        refine wp_seq ?_
        refine wp_block ?_
        refine wp_loop_ghost (fun (m2 : Nat) a w => ∃ (G : Nat → Value) (k : Nat), a = fr 43 [(4, .slice none 0 0), (5, .slice ga k gc)] G ∧ St w0 [] ([] ++ hv) w ∧ (m2 = k ∧ k ≤ L.length)) (i) ⟨_, i, fr_reb _ ⟨rfl, rfl, trivial⟩, hS1, ?_⟩ ?_
        · exact ⟨rfl, by omega⟩
        · intro m2 _ w4 hI2
          obtain ⟨G7, k, rfl, hS6, ⟨hmk, hk⟩⟩ := hI2
          have hLr := hG.rd hS6 (by omega) hLlim
          have hTk := hLr.take (m := k) (cap' := gc) hk (by have := hLr.le; omega)
          have hgc := hLr.le
          have hTl : (L.take k).length = k := by rw [List.length_take]; omega
          refine wp_seq ?_
          refine wp_seq ?_
          refine k_reg ?_
          refine s_val hS6 rfl rfl (r_move rfl (.t rfl rfl)) ?_
          refine s_val hS6 rfl rfl (r_len rfl rfl Tryd.underlying27 (.t rfl rfl)) ?_
          by_cases c3 : k > 0
          · refine s_val hS6 rfl rfl (r_cmp_t rfl rfl (.t rfl rfl) .c (show ((k : Nat) : Int) > 0 from by omega)) ?_
            refine s_val hS6 rfl rfl (r_move rfl (.t rfl rfl)) ?_
            refine s_valg hS6 (wanted_of (j := 3) (b := true) (d := 28) rfl rfl rfl rfl) rfl (r_move rfl (.t rfl rfl)) ?_
            refine s_valg hS6 (wanted_of (j := 3) (b := true) (d := 28) rfl rfl rfl rfl) rfl (r_move rfl (.t rfl rfl)) ?_
            refine s_valg hS6 (wanted_of (j := 3) (b := true) (d := 28) rfl rfl rfl rfl) rfl (r_len rfl rfl Tryd.underlying27 (.t rfl rfl)) ?_
            refine s_valg hS6 (wanted_of (j := 3) (b := true) (d := 28) rfl rfl rfl rfl) rfl (r_arith rfl rfl (.t rfl rfl) .c (c := ((k - 1 : Nat) : Int)) (wn_i64 (by show (((k : Nat) : Int) : Int) - 1 = _; omega) (by omega))) ?_
            refine s_valg hS6 (wanted_of (j := 3) (b := true) (d := 28) rfl rfl rfl rfl) rfl (r_ixr (j := k - 1) rfl Tryd.underlying27 ti38 (.t rfl rfl) (.t rfl rfl) hTk hTl rfl (by omega)) ?_
            have b2 : (L.take k).getD (k - 1) 0 ≤ 4294967295 := hTk.lt _
            refine s_valg (C := fun x => x = w4) rfl (wanted_of (j := 3) (b := true) (d := 28) rfl rfl rfl rfl) rfl (r_load rfl one38 (.t rfl rfl) (Rd.cell_now hTk (by omega))) ?_
            by_cases cz : (L.take k).getD (k - 1) 0 = 0
            · refine s_valg hS6 (wanted_of (j := 3) (b := true) (d := 28) rfl rfl rfl rfl) rfl (r_cmp_t rfl rfl (.t rfl rfl) .c (show (((L.take k).getD (k - 1) 0 : Nat) : Int) = 0 from by omega)) ?_
              refine s_val hS6 rfl rfl (r_pick rfl (.t rfl rfl) (.t rfl rfl)) ?_
              refine wpList_nil ?_
              refine x_tn ?_
              refine k_reb [(4, .slice none 0 0), (5, .slice ga k gc), (36, .bool true)] ⟨rfl, rfl, rfl, trivial⟩ fun G8 => ?_
              refine k_t (.t rfl rfl) ?_
              refine wp_skip ?_
              refine x_tn ?_
              refine k_reb [(4, .slice none 0 0), (5, .slice ga k gc)] ⟨rfl, rfl, trivial⟩ fun G9 => ?_
              refine wp_block ?_
              refine k_reg ?_
              refine s_val hS6 rfl rfl (r_move rfl (.t rfl rfl)) ?_
              refine s_val hS6 rfl rfl (r_move rfl (.t rfl rfl)) ?_
              refine s_val hS6 rfl rfl (r_len rfl rfl Tryd.underlying27 (.t rfl rfl)) ?_
              refine s_val hS6 rfl rfl (r_arith rfl rfl (.t rfl rfl) .c (c := ((k - 1 : Nat) : Int)) (wn_i64 (by show (((k : Nat) : Int) : Int) - 1 = _; omega) (by omega))) ?_
              refine s_val hS6 rfl rfl (r_cut0 rfl Tryd.underlying27 ti38 (.t rfl rfl) (.s (.t rfl rfl)) .n (hh := k - 1) (m := gc) (by omega) (by omega)) ?_
              refine s_val hS6 rfl rfl (r_assign rfl (.t rfl rfl)) ?_
              refine wpList_nil ?_
              refine x_bn ?_
              refine x_tn ?_
              refine ⟨k - 1, by omega, _, k - 1, fr_reb _ ⟨rfl, rfl, trivial⟩, hS6, ?_⟩
              exact ⟨rfl, by omega⟩
            · refine s_valg hS6 (wanted_of (j := 3) (b := true) (d := 28) rfl rfl rfl rfl) rfl (r_cmp_f rfl rfl (.t rfl rfl) .c (show ¬ ((((L.take k).getD (k - 1) 0 : Nat) : Int) = 0) from by omega)) ?_
              refine s_val hS6 rfl rfl (r_pick rfl (.t rfl rfl) (.t rfl rfl)) ?_
              refine wpList_nil ?_
              refine x_tn ?_
              refine k_reb [(4, .slice none 0 0), (5, .slice ga k gc), (36, .bool false)] ⟨rfl, rfl, rfl, trivial⟩ fun G10 => ?_
              refine k_f (.t rfl rfl) ?_
              refine wp_exit ?_
              refine x_te ?_
              refine x_te ?_
              refine x_be ?_
              refine x_tn ?_
              refine k_reb [(4, .slice none 0 0), (5, .slice ga k gc)] ⟨rfl, rfl, trivial⟩ fun G11 => ?_
              refine wp_seq ?_
              refine k_reg ?_
              refine s_val hS6 rfl rfl (r_move rfl (.t rfl rfl)) ?_
              refine s_val hS6 rfl rfl (r_assign rfl (.t rfl rfl)) ?_
              refine wpList_nil ?_
              refine x_tn ?_
              refine k_reb [(4, .slice ga k gc)] ⟨rfl, trivial⟩ fun G12 => ?_
              refine wp_ret ?_
              refine k_ret1 Tryd.results26 rfl rfl ?_
              refine ⟨_, rfl, ?_⟩
              have hn := nm_trim (m := M) hLlim hk (by omega) hM (.inr (by rw [← getD_take (k := k) (by omega)]; exact cz))
              exact ⟨L.take k, by have := Ow.gr_front (k' := k) hG hS6 (by omega) (by omega) hLlim; exact this, hn, by omega⟩
          · refine s_val hS6 rfl rfl (r_cmp_f rfl rfl (.t rfl rfl) .c (show ¬ (((k : Nat) : Int) > 0) from by omega)) ?_
            refine s_val hS6 rfl rfl (r_move rfl (.t rfl rfl)) ?_
            refine s_skip (unwanted_of (j := 3) (b := true) (b' := false) (d := 28) rfl rfl rfl rfl rfl) rfl ?_
            refine s_skip (unwanted_of (j := 3) (b := true) (b' := false) (d := 28) rfl rfl rfl rfl rfl) rfl ?_
            refine s_skip (unwanted_of (j := 3) (b := true) (b' := false) (d := 28) rfl rfl rfl rfl rfl) rfl ?_
            refine s_skip (unwanted_of (j := 3) (b := true) (b' := false) (d := 28) rfl rfl rfl rfl rfl) rfl ?_
            refine s_skip (unwanted_of (j := 3) (b := true) (b' := false) (d := 28) rfl rfl rfl rfl rfl) rfl ?_
            refine s_skip (unwanted_of (j := 3) (b := true) (b' := false) (d := 28) rfl rfl rfl rfl rfl) rfl ?_
            refine s_skip (unwanted_of (j := 3) (b := true) (b' := false) (d := 28) rfl rfl rfl rfl rfl) rfl ?_
            refine s_val hS6 rfl rfl (r_pick rfl (.t rfl rfl) .c) ?_
            refine wpList_nil ?_
            refine x_tn ?_
            refine k_reb [(4, .slice none 0 0), (5, .slice ga k gc), (36, .bool false)] ⟨rfl, rfl, rfl, trivial⟩ fun G13 => ?_
            refine k_f (.t rfl rfl) ?_
            refine wp_exit ?_
            refine x_te ?_
            refine x_te ?_
            refine x_be ?_
            refine x_tn ?_
            refine k_reb [(4, .slice none 0 0), (5, .slice ga k gc)] ⟨rfl, rfl, trivial⟩ fun G14 => ?_
            refine wp_seq ?_
            refine k_reg ?_
            refine s_val hS6 rfl rfl (r_move rfl (.t rfl rfl)) ?_
            refine s_val hS6 rfl rfl (r_assign rfl (.t rfl rfl)) ?_
            refine wpList_nil ?_
            refine x_tn ?_
            refine k_reb [(4, .slice ga k gc)] ⟨rfl, trivial⟩ fun G15 => ?_
            refine wp_ret ?_
            refine k_ret1 Tryd.results26 rfl rfl ?_
            refine ⟨_, rfl, ?_⟩
            have hn := nm_trim (m := M) hLlim hk (by omega) hM (.inl (by omega))
            exact ⟨L.take k, by have := Ow.gr_front (k' := k) hG hS6 (by omega) (by omega) hLlim; exact this, hn, by omega⟩
    · refine s_val hS1 rfl rfl (r_cmp_f rfl rfl (.t rfl rfl) (.t rfl rfl) (show ¬ (((i : Nat) : Int) < ((A.length : Nat) : Int)) from by omega)) ?_
      refine s_val hS1 rfl rfl (r_move rfl (.t rfl rfl)) ?_
      refine s_skip (unwanted_of (j := 4) (b := true) (b' := false) (d := 11) rfl rfl rfl rfl rfl) rfl ?_
      refine s_skip (unwanted_of (j := 4) (b := true) (b' := false) (d := 11) rfl rfl rfl rfl rfl) rfl ?_
      refine s_skip (unwanted_of (j := 4) (b := true) (b' := false) (d := 11) rfl rfl rfl rfl rfl) rfl ?_
      refine s_val hS1 rfl rfl (r_pick rfl (.t rfl rfl) .c) ?_
      refine wpList_nil ?_
      refine x_tn ?_
      refine k_reb [(0, .slice aA A.length cA), (1, .int .i64 (((M : Nat) : Int))), (4, .slice none 0 0), (5, .slice ga i gc), (6, .int .i64 (((i : Nat) : Int))), (15, .bool false)] ⟨rfl, rfl, rfl, rfl, rfl, rfl, trivial⟩ fun G16 => ?_
      refine k_f (.t rfl rfl) ?_
      refine wp_exit ?_
      refine x_te ?_
      refine x_te ?_
      refine x_be ?_
      refine x_tn ?_
      refine k_reb [(4, .slice none 0 0), (5, .slice ga i gc)] ⟨rfl, rfl, trivial⟩ fun G17 => ?_
      refine wp_seq ?_
      refine wp_block ?_
      refine wp_loop_ghost (fun (m3 : Nat) a w => ∃ (G : Nat → Value) (k : Nat), a = fr 43 [(4, .slice none 0 0), (5, .slice ga k gc)] G ∧ St w0 [] ([] ++ hv) w ∧ (m3 = k ∧ k ≤ L.length)) (i) ⟨_, i, fr_reb _ ⟨rfl, rfl, trivial⟩, hS1, ?_⟩ ?_
      · exact ⟨rfl, by omega⟩
      · intro m3 _ w5 hI3
        obtain ⟨G18, k, rfl, hS7, ⟨hmk, hk⟩⟩ := hI3
        have hLr := hG.rd hS7 (by omega) hLlim
        have hTk := hLr.take (m := k) (cap' := gc) hk (by have := hLr.le; omega)
        have hgc := hLr.le
        have hTl : (L.take k).length = k := by rw [List.length_take]; omega
        refine wp_seq ?_
        refine wp_seq ?_
        refine k_reg ?_
        refine s_val hS7 rfl rfl (r_move rfl (.t rfl rfl)) ?_
        refine s_val hS7 rfl rfl (r_len rfl rfl Tryd.underlying27 (.t rfl rfl)) ?_
        by_cases c4 : k > 0
        · refine s_val hS7 rfl rfl (r_cmp_t rfl rfl (.t rfl rfl) .c (show ((k : Nat) : Int) > 0 from by omega)) ?_
          refine s_val hS7 rfl rfl (r_move rfl (.t rfl rfl)) ?_
          refine s_valg hS7 (wanted_of (j := 3) (b := true) (d := 28) rfl rfl rfl rfl) rfl (r_move rfl (.t rfl rfl)) ?_
          refine s_valg hS7 (wanted_of (j := 3) (b := true) (d := 28) rfl rfl rfl rfl) rfl (r_move rfl (.t rfl rfl)) ?_
          refine s_valg hS7 (wanted_of (j := 3) (b := true) (d := 28) rfl rfl rfl rfl) rfl (r_len rfl rfl Tryd.underlying27 (.t rfl rfl)) ?_
          refine s_valg hS7 (wanted_of (j := 3) (b := true) (d := 28) rfl rfl rfl rfl) rfl (r_arith rfl rfl (.t rfl rfl) .c (c := ((k - 1 : Nat) : Int)) (wn_i64 (by show (((k : Nat) : Int) : Int) - 1 = _; omega) (by omega))) ?_
          refine s_valg hS7 (wanted_of (j := 3) (b := true) (d := 28) rfl rfl rfl rfl) rfl (r_ixr (j := k - 1) rfl Tryd.underlying27 ti38 (.t rfl rfl) (.t rfl rfl) hTk hTl rfl (by omega)) ?_
          have b3 : (L.take k).getD (k - 1) 0 ≤ 4294967295 := hTk.lt _
          refine s_valg (C := fun x => x = w5) rfl (wanted_of (j := 3) (b := true) (d := 28) rfl rfl rfl rfl) rfl (r_load rfl one38 (.t rfl rfl) (Rd.cell_now hTk (by omega))) ?_
          by_cases cz : (L.take k).getD (k - 1) 0 = 0
          · refine s_valg hS7 (wanted_of (j := 3) (b := true) (d := 28) rfl rfl rfl rfl) rfl (r_cmp_t rfl rfl (.t rfl rfl) .c (show (((L.take k).getD (k - 1) 0 : Nat) : Int) = 0 from by omega)) ?_
            refine s_val hS7 rfl rfl (r_pick rfl (.t rfl rfl) (.t rfl rfl)) ?_
            refine wpList_nil ?_
            refine x_tn ?_
            refine k_reb [(4, .slice none 0 0), (5, .slice ga k gc), (36, .bool true)] ⟨rfl, rfl, rfl, trivial⟩ fun G19 => ?_
            refine k_t (.t rfl rfl) ?_
            refine wp_skip ?_
            refine x_tn ?_
            refine k_reb [(4, .slice none 0 0), (5, .slice ga k gc)] ⟨rfl, rfl, trivial⟩ fun G20 => ?_
            refine wp_block ?_
            refine k_reg ?_
            refine s_val hS7 rfl rfl (r_move rfl (.t rfl rfl)) ?_
            refine s_val hS7 rfl rfl (r_move rfl (.t rfl rfl)) ?_
            refine s_val hS7 rfl rfl (r_len rfl rfl Tryd.underlying27 (.t rfl rfl)) ?_
            refine s_val hS7 rfl rfl (r_arith rfl rfl (.t rfl rfl) .c (c := ((k - 1 : Nat) : Int)) (wn_i64 (by show (((k : Nat) : Int) : Int) - 1 = _; omega) (by omega))) ?_
            refine s_val hS7 rfl rfl (r_cut0 rfl Tryd.underlying27 ti38 (.t rfl rfl) (.s (.t rfl rfl)) .n (hh := k - 1) (m := gc) (by omega) (by omega)) ?_
            refine s_val hS7 rfl rfl (r_assign rfl (.t rfl rfl)) ?_
            refine wpList_nil ?_
            refine x_bn ?_
            refine x_tn ?_
            refine ⟨k - 1, by omega, _, k - 1, fr_reb _ ⟨rfl, rfl, trivial⟩, hS7, ?_⟩
            exact ⟨rfl, by omega⟩
          · refine s_valg hS7 (wanted_of (j := 3) (b := true) (d := 28) rfl rfl rfl rfl) rfl (r_cmp_f rfl rfl (.t rfl rfl) .c (show ¬ ((((L.take k).getD (k - 1) 0 : Nat) : Int) = 0) from by omega)) ?_
            refine s_val hS7 rfl rfl (r_pick rfl (.t rfl rfl) (.t rfl rfl)) ?_
            refine wpList_nil ?_
            refine x_tn ?_
            refine k_reb [(4, .slice none 0 0), (5, .slice ga k gc), (36, .bool false)] ⟨rfl, rfl, rfl, trivial⟩ fun G21 => ?_
            refine k_f (.t rfl rfl) ?_
            refine wp_exit ?_
            refine x_te ?_
            refine x_te ?_
            refine x_be ?_
            refine x_tn ?_
            refine k_reb [(4, .slice none 0 0), (5, .slice ga k gc)] ⟨rfl, rfl, trivial⟩ fun G22 => ?_
            refine wp_seq ?_
            refine k_reg ?_
            refine s_val hS7 rfl rfl (r_move rfl (.t rfl rfl)) ?_
            refine s_val hS7 rfl rfl (r_assign rfl (.t rfl rfl)) ?_
            refine wpList_nil ?_
            refine x_tn ?_
            refine k_reb [(4, .slice ga k gc)] ⟨rfl, trivial⟩ fun G23 => ?_
            refine wp_ret ?_
            refine k_ret1 Tryd.results26 rfl rfl ?_
            refine ⟨_, rfl, ?_⟩
            have hn := nm_trim (m := M) hLlim hk (by omega) hM (.inr (by rw [← getD_take (k := k) (by omega)]; exact cz))
            exact ⟨L.take k, by have := Ow.gr_front (k' := k) hG hS7 (by omega) (by omega) hLlim; exact this, hn, by omega⟩
        · refine s_val hS7 rfl rfl (r_cmp_f rfl rfl (.t rfl rfl) .c (show ¬ (((k : Nat) : Int) > 0) from by omega)) ?_
          refine s_val hS7 rfl rfl (r_move rfl (.t rfl rfl)) ?_
          refine s_skip (unwanted_of (j := 3) (b := true) (b' := false) (d := 28) rfl rfl rfl rfl rfl) rfl ?_
          refine s_skip (unwanted_of (j := 3) (b := true) (b' := false) (d := 28) rfl rfl rfl rfl rfl) rfl ?_
          refine s_skip (unwanted_of (j := 3) (b := true) (b' := false) (d := 28) rfl rfl rfl rfl rfl) rfl ?_
          refine s_skip (unwanted_of (j := 3) (b := true) (b' := false) (d := 28) rfl rfl rfl rfl rfl) rfl ?_
          refine s_skip (unwanted_of (j := 3) (b := true) (b' := false) (d := 28) rfl rfl rfl rfl rfl) rfl ?_
          refine s_skip (unwanted_of (j := 3) (b := true) (b' := false) (d := 28) rfl rfl rfl rfl rfl) rfl ?_
          refine s_skip (unwanted_of (j := 3) (b := true) (b' := false) (d := 28) rfl rfl rfl rfl rfl) rfl ?_
          refine s_val hS7 rfl rfl (r_pick rfl (.t rfl rfl) .c) ?_
          refine wpList_nil ?_
          refine x_tn ?_
          refine k_reb [(4, .slice none 0 0), (5, .slice ga k gc), (36, .bool false)] ⟨rfl, rfl, rfl, trivial⟩ fun G24 => ?_
          refine k_f (.t rfl rfl) ?_
          refine wp_exit ?_
          refine x_te ?_
          refine x_te ?_
          refine x_be ?_
          refine x_tn ?_
          refine k_reb [(4, .slice none 0 0), (5, .slice ga k gc)] ⟨rfl, rfl, trivial⟩ fun G25 => ?_
          refine wp_seq ?_
          refine k_reg ?_
          refine s_val hS7 rfl rfl (r_move rfl (.t rfl rfl)) ?_
          refine s_val hS7 rfl rfl (r_assign rfl (.t rfl rfl)) ?_
          refine wpList_nil ?_
          refine x_tn ?_
          refine k_reb [(4, .slice ga k gc)] ⟨rfl, trivial⟩ fun G26 => ?_
          refine wp_ret ?_
          refine k_ret1 Tryd.results26 rfl rfl ?_
          refine ⟨_, rfl, ?_⟩
          have hn := nm_trim (m := M) hLlim hk (by omega) hM (.inl (by omega))
          exact ⟨L.take k, by have := Ow.gr_front (k' := k) hG hS7 (by omega) (by omega) hLlim; exact this, hn, by omega⟩

theorem three_ok (w0 : World) (aL : Option Addr) (cL : Nat) (LL : List (Option Addr × Nat × List Nat)) (hL : RdS w0 aL LL) (vN : Value) (M : Nat) (hM : M ≤ 8192) :
    Calls Tryd.prog 5 #[.agg #[.slice aL LL.length cL, vN], .int .i64 (((M : Nat) : Int))] w0 (Ret fun v w' => ∃ A B C u x y, v = .tuple #[u, x, y] ∧ Ow w0 w' .u32 38 u A ∧ Ow w0 w' .u32 38 x B ∧ Ow w0 w' .u32 38 y C ∧ Nm A ∧ Nm B ∧ Nm C ∧ A.length ≤ M ∧ B.length ≤ M ∧ C.length ≤ M) := by
  refine k_enter (vs := [.agg #[.slice aL LL.length cL, vN], .int .i64 (((M : Nat) : Int))]) Tryd.func5 rfl Tryd.ntmps5 rfl ?_
  have hS := St.init w0
  have mL := hL.most
  refine wp_seq ?_
  refine k_reg ?_
  refine s_box rfl rfl rfl (.t rfl rfl) (cs := #[.slice aL LL.length cL, vN]) rfl hS fun blk1 w1 hb1 hB1 hS1 => ?_
  refine s_val hS1 rfl rfl (r_assign rfl .c) ?_
  refine s_val hS1 rfl rfl (r_assign rfl .c) ?_
  refine s_val hS1 rfl rfl (r_assign rfl .c) ?_
  refine wpList_nil ?_
  refine x_tn ?_
  refine k_reb [(1, .int .i64 (((M : Nat) : Int))), (2, .pointer (some ⟨blk1, 0, none⟩)), (4, .slice none 0 0), (5, .slice none 0 0), (6, .slice none 0 0)] ⟨rfl, rfl, rfl, rfl, rfl, trivial⟩ fun G1 => ?_
  refine wp_seq ?_
  refine k_reg ?_
  refine s_alloc rfl rfl rfl ti59 (cs := #[.slice none 0 0, .slice none 0 0, .slice none 0 0]) rfl hS1 fun blk2 w2 hb2 hB2 hS2 => ?_
  refine wpList_nil ?_
  refine x_tn ?_
  refine wp_seq ?_
  refine wp_seq ?_
  refine k_reg ?_
  refine s_val hS2 rfl rfl (r_assign rfl .c) ?_
  refine wpList_nil ?_
  refine x_tn ?_
  refine wp_block ?_
  refine wp_loop_rounds 4 ?_
  refine k_round ?_
  refine wp_seq ?_
  refine wp_seq ?_
  refine k_reg ?_
  refine s_val hS2 rfl rfl (r_move rfl (.t rfl rfl)) ?_
  refine s_val hS2 rfl rfl (r_cmp_t rfl rfl (.t rfl rfl) .c (show 0 < 3 from by omega)) ?_
  refine s_val hS2 rfl rfl (r_move rfl (.t rfl rfl)) ?_
  refine s_valg hS2 (wanted_of (j := 2) (b := true) (d := 11) rfl rfl rfl rfl) rfl (r_move rfl (.t rfl rfl)) ?_
  refine s_valg hS2 (wanted_of (j := 2) (b := true) (d := 11) rfl rfl rfl rfl) rfl (r_field rfl Tryd.underlying25 rfl ti22 (.t rfl rfl) (qq := 0) rfl) ?_
  refine s_valg hS2 (wanted_of (j := 2) (b := true) (d := 11) rfl rfl rfl rfl) rfl (r_load rfl one22 (.t rfl rfl) (St.cell_own (m := 0) rfl rfl)) ?_
  refine s_valg hS2 (wanted_of (j := 2) (b := true) (d := 11) rfl rfl rfl rfl) rfl (r_len rfl rfl Tryd.underlying22 (.t rfl rfl)) ?_
  by_cases c1 : 0 < LL.length
  · refine s_valg hS2 (wanted_of (j := 2) (b := true) (d := 11) rfl rfl rfl rfl) rfl (r_cmp_t rfl rfl (.t rfl rfl) (.t rfl rfl) (show 0 < ((LL.length : Nat) : Int) from by omega)) ?_
    refine s_val hS2 rfl rfl (r_pick rfl (.t rfl rfl) (.t rfl rfl)) ?_
    refine wpList_nil ?_
    refine x_tn ?_
    refine k_t (.t rfl rfl) ?_
    refine wp_skip ?_
    refine x_tn ?_
    refine wp_seq ?_
    refine wp_block ?_
    refine k_reg ?_
    refine s_val hS2 rfl rfl (r_move rfl (.t rfl rfl)) ?_
    refine s_val hS2 rfl rfl (r_field rfl Tryd.underlying25 rfl ti22 (.t rfl rfl) (qq := 0) rfl) ?_
    refine s_val hS2 rfl rfl (r_load rfl one22 (.t rfl rfl) (St.cell_own (m := 0) rfl rfl)) ?_
    refine s_val hS2 rfl rfl (r_move rfl (.t rfl rfl)) ?_
    refine s_val hS2 rfl rfl (r_ixS (j := 0) rfl Tryd.underlying22 ti26 (.t rfl rfl) (.t rfl rfl) hL rfl rfl (by omega)) ?_
    have hR1 := (hL.at_ 0 (by omega)).2.2.2
    refine s_val hS2 rfl rfl (r_load rfl one26 (.t rfl rfl) (cell_rdS hL (by omega) (by simp))) ?_
    refine s_val hS2 rfl rfl (r_move rfl (.t rfl rfl)) ?_
    refine s_call rfl rfl rfl (vs := [.slice ((LL.getD 0 (none, 0, [])).1) ((LL.getD 0 (none, 0, [])).2.2.length) ((LL.getD 0 (none, 0, [])).2.1), .int .i64 (((M : Nat) : Int))]) ⟨(.t rfl rfl), (.t rfl rfl), trivial⟩ cb26 (nat_ok w2 ((LL.getD 0 (none, 0, [])).1) ((LL.getD 0 (none, 0, [])).2.1) ((LL.getD 0 (none, 0, [])).2.2) (rd_st hS2 hR1 (by simp)) M hM) ?_
    intro v1 w3 hp1
    obtain ⟨N1, hp1, ⟨hNN1, hmN1⟩⟩ := hp1
    obtain ⟨a1, c2, rfl, hR2, -, hT1⟩ := id hp1
    have hW1 := Ow.from_ hS2 hp1
    have hS3 := hS2.keep hT1
    have hA1 := hp1.apart hS2 (m := 0) rfl
    have hA2 := hp1.apart hS2 (m := 1) rfl
    refine s_val hS3 rfl rfl (r_ixa (j := 0) rfl Tryd.underlying59 ti27 (.t rfl rfl) (.t rfl rfl) rfl (by omega) (qq := 0) rfl) ?_
    refine s_storeB (m := 1) rfl rfl rfl one27 (.t rfl rfl) (.t rfl rfl) rfl hS3 rfl rfl (c' := #[.slice a1 N1.length c2, .slice none 0 0, .slice none 0 0]) rfl (h' := [(blk1, .cells #[.slice aL LL.length cL, vN] 25 (0, 0)), (blk2, .cells #[.slice a1 N1.length c2, .slice none 0 0, .slice none 0 0] 59 (0, 0))]) rfl fun w4 hS4 hB3 => ?_
    have hR3 := hR2.wrote' hB3 hA2
    have hW2 := hW1.wrote hB3 hS4 hA2
    refine wpList_nil ?_
    refine x_bn ?_
    refine x_tn ?_
    refine k_reg ?_
    refine s_val hS4 rfl rfl (r_move rfl (.t rfl rfl)) ?_
    refine s_val hS4 rfl rfl (r_arith rfl rfl (.t rfl rfl) .c (c := ((1 : Nat) : Int)) (wn_i64 (by show (0 : Int) + 1 = _; omega) (by omega))) ?_
    refine s_val hS4 rfl rfl (r_assign rfl (.t rfl rfl)) ?_
    refine wpList_nil ?_
    refine x_tn ?_
    refine k_round ?_
    refine wp_seq ?_
    refine wp_seq ?_
    refine k_reg ?_
    refine s_val hS4 rfl rfl (r_move rfl (.t rfl rfl)) ?_
    refine s_val hS4 rfl rfl (r_cmp_t rfl rfl (.t rfl rfl) .c (show 1 < 3 from by omega)) ?_
    refine s_val hS4 rfl rfl (r_move rfl (.t rfl rfl)) ?_
    refine s_valg hS4 (wanted_of (j := 2) (b := true) (d := 11) rfl rfl rfl rfl) rfl (r_move rfl (.t rfl rfl)) ?_
    refine s_valg hS4 (wanted_of (j := 2) (b := true) (d := 11) rfl rfl rfl rfl) rfl (r_field rfl Tryd.underlying25 rfl ti22 (.t rfl rfl) (qq := 0) rfl) ?_
    refine s_valg hS4 (wanted_of (j := 2) (b := true) (d := 11) rfl rfl rfl rfl) rfl (r_load rfl one22 (.t rfl rfl) (St.cell_own (m := 0) rfl rfl)) ?_
    refine s_valg hS4 (wanted_of (j := 2) (b := true) (d := 11) rfl rfl rfl rfl) rfl (r_len rfl rfl Tryd.underlying22 (.t rfl rfl)) ?_
    by_cases c3 : 1 < LL.length
    · refine s_valg hS4 (wanted_of (j := 2) (b := true) (d := 11) rfl rfl rfl rfl) rfl (r_cmp_t rfl rfl (.t rfl rfl) (.t rfl rfl) (show 1 < ((LL.length : Nat) : Int) from by omega)) ?_
      refine s_val hS4 rfl rfl (r_pick rfl (.t rfl rfl) (.t rfl rfl)) ?_
      refine wpList_nil ?_
      refine x_tn ?_
      refine k_t (.t rfl rfl) ?_
      refine wp_skip ?_
      refine x_tn ?_
      refine wp_seq ?_
      refine wp_block ?_
      refine k_reg ?_
      refine s_val hS4 rfl rfl (r_move rfl (.t rfl rfl)) ?_
      refine s_val hS4 rfl rfl (r_field rfl Tryd.underlying25 rfl ti22 (.t rfl rfl) (qq := 0) rfl) ?_
      refine s_val hS4 rfl rfl (r_load rfl one22 (.t rfl rfl) (St.cell_own (m := 0) rfl rfl)) ?_
      refine s_val hS4 rfl rfl (r_move rfl (.t rfl rfl)) ?_
      refine s_val hS4 rfl rfl (r_ixS (j := 1) rfl Tryd.underlying22 ti26 (.t rfl rfl) (.t rfl rfl) hL rfl rfl (by omega)) ?_
      have hR4 := (hL.at_ 1 (by omega)).2.2.2
      refine s_val hS4 rfl rfl (r_load rfl one26 (.t rfl rfl) (cell_rdS hL (by omega) (by simp))) ?_
      refine s_val hS4 rfl rfl (r_move rfl (.t rfl rfl)) ?_
      refine s_call rfl rfl rfl (vs := [.slice ((LL.getD 1 (none, 0, [])).1) ((LL.getD 1 (none, 0, [])).2.2.length) ((LL.getD 1 (none, 0, [])).2.1), .int .i64 (((M : Nat) : Int))]) ⟨(.t rfl rfl), (.t rfl rfl), trivial⟩ cb26 (nat_ok w4 ((LL.getD 1 (none, 0, [])).1) ((LL.getD 1 (none, 0, [])).2.1) ((LL.getD 1 (none, 0, [])).2.2) (rd_st hS4 hR4 (by simp)) M hM) ?_
      intro v2 w5 hp2
      obtain ⟨N2, hp2, ⟨hNN2, hmN2⟩⟩ := hp2
      obtain ⟨a2, c4, rfl, hR5, -, hT2⟩ := id hp2
      have hW3 := Ow.from_ hS4 hp2
      have hS5 := hS4.keep hT2
      have hR6 := hR3.below hT2.toBelow (Nat.le_refl _)
      have hW4 := hW2.later hT2.toBelow
      have hA3 := hp2.apart hS4 (m := 0) rfl
      have hA4 := hp2.apart hS4 (m := 1) rfl
      refine s_val hS5 rfl rfl (r_ixa (j := 1) rfl Tryd.underlying59 ti27 (.t rfl rfl) (.t rfl rfl) rfl (by omega) (qq := 1) rfl) ?_
      refine s_storeB (m := 1) rfl rfl rfl one27 (.t rfl rfl) (.t rfl rfl) rfl hS5 rfl rfl (c' := #[.slice a1 N1.length c2, .slice a2 N2.length c4, .slice none 0 0]) rfl (h' := [(blk1, .cells #[.slice aL LL.length cL, vN] 25 (0, 0)), (blk2, .cells #[.slice a1 N1.length c2, .slice a2 N2.length c4, .slice none 0 0] 59 (0, 0))]) rfl fun w6 hS6 hB4 => ?_
      have hR7 := hR5.wrote' hB4 hA4
      have hR8 := hR6.wrote' hB4 hA2
      have hW5 := hW4.wrote hB4 hS6 hA2
      have hW6 := hW3.wrote hB4 hS6 hA4
      refine wpList_nil ?_
      refine x_bn ?_
      refine x_tn ?_
      refine k_reg ?_
      refine s_val hS6 rfl rfl (r_move rfl (.t rfl rfl)) ?_
      refine s_val hS6 rfl rfl (r_arith rfl rfl (.t rfl rfl) .c (c := ((2 : Nat) : Int)) (wn_i64 (by show (1 : Int) + 1 = _; omega) (by omega))) ?_
      refine s_val hS6 rfl rfl (r_assign rfl (.t rfl rfl)) ?_
      refine wpList_nil ?_
      refine x_tn ?_
      refine k_round ?_
      refine wp_seq ?_
      refine wp_seq ?_
      refine k_reg ?_
      refine s_val hS6 rfl rfl (r_move rfl (.t rfl rfl)) ?_
      refine s_val hS6 rfl rfl (r_cmp_t rfl rfl (.t rfl rfl) .c (show 2 < 3 from by omega)) ?_
      refine s_val hS6 rfl rfl (r_move rfl (.t rfl rfl)) ?_
      refine s_valg hS6 (wanted_of (j := 2) (b := true) (d := 11) rfl rfl rfl rfl) rfl (r_move rfl (.t rfl rfl)) ?_
      refine s_valg hS6 (wanted_of (j := 2) (b := true) (d := 11) rfl rfl rfl rfl) rfl (r_field rfl Tryd.underlying25 rfl ti22 (.t rfl rfl) (qq := 0) rfl) ?_
      refine s_valg hS6 (wanted_of (j := 2) (b := true) (d := 11) rfl rfl rfl rfl) rfl (r_load rfl one22 (.t rfl rfl) (St.cell_own (m := 0) rfl rfl)) ?_
      refine s_valg hS6 (wanted_of (j := 2) (b := true) (d := 11) rfl rfl rfl rfl) rfl (r_len rfl rfl Tryd.underlying22 (.t rfl rfl)) ?_
      by_cases c5 : 2 < LL.length
      · refine s_valg hS6 (wanted_of (j := 2) (b := true) (d := 11) rfl rfl rfl rfl) rfl (r_cmp_t rfl rfl (.t rfl rfl) (.t rfl rfl) (show 2 < ((LL.length : Nat) : Int) from by omega)) ?_
        refine s_val hS6 rfl rfl (r_pick rfl (.t rfl rfl) (.t rfl rfl)) ?_
        refine wpList_nil ?_
        refine x_tn ?_
        refine k_t (.t rfl rfl) ?_
        refine wp_skip ?_
        refine x_tn ?_
        refine wp_seq ?_
        refine wp_block ?_
        refine k_reg ?_
        refine s_val hS6 rfl rfl (r_move rfl (.t rfl rfl)) ?_
        refine s_val hS6 rfl rfl (r_field rfl Tryd.underlying25 rfl ti22 (.t rfl rfl) (qq := 0) rfl) ?_
        refine s_val hS6 rfl rfl (r_load rfl one22 (.t rfl rfl) (St.cell_own (m := 0) rfl rfl)) ?_
        refine s_val hS6 rfl rfl (r_move rfl (.t rfl rfl)) ?_
        refine s_val hS6 rfl rfl (r_ixS (j := 2) rfl Tryd.underlying22 ti26 (.t rfl rfl) (.t rfl rfl) hL rfl rfl (by omega)) ?_
        have hR9 := (hL.at_ 2 (by omega)).2.2.2
        refine s_val hS6 rfl rfl (r_load rfl one26 (.t rfl rfl) (cell_rdS hL (by omega) (by simp))) ?_
        refine s_val hS6 rfl rfl (r_move rfl (.t rfl rfl)) ?_
        refine s_call rfl rfl rfl (vs := [.slice ((LL.getD 2 (none, 0, [])).1) ((LL.getD 2 (none, 0, [])).2.2.length) ((LL.getD 2 (none, 0, [])).2.1), .int .i64 (((M : Nat) : Int))]) ⟨(.t rfl rfl), (.t rfl rfl), trivial⟩ cb26 (nat_ok w6 ((LL.getD 2 (none, 0, [])).1) ((LL.getD 2 (none, 0, [])).2.1) ((LL.getD 2 (none, 0, [])).2.2) (rd_st hS6 hR9 (by simp)) M hM) ?_
        intro v3 w7 hp3
        obtain ⟨N3, hp3, ⟨hNN3, hmN3⟩⟩ := hp3
        obtain ⟨a3, c6, rfl, hR10, -, hT3⟩ := id hp3
        have hW7 := Ow.from_ hS6 hp3
        have hS7 := hS6.keep hT3
        have hR11 := hR7.below hT3.toBelow (Nat.le_refl _)
        have hR12 := hR8.below hT3.toBelow (Nat.le_refl _)
        have hW8 := hW5.later hT3.toBelow
        have hW9 := hW6.later hT3.toBelow
        have hA5 := hp3.apart hS6 (m := 0) rfl
        have hA6 := hp3.apart hS6 (m := 1) rfl
        refine s_val hS7 rfl rfl (r_ixa (j := 2) rfl Tryd.underlying59 ti27 (.t rfl rfl) (.t rfl rfl) rfl (by omega) (qq := 2) rfl) ?_
        refine s_storeB (m := 1) rfl rfl rfl one27 (.t rfl rfl) (.t rfl rfl) rfl hS7 rfl rfl (c' := #[.slice a1 N1.length c2, .slice a2 N2.length c4, .slice a3 N3.length c6]) rfl (h' := [(blk1, .cells #[.slice aL LL.length cL, vN] 25 (0, 0)), (blk2, .cells #[.slice a1 N1.length c2, .slice a2 N2.length c4, .slice a3 N3.length c6] 59 (0, 0))]) rfl fun w8 hS8 hB5 => ?_
        have hR13 := hR10.wrote' hB5 hA6
        have hR14 := hR12.wrote' hB5 hA2
        have hR15 := hR11.wrote' hB5 hA4
        have hW10 := hW8.wrote hB5 hS8 hA2
        have hW11 := hW9.wrote hB5 hS8 hA4
        have hW12 := hW7.wrote hB5 hS8 hA6
        refine wpList_nil ?_
        refine x_bn ?_
        refine x_tn ?_
        refine k_reg ?_
        refine s_val hS8 rfl rfl (r_move rfl (.t rfl rfl)) ?_
        refine s_val hS8 rfl rfl (r_arith rfl rfl (.t rfl rfl) .c (c := ((3 : Nat) : Int)) (wn_i64 (by show (2 : Int) + 1 = _; omega) (by omega))) ?_
        refine s_val hS8 rfl rfl (r_assign rfl (.t rfl rfl)) ?_
        refine wpList_nil ?_
        refine x_tn ?_
        refine k_round ?_
        refine wp_seq ?_
        refine wp_seq ?_
        refine k_reg ?_
        refine s_val hS8 rfl rfl (r_move rfl (.t rfl rfl)) ?_
        refine s_val hS8 rfl rfl (r_cmp_f rfl rfl (.t rfl rfl) .c (show ¬ (3 < 3) from by omega)) ?_
        refine s_val hS8 rfl rfl (r_move rfl (.t rfl rfl)) ?_
        refine s_skip (unwanted_of (j := 2) (b := true) (b' := false) (d := 11) rfl rfl rfl rfl rfl) rfl ?_
        refine s_skip (unwanted_of (j := 2) (b := true) (b' := false) (d := 11) rfl rfl rfl rfl rfl) rfl ?_
        refine s_skip (unwanted_of (j := 2) (b := true) (b' := false) (d := 11) rfl rfl rfl rfl rfl) rfl ?_
        refine s_skip (unwanted_of (j := 2) (b := true) (b' := false) (d := 11) rfl rfl rfl rfl rfl) rfl ?_
        refine s_skip (unwanted_of (j := 2) (b := true) (b' := false) (d := 11) rfl rfl rfl rfl rfl) rfl ?_
        refine s_val hS8 rfl rfl (r_pick rfl (.t rfl rfl) .c) ?_
        refine wpList_nil ?_
        refine x_tn ?_
        refine k_f (.t rfl rfl) ?_
        refine wp_exit ?_
        refine x_te ?_
        refine x_te ?_
        refine x_be ?_
        refine x_tn ?_
        refine k_reb [(4, .slice none 0 0), (5, .slice none 0 0), (6, .slice none 0 0), (7, .pointer (some ⟨blk2, 0, none⟩))] ⟨rfl, rfl, rfl, rfl, trivial⟩ fun G2 => ?_
        refine wp_seq ?_
        refine k_regt 8 mixed (by kernel_rfl) hS8 fun w9 hS9 hB6 => ?_
        have hR16 := hR14.below hB6 (Nat.le_refl _)
        have hR17 := hR15.below hB6 (Nat.le_refl _)
        have hR18 := hR13.below hB6 (Nat.le_refl _)
        have hW13 := hW10.later hB6
        have hW14 := hW11.later hB6
        have hW15 := hW12.later hB6
        refine t_val hS9 rfl rfl (r_ixa (j := 0) rfl Tryd.underlying59 ti27 (.t rfl rfl) .c rfl (by omega) (qq := 0) rfl) ?_
        refine t_val hS9 rfl rfl (r_load rfl one27 (.t rfl rfl) (St.cell_own (m := 1) rfl rfl)) ?_
        refine t_val hS9 rfl rfl (r_ixa (j := 1) rfl Tryd.underlying59 ti27 (.t rfl rfl) .c rfl (by omega) (qq := 1) rfl) ?_
        refine t_val hS9 rfl rfl (r_load rfl one27 (.t rfl rfl) (St.cell_own (m := 1) rfl rfl)) ?_
        refine t_val hS9 rfl rfl (r_ixa (j := 2) rfl Tryd.underlying59 ti27 (.t rfl rfl) .c rfl (by omega) (qq := 2) rfl) ?_
        refine t_val hS9 rfl rfl (r_load rfl one27 (.t rfl rfl) (St.cell_own (m := 1) rfl rfl)) ?_
        refine t_val hS9 rfl rfl (r_assign rfl (.t rfl rfl)) ?_
        refine t_val hS9 rfl rfl (r_assign rfl (.t rfl rfl)) ?_
        refine t_nil ?_
        refine s_val hS9 rfl rfl (r_assign rfl (.t rfl rfl)) ?_
        refine wpList_nil ?_
        refine x_tn ?_
        refine k_reb [(4, .slice a1 N1.length c2), (5, .slice a2 N2.length c4), (6, .slice a3 N3.length c6)] ⟨rfl, rfl, rfl, trivial⟩ fun G3 => ?_
        refine wp_ret ?_
        refine k_ret3 Tryd.results5 rfl rfl rfl rfl rfl rfl ?_
        refine ⟨_, rfl, ?_⟩
        exact ⟨N1, N2, N3, _, _, _, rfl, hW13, hW14, hW15, hNN1, hNN2, hNN3, hmN1, hmN2, hmN3⟩
      · refine s_valg hS6 (wanted_of (j := 2) (b := true) (d := 11) rfl rfl rfl rfl) rfl (r_cmp_f rfl rfl (.t rfl rfl) (.t rfl rfl) (show ¬ (2 < ((LL.length : Nat) : Int)) from by omega)) ?_
        refine s_val hS6 rfl rfl (r_pick rfl (.t rfl rfl) (.t rfl rfl)) ?_
        refine wpList_nil ?_
        refine x_tn ?_
        refine k_f (.t rfl rfl) ?_
        refine wp_exit ?_
        refine x_te ?_
        refine x_te ?_
        refine x_be ?_
        refine x_tn ?_
        refine k_reb [(4, .slice none 0 0), (5, .slice none 0 0), (6, .slice none 0 0), (7, .pointer (some ⟨blk2, 0, none⟩))] ⟨rfl, rfl, rfl, rfl, trivial⟩ fun G4 => ?_
        refine wp_seq ?_
        refine k_regt 8 mixed (by kernel_rfl) hS6 fun w10 hS10 hB7 => ?_
        have hR19 := hR8.below hB7 (Nat.le_refl _)
        have hR20 := hR7.below hB7 (Nat.le_refl _)
        have hW16 := hW5.later hB7
        have hW17 := hW6.later hB7
        refine t_val hS10 rfl rfl (r_ixa (j := 0) rfl Tryd.underlying59 ti27 (.t rfl rfl) .c rfl (by omega) (qq := 0) rfl) ?_
        refine t_val hS10 rfl rfl (r_load rfl one27 (.t rfl rfl) (St.cell_own (m := 1) rfl rfl)) ?_
        refine t_val hS10 rfl rfl (r_ixa (j := 1) rfl Tryd.underlying59 ti27 (.t rfl rfl) .c rfl (by omega) (qq := 1) rfl) ?_
        refine t_val hS10 rfl rfl (r_load rfl one27 (.t rfl rfl) (St.cell_own (m := 1) rfl rfl)) ?_
        refine t_val hS10 rfl rfl (r_ixa (j := 2) rfl Tryd.underlying59 ti27 (.t rfl rfl) .c rfl (by omega) (qq := 2) rfl) ?_
        refine t_val hS10 rfl rfl (r_load rfl one27 (.t rfl rfl) (St.cell_own (m := 1) rfl rfl)) ?_
        refine t_val hS10 rfl rfl (r_assign rfl (.t rfl rfl)) ?_
        refine t_val hS10 rfl rfl (r_assign rfl (.t rfl rfl)) ?_
        refine t_nil ?_
        refine s_val hS10 rfl rfl (r_assign rfl (.t rfl rfl)) ?_
        refine wpList_nil ?_
        refine x_tn ?_
        refine k_reb [(4, .slice a1 N1.length c2), (5, .slice a2 N2.length c4), (6, .slice none 0 0)] ⟨rfl, rfl, rfl, trivial⟩ fun G5 => ?_
        refine wp_ret ?_
        refine k_ret3 Tryd.results5 rfl rfl rfl rfl rfl rfl ?_
        refine ⟨_, rfl, ?_⟩
        exact ⟨N1, N2, [], _, _, _, rfl, hW16, hW17, Ow.empty hS10, hNN1, hNN2, nm_nil, hmN1, hmN2, (Nat.zero_le _)⟩
    · refine s_valg hS4 (wanted_of (j := 2) (b := true) (d := 11) rfl rfl rfl rfl) rfl (r_cmp_f rfl rfl (.t rfl rfl) (.t rfl rfl) (show ¬ (1 < ((LL.length : Nat) : Int)) from by omega)) ?_
      refine s_val hS4 rfl rfl (r_pick rfl (.t rfl rfl) (.t rfl rfl)) ?_
      refine wpList_nil ?_
      refine x_tn ?_
      refine k_f (.t rfl rfl) ?_
      refine wp_exit ?_
      refine x_te ?_
      refine x_te ?_
      refine x_be ?_
      refine x_tn ?_
      refine k_reb [(4, .slice none 0 0), (5, .slice none 0 0), (6, .slice none 0 0), (7, .pointer (some ⟨blk2, 0, none⟩))] ⟨rfl, rfl, rfl, rfl, trivial⟩ fun G6 => ?_
      refine wp_seq ?_
      refine k_regt 8 mixed (by kernel_rfl) hS4 fun w11 hS11 hB8 => ?_
      have hR21 := hR3.below hB8 (Nat.le_refl _)
      have hW18 := hW2.later hB8
      refine t_val hS11 rfl rfl (r_ixa (j := 0) rfl Tryd.underlying59 ti27 (.t rfl rfl) .c rfl (by omega) (qq := 0) rfl) ?_
      refine t_val hS11 rfl rfl (r_load rfl one27 (.t rfl rfl) (St.cell_own (m := 1) rfl rfl)) ?_
      refine t_val hS11 rfl rfl (r_ixa (j := 1) rfl Tryd.underlying59 ti27 (.t rfl rfl) .c rfl (by omega) (qq := 1) rfl) ?_
      refine t_val hS11 rfl rfl (r_load rfl one27 (.t rfl rfl) (St.cell_own (m := 1) rfl rfl)) ?_
      refine t_val hS11 rfl rfl (r_ixa (j := 2) rfl Tryd.underlying59 ti27 (.t rfl rfl) .c rfl (by omega) (qq := 2) rfl) ?_
      refine t_val hS11 rfl rfl (r_load rfl one27 (.t rfl rfl) (St.cell_own (m := 1) rfl rfl)) ?_
      refine t_val hS11 rfl rfl (r_assign rfl (.t rfl rfl)) ?_
      refine t_val hS11 rfl rfl (r_assign rfl (.t rfl rfl)) ?_
      refine t_nil ?_
      refine s_val hS11 rfl rfl (r_assign rfl (.t rfl rfl)) ?_
      refine wpList_nil ?_
      refine x_tn ?_
      refine k_reb [(4, .slice a1 N1.length c2), (5, .slice none 0 0), (6, .slice none 0 0)] ⟨rfl, rfl, rfl, trivial⟩ fun G7 => ?_
      refine wp_ret ?_
      refine k_ret3 Tryd.results5 rfl rfl rfl rfl rfl rfl ?_
      refine ⟨_, rfl, ?_⟩
      exact ⟨N1, [], [], _, _, _, rfl, hW18, Ow.empty hS11, Ow.empty hS11, hNN1, nm_nil, nm_nil, hmN1, (Nat.zero_le _), (Nat.zero_le _)⟩
  · refine s_valg hS2 (wanted_of (j := 2) (b := true) (d := 11) rfl rfl rfl rfl) rfl (r_cmp_f rfl rfl (.t rfl rfl) (.t rfl rfl) (show ¬ (0 < ((LL.length : Nat) : Int)) from by omega)) ?_
    refine s_val hS2 rfl rfl (r_pick rfl (.t rfl rfl) (.t rfl rfl)) ?_
    refine wpList_nil ?_
    refine x_tn ?_
    refine k_f (.t rfl rfl) ?_
    refine wp_exit ?_
    refine x_te ?_
    refine x_te ?_
    refine x_be ?_
    refine x_tn ?_
    refine k_reb [(4, .slice none 0 0), (5, .slice none 0 0), (6, .slice none 0 0), (7, .pointer (some ⟨blk2, 0, none⟩))] ⟨rfl, rfl, rfl, rfl, trivial⟩ fun G8 => ?_
    refine wp_seq ?_
    refine k_regq mixed (by kernel_rfl) hS2 ?_
    refine q_val rfl rfl (r_ixa (j := 0) rfl Tryd.underlying59 ti27 (.t rfl rfl) .c rfl (by omega) (qq := 0) rfl) ?_
    refine q_val rfl rfl (r_load rfl one27 (.t rfl rfl) (St.cell_own (m := 1) rfl rfl)) ?_
    refine q_val rfl rfl (r_ixa (j := 1) rfl Tryd.underlying59 ti27 (.t rfl rfl) .c rfl (by omega) (qq := 1) rfl) ?_
    refine q_val rfl rfl (r_load rfl one27 (.t rfl rfl) (St.cell_own (m := 1) rfl rfl)) ?_
    refine q_val rfl rfl (r_ixa (j := 2) rfl Tryd.underlying59 ti27 (.t rfl rfl) .c rfl (by omega) (qq := 2) rfl) ?_
    refine q_val rfl rfl (r_load rfl one27 (.t rfl rfl) (St.cell_own (m := 1) rfl rfl)) ?_
    refine q_val rfl rfl (r_assign rfl (.t rfl rfl)) ?_
    refine q_val rfl rfl (r_assign rfl (.t rfl rfl)) ?_
    refine q_val rfl rfl (r_assign rfl (.t rfl rfl)) ?_
    refine q_nil ?_
    intro w12 hS12
    refine x_tn ?_
    refine k_reb [(4, .slice none 0 0), (5, .slice none 0 0), (6, .slice none 0 0)] ⟨rfl, rfl, rfl, trivial⟩ fun G9 => ?_
    refine wp_ret ?_
    refine k_ret3 Tryd.results5 rfl rfl rfl rfl rfl rfl ?_
    refine ⟨_, rfl, ?_⟩
    exact ⟨[], [], [], _, _, _, rfl, Ow.empty hS12, Ow.empty hS12, Ow.empty hS12, nm_nil, nm_nil, nm_nil, (Nat.zero_le _), (Nat.zero_le _), (Nat.zero_le _)⟩

end Go.Proofs.YtnbklceenfjojaaDoor

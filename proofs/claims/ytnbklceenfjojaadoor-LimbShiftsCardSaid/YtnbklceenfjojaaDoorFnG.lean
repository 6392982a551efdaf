/- Contracts of functions of the program, each walked once. -/
import Derived.Test.YtnbklceenfjojaaDoorFnF
namespace Go.Proofs.YtnbklceenfjojaaDoor
open Go Go.RowKit K
namespace FG
theorem mixed : Tryd.prog.follows .mixedOrders = true := by kernel_rfl
theorem cb13 : callable Tryd.prog 13 = true := by kernel_rfl
theorem cb27 : callable Tryd.prog 27 = true := by kernel_rfl
theorem cb28 : callable Tryd.prog 28 = true := by kernel_rfl
theorem cb29 : callable Tryd.prog 29 = true := by kernel_rfl
theorem cb30 : callable Tryd.prog 30 = true := by kernel_rfl
theorem cb31 : callable Tryd.prog 31 = true := by kernel_rfl
theorem cb32 : callable Tryd.prog 32 = true := by kernel_rfl
theorem cb38 : callable Tryd.prog 38 = true := by kernel_rfl
theorem cb41 : callable Tryd.prog 41 = true := by kernel_rfl
theorem cb71 : callable Tryd.prog 71 = true := by kernel_rfl
theorem cb82 : callable Tryd.prog 82 = true := by kernel_rfl
theorem one38 : One Tryd.prog 38 = true := by kernel_rfl
theorem ti38 : (Tryd.prog.info? 38).map (fun i => (i.zero, i.size, i.bytes)) = some (some (.int .u32 0), 1, 4) := by kernel_rfl

end FG
open FG
attribute [local irreducible] Go.wpList Go.wpQuiet Go.wpStill Go.wpAny Go.Code.wp
set_option maxRecDepth 10000
set_option maxHeartbeats 8000000
set_option linter.unusedVariables false
set_option linter.unusedSimpArgs false
theorem Len_ok (w0 : World) (aA : Option Addr) (cA : Nat) (A : List Nat) (hA : Rd w0 .u32 aA cA A) (nA : Nm A) :
    Calls Tryd.prog 13 #[.slice aA A.length cA] w0 (Ret fun v w' => v = .int .i64 ((bl (lv A) : Nat) : Int) ∧ St w0 [] [] w') := by
  refine k_enter (vs := [.slice aA A.length cA]) Tryd.func13 rfl Tryd.ntmps13 rfl ?_
  have hS := St.init w0
  have lA := hA.le
  have lA2 := nA.len
  have hTA := nm_lt nA
  refine wp_seq ?_
  refine k_reg ?_
  refine s_val hS rfl rfl (r_assign rfl .c) ?_
  refine wpList_nil ?_
  refine x_tn ?_
  refine wp_seq ?_
  refine wp_seq ?_
  refine k_reg ?_
  refine s_val hS rfl rfl (r_move rfl (.t rfl rfl)) ?_
  refine s_call rfl rfl rfl (vs := [.slice aA A.length cA]) ⟨(.t rfl rfl), trivial⟩ cb27 (check_nm w0 aA cA A hA nA) ?_
  intro v1 w1 hp1
  obtain ⟨hp1, hB1⟩ := hp1
  have hS1 := hS.keep hB1
  replace hB1 := hB1.toBelow
  obtain rfl := hp1
  refine s_val hS1 rfl rfl (r_cmp_f rfl rfl (.t rfl rfl) .c (show ¬ (¬ 0 = 0) from by omega)) ?_
  refine s_val hS1 rfl rfl (r_move rfl (.t rfl rfl)) ?_
  refine s_valg hS1 (wanted_of (j := 3) (b := false) (d := 6) rfl rfl rfl rfl) rfl (r_move rfl (.t rfl rfl)) ?_
  refine s_valg hS1 (wanted_of (j := 3) (b := false) (d := 6) rfl rfl rfl rfl) rfl (r_len rfl rfl Tryd.underlying27 (.t rfl rfl)) ?_
  by_cases c1 : A.length = 0
  · refine s_valg hS1 (wanted_of (j := 3) (b := false) (d := 6) rfl rfl rfl rfl) rfl (r_cmp_t rfl rfl (.t rfl rfl) .c (show ((A.length : Nat) : Int) = 0 from by omega)) ?_
    refine s_val hS1 rfl rfl (r_pick rfl (.t rfl rfl) (.t rfl rfl)) ?_
    refine wpList_nil ?_
    refine x_tn ?_
    refine k_reb [(0, .slice aA A.length cA), (2, .int .i64 0), (10, .bool true)] ⟨rfl, rfl, rfl, trivial⟩ fun G1 => ?_
    refine k_t (.t rfl rfl) ?_
    refine wp_seq ?_
    refine k_reg ?_
    refine s_val hS1 rfl rfl (r_assign rfl .c) ?_
    refine wpList_nil ?_
    refine x_tn ?_
    refine k_reb [(0, .slice aA A.length cA), (2, .int .i64 0)] ⟨rfl, rfl, trivial⟩ fun G2 => ?_
    refine wp_ret ?_
    refine x_tr ?_
    refine k_ret1 Tryd.results13 rfl rfl ?_
    refine ⟨_, rfl, ?_⟩
    exact ⟨by rw [List.eq_nil_of_length_eq_zero (by omega : A.length = 0)]; rfl, hS1⟩
  · refine s_valg hS1 (wanted_of (j := 3) (b := false) (d := 6) rfl rfl rfl rfl) rfl (r_cmp_f rfl rfl (.t rfl rfl) .c (show ¬ (((A.length : Nat) : Int) = 0) from by omega)) ?_
    refine s_val hS1 rfl rfl (r_pick rfl (.t rfl rfl) (.t rfl rfl)) ?_
    refine wpList_nil ?_
    refine x_tn ?_
    refine k_reb [(0, .slice aA A.length cA), (2, .int .i64 0), (10, .bool false)] ⟨rfl, rfl, rfl, trivial⟩ fun G3 => ?_
    refine k_f (.t rfl rfl) ?_
    refine wp_skip ?_
    refine x_tn ?_
    refine k_reb [(0, .slice aA A.length cA), (2, .int .i64 0)] ⟨rfl, rfl, trivial⟩ fun G4 => ?_
    refine wp_seq ?_
    refine k_reg ?_
    refine s_val hS1 rfl rfl (r_move rfl (.t rfl rfl)) ?_
    refine s_val hS1 rfl rfl (r_len rfl rfl Tryd.underlying27 (.t rfl rfl)) ?_
    refine s_val hS1 rfl rfl (r_arith rfl rfl (.t rfl rfl) .c (c := ((A.length - 1 : Nat) : Int)) (wn_i64 (by show (((A.length : Nat) : Int) : Int) - 1 = _; omega) (by omega))) ?_
    refine s_val hS1 rfl rfl (r_arith rfl rfl .c (.t rfl rfl) (c := ((32 * (A.length - 1) : Nat) : Int)) (wn_i64 (Int.natCast_mul _ _).symm (by omega))) ?_
    refine s_val hS1 rfl rfl (r_move rfl (.t rfl rfl)) ?_
    refine s_val hS1 rfl rfl (r_move rfl (.t rfl rfl)) ?_
    refine s_val hS1 rfl rfl (r_len rfl rfl Tryd.underlying27 (.t rfl rfl)) ?_
    refine s_val hS1 rfl rfl (r_arith rfl rfl (.t rfl rfl) .c (c := ((A.length - 1 : Nat) : Int)) (wn_i64 (by show (((A.length : Nat) : Int) : Int) - 1 = _; omega) (by omega))) ?_
    refine s_val hS1 rfl rfl (r_ixr (j := A.length - 1) rfl Tryd.underlying27 ti38 (.t rfl rfl) (.t rfl rfl) hA rfl rfl (by omega)) ?_
    have b1 : A.getD (A.length - 1) 0 ≤ 4294967295 := hA.lt _
    refine s_val hS1 rfl rfl (r_load rfl one38 (.t rfl rfl) (St.cell_rd hA (by omega) (by simp))) ?_
    have hb32 : bl (A.getD (A.length - 1) 0) ≤ 32 := bl_le (by omega)
    refine s_call rfl rfl rfl (vs := [.int .u32 (((A.getD (A.length - 1) 0 : Nat) : Int))]) ⟨(.t rfl rfl), trivial⟩ cb38 (len32_ok w1 (A.getD (A.length - 1) 0) (by omega)) ?_
    rintro _ w1 ⟨rfl, rfl⟩
    refine s_val hS1 rfl rfl (r_arith rfl rfl (.t rfl rfl) (.t rfl rfl) (c := (((32 * (A.length - 1)) + (bl (A.getD (A.length - 1) 0)) : Nat) : Int)) (wn_i64 (by show (((32 * (A.length - 1) : Nat) : Int) : Int) + ((bl (A.getD (A.length - 1) 0) : Nat) : Int) = _; omega) (by omega))) ?_
    refine s_val hS1 rfl rfl (r_assign rfl (.t rfl rfl)) ?_
    refine wpList_nil ?_
    refine x_tn ?_
    refine k_reb [(2, .int .i64 ((((32 * (A.length - 1)) + (bl (A.getD (A.length - 1) 0)) : Nat) : Int)))] ⟨rfl, trivial⟩ fun G5 => ?_
    refine wp_ret ?_
    refine k_ret1 Tryd.results13 rfl rfl ?_
    refine ⟨_, rfl, ?_⟩
    exact ⟨by rw [bl_lv nA.lim nA.nz (by omega)], hS1⟩

theorem Left_ok (w0 : World) (aA : Option Addr) (cA : Nat) (A : List Nat) (hA : Rd w0 .u32 aA cA A) (nA : Nm A) (N : Nat) (hN : N ≤ 9223372036854775807) :
    Calls Tryd.prog 6 #[.slice aA A.length cA, .int .i64 (((N : Nat) : Int))] w0 (Ret fun v w' => NE w0 w' 38 v (lv A * 2 ^ N)) := by
  refine k_enter (vs := [.slice aA A.length cA, .int .i64 (((N : Nat) : Int))]) Tryd.func6 rfl Tryd.ntmps6 rfl ?_
  have hS := St.init w0
  have lA := hA.le
  have lA2 := nA.len
  have hTA := nm_lt nA
  refine wp_seq ?_
  refine k_reg ?_
  refine s_val hS rfl rfl (r_assign rfl .c) ?_
  refine s_val hS rfl rfl (r_assign rfl .c) ?_
  refine wpList_nil ?_
  refine x_tn ?_
  refine wp_seq ?_
  refine wp_seq ?_
  refine k_reg ?_
  refine s_val hS rfl rfl (r_move rfl (.t rfl rfl)) ?_
  refine s_call rfl rfl rfl (vs := [.slice aA A.length cA]) ⟨(.t rfl rfl), trivial⟩ cb27 (check_nm w0 aA cA A hA nA) ?_
  intro v1 w1 hp1
  obtain ⟨hp1, hB1⟩ := hp1
  have hS1 := hS.keep hB1
  replace hB1 := hB1.toBelow
  obtain rfl := hp1
  refine s_val hS1 rfl rfl (r_assign rfl (.t rfl rfl)) ?_
  refine wpList_nil ?_
  refine x_tn ?_
  refine k_reb [(0, .slice aA A.length cA), (1, .int .i64 (((N : Nat) : Int))), (4, .slice none 0 0), (5, .int .i64 0), (6, .int .i64 0)] ⟨rfl, rfl, rfl, rfl, rfl, trivial⟩ fun G1 => ?_
  refine wp_seq ?_
  refine k_reg ?_
  refine s_val hS1 rfl rfl (r_move rfl (.t rfl rfl)) ?_
  refine s_val hS1 rfl rfl (r_cmp_f rfl rfl (.t rfl rfl) .c (show ¬ (¬ 0 = 0) from by omega)) ?_
  refine wpList_nil ?_
  refine x_tn ?_
  refine k_reb [(0, .slice aA A.length cA), (1, .int .i64 (((N : Nat) : Int))), (4, .slice none 0 0), (5, .int .i64 0), (6, .int .i64 0), (10, .bool false)] ⟨rfl, rfl, rfl, rfl, rfl, rfl, trivial⟩ fun G2 => ?_
  refine k_f (.t rfl rfl) ?_
  refine wp_skip ?_
  refine x_tn ?_
  refine k_reb [(0, .slice aA A.length cA), (1, .int .i64 (((N : Nat) : Int))), (4, .slice none 0 0), (5, .int .i64 0)] ⟨rfl, rfl, rfl, rfl, trivial⟩ fun G3 => ?_
  refine wp_seq ?_
  refine wp_block ?_
  refine wp_seq ?_
  refine k_reg ?_
  refine s_val hS1 rfl rfl (r_move rfl (.t rfl rfl)) ?_
  refine s_val hS1 rfl rfl (r_cmp_f rfl rfl (.t rfl rfl) .c (show ¬ (((N : Nat) : Int) < 0) from (by omega))) ?_
  refine s_val hS1 rfl rfl (r_assign rfl (.t rfl rfl)) ?_
  refine wpList_nil ?_
  refine x_tn ?_
  refine k_reb [(0, .slice aA A.length cA), (1, .int .i64 (((N : Nat) : Int))), (4, .slice none 0 0), (5, .int .i64 0), (12, .bool false)] ⟨rfl, rfl, rfl, rfl, rfl, trivial⟩ fun G4 => ?_
  refine k_f (.t rfl rfl) ?_
  refine wp_seq ?_
  refine k_reg ?_
  refine s_val hS1 rfl rfl (r_move rfl (.t rfl rfl)) ?_
  refine s_val hS1 rfl rfl (r_len rfl rfl Tryd.underlying27 (.t rfl rfl)) ?_
  by_cases c1 : A.length = 0
  · refine s_val hS1 rfl rfl (r_cmp_t rfl rfl (.t rfl rfl) .c (show ((A.length : Nat) : Int) = 0 from by omega)) ?_
    refine s_val hS1 rfl rfl (r_assign rfl (.t rfl rfl)) ?_
    refine wpList_nil ?_
    refine x_tn ?_
    refine k_reb [(0, .slice aA A.length cA), (1, .int .i64 (((N : Nat) : Int))), (4, .slice none 0 0), (5, .int .i64 0), (15, .bool true)] ⟨rfl, rfl, rfl, rfl, rfl, trivial⟩ fun G5 => ?_
    refine k_t (.t rfl rfl) ?_
    refine wp_seq ?_
    refine k_reg ?_
    refine s_val hS1 rfl rfl (r_assign rfl .c) ?_
    refine s_val hS1 rfl rfl (r_assign rfl .c) ?_
    refine wpList_nil ?_
    refine x_tn ?_
    refine k_reb [(0, .slice aA A.length cA), (1, .int .i64 (((N : Nat) : Int))), (4, .slice none 0 0), (5, .int .i64 0)] ⟨rfl, rfl, rfl, rfl, trivial⟩ fun G6 => ?_
    refine wp_ret ?_
    refine x_br ?_
    refine x_tr ?_
    refine k_ret2 Tryd.results6 rfl rfl rfl rfl ?_
    refine ⟨_, rfl, ?_⟩
    have hA0 : A = [] := List.eq_nil_of_length_eq_zero (by omega)
    subst hA0
    exact .inl ⟨by simp [lv]; exact Nat.lt_of_le_of_lt (Nat.zero_le _) hTA, [], _, rfl, Ow.empty hS1, nm_nil, by simp [lv]⟩
  · refine s_val hS1 rfl rfl (r_cmp_f rfl rfl (.t rfl rfl) .c (show ¬ (((A.length : Nat) : Int) = 0) from by omega)) ?_
    refine s_val hS1 rfl rfl (r_assign rfl (.t rfl rfl)) ?_
    refine wpList_nil ?_
    refine x_tn ?_
    refine k_reb [(0, .slice aA A.length cA), (1, .int .i64 (((N : Nat) : Int))), (4, .slice none 0 0), (5, .int .i64 0), (15, .bool false)] ⟨rfl, rfl, rfl, rfl, rfl, trivial⟩ fun G7 => ?_
    refine k_f (.t rfl rfl) ?_
    refine wp_seq ?_
    refine k_reg ?_
    refine s_val hS1 rfl rfl (r_move rfl (.t rfl rfl)) ?_
    by_cases c2 : N > 262144
    · refine s_val hS1 rfl rfl (r_cmp_t rfl rfl (.t rfl rfl) .c (show ((N : Nat) : Int) > 262144 from by omega)) ?_
      refine s_val hS1 rfl rfl (r_assign rfl (.t rfl rfl)) ?_
      refine wpList_nil ?_
      refine x_tn ?_
      refine k_reb [(0, .slice aA A.length cA), (1, .int .i64 (((N : Nat) : Int))), (4, .slice none 0 0), (5, .int .i64 0), (19, .bool true)] ⟨rfl, rfl, rfl, rfl, rfl, trivial⟩ fun G8 => ?_
      refine k_t (.t rfl rfl) ?_
      refine wp_seq ?_
      refine k_reg ?_
      refine s_val hS1 rfl rfl (r_assign rfl .c) ?_
      refine s_val hS1 rfl rfl (r_assign rfl .c) ?_
      refine wpList_nil ?_
      refine x_tn ?_
      refine k_reb [(0, .slice aA A.length cA), (1, .int .i64 (((N : Nat) : Int))), (4, .slice none 0 0), (5, .int .i64 21)] ⟨rfl, rfl, rfl, rfl, trivial⟩ fun G9 => ?_
      refine wp_ret ?_
      refine x_br ?_
      refine x_tr ?_
      refine k_ret2 Tryd.results6 rfl rfl rfl rfl ?_
      refine ⟨_, rfl, ?_⟩
      exact .inr ⟨shl_top (lv_pos nA.nz (by omega)) (by omega), rfl, hS1⟩
    · refine s_val hS1 rfl rfl (r_cmp_f rfl rfl (.t rfl rfl) .c (show ¬ (((N : Nat) : Int) > 262144) from by omega)) ?_
      refine s_val hS1 rfl rfl (r_assign rfl (.t rfl rfl)) ?_
      refine wpList_nil ?_
      refine x_tn ?_
      refine k_reb [(0, .slice aA A.length cA), (1, .int .i64 (((N : Nat) : Int))), (4, .slice none 0 0), (5, .int .i64 0), (19, .bool false)] ⟨rfl, rfl, rfl, rfl, rfl, trivial⟩ fun G10 => ?_
      refine k_f (.t rfl rfl) ?_
      refine wp_skip ?_
      refine x_bn ?_
      refine x_tn ?_
      refine k_reb [(0, .slice aA A.length cA), (1, .int .i64 (((N : Nat) : Int))), (4, .slice none 0 0), (5, .int .i64 0)] ⟨rfl, rfl, rfl, rfl, trivial⟩ fun G11 => ?_
      refine wp_seq ?_
      refine k_reg ?_
      refine s_val hS1 rfl rfl (r_move rfl (.t rfl rfl)) ?_
      refine s_val hS1 rfl rfl (r_move rfl (.t rfl rfl)) ?_
      refine s_call rfl rfl rfl (vs := [.slice aA A.length cA, .int .i64 (((N : Nat) : Int))]) ⟨(.t rfl rfl), (.t rfl rfl), trivial⟩ cb29 (left_ow w1 aA cA A (rd_st hS1 hA (by simp)) N (by omega) (by first | omega | (simp only [List.length_cons, List.length_nil]; omega))) ?_
      intro v2 w2 hp2
      obtain ⟨L1, hp2, ⟨hL1l, hL1lim, hL1v⟩⟩ := hp2
      obtain ⟨a1, c3, rfl, hR1, -, hT1⟩ := id hp2
      have hW1 := Ow.from_ hS1 hp2
      have hS2 := hS1.keep hT1
      refine s_call rfl rfl rfl (vs := [.slice a1 L1.length c3]) ⟨(.t rfl rfl), trivial⟩ cb28 (normal_any w2 a1 c3 L1 hR1 (by omega)) ?_
      intro v3 w3 hp3
      obtain ⟨hp3, hB2⟩ := hp3
      have hS3 := hS2.keep hB2
      replace hB2 := hB2.toBelow
      have hR2 := hR1.below hB2 (Nat.le_refl _)
      have hW2 := hW1.later hB2
      rcases hp3 with ⟨R1, X1, hE1, hNR1, hlR1, ht1, rfl⟩ | ⟨ht1, rfl⟩
      · have hnR1 := hNR1.len
        have hR3 := Rd.front_eq hE1 hR2
        have hW3 := Ow.front_eq hE1 hW2
        refine s_val hS3 rfl rfl (r_extract rfl (.t rfl rfl) rfl) ?_
        refine s_val hS3 rfl rfl (r_extract rfl (.t rfl rfl) rfl) ?_
        refine s_val hS3 rfl rfl (r_assign rfl (.t rfl rfl)) ?_
        refine s_val hS3 rfl rfl (r_assign rfl (.t rfl rfl)) ?_
        refine wpList_nil ?_
        refine x_tn ?_
        refine k_reb [(4, .slice a1 R1.length R1.length), (5, .int .i64 0)] ⟨rfl, rfl, trivial⟩ fun G12 => ?_
        refine wp_ret ?_
        refine k_ret2 Tryd.results6 rfl rfl rfl rfl ?_
        refine ⟨_, rfl, ?_⟩
        exact .inl ⟨by omega, R1, _, rfl, hW3, hNR1, by omega⟩
      · refine s_val hS3 rfl rfl (r_extract rfl (.t rfl rfl) rfl) ?_
        refine s_val hS3 rfl rfl (r_extract rfl (.t rfl rfl) rfl) ?_
        refine s_val hS3 rfl rfl (r_assign rfl (.t rfl rfl)) ?_
        refine s_val hS3 rfl rfl (r_assign rfl (.t rfl rfl)) ?_
        refine wpList_nil ?_
        refine x_tn ?_
        refine k_reb [(4, .slice none 0 0), (5, .int .i64 21)] ⟨rfl, rfl, trivial⟩ fun G13 => ?_
        refine wp_ret ?_
        refine k_ret2 Tryd.results6 rfl rfl rfl rfl ?_
        refine ⟨_, rfl, ?_⟩
        exact .inr ⟨by omega, rfl, hS3⟩

theorem Power_ok (w0 : World) (b N : Nat) (hb : b ≤ 4294967295) (hN : N ≤ 9223372036854775807) :
    Calls Tryd.prog 10 #[.int .u32 (((b : Nat) : Int)), .int .i64 (((N : Nat) : Int))] w0 (Ret fun v w' => NE w0 w' 38 v (b ^ N)) := by
  refine k_enter (vs := [.int .u32 (((b : Nat) : Int)), .int .i64 (((N : Nat) : Int))]) Tryd.func10 rfl Tryd.ntmps10 rfl ?_
  have hS := St.init w0
  have hone := one_top
  refine wp_seq ?_
  refine k_reg ?_
  refine s_val hS rfl rfl (r_assign rfl .c) ?_
  refine s_val hS rfl rfl (r_assign rfl .c) ?_
  refine wpList_nil ?_
  refine x_tn ?_
  refine wp_seq ?_
  refine wp_seq ?_
  refine k_reg ?_
  refine s_val hS rfl rfl (r_move rfl (.t rfl rfl)) ?_
  refine s_val hS rfl rfl (r_cmp_f rfl rfl (.t rfl rfl) .c (show ¬ (((N : Nat) : Int) < 0) from (by omega))) ?_
  refine wpList_nil ?_
  refine x_tn ?_
  refine k_reb [(0, .int .u32 (((b : Nat) : Int))), (1, .int .i64 (((N : Nat) : Int))), (4, .slice none 0 0), (5, .int .i64 0), (11, .bool false)] ⟨rfl, rfl, rfl, rfl, rfl, trivial⟩ fun G1 => ?_
  refine k_f (.t rfl rfl) ?_
  refine wp_skip ?_
  refine x_tn ?_
  refine k_reb [(0, .int .u32 (((b : Nat) : Int))), (1, .int .i64 (((N : Nat) : Int))), (4, .slice none 0 0), (5, .int .i64 0)] ⟨rfl, rfl, rfl, rfl, trivial⟩ fun G2 => ?_
  refine wp_seq ?_
  refine k_reg ?_
  refine s_lit rfl rfl rfl Tryd.underlying27 ti38 (vs := [(0, .int .u32 1)]) ⟨rfl, .c, trivial⟩ (L := [1]) rfl (by omega) rfl hS fun blk1 w1 hb1 hB1 hS1 => ?_
  have hW1 : Ow w0 w1 .u32 38 (.slice (some ⟨blk1, 0, none⟩) 1 1) ([1]) := Ow.of_chunk0 (m := 0) hS1 rfl rfl rfl (by simp) (by intro x hx; simp only [List.mem_cons, List.not_mem_nil, or_false] at hx; first | (subst hx; first | omega | (simp only [maxK]; omega)) | (rcases hx with rfl | rfl <;> first | omega | (simp only [maxK]; omega)))
  have hR1 := hW1.rd
  have hS2 : St w0 [] [] w1 := hS1.weaken _ (by simp)
  refine s_val hS2 rfl rfl (r_assign rfl (.t rfl rfl)) ?_
  refine wpList_nil ?_
  refine x_tn ?_
  refine k_reb [(0, .int .u32 (((b : Nat) : Int))), (1, .int .i64 (((N : Nat) : Int))), (4, .slice none 0 0), (5, .int .i64 0), (6, .slice (some ⟨blk1, 0, none⟩) 1 1)] ⟨rfl, rfl, rfl, rfl, rfl, trivial⟩ fun G3 => ?_
  refine wp_seq ?_
  refine wp_seq ?_
  refine k_reg ?_
  refine s_val hS2 rfl rfl (r_move rfl (.t rfl rfl)) ?_
  by_cases c1 : b < 2
  · refine s_val hS2 rfl rfl (r_cmp_t rfl rfl (.t rfl rfl) .c (show ((b : Nat) : Int) < 2 from by omega)) ?_
    refine wpList_nil ?_
    refine x_tn ?_
    refine k_reb [(0, .int .u32 (((b : Nat) : Int))), (1, .int .i64 (((N : Nat) : Int))), (4, .slice none 0 0), (5, .int .i64 0), (6, .slice (some ⟨blk1, 0, none⟩) 1 1), (14, .bool true)] ⟨rfl, rfl, rfl, rfl, rfl, rfl, trivial⟩ fun G4 => ?_
    refine k_t (.t rfl rfl) ?_
    refine wp_seq ?_
    refine wp_seq ?_
    refine k_reg ?_
    refine s_val hS2 rfl rfl (r_move rfl (.t rfl rfl)) ?_
    by_cases c2 : b = 0
    · refine s_val hS2 rfl rfl (r_cmp_t rfl rfl (.t rfl rfl) .c (show ((b : Nat) : Int) = 0 from by omega)) ?_
      refine s_val hS2 rfl rfl (r_move rfl (.t rfl rfl)) ?_
      refine s_valg hS2 (wanted_of (j := 2) (b := true) (d := 17) rfl rfl rfl rfl) rfl (r_move rfl (.t rfl rfl)) ?_
      by_cases c3 : N > 0
      · refine s_valg hS2 (wanted_of (j := 2) (b := true) (d := 17) rfl rfl rfl rfl) rfl (r_cmp_t rfl rfl (.t rfl rfl) .c (show ((N : Nat) : Int) > 0 from by omega)) ?_
        refine s_val hS2 rfl rfl (r_pick rfl (.t rfl rfl) (.t rfl rfl)) ?_
        refine wpList_nil ?_
        refine x_tn ?_
        refine k_reb [(0, .int .u32 (((b : Nat) : Int))), (1, .int .i64 (((N : Nat) : Int))), (4, .slice none 0 0), (5, .int .i64 0), (6, .slice (some ⟨blk1, 0, none⟩) 1 1), (20, .bool true)] ⟨rfl, rfl, rfl, rfl, rfl, rfl, trivial⟩ fun G5 => ?_
        refine k_t (.t rfl rfl) ?_
        refine k_reg ?_
        refine s_val hS2 rfl rfl (r_assign rfl .c) ?_
        refine wpList_nil ?_
        refine x_tn ?_
        refine k_reb [(0, .int .u32 (((b : Nat) : Int))), (1, .int .i64 (((N : Nat) : Int))), (4, .slice none 0 0), (5, .int .i64 0), (6, .slice none 0 0)] ⟨rfl, rfl, rfl, rfl, rfl, trivial⟩ fun G6 => ?_
        refine wp_seq ?_
        refine k_reg ?_
        refine s_val hS2 rfl rfl (r_move rfl (.t rfl rfl)) ?_
        refine s_val hS2 rfl rfl (r_assign rfl (.t rfl rfl)) ?_
        refine s_val hS2 rfl rfl (r_assign rfl .c) ?_
        refine wpList_nil ?_
        refine x_tn ?_
        refine k_reb [(0, .int .u32 (((b : Nat) : Int))), (1, .int .i64 (((N : Nat) : Int))), (4, .slice none 0 0), (5, .int .i64 0), (6, .slice none 0 0)] ⟨rfl, rfl, rfl, rfl, rfl, trivial⟩ fun G7 => ?_
        refine wp_ret ?_
        refine x_tr ?_
        refine k_ret2 Tryd.results10 rfl rfl rfl rfl ?_
        refine ⟨_, rfl, ?_⟩
        obtain rfl : b = 0 := by omega
        exact .inl ⟨by rw [Nat.zero_pow (by omega)]; omega, [], _, rfl, Ow.empty hS2, nm_nil, by rw [Nat.zero_pow (by omega)]; rfl⟩
      · refine s_valg hS2 (wanted_of (j := 2) (b := true) (d := 17) rfl rfl rfl rfl) rfl (r_cmp_f rfl rfl (.t rfl rfl) .c (show ¬ (((N : Nat) : Int) > 0) from by omega)) ?_
        refine s_val hS2 rfl rfl (r_pick rfl (.t rfl rfl) (.t rfl rfl)) ?_
        refine wpList_nil ?_
        refine x_tn ?_
        refine k_reb [(0, .int .u32 (((b : Nat) : Int))), (1, .int .i64 (((N : Nat) : Int))), (4, .slice none 0 0), (5, .int .i64 0), (6, .slice (some ⟨blk1, 0, none⟩) 1 1), (20, .bool false)] ⟨rfl, rfl, rfl, rfl, rfl, rfl, trivial⟩ fun G8 => ?_
        refine k_f (.t rfl rfl) ?_
        refine wp_skip ?_
        refine x_tn ?_
        refine k_reb [(0, .int .u32 (((b : Nat) : Int))), (1, .int .i64 (((N : Nat) : Int))), (4, .slice none 0 0), (5, .int .i64 0), (6, .slice (some ⟨blk1, 0, none⟩) 1 1)] ⟨rfl, rfl, rfl, rfl, rfl, trivial⟩ fun G9 => ?_
        refine wp_seq ?_
        refine k_reg ?_
        refine s_val hS2 rfl rfl (r_move rfl (.t rfl rfl)) ?_
        refine s_val hS2 rfl rfl (r_assign rfl (.t rfl rfl)) ?_
        refine s_val hS2 rfl rfl (r_assign rfl .c) ?_
        refine wpList_nil ?_
        refine x_tn ?_
        refine k_reb [(0, .int .u32 (((b : Nat) : Int))), (1, .int .i64 (((N : Nat) : Int))), (4, .slice (some ⟨blk1, 0, none⟩) 1 1), (5, .int .i64 0), (6, .slice (some ⟨blk1, 0, none⟩) 1 1)] ⟨rfl, rfl, rfl, rfl, rfl, trivial⟩ fun G10 => ?_
        refine wp_ret ?_
        refine x_tr ?_
        refine k_ret2 Tryd.results10 rfl rfl rfl rfl ?_
        refine ⟨_, rfl, ?_⟩
        obtain rfl : b = 0 := by omega
        obtain rfl : N = 0 := by omega
        exact .inl ⟨by rw [Nat.pow_zero]; omega, [1], _, rfl, hW1, nm_one, by simp [lv]⟩
    · refine s_val hS2 rfl rfl (r_cmp_f rfl rfl (.t rfl rfl) .c (show ¬ (((b : Nat) : Int) = 0) from by omega)) ?_
      refine s_val hS2 rfl rfl (r_move rfl (.t rfl rfl)) ?_
      refine s_skip (unwanted_of (j := 2) (b := true) (b' := false) (d := 17) rfl rfl rfl rfl rfl) rfl ?_
      refine s_skip (unwanted_of (j := 2) (b := true) (b' := false) (d := 17) rfl rfl rfl rfl rfl) rfl ?_
      refine s_val hS2 rfl rfl (r_pick rfl (.t rfl rfl) .c) ?_
      refine wpList_nil ?_
      refine x_tn ?_
      refine k_reb [(0, .int .u32 (((b : Nat) : Int))), (1, .int .i64 (((N : Nat) : Int))), (4, .slice none 0 0), (5, .int .i64 0), (6, .slice (some ⟨blk1, 0, none⟩) 1 1), (20, .bool false)] ⟨rfl, rfl, rfl, rfl, rfl, rfl, trivial⟩ fun G11 => ?_
      refine k_f (.t rfl rfl) ?_
      refine wp_skip ?_
      refine x_tn ?_
      refine k_reb [(0, .int .u32 (((b : Nat) : Int))), (1, .int .i64 (((N : Nat) : Int))), (4, .slice none 0 0), (5, .int .i64 0), (6, .slice (some ⟨blk1, 0, none⟩) 1 1)] ⟨rfl, rfl, rfl, rfl, rfl, trivial⟩ fun G12 => ?_
      refine wp_seq ?_
      refine k_reg ?_
      refine s_val hS2 rfl rfl (r_move rfl (.t rfl rfl)) ?_
      refine s_val hS2 rfl rfl (r_assign rfl (.t rfl rfl)) ?_
      refine s_val hS2 rfl rfl (r_assign rfl .c) ?_
      refine wpList_nil ?_
      refine x_tn ?_
      refine k_reb [(0, .int .u32 (((b : Nat) : Int))), (1, .int .i64 (((N : Nat) : Int))), (4, .slice (some ⟨blk1, 0, none⟩) 1 1), (5, .int .i64 0), (6, .slice (some ⟨blk1, 0, none⟩) 1 1)] ⟨rfl, rfl, rfl, rfl, rfl, trivial⟩ fun G13 => ?_
      refine wp_ret ?_
      refine x_tr ?_
      refine k_ret2 Tryd.results10 rfl rfl rfl rfl ?_
      refine ⟨_, rfl, ?_⟩
      obtain rfl : b = 1 := by omega
      exact .inl ⟨by rw [Nat.one_pow]; omega, [1], _, rfl, hW1, nm_one, by rw [Nat.one_pow]; simp [lv]⟩
  · refine s_val hS2 rfl rfl (r_cmp_f rfl rfl (.t rfl rfl) .c (show ¬ (((b : Nat) : Int) < 2) from by omega)) ?_
    refine wpList_nil ?_
    refine x_tn ?_
    refine k_reb [(0, .int .u32 (((b : Nat) : Int))), (1, .int .i64 (((N : Nat) : Int))), (4, .slice none 0 0), (5, .int .i64 0), (6, .slice (some ⟨blk1, 0, none⟩) 1 1), (14, .bool false)] ⟨rfl, rfl, rfl, rfl, rfl, rfl, trivial⟩ fun G14 => ?_
    refine k_f (.t rfl rfl) ?_
    refine wp_skip ?_
    refine x_tn ?_
    refine k_reb [(0, .int .u32 (((b : Nat) : Int))), (1, .int .i64 (((N : Nat) : Int))), (4, .slice none 0 0), (5, .int .i64 0), (6, .slice (some ⟨blk1, 0, none⟩) 1 1)] ⟨rfl, rfl, rfl, rfl, rfl, trivial⟩ fun G15 => ?_
    refine wp_seq ?_
    refine wp_seq ?_
    refine k_reg ?_
    refine s_val hS2 rfl rfl (r_move rfl (.t rfl rfl)) ?_
    by_cases c4 : N ≥ 262144
    · refine s_val hS2 rfl rfl (r_cmp_t rfl rfl (.t rfl rfl) .c (show ((N : Nat) : Int) ≥ 262144 from by omega)) ?_
      refine wpList_nil ?_
      refine x_tn ?_
      refine k_reb [(0, .int .u32 (((b : Nat) : Int))), (1, .int .i64 (((N : Nat) : Int))), (4, .slice none 0 0), (5, .int .i64 0), (6, .slice (some ⟨blk1, 0, none⟩) 1 1), (23, .bool true)] ⟨rfl, rfl, rfl, rfl, rfl, rfl, trivial⟩ fun G16 => ?_
      refine k_t (.t rfl rfl) ?_
      refine wp_seq ?_
      refine k_reg ?_
      refine s_val hS2 rfl rfl (r_assign rfl .c) ?_
      refine s_val hS2 rfl rfl (r_assign rfl .c) ?_
      refine wpList_nil ?_
      refine x_tn ?_
      refine k_reb [(0, .int .u32 (((b : Nat) : Int))), (1, .int .i64 (((N : Nat) : Int))), (4, .slice none 0 0), (5, .int .i64 21), (6, .slice (some ⟨blk1, 0, none⟩) 1 1)] ⟨rfl, rfl, rfl, rfl, rfl, trivial⟩ fun G17 => ?_
      refine wp_ret ?_
      refine x_tr ?_
      refine k_ret2 Tryd.results10 rfl rfl rfl rfl ?_
      refine ⟨_, rfl, ?_⟩
      exact .inr ⟨pow_top (by omega) (by omega), rfl, hS2⟩
    · refine s_val hS2 rfl rfl (r_cmp_f rfl rfl (.t rfl rfl) .c (show ¬ (((N : Nat) : Int) ≥ 262144) from by omega)) ?_
      refine wpList_nil ?_
      refine x_tn ?_
      refine k_reb [(0, .int .u32 (((b : Nat) : Int))), (1, .int .i64 (((N : Nat) : Int))), (4, .slice none 0 0), (5, .int .i64 0), (6, .slice (some ⟨blk1, 0, none⟩) 1 1), (23, .bool false)] ⟨rfl, rfl, rfl, rfl, rfl, rfl, trivial⟩ fun G18 => ?_
      refine k_f (.t rfl rfl) ?_
      refine wp_skip ?_
      refine x_tn ?_
      refine k_reb [(0, .int .u32 (((b : Nat) : Int))), (1, .int .i64 (((N : Nat) : Int))), (4, .slice none 0 0), (5, .int .i64 0), (6, .slice (some ⟨blk1, 0, none⟩) 1 1)] ⟨rfl, rfl, rfl, rfl, rfl, trivial⟩ fun G19 => ?_
      refine wp_seq ?_
      refine wp_seq ?_
      refine k_reg ?_
      refine s_val hS2 rfl rfl (r_move rfl (.t rfl rfl)) ?_
      refine s_val hS2 rfl rfl (r_conv rfl Tryd.underlying3 Tryd.underlying65 (.t rfl rfl) (c := ((N : Nat) : Int)) (wn_u64 rfl (by omega))) ?_
      refine s_call rfl rfl rfl (vs := [.int .u64 (((N : Nat) : Int))]) ⟨(.t rfl rfl), trivial⟩ cb31 (len_ok w1 N (by omega)) ?_
      rintro _ w1 ⟨rfl, rfl⟩
      have hbN : bl N ≤ 64 := bl_le (by omega)
      refine s_val hS2 rfl rfl (r_arith rfl rfl (.t rfl rfl) .c (c := (((bl N : Nat) : Int)) - 1) (w_i64 rfl (by omega) (by omega))) ?_
      refine s_val hS2 rfl rfl (r_assign rfl (.t rfl rfl)) ?_
      refine wpList_nil ?_
      refine x_tn ?_
      refine k_reb [(0, .int .u32 (((b : Nat) : Int))), (1, .int .i64 (((N : Nat) : Int))), (4, .slice none 0 0), (5, .int .i64 0), (6, .slice (some ⟨blk1, 0, none⟩) 1 1), (7, .int .i64 ((((bl N : Nat) : Int)) - 1))] ⟨rfl, rfl, rfl, rfl, rfl, rfl, trivial⟩ fun G20 => ?_
      refine wp_block ?_
      refine wp_loop_ghost (fun (m1 : Nat) a w => ∃ (G : Nat → Value) (k : Nat) (aX : Option Addr) (cX : Nat) (X : List Nat), a = fr 53 [(0, .int .u32 (((b : Nat) : Int))), (1, .int .i64 (((N : Nat) : Int))), (4, .slice none 0 0), (5, .int .i64 0), (6, .slice aX X.length cX), (7, .int .i64 (((k : Nat) : Int) - 1))] G ∧ St w0 [] [] w ∧ (m1 = k ∧ k ≤ bl N ∧ Ow w0 w .u32 38 (.slice aX X.length cX) X ∧ Nm X ∧ lv X = b ^ (N / 2 ^ k))) (bl N) ⟨_, bl N, some ⟨blk1, 0, none⟩, 1, [1], fr_reb _ ⟨rfl, rfl, rfl, rfl, rfl, rfl, trivial⟩, hS2, ?_⟩ ?_
      · exact ⟨rfl, Nat.le_refl _, hW1, nm_one, by rw [pow_begin]; simp [lv]⟩
      · intro m1 _ w2 hI1
        obtain ⟨G21, k, aX, cX, X, rfl, hS3, ⟨hm, hk, hOX, hNX, hv⟩⟩ := hI1
        have hRX := hOX.rd
        have hnX := hNX.len
        refine wp_seq ?_
        refine wp_seq ?_
        refine k_reg ?_
        refine s_val hS3 rfl rfl (r_move rfl (.t rfl rfl)) ?_
        by_cases c5 : ((k : Nat) : Int) - 1 ≥ 0
        · refine s_val hS3 rfl rfl (r_cmp_t rfl rfl (.t rfl rfl) .c (show ((k : Nat) : Int) - 1 ≥ 0 from by omega)) ?_
          refine wpList_nil ?_
          refine x_tn ?_
          refine k_reb [(0, .int .u32 (((b : Nat) : Int))), (1, .int .i64 (((N : Nat) : Int))), (4, .slice none 0 0), (5, .int .i64 0), (6, .slice aX X.length cX), (7, .int .i64 (((k : Nat) : Int) - 1)), (29, .bool true)] ⟨rfl, rfl, rfl, rfl, rfl, rfl, rfl, trivial⟩ fun G22 => ?_
          refine k_t (.t rfl rfl) ?_
          refine wp_skip ?_
          refine x_tn ?_
          refine k_reb [(0, .int .u32 (((b : Nat) : Int))), (1, .int .i64 (((N : Nat) : Int))), (4, .slice none 0 0), (5, .int .i64 0), (6, .slice aX X.length cX), (7, .int .i64 (((k : Nat) : Int) - 1))] ⟨rfl, rfl, rfl, rfl, rfl, rfl, trivial⟩ fun G23 => ?_
          refine wp_seq ?_
          refine wp_block ?_
          refine wp_seq ?_
          refine k_reg ?_
          refine s_val hS3 rfl rfl (r_move rfl (.t rfl rfl)) ?_
          refine s_val hS3 rfl rfl (r_move rfl (.t rfl rfl)) ?_
          refine s_call rfl rfl rfl (vs := [.slice aX X.length cX, .slice aX X.length cX]) ⟨(.t rfl rfl), (.t rfl rfl), trivial⟩ cb32 (mul_ow w2 aX cX X hRX aX cX X hRX (by first | omega | (simp only [List.length_cons, List.length_nil]; omega)) (by first | omega | (simp only [List.length_cons, List.length_nil]; omega))) ?_
          intro v1 w3 hp1
          obtain ⟨L1, hp1, ⟨hL1l, hL1lim, hL1v⟩⟩ := hp1
          obtain ⟨a1, c6, rfl, hR2, -, hT1⟩ := id hp1
          have hW2 := Ow.from_ hS3 hp1
          have hS4 := hS3.keep hT1
          have hR3 := hRX.below hT1.toBelow (Nat.le_refl _)
          have hW3 := hOX.later hT1.toBelow
          refine s_val hS4 rfl rfl (r_assign rfl (.t rfl rfl)) ?_
          refine wpList_nil ?_
          refine x_tn ?_
          refine k_reb [(0, .int .u32 (((b : Nat) : Int))), (1, .int .i64 (((N : Nat) : Int))), (4, .slice none 0 0), (5, .int .i64 0), (6, .slice aX X.length cX), (7, .int .i64 (((k : Nat) : Int) - 1)), (8, .slice a1 L1.length c6)] ⟨rfl, rfl, rfl, rfl, rfl, rfl, rfl, trivial⟩ fun G24 => ?_
          refine wp_seq ?_
          refine wp_seq ?_
          refine k_reg ?_
          refine s_val hS4 rfl rfl (r_move rfl (.t rfl rfl)) ?_
          refine s_val hS4 rfl rfl (Rn.as (j := ((k - 1 : Nat) : Int)) (by omega) (r_move rfl (.t rfl rfl))) ?_
          have hNk : N / 2 ^ (k - 1) ≤ N := Nat.div_le_self _ _
          refine s_val hS4 rfl rfl (r_shr rfl (.t rfl rfl) (.t rfl rfl) (by omega) (pw_var (by show k - 1 ≤ 64; omega)) fdiv_nat) ?_
          refine s_val hS4 rfl rfl (r_and rfl (.t rfl rfl) .c (show N / (2 ^ (k - 1)) < 18446744073709551616 from by omega) (show 1 < 18446744073709551616 from by omega) (c := N / 2 ^ (k - 1) % 2) ((Nat.and_one_is_mod _)) (wn_i64 rfl (by omega))) ?_
          by_cases cb : N / 2 ^ (k - 1) % 2 = 1
          · refine s_val hS4 rfl rfl (r_cmp_t rfl rfl (.t rfl rfl) .c (show ((N / 2 ^ (k - 1) % 2 : Nat) : Int) = 1 from by omega)) ?_
            refine wpList_nil ?_
            refine x_tn ?_
            refine k_reb [(0, .int .u32 (((b : Nat) : Int))), (1, .int .i64 (((N : Nat) : Int))), (4, .slice none 0 0), (5, .int .i64 0), (6, .slice aX X.length cX), (7, .int .i64 (((k : Nat) : Int) - 1)), (8, .slice a1 L1.length c6), (39, .bool true)] ⟨rfl, rfl, rfl, rfl, rfl, rfl, rfl, rfl, trivial⟩ fun G25 => ?_
            refine k_t (.t rfl rfl) ?_
            refine k_reg ?_
            refine s_val hS4 rfl rfl (r_move rfl (.t rfl rfl)) ?_
            refine s_val hS4 rfl rfl (r_move rfl (.t rfl rfl)) ?_
            refine s_lit rfl rfl rfl Tryd.underlying26 ti38 (vs := [(0, .int .u32 (((b : Nat) : Int)))]) ⟨rfl, (.t rfl rfl), trivial⟩ (L := [b]) rfl (by omega) rfl hS4 fun blk2 w4 hb2 hB2 hS5 => ?_
            have hR4 := hR3.below hB2 (Nat.le_refl _)
            have hR5 := hR2.below hB2 (Nat.le_refl _)
            have hW4 := hW3.later hB2
            have hW5 := hW2.later hB2
            refine s_call rfl rfl rfl (vs := [.slice a1 L1.length c6, .slice (some ⟨blk2, 0, none⟩) 1 1]) ⟨(.t rfl rfl), (.t rfl rfl), trivial⟩ cb32 (mul_ow w4 a1 c6 L1 hR5 (some ⟨blk2, 0, none⟩) 1 ([b]) (rd_own0 (m := 0) hS5 rfl (by simp) (by simp) (by intro x hx; simp only [List.mem_cons, List.not_mem_nil, or_false] at hx; first | (subst hx; first | omega | (simp only [maxK]; omega)) | (rcases hx with rfl | rfl <;> first | omega | (simp only [maxK]; omega)))) (by first | omega | (simp only [List.length_cons, List.length_nil]; omega)) (by first | omega | (simp only [List.length_cons, List.length_nil]; omega))) ?_
            intro v2 w5 hp2
            obtain ⟨L2, hp2, ⟨hL2l, hL2lim, hL2v⟩⟩ := hp2
            obtain ⟨a2, c7, rfl, hR6, -, hT2⟩ := id hp2
            have hW6 := Ow.from_ hS5 hp2
            have hS6 := hS5.keep hT2
            have hR7 := hR4.below hT2.toBelow (Nat.le_refl _)
            have hR8 := hR5.below hT2.toBelow (Nat.le_refl _)
            have hW7 := hW4.later hT2.toBelow
            have hW8 := hW5.later hT2.toBelow
            simp only [List.length_cons, List.length_nil] at hL2l
            rw [lv_single] at hL2v
            refine s_val hS6 rfl rfl (r_assign rfl (.t rfl rfl)) ?_
            refine wpList_nil ?_
            refine x_tn ?_
            refine k_reb [(0, .int .u32 (((b : Nat) : Int))), (1, .int .i64 (((N : Nat) : Int))), (4, .slice none 0 0), (5, .int .i64 0), (6, .slice aX X.length cX), (7, .int .i64 (((k : Nat) : Int) - 1)), (8, .slice a2 L2.length c7)] ⟨rfl, rfl, rfl, rfl, rfl, rfl, rfl, trivial⟩ fun G26 => ?_
            refine wp_seq ?_
            refine k_reg ?_
            refine s_val hS6 rfl rfl (r_assign rfl .c) ?_
            refine wpList_nil ?_
            refine x_tn ?_
            refine wp_seq ?_
            refine k_reg ?_
            refine s_val hS6 rfl rfl (r_move rfl (.t rfl rfl)) ?_
            have hpo := @pow_odd b N k
            have hpe := @pow_even b N k
            refine s_call rfl rfl rfl (vs := [.slice a2 L2.length c7]) ⟨(.t rfl rfl), trivial⟩ cb28 (normal_any w5 a2 c7 L2 hR6 (by omega)) ?_
            intro v3 w6 hp3
            obtain ⟨hp3, hB3⟩ := hp3
            have hS7 := hS6.keep hB3
            replace hB3 := hB3.toBelow
            have hR9 := hR7.below hB3 (Nat.le_refl _)
            have hR10 := hR6.below hB3 (Nat.le_refl _)
            have hW9 := hW7.later hB3
            have hW10 := hW8.later hB3
            have hW11 := hW6.later hB3
            rcases hp3 with ⟨R1, X1, hE1, hNR1, hlR1, ht1, rfl⟩ | ⟨ht1, rfl⟩
            · have hnR1 := hNR1.len
              have hR11 := Rd.front_eq hE1 hR10
              have hW12 := Ow.front_eq hE1 hW11
              refine s_val hS7 rfl rfl (r_move rfl (.t rfl rfl)) ?_
              refine s_val hS7 rfl rfl (r_extract rfl (.t rfl rfl) rfl) ?_
              refine s_val hS7 rfl rfl (r_extract rfl (.t rfl rfl) rfl) ?_
              refine s_val hS7 rfl rfl (r_assign rfl (.t rfl rfl)) ?_
              refine s_val hS7 rfl rfl (r_assign rfl (.t rfl rfl)) ?_
              refine wpList_nil ?_
              refine x_tn ?_
              refine k_reb [(0, .int .u32 (((b : Nat) : Int))), (1, .int .i64 (((N : Nat) : Int))), (4, .slice none 0 0), (5, .int .i64 0), (6, .slice a2 R1.length R1.length), (7, .int .i64 (((k : Nat) : Int) - 1)), (9, .int .i64 0)] ⟨rfl, rfl, rfl, rfl, rfl, rfl, rfl, trivial⟩ fun G27 => ?_
              refine wp_seq ?_
              refine k_reg ?_
              refine s_val hS7 rfl rfl (r_move rfl (.t rfl rfl)) ?_
              refine s_val hS7 rfl rfl (r_cmp_f rfl rfl (.t rfl rfl) .c (show ¬ (¬ 0 = 0) from by omega)) ?_
              refine wpList_nil ?_
              refine x_tn ?_
              refine k_reb [(0, .int .u32 (((b : Nat) : Int))), (1, .int .i64 (((N : Nat) : Int))), (4, .slice none 0 0), (5, .int .i64 0), (6, .slice a2 R1.length R1.length), (7, .int .i64 (((k : Nat) : Int) - 1)), (9, .int .i64 0), (50, .bool false)] ⟨rfl, rfl, rfl, rfl, rfl, rfl, rfl, rfl, trivial⟩ fun G28 => ?_
              refine k_f (.t rfl rfl) ?_
              refine wp_skip ?_
              refine x_bn ?_
              refine x_tn ?_
              refine k_reb [(0, .int .u32 (((b : Nat) : Int))), (1, .int .i64 (((N : Nat) : Int))), (4, .slice none 0 0), (5, .int .i64 0), (6, .slice a2 R1.length R1.length), (7, .int .i64 (((k : Nat) : Int) - 1))] ⟨rfl, rfl, rfl, rfl, rfl, rfl, trivial⟩ fun G29 => ?_
              refine k_reg ?_
              refine s_val hS7 rfl rfl (r_move rfl (.t rfl rfl)) ?_
              refine s_val hS7 rfl rfl (r_arith rfl rfl (.t rfl rfl) .c (c := ((k - 1 : Nat) : Int) - 1) (w_i64 (by show (((k : Nat) : Int) - 1 : Int) - 1 = _; omega) (by omega) (by omega))) ?_
              refine s_val hS7 rfl rfl (r_assign rfl (.t rfl rfl)) ?_
              refine wpList_nil ?_
              refine x_tn ?_
              have hS8 : St w0 [] ([]) w6 := hS7.weaken _ (by repeat (first | exact List.nil_sublist _ | exact List.Sublist.refl _ | apply List.Sublist.cons₂ | apply List.Sublist.cons))
              refine ⟨k - 1, by omega, _, k - 1, a2, R1.length, R1, fr_reb _ ⟨rfl, rfl, rfl, rfl, rfl, rfl, trivial⟩, hS8, ?_⟩
              exact ⟨rfl, by omega, hW12, hNR1, by rw [hlR1, hL2v, hL1v, hv, hpo (by omega) cb]⟩
            · refine s_val hS7 rfl rfl (r_move rfl (.t rfl rfl)) ?_
              refine s_val hS7 rfl rfl (r_extract rfl (.t rfl rfl) rfl) ?_
              refine s_val hS7 rfl rfl (r_extract rfl (.t rfl rfl) rfl) ?_
              refine s_val hS7 rfl rfl (r_assign rfl (.t rfl rfl)) ?_
              refine s_val hS7 rfl rfl (r_assign rfl (.t rfl rfl)) ?_
              refine wpList_nil ?_
              refine x_tn ?_
              refine k_reb [(0, .int .u32 (((b : Nat) : Int))), (1, .int .i64 (((N : Nat) : Int))), (4, .slice none 0 0), (5, .int .i64 0), (6, .slice none 0 0), (7, .int .i64 (((k : Nat) : Int) - 1)), (9, .int .i64 21)] ⟨rfl, rfl, rfl, rfl, rfl, rfl, rfl, trivial⟩ fun G30 => ?_
              refine wp_seq ?_
              refine k_reg ?_
              refine s_val hS7 rfl rfl (r_move rfl (.t rfl rfl)) ?_
              refine s_val hS7 rfl rfl (r_cmp_t rfl rfl (.t rfl rfl) .c (show ¬ 21 = 0 from by omega)) ?_
              refine wpList_nil ?_
              refine x_tn ?_
              refine k_reb [(0, .int .u32 (((b : Nat) : Int))), (1, .int .i64 (((N : Nat) : Int))), (4, .slice none 0 0), (5, .int .i64 0), (6, .slice none 0 0), (7, .int .i64 (((k : Nat) : Int) - 1)), (9, .int .i64 21), (50, .bool true)] ⟨rfl, rfl, rfl, rfl, rfl, rfl, rfl, rfl, trivial⟩ fun G31 => ?_
              refine k_t (.t rfl rfl) ?_
              refine wp_seq ?_
              refine k_reg ?_
              refine s_val hS7 rfl rfl (r_move rfl (.t rfl rfl)) ?_
              refine s_val hS7 rfl rfl (r_assign rfl .c) ?_
              refine s_val hS7 rfl rfl (r_assign rfl (.t rfl rfl)) ?_
              refine wpList_nil ?_
              refine x_tn ?_
              refine k_reb [(0, .int .u32 (((b : Nat) : Int))), (1, .int .i64 (((N : Nat) : Int))), (4, .slice none 0 0), (5, .int .i64 21), (6, .slice none 0 0), (7, .int .i64 (((k : Nat) : Int) - 1))] ⟨rfl, rfl, rfl, rfl, rfl, rfl, trivial⟩ fun G32 => ?_
              refine wp_ret ?_
              refine x_br ?_
              refine x_tr ?_
              refine x_tr ?_
              refine x_br ?_
              refine x_tr ?_
              refine k_ret2 Tryd.results10 rfl rfl rfl rfl ?_
              refine ⟨_, rfl, ?_⟩
              rw [hL2v, hL1v, hv, hpo (by omega) cb] at ht1
              exact .inr ⟨pow_part (k := k - 1) (by omega) ht1, rfl, hS7.none⟩
          · refine s_val hS4 rfl rfl (r_cmp_f rfl rfl (.t rfl rfl) .c (show ¬ (((N / 2 ^ (k - 1) % 2 : Nat) : Int) = 1) from by omega)) ?_
            refine wpList_nil ?_
            refine x_tn ?_
            refine k_reb [(0, .int .u32 (((b : Nat) : Int))), (1, .int .i64 (((N : Nat) : Int))), (4, .slice none 0 0), (5, .int .i64 0), (6, .slice aX X.length cX), (7, .int .i64 (((k : Nat) : Int) - 1)), (8, .slice a1 L1.length c6), (39, .bool false)] ⟨rfl, rfl, rfl, rfl, rfl, rfl, rfl, rfl, trivial⟩ fun G33 => ?_
            refine k_f (.t rfl rfl) ?_
            refine wp_skip ?_
            refine x_tn ?_
            refine k_reb [(0, .int .u32 (((b : Nat) : Int))), (1, .int .i64 (((N : Nat) : Int))), (4, .slice none 0 0), (5, .int .i64 0), (6, .slice aX X.length cX), (7, .int .i64 (((k : Nat) : Int) - 1)), (8, .slice a1 L1.length c6)] ⟨rfl, rfl, rfl, rfl, rfl, rfl, rfl, trivial⟩ fun G34 => ?_
            refine wp_seq ?_
            refine k_reg ?_
            refine s_val hS4 rfl rfl (r_assign rfl .c) ?_
            refine wpList_nil ?_
            refine x_tn ?_
            refine wp_seq ?_
            refine k_reg ?_
            refine s_val hS4 rfl rfl (r_move rfl (.t rfl rfl)) ?_
            have hpo := @pow_odd b N k
            have hpe := @pow_even b N k
            refine s_call rfl rfl rfl (vs := [.slice a1 L1.length c6]) ⟨(.t rfl rfl), trivial⟩ cb28 (normal_any w3 a1 c6 L1 hR2 (by omega)) ?_
            intro v4 w7 hp4
            obtain ⟨hp4, hB4⟩ := hp4
            have hS9 := hS4.keep hB4
            replace hB4 := hB4.toBelow
            have hR12 := hR3.below hB4 (Nat.le_refl _)
            have hR13 := hR2.below hB4 (Nat.le_refl _)
            have hW13 := hW3.later hB4
            have hW14 := hW2.later hB4
            rcases hp4 with ⟨R2, X2, hE2, hNR2, hlR2, ht2, rfl⟩ | ⟨ht2, rfl⟩
            · have hnR2 := hNR2.len
              have hR14 := Rd.front_eq hE2 hR13
              have hW15 := Ow.front_eq hE2 hW14
              refine s_val hS9 rfl rfl (r_move rfl (.t rfl rfl)) ?_
              refine s_val hS9 rfl rfl (r_extract rfl (.t rfl rfl) rfl) ?_
              refine s_val hS9 rfl rfl (r_extract rfl (.t rfl rfl) rfl) ?_
              refine s_val hS9 rfl rfl (r_assign rfl (.t rfl rfl)) ?_
              refine s_val hS9 rfl rfl (r_assign rfl (.t rfl rfl)) ?_
              refine wpList_nil ?_
              refine x_tn ?_
              refine k_reb [(0, .int .u32 (((b : Nat) : Int))), (1, .int .i64 (((N : Nat) : Int))), (4, .slice none 0 0), (5, .int .i64 0), (6, .slice a1 R2.length R2.length), (7, .int .i64 (((k : Nat) : Int) - 1)), (9, .int .i64 0)] ⟨rfl, rfl, rfl, rfl, rfl, rfl, rfl, trivial⟩ fun G35 => ?_
              refine wp_seq ?_
              refine k_reg ?_
              refine s_val hS9 rfl rfl (r_move rfl (.t rfl rfl)) ?_
              refine s_val hS9 rfl rfl (r_cmp_f rfl rfl (.t rfl rfl) .c (show ¬ (¬ 0 = 0) from by omega)) ?_
              refine wpList_nil ?_
              refine x_tn ?_
              refine k_reb [(0, .int .u32 (((b : Nat) : Int))), (1, .int .i64 (((N : Nat) : Int))), (4, .slice none 0 0), (5, .int .i64 0), (6, .slice a1 R2.length R2.length), (7, .int .i64 (((k : Nat) : Int) - 1)), (9, .int .i64 0), (50, .bool false)] ⟨rfl, rfl, rfl, rfl, rfl, rfl, rfl, rfl, trivial⟩ fun G36 => ?_
              refine k_f (.t rfl rfl) ?_
              refine wp_skip ?_
              refine x_bn ?_
              refine x_tn ?_
              refine k_reb [(0, .int .u32 (((b : Nat) : Int))), (1, .int .i64 (((N : Nat) : Int))), (4, .slice none 0 0), (5, .int .i64 0), (6, .slice a1 R2.length R2.length), (7, .int .i64 (((k : Nat) : Int) - 1))] ⟨rfl, rfl, rfl, rfl, rfl, rfl, trivial⟩ fun G37 => ?_
              refine k_reg ?_
              refine s_val hS9 rfl rfl (r_move rfl (.t rfl rfl)) ?_
              refine s_val hS9 rfl rfl (r_arith rfl rfl (.t rfl rfl) .c (c := ((k - 1 : Nat) : Int) - 1) (w_i64 (by show (((k : Nat) : Int) - 1 : Int) - 1 = _; omega) (by omega) (by omega))) ?_
              refine s_val hS9 rfl rfl (r_assign rfl (.t rfl rfl)) ?_
              refine wpList_nil ?_
              refine x_tn ?_
              refine ⟨k - 1, by omega, _, k - 1, a1, R2.length, R2, fr_reb _ ⟨rfl, rfl, rfl, rfl, rfl, rfl, trivial⟩, hS9, ?_⟩
              exact ⟨rfl, by omega, hW15, hNR2, by rw [hlR2, hL1v, hv, hpe (by omega) (by omega)]⟩
            · refine s_val hS9 rfl rfl (r_move rfl (.t rfl rfl)) ?_
              refine s_val hS9 rfl rfl (r_extract rfl (.t rfl rfl) rfl) ?_
              refine s_val hS9 rfl rfl (r_extract rfl (.t rfl rfl) rfl) ?_
              refine s_val hS9 rfl rfl (r_assign rfl (.t rfl rfl)) ?_
              refine s_val hS9 rfl rfl (r_assign rfl (.t rfl rfl)) ?_
              refine wpList_nil ?_
              refine x_tn ?_
              refine k_reb [(0, .int .u32 (((b : Nat) : Int))), (1, .int .i64 (((N : Nat) : Int))), (4, .slice none 0 0), (5, .int .i64 0), (6, .slice none 0 0), (7, .int .i64 (((k : Nat) : Int) - 1)), (9, .int .i64 21)] ⟨rfl, rfl, rfl, rfl, rfl, rfl, rfl, trivial⟩ fun G38 => ?_
              refine wp_seq ?_
              refine k_reg ?_
              refine s_val hS9 rfl rfl (r_move rfl (.t rfl rfl)) ?_
              refine s_val hS9 rfl rfl (r_cmp_t rfl rfl (.t rfl rfl) .c (show ¬ 21 = 0 from by omega)) ?_
              refine wpList_nil ?_
              refine x_tn ?_
              refine k_reb [(0, .int .u32 (((b : Nat) : Int))), (1, .int .i64 (((N : Nat) : Int))), (4, .slice none 0 0), (5, .int .i64 0), (6, .slice none 0 0), (7, .int .i64 (((k : Nat) : Int) - 1)), (9, .int .i64 21), (50, .bool true)] ⟨rfl, rfl, rfl, rfl, rfl, rfl, rfl, rfl, trivial⟩ fun G39 => ?_
              refine k_t (.t rfl rfl) ?_
              refine wp_seq ?_
              refine k_reg ?_
              refine s_val hS9 rfl rfl (r_move rfl (.t rfl rfl)) ?_
              refine s_val hS9 rfl rfl (r_assign rfl .c) ?_
              refine s_val hS9 rfl rfl (r_assign rfl (.t rfl rfl)) ?_
              refine wpList_nil ?_
              refine x_tn ?_
              refine k_reb [(0, .int .u32 (((b : Nat) : Int))), (1, .int .i64 (((N : Nat) : Int))), (4, .slice none 0 0), (5, .int .i64 21), (6, .slice none 0 0), (7, .int .i64 (((k : Nat) : Int) - 1))] ⟨rfl, rfl, rfl, rfl, rfl, rfl, trivial⟩ fun G40 => ?_
              refine wp_ret ?_
              refine x_br ?_
              refine x_tr ?_
              refine x_tr ?_
              refine x_br ?_
              refine x_tr ?_
              refine k_ret2 Tryd.results10 rfl rfl rfl rfl ?_
              refine ⟨_, rfl, ?_⟩
              rw [hL1v, hv, hpe (by omega) (by omega)] at ht2
              exact .inr ⟨pow_part (k := k - 1) (by omega) ht2, rfl, hS9.none⟩
        · refine s_val hS3 rfl rfl (r_cmp_f rfl rfl (.t rfl rfl) .c (show ¬ (((k : Nat) : Int) - 1 ≥ 0) from by omega)) ?_
          refine wpList_nil ?_
          refine x_tn ?_
          refine k_reb [(0, .int .u32 (((b : Nat) : Int))), (1, .int .i64 (((N : Nat) : Int))), (4, .slice none 0 0), (5, .int .i64 0), (6, .slice aX X.length cX), (7, .int .i64 (((k : Nat) : Int) - 1)), (29, .bool false)] ⟨rfl, rfl, rfl, rfl, rfl, rfl, rfl, trivial⟩ fun G41 => ?_
          refine k_f (.t rfl rfl) ?_
          refine wp_exit ?_
          refine x_te ?_
          refine x_te ?_
          refine x_be ?_
          refine x_tn ?_
          refine k_reb [(4, .slice none 0 0), (5, .int .i64 0), (6, .slice aX X.length cX)] ⟨rfl, rfl, rfl, trivial⟩ fun G42 => ?_
          refine wp_seq ?_
          refine k_reg ?_
          refine s_val hS3 rfl rfl (r_move rfl (.t rfl rfl)) ?_
          refine s_val hS3 rfl rfl (r_assign rfl (.t rfl rfl)) ?_
          refine s_val hS3 rfl rfl (r_assign rfl .c) ?_
          refine wpList_nil ?_
          refine x_tn ?_
          refine k_reb [(4, .slice aX X.length cX), (5, .int .i64 0)] ⟨rfl, rfl, trivial⟩ fun G43 => ?_
          refine wp_ret ?_
          refine k_ret2 Tryd.results10 rfl rfl rfl rfl ?_
          refine ⟨_, rfl, ?_⟩
          obtain rfl : k = 0 := by omega
          rw [Nat.pow_zero, Nat.div_one] at hv
          exact .inl ⟨by rw [← hv]; exact nm_lt hNX, X, _, rfl, hOX, hNX, hv⟩

theorem Root_ok (w0 : World) (aA : Option Addr) (cA : Nat) (A : List Nat) (hA : Rd w0 .u32 aA cA A) (nA : Nm A) :
    Calls Tryd.prog 66 #[.slice aA A.length cA] w0 (Ret fun v w' => ∃ L u, v = .tuple #[u, .bool (decide (lv L * lv L = lv A)), .int .i64 0] ∧ Ow w0 w' .u32 38 u L ∧ Nm L ∧ lv L * lv L ≤ lv A ∧ lv A < (lv L + 1) * (lv L + 1)) := by
  refine k_enter (vs := [.slice aA A.length cA]) Tryd.func66 rfl Tryd.ntmps66 rfl ?_
  have hS := St.init w0
  have lA := hA.le
  have lA2 := nA.len
  have hTA := nm_lt nA
  refine wp_seq ?_
  refine k_reg ?_
  refine s_val hS rfl rfl (r_assign rfl .c) ?_
  refine s_val hS rfl rfl (r_assign rfl .c) ?_
  refine s_val hS rfl rfl (r_assign rfl .c) ?_
  refine wpList_nil ?_
  refine x_tn ?_
  refine wp_seq ?_
  refine wp_seq ?_
  refine k_reg ?_
  refine s_val hS rfl rfl (r_move rfl (.t rfl rfl)) ?_
  refine s_call rfl rfl rfl (vs := [.slice aA A.length cA]) ⟨(.t rfl rfl), trivial⟩ cb27 (check_nm w0 aA cA A hA nA) ?_
  intro v1 w1 hp1
  obtain ⟨hp1, hB1⟩ := hp1
  have hS1 := hS.keep hB1
  replace hB1 := hB1.toBelow
  obtain rfl := hp1
  refine s_val hS1 rfl rfl (r_assign rfl (.t rfl rfl)) ?_
  refine wpList_nil ?_
  refine x_tn ?_
  refine k_reb [(0, .slice aA A.length cA), (2, .slice none 0 0), (3, .bool false), (4, .int .i64 0), (5, .int .i64 0)] ⟨rfl, rfl, rfl, rfl, rfl, trivial⟩ fun G1 => ?_
  refine wp_seq ?_
  refine k_reg ?_
  refine s_val hS1 rfl rfl (r_move rfl (.t rfl rfl)) ?_
  refine s_val hS1 rfl rfl (r_cmp_f rfl rfl (.t rfl rfl) .c (show ¬ (¬ 0 = 0) from by omega)) ?_
  refine wpList_nil ?_
  refine x_tn ?_
  refine k_reb [(0, .slice aA A.length cA), (2, .slice none 0 0), (3, .bool false), (4, .int .i64 0), (5, .int .i64 0), (16, .bool false)] ⟨rfl, rfl, rfl, rfl, rfl, rfl, trivial⟩ fun G2 => ?_
  refine k_f (.t rfl rfl) ?_
  refine wp_skip ?_
  refine x_tn ?_
  refine k_reb [(0, .slice aA A.length cA), (2, .slice none 0 0), (3, .bool false), (4, .int .i64 0)] ⟨rfl, rfl, rfl, rfl, trivial⟩ fun G3 => ?_
  refine wp_seq ?_
  refine wp_seq ?_
  refine k_reg ?_
  refine s_val hS1 rfl rfl (r_move rfl (.t rfl rfl)) ?_
  refine s_val hS1 rfl rfl (r_len rfl rfl Tryd.underlying27 (.t rfl rfl)) ?_
  by_cases c1 : A.length = 0
  · refine s_val hS1 rfl rfl (r_cmp_t rfl rfl (.t rfl rfl) .c (show ((A.length : Nat) : Int) = 0 from by omega)) ?_
    refine wpList_nil ?_
    refine x_tn ?_
    refine k_reb [(0, .slice aA A.length cA), (2, .slice none 0 0), (3, .bool false), (4, .int .i64 0), (20, .bool true)] ⟨rfl, rfl, rfl, rfl, rfl, trivial⟩ fun G4 => ?_
    refine k_t (.t rfl rfl) ?_
    refine wp_seq ?_
    refine k_reg ?_
    refine s_val hS1 rfl rfl (r_assign rfl .c) ?_
    refine s_val hS1 rfl rfl (r_assign rfl .c) ?_
    refine s_val hS1 rfl rfl (r_assign rfl .c) ?_
    refine wpList_nil ?_
    refine x_tn ?_
    refine k_reb [(0, .slice aA A.length cA), (2, .slice none 0 0), (3, .bool true), (4, .int .i64 0)] ⟨rfl, rfl, rfl, rfl, trivial⟩ fun G5 => ?_
    refine wp_ret ?_
    refine x_tr ?_
    refine k_ret3 Tryd.results66 rfl rfl rfl rfl rfl rfl ?_
    refine ⟨_, rfl, ?_⟩
    have hA0 : A = [] := List.eq_nil_of_length_eq_zero (by omega)
    subst hA0
    exact ⟨[], _, rfl, Ow.empty hS1, nm_nil, by simp [lv], by simp [lv]⟩
  · have hA0 : 0 < lv A := lv_pos nA.nz (by omega)
    have hbT := bl_top hTA
    refine s_val hS1 rfl rfl (r_cmp_f rfl rfl (.t rfl rfl) .c (show ¬ (((A.length : Nat) : Int) = 0) from by omega)) ?_
    refine wpList_nil ?_
    refine x_tn ?_
    refine k_reb [(0, .slice aA A.length cA), (2, .slice none 0 0), (3, .bool false), (4, .int .i64 0), (20, .bool false)] ⟨rfl, rfl, rfl, rfl, rfl, trivial⟩ fun G6 => ?_
    refine k_f (.t rfl rfl) ?_
    refine wp_skip ?_
    refine x_tn ?_
    refine k_reb [(0, .slice aA A.length cA), (2, .slice none 0 0), (3, .bool false), (4, .int .i64 0)] ⟨rfl, rfl, rfl, rfl, trivial⟩ fun G7 => ?_
    refine wp_seq ?_
    refine k_reg ?_
    refine s_lit rfl rfl rfl Tryd.underlying26 ti38 (vs := [(0, .int .u32 1)]) ⟨rfl, .c, trivial⟩ (L := [1]) rfl (by omega) rfl hS1 fun blk1 w2 hb1 hB2 hS2 => ?_
    have hW1 : Ow w0 w2 .u32 38 (.slice (some ⟨blk1, 0, none⟩) 1 1) ([1]) := Ow.of_chunk0 (m := 0) hS2 rfl rfl rfl (by simp) (by intro x hx; simp only [List.mem_cons, List.not_mem_nil, or_false] at hx; first | (subst hx; first | omega | (simp only [maxK]; omega)) | (rcases hx with rfl | rfl <;> first | omega | (simp only [maxK]; omega)))
    have hR1 := hW1.rd
    have hS3 : St w0 [] [] w2 := hS2.weaken _ (by simp)
    refine s_val hS3 rfl rfl (r_move rfl (.t rfl rfl)) ?_
    refine s_call rfl rfl rfl (vs := [.slice aA A.length cA]) ⟨(.t rfl rfl), trivial⟩ cb13 (Len_ok w2 aA cA A (rd_st hS3 hA (by simp)) nA) ?_
    intro v2 w3 hp2
    obtain ⟨hp2, hB3⟩ := hp2
    have hS4 := hS3.keep hB3
    replace hB3 := hB3.toBelow
    have hR2 := hR1.below hB3 (Nat.le_refl _)
    have hW2 := hW1.later hB3
    obtain rfl := hp2
    refine s_val hS4 rfl rfl (r_arith rfl rfl (.t rfl rfl) .c (c := (((bl (lv A)) + 1 : Nat) : Int)) (wn_i64 (by show (((bl (lv A) : Nat) : Int) : Int) + 1 = _; omega) (by omega))) ?_
    refine s_val hS4 rfl rfl (r_quo (b := ((2 : Nat) : Int)) rfl (.t rfl rfl) .c (nz_nat (by omega)) (wn_i64 (c := ((bl (lv A)) + 1) / 2) tdiv_nat (Nat.le_trans (Nat.div_le_self _ _) (by omega)))) ?_
    refine s_call rfl rfl rfl (vs := [.slice (some ⟨blk1, 0, none⟩) 1 1, .int .i64 (((((bl (lv A)) + 1) / 2 : Nat) : Int))]) ⟨(.t rfl rfl), (.t rfl rfl), trivial⟩ cb29 (left_ow w3 (some ⟨blk1, 0, none⟩) 1 ([1]) hR2 (((bl (lv A)) + 1) / 2) (by omega) (by first | omega | (simp only [List.length_cons, List.length_nil]; omega))) ?_
    intro v3 w4 hp3
    obtain ⟨P1, hp3, ⟨hP1l, hP1lim, hP1v⟩⟩ := hp3
    obtain ⟨a1, c2, rfl, hR3, -, hT1⟩ := id hp3
    have hW3 := Ow.from_ hS4 hp3
    have hS5 := hS4.keep hT1
    have hR4 := hR2.below hT1.toBelow (Nat.le_refl _)
    have hW4 := hW2.later hT1.toBelow
    rw [lv_single, Nat.one_mul] at hP1v
    simp only [List.length_cons, List.length_nil] at hP1l
    refine s_val hS5 rfl rfl (r_assign rfl (.t rfl rfl)) ?_
    refine wpList_nil ?_
    refine x_tn ?_
    refine k_reb [(0, .slice aA A.length cA), (2, .slice none 0 0), (3, .bool false), (4, .int .i64 0), (6, .slice a1 P1.length c2)] ⟨rfl, rfl, rfl, rfl, rfl, trivial⟩ fun G8 => ?_
    refine wp_seq ?_
    refine k_reg ?_
    refine s_val hS5 rfl rfl (r_move rfl (.t rfl rfl)) ?_
    refine s_call rfl rfl rfl (vs := [.slice a1 P1.length c2]) ⟨(.t rfl rfl), trivial⟩ cb28 (normal_fit w4 a1 c2 P1 hR3 (by omega) (by rw [hP1v]; exact root_small hTA)) ?_
    intro v4 w5 hp4
    obtain ⟨hp4, hB4⟩ := hp4
    have hS6 := hS5.keep hB4
    replace hB4 := hB4.toBelow
    have hR5 := hR3.below hB4 (Nat.le_refl _)
    have hW5 := hW4.later hB4
    have hW6 := hW3.later hB4
    obtain ⟨X0, X1, hE1, hNX0, hlX0, rfl⟩ := hp4
    have hnX0 := hNX0.len
    have hR6 := Rd.front_eq hE1 hR5
    have hW7 := Ow.front_eq hE1 hW6
    refine s_val hS6 rfl rfl (r_move rfl (.t rfl rfl)) ?_
    have hl0 : lv X0 = 2 ^ ((bl (lv A) + 1) / 2) := by rw [hlX0, hP1v]
    refine s_val hS6 rfl rfl (r_extract rfl (.t rfl rfl) rfl) ?_
    refine s_val hS6 rfl rfl (r_extract rfl (.t rfl rfl) rfl) ?_
    refine s_val hS6 rfl rfl (r_assign rfl (.t rfl rfl)) ?_
    refine wpList_nil ?_
    refine x_tn ?_
    refine k_reb [(0, .slice aA A.length cA), (2, .slice none 0 0), (3, .bool false), (4, .int .i64 0), (6, .slice a1 X0.length X0.length)] ⟨rfl, rfl, rfl, rfl, rfl, trivial⟩ fun G9 => ?_
    refine wp_seq ?_
    refine wp_block ?_
    refine wp_loop_ghost (fun (m1 : Nat) a w => ∃ (G : Nat → Value) (aX : Option Addr) (cX : Nat) (X : List Nat), a = fr 68 [(0, .slice aA A.length cA), (2, .slice none 0 0), (3, .bool false), (4, .int .i64 0), (6, .slice aX X.length cX)] G ∧ St w0 [] [] w ∧ (m1 = lv X ∧ Ow w0 w .u32 38 (.slice aX X.length cX) X ∧ Nm X ∧ 0 < lv X ∧ lv A < (lv X + 1) * (lv X + 1))) (lv X0) ⟨_, a1, X0.length, X0, fr_reb _ ⟨rfl, rfl, rfl, rfl, rfl, trivial⟩, hS6, ?_⟩ ?_
    · exact ⟨rfl, hW7, hNX0, by rw [hl0]; exact Nat.pow_pos (by omega), by rw [hl0]; exact root_first⟩
    · intro m1 _ w6 hI1
      obtain ⟨G10, aX, cX, X, rfl, hS7, ⟨hm, hOX, hNX, hX0, hXr⟩⟩ := hI1
      have hRX := hOX.rd
      have hnX := hNX.len
      have hXl : 0 < X.length := Nat.pos_of_ne_zero fun h => by rw [List.eq_nil_of_length_eq_zero h] at hX0; simp [lv] at hX0
      have hTX := nm_lt hNX
      refine wp_block ?_
      refine wp_seq ?_
      refine k_reg ?_
      refine s_val hS7 rfl rfl (r_move rfl (.t rfl rfl)) ?_
      refine s_val hS7 rfl rfl (r_move rfl (.t rfl rfl)) ?_
      refine s_call rfl rfl rfl (vs := [.slice aA A.length cA, .slice aX X.length cX]) ⟨(.t rfl rfl), (.t rfl rfl), trivial⟩ cb41 (divide_ok w6 aA cA A (rd_st hS7 hA (by simp)) aX cX X hRX nA hNX (by omega)) ?_
      intro v5 w7 hp5
      obtain ⟨Q, R, _, _, rfl, hp5, hq1, ⟨hQlim, hRlim, hQv, hRv, hQl, hRl⟩⟩ := hp5
      obtain ⟨a2, c3, rfl, hR7, -, hT2⟩ := id hp5
      have hW8 := Ow.from_ hS7 hp5
      have hS8 := hS7.keep hT2
      have hR8 := hRX.below hT2.toBelow (Nat.le_refl _)
      have hW9 := hOX.later hT2.toBelow
      obtain ⟨a3, c4, rfl, hR9, -, hT3⟩ := id hq1
      have hW10 := Ow.from_ hS7 hq1
      refine s_val hS8 rfl rfl (r_move rfl (.t rfl rfl)) ?_
      refine s_val hS8 rfl rfl (r_extract rfl (.t rfl rfl) rfl) ?_
      refine s_val hS8 rfl rfl (r_extract rfl (.t rfl rfl) rfl) ?_
      refine s_val hS8 rfl rfl (r_assign rfl (.t rfl rfl)) ?_
      refine s_val hS8 rfl rfl (r_assign rfl (.t rfl rfl)) ?_
      refine wpList_nil ?_
      refine x_tn ?_
      refine k_reb [(0, .slice aA A.length cA), (2, .slice none 0 0), (3, .bool false), (4, .int .i64 0), (6, .slice aX X.length cX), (7, .slice a2 Q.length c3)] ⟨rfl, rfl, rfl, rfl, rfl, rfl, trivial⟩ fun G11 => ?_
      refine wp_seq ?_
      refine k_reg ?_
      refine s_val hS8 rfl rfl (r_move rfl (.t rfl rfl)) ?_
      refine s_call rfl rfl rfl (vs := [.slice a2 Q.length c3]) ⟨(.t rfl rfl), trivial⟩ cb28 (normal_fit w7 a2 c3 Q hR7 (by omega) (by rw [hQv]; exact Nat.lt_of_le_of_lt (Nat.div_le_self _ _) hTA)) ?_
      intro v6 w8 hp6
      obtain ⟨hp6, hB5⟩ := hp6
      have hS10 := hS8.keep hB5
      replace hB5 := hB5.toBelow
      have hR10 := hR8.below hB5 (Nat.le_refl _)
      have hR11 := hR7.below hB5 (Nat.le_refl _)
      have hW11 := hW9.later hB5
      have hW12 := hW8.later hB5
      have hW13 := hW10.later hB5
      obtain ⟨Q1, X2, hE2, hNQ1, hlQ1, rfl⟩ := hp6
      have hnQ1 := hNQ1.len
      have hR12 := Rd.front_eq hE2 hR11
      have hW14 := Ow.front_eq hE2 hW12
      refine s_val hS10 rfl rfl (r_move rfl (.t rfl rfl)) ?_
      refine s_val hS10 rfl rfl (r_extract rfl (.t rfl rfl) rfl) ?_
      refine s_val hS10 rfl rfl (r_extract rfl (.t rfl rfl) rfl) ?_
      refine s_val hS10 rfl rfl (r_assign rfl (.t rfl rfl)) ?_
      refine wpList_nil ?_
      refine x_tn ?_
      refine k_reb [(0, .slice aA A.length cA), (2, .slice none 0 0), (3, .bool false), (4, .int .i64 0), (6, .slice aX X.length cX), (7, .slice a2 Q1.length Q1.length)] ⟨rfl, rfl, rfl, rfl, rfl, rfl, trivial⟩ fun G12 => ?_
      refine wp_seq ?_
      refine k_reg ?_
      refine s_val hS10 rfl rfl (r_move rfl (.t rfl rfl)) ?_
      refine s_val hS10 rfl rfl (r_move rfl (.t rfl rfl)) ?_
      refine s_call rfl rfl rfl (vs := [.slice aX X.length cX, .slice a2 Q1.length Q1.length]) ⟨(.t rfl rfl), (.t rfl rfl), trivial⟩ cb82 (add_ow w8 aX cX X hR10 a2 Q1.length Q1 hR12 (by first | omega | (simp only [List.length_cons, List.length_nil]; omega)) (by first | omega | (simp only [List.length_cons, List.length_nil]; omega))) ?_
      intro v7 w9 hp7
      obtain ⟨S1, hp7, ⟨hS1l, hS1lim, hS1v⟩⟩ := hp7
      obtain ⟨a4, c5, rfl, hR13, -, hT4⟩ := id hp7
      have hW15 := Ow.from_ hS10 hp7
      have hS11 := hS10.keep hT4
      have hR14 := hR10.below hT4.toBelow (Nat.le_refl _)
      have hR15 := hR12.below hT4.toBelow (Nat.le_refl _)
      have hW16 := hW11.later hT4.toBelow
      have hW17 := hW12.later hT4.toBelow
      have hW18 := hW13.later hT4.toBelow
      have hW19 := hW14.later hT4.toBelow
      refine s_call rfl rfl rfl (vs := [.slice a4 S1.length c5, .int .i64 1]) ⟨(.t rfl rfl), .c, trivial⟩ cb30 (right_ok w9 a4 c5 S1 hR13 1 (by omega) (by omega)) ?_
      intro v8 w10 hp8
      obtain ⟨H1, hp8, ⟨hH1lim, hH1v, hH1l⟩⟩ := hp8
      obtain ⟨a5, c6, rfl, hR16, -, hT5⟩ := id hp8
      have hW20 := Ow.from_ hS11 hp8
      have hS12 := hS11.keep hT5
      have hR17 := hR14.below hT5.toBelow (Nat.le_refl _)
      have hR18 := hR15.below hT5.toBelow (Nat.le_refl _)
      have hR19 := hR13.below hT5.toBelow (Nat.le_refl _)
      have hW21 := hW16.later hT5.toBelow
      have hW22 := hW17.later hT5.toBelow
      have hW23 := hW18.later hT5.toBelow
      have hW24 := hW19.later hT5.toBelow
      have hW25 := hW15.later hT5.toBelow
      refine s_call rfl rfl rfl (vs := [.slice a5 H1.length c6]) ⟨(.t rfl rfl), trivial⟩ cb28 (normal_fit w10 a5 c6 H1 hR16 (by omega) (by rw [hH1v, hS1v, hlQ1, hQv]; have := Nat.div_le_self (lv A) (lv X); omega)) ?_
      intro v9 w11 hp9
      obtain ⟨hp9, hB6⟩ := hp9
      have hS13 := hS12.keep hB6
      replace hB6 := hB6.toBelow
      have hR20 := hR17.below hB6 (Nat.le_refl _)
      have hR21 := hR18.below hB6 (Nat.le_refl _)
      have hR22 := hR19.below hB6 (Nat.le_refl _)
      have hR23 := hR16.below hB6 (Nat.le_refl _)
      have hW26 := hW21.later hB6
      have hW27 := hW22.later hB6
      have hW28 := hW23.later hB6
      have hW29 := hW24.later hB6
      have hW30 := hW25.later hB6
      have hW31 := hW20.later hB6
      obtain ⟨Z, X3, hE3, hNZ, hlZ, rfl⟩ := hp9
      have hnZ := hNZ.len
      have hR24 := Rd.front_eq hE3 hR23
      have hW32 := Ow.front_eq hE3 hW31
      refine s_val hS13 rfl rfl (r_move rfl (.t rfl rfl)) ?_
      have hnv : lv Z = (lv X + lv A / lv X) / 2 := by rw [hlZ, hH1v, hS1v, hlQ1, hQv]
      refine s_val hS13 rfl rfl (r_extract rfl (.t rfl rfl) rfl) ?_
      refine s_val hS13 rfl rfl (r_extract rfl (.t rfl rfl) rfl) ?_
      refine s_val hS13 rfl rfl (r_assign rfl (.t rfl rfl)) ?_
      refine s_val hS13 rfl rfl (r_assign rfl (.t rfl rfl)) ?_
      refine wpList_nil ?_
      refine x_tn ?_
      refine k_reb [(0, .slice aA A.length cA), (2, .slice none 0 0), (3, .bool false), (4, .int .i64 0), (6, .slice aX X.length cX), (9, .slice a5 Z.length Z.length)] ⟨rfl, rfl, rfl, rfl, rfl, rfl, trivial⟩ fun G13 => ?_
      refine wp_seq ?_
      refine wp_seq ?_
      refine k_reg ?_
      refine s_val hS13 rfl rfl (r_move rfl (.t rfl rfl)) ?_
      refine s_val hS13 rfl rfl (r_move rfl (.t rfl rfl)) ?_
      refine s_call rfl rfl rfl (vs := [.slice a5 Z.length Z.length, .slice aX X.length cX]) ⟨(.t rfl rfl), (.t rfl rfl), trivial⟩ cb71 (cmp_ok w11 a5 Z.length Z hR24 aX cX X hR20 hNZ.nz hNX.nz) ?_
      intro v10 w12 hp10
      obtain ⟨hp10, hB7⟩ := hp10
      have hS14 := hS13.keep hB7
      replace hB7 := hB7.toBelow
      have hR25 := hR20.below hB7 (Nat.le_refl _)
      have hR26 := hR24.below hB7 (Nat.le_refl _)
      have hW33 := hW26.later hB7
      have hW34 := hW27.later hB7
      have hW35 := hW28.later hB7
      have hW36 := hW29.later hB7
      have hW37 := hW30.later hB7
      have hW38 := hW31.later hB7
      have hW39 := hW32.later hB7
      rcases hp10 with ⟨hcn, rfl⟩ | ⟨hcn, rfl⟩ | ⟨hcn, rfl⟩
      · refine s_val hS14 rfl rfl (r_cmp_f rfl rfl (.t rfl rfl) .c (show ¬ ((-1) ≥ 0) from by omega)) ?_
        refine wpList_nil ?_
        refine x_tn ?_
        refine k_reb [(0, .slice aA A.length cA), (2, .slice none 0 0), (3, .bool false), (4, .int .i64 0), (6, .slice aX X.length cX), (9, .slice a5 Z.length Z.length), (54, .bool false)] ⟨rfl, rfl, rfl, rfl, rfl, rfl, rfl, trivial⟩ fun G14 => ?_
        refine k_f (.t rfl rfl) ?_
        refine wp_skip ?_
        refine x_tn ?_
        refine k_reb [(0, .slice aA A.length cA), (2, .slice none 0 0), (3, .bool false), (4, .int .i64 0), (6, .slice aX X.length cX), (9, .slice a5 Z.length Z.length)] ⟨rfl, rfl, rfl, rfl, rfl, rfl, trivial⟩ fun G15 => ?_
        refine k_reg ?_
        refine s_val hS14 rfl rfl (r_move rfl (.t rfl rfl)) ?_
        refine s_val hS14 rfl rfl (r_assign rfl (.t rfl rfl)) ?_
        refine wpList_nil ?_
        refine x_bn ?_
        refine x_tn ?_
        refine ⟨lv Z, (by rw [hm]; exact hcn), _, a5, Z.length, Z, fr_reb _ ⟨rfl, rfl, rfl, rfl, rfl, trivial⟩, hS14, ?_⟩
        exact ⟨rfl, hW39, hNZ, by rw [hnv]; exact root_pos hA0 hX0 rfl, by rw [hnv]; exact root_next hX0 rfl⟩
      · refine s_val hS14 rfl rfl (r_cmp_t rfl rfl (.t rfl rfl) .c (show 0 ≥ 0 from by omega)) ?_
        refine wpList_nil ?_
        refine x_tn ?_
        refine k_reb [(0, .slice aA A.length cA), (2, .slice none 0 0), (3, .bool false), (4, .int .i64 0), (6, .slice aX X.length cX), (9, .slice a5 Z.length Z.length), (54, .bool true)] ⟨rfl, rfl, rfl, rfl, rfl, rfl, rfl, trivial⟩ fun G16 => ?_
        refine k_t (.t rfl rfl) ?_
        refine wp_exit ?_
        refine x_te ?_
        refine x_bne rfl ?_
        refine x_te ?_
        refine x_be ?_
        refine x_tn ?_
        refine k_reb [(0, .slice aA A.length cA), (2, .slice none 0 0), (3, .bool false), (4, .int .i64 0), (6, .slice aX X.length cX)] ⟨rfl, rfl, rfl, rfl, rfl, trivial⟩ fun G17 => ?_
        refine wp_seq ?_
        refine k_reg ?_
        refine s_val hS14 rfl rfl (r_move rfl (.t rfl rfl)) ?_
        refine s_val hS14 rfl rfl (r_move rfl (.t rfl rfl)) ?_
        have hst : lv X * lv X ≤ lv A := root_stop hX0 rfl (by omega)
        refine s_call rfl rfl rfl (vs := [.slice aX X.length cX, .slice aX X.length cX]) ⟨(.t rfl rfl), (.t rfl rfl), trivial⟩ cb32 (mul_ow w12 aX cX X hR25 aX cX X hR25 (by first | omega | (simp only [List.length_cons, List.length_nil]; omega)) (by first | omega | (simp only [List.length_cons, List.length_nil]; omega))) ?_
        intro v11 w13 hp11
        obtain ⟨M, hp11, ⟨hMl, hMlim, hMv⟩⟩ := hp11
        obtain ⟨a6, c7, rfl, hR27, -, hT6⟩ := id hp11
        have hW40 := Ow.from_ hS14 hp11
        have hS15 := hS14.keep hT6
        have hR28 := hR25.below hT6.toBelow (Nat.le_refl _)
        have hW41 := hW33.later hT6.toBelow
        have hW42 := hW34.later hT6.toBelow
        have hW43 := hW35.later hT6.toBelow
        have hW44 := hW36.later hT6.toBelow
        have hW45 := hW37.later hT6.toBelow
        have hW46 := hW38.later hT6.toBelow
        have hW47 := hW39.later hT6.toBelow
        refine s_call rfl rfl rfl (vs := [.slice a6 M.length c7]) ⟨(.t rfl rfl), trivial⟩ cb28 (normal_fit w13 a6 c7 M hR27 (by omega) (by omega)) ?_
        intro v12 w14 hp12
        obtain ⟨hp12, hB8⟩ := hp12
        have hS16 := hS15.keep hB8
        replace hB8 := hB8.toBelow
        have hR29 := hR28.below hB8 (Nat.le_refl _)
        have hR30 := hR27.below hB8 (Nat.le_refl _)
        have hW48 := hW41.later hB8
        have hW49 := hW42.later hB8
        have hW50 := hW43.later hB8
        have hW51 := hW44.later hB8
        have hW52 := hW45.later hB8
        have hW53 := hW46.later hB8
        have hW54 := hW47.later hB8
        have hW55 := hW40.later hB8
        obtain ⟨SQ, X4, hE4, hNSQ, hlSQ, rfl⟩ := hp12
        have hnSQ := hNSQ.len
        have hR31 := Rd.front_eq hE4 hR30
        have hW56 := Ow.front_eq hE4 hW55
        refine s_val hS16 rfl rfl (r_move rfl (.t rfl rfl)) ?_
        refine s_val hS16 rfl rfl (r_extract rfl (.t rfl rfl) rfl) ?_
        refine s_val hS16 rfl rfl (r_extract rfl (.t rfl rfl) rfl) ?_
        refine s_val hS16 rfl rfl (r_assign rfl (.t rfl rfl)) ?_
        refine s_val hS16 rfl rfl (r_assign rfl (.t rfl rfl)) ?_
        refine wpList_nil ?_
        refine x_tn ?_
        refine k_reb [(0, .slice aA A.length cA), (2, .slice none 0 0), (3, .bool false), (4, .int .i64 0), (6, .slice aX X.length cX), (11, .slice a6 SQ.length SQ.length)] ⟨rfl, rfl, rfl, rfl, rfl, rfl, trivial⟩ fun G18 => ?_
        refine wp_seq ?_
        refine k_reg ?_
        refine s_val hS16 rfl rfl (r_move rfl (.t rfl rfl)) ?_
        refine s_val hS16 rfl rfl (r_move rfl (.t rfl rfl)) ?_
        refine s_val hS16 rfl rfl (r_move rfl (.t rfl rfl)) ?_
        refine s_call rfl rfl rfl (vs := [.slice a6 SQ.length SQ.length, .slice aA A.length cA]) ⟨(.t rfl rfl), (.t rfl rfl), trivial⟩ cb71 (cmp_ok w14 a6 SQ.length SQ hR31 aA cA A (rd_st hS16 hA (by simp)) hNSQ.nz nA.nz) ?_
        intro v13 w15 hp13
        obtain ⟨hp13, hB9⟩ := hp13
        have hS17 := hS16.keep hB9
        replace hB9 := hB9.toBelow
        have hR32 := hR29.below hB9 (Nat.le_refl _)
        have hR33 := hR31.below hB9 (Nat.le_refl _)
        have hW57 := hW48.later hB9
        have hW58 := hW49.later hB9
        have hW59 := hW50.later hB9
        have hW60 := hW51.later hB9
        have hW61 := hW52.later hB9
        have hW62 := hW53.later hB9
        have hW63 := hW54.later hB9
        have hW64 := hW55.later hB9
        have hW65 := hW56.later hB9
        rcases hp13 with ⟨hcs, rfl⟩ | ⟨hcs, rfl⟩ | ⟨hcs, rfl⟩
        · refine s_val hS17 rfl rfl (r_cmp_f rfl rfl (.t rfl rfl) .c (show ¬ ((-1) = 0) from by omega)) ?_
          refine s_val hS17 rfl rfl (r_assign rfl (.t rfl rfl)) ?_
          refine s_val hS17 rfl rfl (r_assign rfl (.t rfl rfl)) ?_
          refine s_val hS17 rfl rfl (r_assign rfl .c) ?_
          refine wpList_nil ?_
          refine x_tn ?_
          refine k_reb [(2, .slice aX X.length cX), (3, .bool false), (4, .int .i64 0)] ⟨rfl, rfl, rfl, trivial⟩ fun G19 => ?_
          refine wp_ret ?_
          refine k_ret3 Tryd.results66 rfl rfl rfl rfl rfl rfl ?_
          refine ⟨_, rfl, ?_⟩
          exact ⟨X, _, by rw [decide_eq_false (show ¬ lv X * lv X = lv A from by omega)], hW57, hNX, hst, hXr⟩
        · refine s_val hS17 rfl rfl (r_cmp_t rfl rfl (.t rfl rfl) .c (show 0 = 0 from by omega)) ?_
          refine s_val hS17 rfl rfl (r_assign rfl (.t rfl rfl)) ?_
          refine s_val hS17 rfl rfl (r_assign rfl (.t rfl rfl)) ?_
          refine s_val hS17 rfl rfl (r_assign rfl .c) ?_
          refine wpList_nil ?_
          refine x_tn ?_
          refine k_reb [(2, .slice aX X.length cX), (3, .bool true), (4, .int .i64 0)] ⟨rfl, rfl, rfl, trivial⟩ fun G20 => ?_
          refine wp_ret ?_
          refine k_ret3 Tryd.results66 rfl rfl rfl rfl rfl rfl ?_
          refine ⟨_, rfl, ?_⟩
          exact ⟨X, _, by rw [decide_eq_true (show lv X * lv X = lv A from by omega)], hW57, hNX, hst, hXr⟩
        · refine s_val hS17 rfl rfl (r_cmp_f rfl rfl (.t rfl rfl) .c (show ¬ (1 = 0) from by omega)) ?_
          refine s_val hS17 rfl rfl (r_assign rfl (.t rfl rfl)) ?_
          refine s_val hS17 rfl rfl (r_assign rfl (.t rfl rfl)) ?_
          refine s_val hS17 rfl rfl (r_assign rfl .c) ?_
          refine wpList_nil ?_
          refine x_tn ?_
          refine k_reb [(2, .slice aX X.length cX), (3, .bool false), (4, .int .i64 0)] ⟨rfl, rfl, rfl, trivial⟩ fun G21 => ?_
          refine wp_ret ?_
          refine k_ret3 Tryd.results66 rfl rfl rfl rfl rfl rfl ?_
          refine ⟨_, rfl, ?_⟩
          exact ⟨X, _, by rw [decide_eq_false (show ¬ lv X * lv X = lv A from by omega)], hW57, hNX, hst, hXr⟩
      · refine s_val hS14 rfl rfl (r_cmp_t rfl rfl (.t rfl rfl) .c (show 1 ≥ 0 from by omega)) ?_
        refine wpList_nil ?_
        refine x_tn ?_
        refine k_reb [(0, .slice aA A.length cA), (2, .slice none 0 0), (3, .bool false), (4, .int .i64 0), (6, .slice aX X.length cX), (9, .slice a5 Z.length Z.length), (54, .bool true)] ⟨rfl, rfl, rfl, rfl, rfl, rfl, rfl, trivial⟩ fun G22 => ?_
        refine k_t (.t rfl rfl) ?_
        refine wp_exit ?_
        refine x_te ?_
        refine x_bne rfl ?_
        refine x_te ?_
        refine x_be ?_
        refine x_tn ?_
        refine k_reb [(0, .slice aA A.length cA), (2, .slice none 0 0), (3, .bool false), (4, .int .i64 0), (6, .slice aX X.length cX)] ⟨rfl, rfl, rfl, rfl, rfl, trivial⟩ fun G23 => ?_
        refine wp_seq ?_
        refine k_reg ?_
        refine s_val hS14 rfl rfl (r_move rfl (.t rfl rfl)) ?_
        refine s_val hS14 rfl rfl (r_move rfl (.t rfl rfl)) ?_
        have hst : lv X * lv X ≤ lv A := root_stop hX0 rfl (by omega)
        refine s_call rfl rfl rfl (vs := [.slice aX X.length cX, .slice aX X.length cX]) ⟨(.t rfl rfl), (.t rfl rfl), trivial⟩ cb32 (mul_ow w12 aX cX X hR25 aX cX X hR25 (by first | omega | (simp only [List.length_cons, List.length_nil]; omega)) (by first | omega | (simp only [List.length_cons, List.length_nil]; omega))) ?_
        intro v14 w16 hp14
        obtain ⟨M, hp14, ⟨hMl, hMlim, hMv⟩⟩ := hp14
        obtain ⟨a7, c8, rfl, hR34, -, hT7⟩ := id hp14
        have hW66 := Ow.from_ hS14 hp14
        have hS18 := hS14.keep hT7
        have hR35 := hR25.below hT7.toBelow (Nat.le_refl _)
        have hW67 := hW33.later hT7.toBelow
        have hW68 := hW34.later hT7.toBelow
        have hW69 := hW35.later hT7.toBelow
        have hW70 := hW36.later hT7.toBelow
        have hW71 := hW37.later hT7.toBelow
        have hW72 := hW38.later hT7.toBelow
        have hW73 := hW39.later hT7.toBelow
        refine s_call rfl rfl rfl (vs := [.slice a7 M.length c8]) ⟨(.t rfl rfl), trivial⟩ cb28 (normal_fit w16 a7 c8 M hR34 (by omega) (by omega)) ?_
        intro v15 w17 hp15
        obtain ⟨hp15, hB10⟩ := hp15
        have hS19 := hS18.keep hB10
        replace hB10 := hB10.toBelow
        have hR36 := hR35.below hB10 (Nat.le_refl _)
        have hR37 := hR34.below hB10 (Nat.le_refl _)
        have hW74 := hW67.later hB10
        have hW75 := hW68.later hB10
        have hW76 := hW69.later hB10
        have hW77 := hW70.later hB10
        have hW78 := hW71.later hB10
        have hW79 := hW72.later hB10
        have hW80 := hW73.later hB10
        have hW81 := hW66.later hB10
        obtain ⟨SQ, X5, hE5, hNSQ, hlSQ, rfl⟩ := hp15
        have hnSQ := hNSQ.len
        have hR38 := Rd.front_eq hE5 hR37
        have hW82 := Ow.front_eq hE5 hW81
        refine s_val hS19 rfl rfl (r_move rfl (.t rfl rfl)) ?_
        refine s_val hS19 rfl rfl (r_extract rfl (.t rfl rfl) rfl) ?_
        refine s_val hS19 rfl rfl (r_extract rfl (.t rfl rfl) rfl) ?_
        refine s_val hS19 rfl rfl (r_assign rfl (.t rfl rfl)) ?_
        refine s_val hS19 rfl rfl (r_assign rfl (.t rfl rfl)) ?_
        refine wpList_nil ?_
        refine x_tn ?_
        refine k_reb [(0, .slice aA A.length cA), (2, .slice none 0 0), (3, .bool false), (4, .int .i64 0), (6, .slice aX X.length cX), (11, .slice a7 SQ.length SQ.length)] ⟨rfl, rfl, rfl, rfl, rfl, rfl, trivial⟩ fun G24 => ?_
        refine wp_seq ?_
        refine k_reg ?_
        refine s_val hS19 rfl rfl (r_move rfl (.t rfl rfl)) ?_
        refine s_val hS19 rfl rfl (r_move rfl (.t rfl rfl)) ?_
        refine s_val hS19 rfl rfl (r_move rfl (.t rfl rfl)) ?_
        refine s_call rfl rfl rfl (vs := [.slice a7 SQ.length SQ.length, .slice aA A.length cA]) ⟨(.t rfl rfl), (.t rfl rfl), trivial⟩ cb71 (cmp_ok w17 a7 SQ.length SQ hR38 aA cA A (rd_st hS19 hA (by simp)) hNSQ.nz nA.nz) ?_
        intro v16 w18 hp16
        obtain ⟨hp16, hB11⟩ := hp16
        have hS20 := hS19.keep hB11
        replace hB11 := hB11.toBelow
        have hR39 := hR36.below hB11 (Nat.le_refl _)
        have hR40 := hR38.below hB11 (Nat.le_refl _)
        have hW83 := hW74.later hB11
        have hW84 := hW75.later hB11
        have hW85 := hW76.later hB11
        have hW86 := hW77.later hB11
        have hW87 := hW78.later hB11
        have hW88 := hW79.later hB11
        have hW89 := hW80.later hB11
        have hW90 := hW81.later hB11
        have hW91 := hW82.later hB11
        rcases hp16 with ⟨hcs, rfl⟩ | ⟨hcs, rfl⟩ | ⟨hcs, rfl⟩
        · refine s_val hS20 rfl rfl (r_cmp_f rfl rfl (.t rfl rfl) .c (show ¬ ((-1) = 0) from by omega)) ?_
          refine s_val hS20 rfl rfl (r_assign rfl (.t rfl rfl)) ?_
          refine s_val hS20 rfl rfl (r_assign rfl (.t rfl rfl)) ?_
          refine s_val hS20 rfl rfl (r_assign rfl .c) ?_
          refine wpList_nil ?_
          refine x_tn ?_
          refine k_reb [(2, .slice aX X.length cX), (3, .bool false), (4, .int .i64 0)] ⟨rfl, rfl, rfl, trivial⟩ fun G25 => ?_
          refine wp_ret ?_
          refine k_ret3 Tryd.results66 rfl rfl rfl rfl rfl rfl ?_
          refine ⟨_, rfl, ?_⟩
          exact ⟨X, _, by rw [decide_eq_false (show ¬ lv X * lv X = lv A from by omega)], hW83, hNX, hst, hXr⟩
        · refine s_val hS20 rfl rfl (r_cmp_t rfl rfl (.t rfl rfl) .c (show 0 = 0 from by omega)) ?_
          refine s_val hS20 rfl rfl (r_assign rfl (.t rfl rfl)) ?_
          refine s_val hS20 rfl rfl (r_assign rfl (.t rfl rfl)) ?_
          refine s_val hS20 rfl rfl (r_assign rfl .c) ?_
          refine wpList_nil ?_
          refine x_tn ?_
          refine k_reb [(2, .slice aX X.length cX), (3, .bool true), (4, .int .i64 0)] ⟨rfl, rfl, rfl, trivial⟩ fun G26 => ?_
          refine wp_ret ?_
          refine k_ret3 Tryd.results66 rfl rfl rfl rfl rfl rfl ?_
          refine ⟨_, rfl, ?_⟩
          exact ⟨X, _, by rw [decide_eq_true (show lv X * lv X = lv A from by omega)], hW83, hNX, hst, hXr⟩
        · refine s_val hS20 rfl rfl (r_cmp_f rfl rfl (.t rfl rfl) .c (show ¬ (1 = 0) from by omega)) ?_
          refine s_val hS20 rfl rfl (r_assign rfl (.t rfl rfl)) ?_
          refine s_val hS20 rfl rfl (r_assign rfl (.t rfl rfl)) ?_
          refine s_val hS20 rfl rfl (r_assign rfl .c) ?_
          refine wpList_nil ?_
          refine x_tn ?_
          refine k_reb [(2, .slice aX X.length cX), (3, .bool false), (4, .int .i64 0)] ⟨rfl, rfl, rfl, trivial⟩ fun G27 => ?_
          refine wp_ret ?_
          refine k_ret3 Tryd.results66 rfl rfl rfl rfl rfl rfl ?_
          refine ⟨_, rfl, ?_⟩
          exact ⟨X, _, by rw [decide_eq_false (show ¬ lv X * lv X = lv A from by omega)], hW83, hNX, hst, hXr⟩

end Go.Proofs.YtnbklceenfjojaaDoor

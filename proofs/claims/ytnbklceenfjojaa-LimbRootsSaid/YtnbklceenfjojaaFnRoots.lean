/- Contracts of functions of the program, each walked once. -/
import Derived.Test.YtnbklceenfjojaaFnJ
import Derived.Test.YtnbklceenfjojaaKFits
namespace Go.Proofs.Ytnbklceenfjojaa
open Go Go.RowKit K
namespace FK
theorem mixed : Try.prog.follows .mixedOrders = true := by kernel_rfl
theorem agg25 : (match Try.prog.underlying 25 with | some (.struct _) | some (.array ..) => true | _ => false) = true := by kernel_rfl
theorem cb11 : callable Try.prog 11 = true := by kernel_rfl
theorem cb13 : callable Try.prog 13 = true := by kernel_rfl
theorem cb14 : callable Try.prog 14 = true := by kernel_rfl
theorem cb15 : callable Try.prog 15 = true := by kernel_rfl
theorem cb16 : callable Try.prog 16 = true := by kernel_rfl
theorem cb18 : callable Try.prog 18 = true := by kernel_rfl
theorem cb19 : callable Try.prog 19 = true := by kernel_rfl
theorem cb27 : callable Try.prog 27 = true := by kernel_rfl
theorem cb28 : callable Try.prog 28 = true := by kernel_rfl
theorem cb31 : callable Try.prog 31 = true := by kernel_rfl
theorem ti25 : (Try.prog.info? 25).map (fun i => (i.zero, i.size, i.bytes)) = some (some (.agg #[.slice none 0 0, .slice none 0 0]), 2, 48) := by kernel_rfl

end FK
open FK
attribute [local irreducible] Go.wpList Go.wpQuiet Go.wpStill Go.wpAny Go.Code.wp
set_option maxRecDepth 10000
set_option maxHeartbeats 8000000
set_option linter.unusedVariables false
set_option linter.unusedSimpArgs false
theorem LimbRoots_ok (w0 : World) (aL : Option Addr) (cL : Nat) (LL : List (Option Addr × Nat × List Nat)) (hL : RdS w0 aL LL) (vN : Value) :
    Calls Try.prog 8 #[.agg #[.slice aL LL.length cL, vN]] w0 (Ret fun v w' => v = .bool true ∧ St w0 [] [] w') := by
  refine k_enter (vs := [.agg #[.slice aL LL.length cL, vN]]) Try.func8 rfl Try.ntmps8 rfl ?_
  have hS := St.init w0
  have mL := hL.most
  refine wp_seq ?_
  refine k_reg ?_
  refine s_box rfl rfl rfl (.t rfl rfl) (cs := #[.slice aL LL.length cL, vN]) rfl hS fun blk1 w1 hb1 hB1 hS1 => ?_
  refine s_val hS1 rfl rfl (r_assign rfl .c) ?_
  refine wpList_nil ?_
  refine x_tn ?_
  refine k_reb [(1, .pointer (some ⟨blk1, 0, none⟩)), (2, .bool false)] ⟨rfl, rfl, trivial⟩ fun G1 => ?_
  refine wp_seq ?_
  refine k_reg ?_
  refine s_val hS1 rfl rfl (r_loadA rfl agg25 ti25 rfl (.t rfl rfl) (St.block (m := 0) rfl)) ?_
  refine s_call rfl rfl rfl (vs := [.agg #[.slice aL LL.length cL, vN], .int .i64 120]) ⟨(.t rfl rfl), .c, trivial⟩ cb11 (three_ok w1 aL cL LL (RdS.st hS1 hL (by intro x hx; cases hx)) vN 120 (by omega)) ?_
  rintro v1 w2 ⟨A, B, C, _, _, _, rfl, hp1, hp2, hp3, hNA, hNB, hNC, hmA, hmB, hmC⟩
  obtain ⟨a1, c1, rfl, hR1, -, hT1⟩ := id hp1
  have hW1 := Ow.from_ hS1 hp1
  have hS2 := hS1.keep hT1
  have hA1 := hp1.apart hS1 (m := 0) rfl
  obtain ⟨a2, c2, rfl, hR2, -, hT2⟩ := id hp2
  have hW2 := Ow.from_ hS1 hp2
  have hA2 := hp2.apart hS1 (m := 0) rfl
  obtain ⟨a3, c3, rfl, hR3, -, hT3⟩ := id hp3
  have hW3 := Ow.from_ hS1 hp3
  have hA3 := hp3.apart hS1 (m := 0) rfl
  have hnA := hNA.len
  have hbA := nm_bound hNA hmA
  have hnB := hNB.len
  have hbB := nm_bound hNB hmB
  have hnC := hNC.len
  have hbC := nm_bound hNC hmC
  refine s_val hS2 rfl rfl (r_move rfl (.t rfl rfl)) ?_
  refine s_val hS2 rfl rfl (r_extract rfl (.t rfl rfl) rfl) ?_
  refine s_val hS2 rfl rfl (r_extract rfl (.t rfl rfl) rfl) ?_
  refine s_val hS2 rfl rfl (r_extract rfl (.t rfl rfl) rfl) ?_
  refine s_val hS2 rfl rfl (r_assign rfl (.t rfl rfl)) ?_
  refine s_val hS2 rfl rfl (r_assign rfl (.t rfl rfl)) ?_
  refine s_val hS2 rfl rfl (r_assign rfl (.t rfl rfl)) ?_
  refine wpList_nil ?_
  refine x_tn ?_
  refine k_reb [(2, .bool false), (3, .slice a1 A.length c1), (4, .slice a2 B.length c2)] ⟨rfl, rfl, rfl, trivial⟩ fun G2 => ?_
  refine wp_seq ?_
  refine k_reg ?_
  refine s_call rfl rfl rfl (vs := [.int .u64 1]) ⟨.c, trivial⟩ cb18 (from_ok w2 1 (by omega)) ?_
  intro v2 w3 hp4
  obtain ⟨ONE, hp4, ⟨hNONE, hlONE⟩⟩ := hp4
  obtain ⟨a4, c4, rfl, hR4, -, hT4⟩ := id hp4
  have hW4 := Ow.from_ hS2 hp4
  have hS5 := hS2.keep hT4
  have hR5 := hR1.below hT4.toBelow (Nat.le_refl _)
  have hR6 := hR2.below hT4.toBelow (Nat.le_refl _)
  have hW5 := hW1.later hT4.toBelow
  have hW6 := hW2.later hT4.toBelow
  have hW7 := hW3.later hT4.toBelow
  have hA4 := hp4.apart hS2 (m := 0) rfl
  have hnONE := hNONE.len
  refine s_val hS5 rfl rfl (r_assign rfl (.t rfl rfl)) ?_
  refine wpList_nil ?_
  refine x_tn ?_
  refine k_reb [(2, .bool false), (3, .slice a1 A.length c1), (4, .slice a2 B.length c2), (6, .slice a4 ONE.length c4)] ⟨rfl, rfl, rfl, rfl, trivial⟩ fun G3 => ?_
  refine wp_seq ?_
  refine k_reg ?_
  refine s_val hS5 rfl rfl (r_move rfl (.t rfl rfl)) ?_
  refine s_call rfl rfl rfl (vs := [.slice a1 A.length c1]) ⟨(.t rfl rfl), trivial⟩ cb31 (Root_ok w3 a1 c1 A hR5 hNA) ?_
  rintro v3 w4 ⟨R1, _, rfl, hp5, hNR1, hstR1, hslR1⟩
  obtain ⟨a5, c5, rfl, hR7, -, hT5⟩ := id hp5
  have hW8 := Ow.from_ hS5 hp5
  have hS6 := hS5.keep hT5
  have hR8 := hR5.below hT5.toBelow (Nat.le_refl _)
  have hR9 := hR6.below hT5.toBelow (Nat.le_refl _)
  have hR10 := hR4.below hT5.toBelow (Nat.le_refl _)
  have hW9 := hW5.later hT5.toBelow
  have hW10 := hW6.later hT5.toBelow
  have hW11 := hW7.later hT5.toBelow
  have hW12 := hW4.later hT5.toBelow
  have hA5 := hp5.apart hS5 (m := 0) rfl
  have hnR1 := hNR1.len
  by_cases hexR1 : lv R1 * lv R1 = lv A
  · rw [decide_eq_true hexR1]
    refine s_val hS6 rfl rfl (r_move rfl (.t rfl rfl)) ?_
    refine s_val hS6 rfl rfl (r_extract rfl (.t rfl rfl) rfl) ?_
    refine s_val hS6 rfl rfl (r_extract rfl (.t rfl rfl) rfl) ?_
    refine s_val hS6 rfl rfl (r_extract rfl (.t rfl rfl) rfl) ?_
    refine s_val hS6 rfl rfl (r_assign rfl (.t rfl rfl)) ?_
    refine s_val hS6 rfl rfl (r_assign rfl (.t rfl rfl)) ?_
    refine s_val hS6 rfl rfl (r_assign rfl (.t rfl rfl)) ?_
    refine wpList_nil ?_
    refine x_tn ?_
    refine k_reb [(2, .bool false), (3, .slice a1 A.length c1), (4, .slice a2 B.length c2), (6, .slice a4 ONE.length c4), (7, .slice a5 R1.length c5), (8, .bool true), (9, .int .i64 0)] ⟨rfl, rfl, rfl, rfl, rfl, rfl, rfl, trivial⟩ fun G4 => ?_
    refine wp_seq ?_
    refine wp_seq ?_
    refine k_reg ?_
    refine s_val hS6 rfl rfl (r_move rfl (.t rfl rfl)) ?_
    refine s_call rfl rfl rfl (vs := [.int .i64 0]) ⟨(.t rfl rfl), trivial⟩ cb13 (num_ok w4 0) ?_
    rintro _ w4 ⟨rfl, rfl⟩
    refine s_val hS6 rfl rfl (r_cmp_f rfl rfl (.t rfl rfl) .c (show ¬ (¬ 0 = 0) from by omega)) ?_
    refine s_val hS6 rfl rfl (r_move rfl (.t rfl rfl)) ?_
    refine s_valg hS6 (wanted_of (j := 3) (b := false) (d := 27) rfl rfl rfl rfl) rfl (r_move rfl (.t rfl rfl)) ?_
    refine s_valg hS6 (wanted_of (j := 3) (b := false) (d := 27) rfl rfl rfl rfl) rfl (r_move rfl (.t rfl rfl)) ?_
    obtain ⟨f1, f2, f3, f4, f5⟩ := root_fits hbA hbB hstR1
    refine s_callg (wanted_of (j := 3) (b := false) (d := 27) rfl rfl rfl rfl) rfl rfl (vs := [.slice a5 R1.length c5, .slice a5 R1.length c5]) ⟨(.t rfl rfl), (.t rfl rfl), trivial⟩ cb19 (lmul_ok w4 a5 c5 R1 hR7 a5 c5 R1 hR7 hNR1 hNR1 (by (try simp only [hlONE, lv_nil, Nat.mul_zero, Nat.add_zero]) <;> (first | assumption | omega))) ?_
    intro v4 w5 hp6
    obtain ⟨N1, hp6, ⟨hNN1, hlN1⟩⟩ := hp6
    obtain ⟨a6, c6, rfl, hR11, -, hT6⟩ := id hp6
    have hW13 := Ow.from_ hS6 hp6
    have hS7 := hS6.keep hT6
    have hR12 := hR8.below hT6.toBelow (Nat.le_refl _)
    have hR13 := hR9.below hT6.toBelow (Nat.le_refl _)
    have hR14 := hR10.below hT6.toBelow (Nat.le_refl _)
    have hR15 := hR7.below hT6.toBelow (Nat.le_refl _)
    have hW14 := hW9.later hT6.toBelow
    have hW15 := hW10.later hT6.toBelow
    have hW16 := hW11.later hT6.toBelow
    have hW17 := hW12.later hT6.toBelow
    have hW18 := hW8.later hT6.toBelow
    have hA6 := hp6.apart hS6 (m := 0) rfl
    have hnN1 := hNN1.len
    refine s_valg hS7 (wanted_of (j := 3) (b := false) (d := 27) rfl rfl rfl rfl) rfl (r_move rfl (.t rfl rfl)) ?_
    refine s_callg (wanted_of (j := 3) (b := false) (d := 27) rfl rfl rfl rfl) rfl rfl (vs := [.slice a6 N1.length c6, .slice a1 A.length c1]) ⟨(.t rfl rfl), (.t rfl rfl), trivial⟩ cb28 (Cmp_ok w5 a6 c6 N1 hR11 a1 c1 A hR12 hNN1 hNA) ?_
    rintro _ w6 ⟨hp7, hB2⟩
    have hS8 := hS7.keep hB2
    replace hB2 := hB2.toBelow
    have hR16 := hR12.below hB2 (Nat.le_refl _)
    have hR17 := hR13.below hB2 (Nat.le_refl _)
    have hR18 := hR14.below hB2 (Nat.le_refl _)
    have hR19 := hR15.below hB2 (Nat.le_refl _)
    have hR20 := hR11.below hB2 (Nat.le_refl _)
    have hW19 := hW14.later hB2
    have hW20 := hW15.later hB2
    have hW21 := hW16.later hB2
    have hW22 := hW17.later hB2
    have hW23 := hW18.later hB2
    have hW24 := hW13.later hB2
    rcases hp7 with ⟨hc1, rfl⟩ | ⟨hc1, rfl⟩ | ⟨hc1, rfl⟩
    · refine s_valg hS8 (wanted_of (j := 3) (b := false) (d := 27) rfl rfl rfl rfl) rfl (r_cmp_f rfl rfl (.t rfl rfl) .c (show ¬ ((-1) > 0) from by omega)) ?_
      refine s_val hS8 rfl rfl (r_pick rfl (.t rfl rfl) (.t rfl rfl)) ?_
      refine s_val hS8 rfl rfl (r_move rfl (.t rfl rfl)) ?_
      refine s_valg hS8 (wanted_of (j := 11) (b := false) (d := 35) rfl rfl rfl rfl) rfl (r_move rfl (.t rfl rfl)) ?_
      refine s_valg hS8 (wanted_of (j := 11) (b := false) (d := 35) rfl rfl rfl rfl) rfl (r_move rfl (.t rfl rfl)) ?_
      refine s_callg (wanted_of (j := 11) (b := false) (d := 35) rfl rfl rfl rfl) rfl rfl (vs := [.slice a5 R1.length c5, .slice a4 ONE.length c4]) ⟨(.t rfl rfl), (.t rfl rfl), trivial⟩ cb15 (ladd_ok w6 a5 c5 R1 hR19 a4 c4 ONE hR18 hNR1 hNONE (by (try simp only [hlONE, hlN1, lv_nil, Nat.mul_zero, Nat.add_zero]) <;> (first | assumption | omega))) ?_
      intro v5 w7 hp8
      obtain ⟨N2, hp8, ⟨hNN2, hlN2⟩⟩ := hp8
      obtain ⟨a7, c7, rfl, hR21, -, hT7⟩ := id hp8
      have hW25 := Ow.from_ hS8 hp8
      have hS9 := hS8.keep hT7
      have hR22 := hR16.below hT7.toBelow (Nat.le_refl _)
      have hR23 := hR17.below hT7.toBelow (Nat.le_refl _)
      have hR24 := hR18.below hT7.toBelow (Nat.le_refl _)
      have hR25 := hR19.below hT7.toBelow (Nat.le_refl _)
      have hR26 := hR20.below hT7.toBelow (Nat.le_refl _)
      have hW26 := hW19.later hT7.toBelow
      have hW27 := hW20.later hT7.toBelow
      have hW28 := hW21.later hT7.toBelow
      have hW29 := hW22.later hT7.toBelow
      have hW30 := hW23.later hT7.toBelow
      have hW31 := hW24.later hT7.toBelow
      have hA7 := hp8.apart hS8 (m := 0) rfl
      have hnN2 := hNN2.len
      refine s_valg hS9 (wanted_of (j := 11) (b := false) (d := 35) rfl rfl rfl rfl) rfl (r_move rfl (.t rfl rfl)) ?_
      refine s_valg hS9 (wanted_of (j := 11) (b := false) (d := 35) rfl rfl rfl rfl) rfl (r_move rfl (.t rfl rfl)) ?_
      refine s_callg (wanted_of (j := 11) (b := false) (d := 35) rfl rfl rfl rfl) rfl rfl (vs := [.slice a5 R1.length c5, .slice a4 ONE.length c4]) ⟨(.t rfl rfl), (.t rfl rfl), trivial⟩ cb15 (ladd_ok w7 a5 c5 R1 hR25 a4 c4 ONE hR24 hNR1 hNONE (by (try simp only [hlONE, hlN1, hlN2, lv_nil, Nat.mul_zero, Nat.add_zero]) <;> (first | assumption | omega))) ?_
      intro v6 w8 hp9
      obtain ⟨N3, hp9, ⟨hNN3, hlN3⟩⟩ := hp9
      obtain ⟨a8, c8, rfl, hR27, -, hT8⟩ := id hp9
      have hW32 := Ow.from_ hS9 hp9
      have hS10 := hS9.keep hT8
      have hR28 := hR22.below hT8.toBelow (Nat.le_refl _)
      have hR29 := hR23.below hT8.toBelow (Nat.le_refl _)
      have hR30 := hR24.below hT8.toBelow (Nat.le_refl _)
      have hR31 := hR25.below hT8.toBelow (Nat.le_refl _)
      have hR32 := hR26.below hT8.toBelow (Nat.le_refl _)
      have hR33 := hR21.below hT8.toBelow (Nat.le_refl _)
      have hW33 := hW26.later hT8.toBelow
      have hW34 := hW27.later hT8.toBelow
      have hW35 := hW28.later hT8.toBelow
      have hW36 := hW29.later hT8.toBelow
      have hW37 := hW30.later hT8.toBelow
      have hW38 := hW31.later hT8.toBelow
      have hW39 := hW25.later hT8.toBelow
      have hA8 := hp9.apart hS9 (m := 0) rfl
      have hnN3 := hNN3.len
      refine s_callg (wanted_of (j := 11) (b := false) (d := 35) rfl rfl rfl rfl) rfl rfl (vs := [.slice a7 N2.length c7, .slice a8 N3.length c8]) ⟨(.t rfl rfl), (.t rfl rfl), trivial⟩ cb19 (lmul_ok w8 a7 c7 N2 hR33 a8 c8 N3 hR27 hNN2 hNN3 (by (try simp only [hlONE, hlN1, hlN2, hlN3, lv_nil, Nat.mul_zero, Nat.add_zero]) <;> (first | assumption | omega))) ?_
      intro v7 w9 hp10
      obtain ⟨N4, hp10, ⟨hNN4, hlN4⟩⟩ := hp10
      obtain ⟨a9, c9, rfl, hR34, -, hT9⟩ := id hp10
      have hW40 := Ow.from_ hS10 hp10
      have hS11 := hS10.keep hT9
      have hR35 := hR28.below hT9.toBelow (Nat.le_refl _)
      have hR36 := hR29.below hT9.toBelow (Nat.le_refl _)
      have hR37 := hR30.below hT9.toBelow (Nat.le_refl _)
      have hR38 := hR31.below hT9.toBelow (Nat.le_refl _)
      have hR39 := hR32.below hT9.toBelow (Nat.le_refl _)
      have hR40 := hR33.below hT9.toBelow (Nat.le_refl _)
      have hR41 := hR27.below hT9.toBelow (Nat.le_refl _)
      have hW41 := hW33.later hT9.toBelow
      have hW42 := hW34.later hT9.toBelow
      have hW43 := hW35.later hT9.toBelow
      have hW44 := hW36.later hT9.toBelow
      have hW45 := hW37.later hT9.toBelow
      have hW46 := hW38.later hT9.toBelow
      have hW47 := hW39.later hT9.toBelow
      have hW48 := hW32.later hT9.toBelow
      have hA9 := hp10.apart hS10 (m := 0) rfl
      have hnN4 := hNN4.len
      refine s_valg hS11 (wanted_of (j := 11) (b := false) (d := 35) rfl rfl rfl rfl) rfl (r_move rfl (.t rfl rfl)) ?_
      refine s_callg (wanted_of (j := 11) (b := false) (d := 35) rfl rfl rfl rfl) rfl rfl (vs := [.slice a9 N4.length c9, .slice a1 A.length c1]) ⟨(.t rfl rfl), (.t rfl rfl), trivial⟩ cb28 (Cmp_ok w9 a9 c9 N4 hR34 a1 c1 A hR35 hNN4 hNA) ?_
      rintro _ w10 ⟨hp11, hB3⟩
      have hS12 := hS11.keep hB3
      replace hB3 := hB3.toBelow
      have hR42 := hR35.below hB3 (Nat.le_refl _)
      have hR43 := hR36.below hB3 (Nat.le_refl _)
      have hR44 := hR37.below hB3 (Nat.le_refl _)
      have hR45 := hR38.below hB3 (Nat.le_refl _)
      have hR46 := hR39.below hB3 (Nat.le_refl _)
      have hR47 := hR40.below hB3 (Nat.le_refl _)
      have hR48 := hR41.below hB3 (Nat.le_refl _)
      have hR49 := hR34.below hB3 (Nat.le_refl _)
      have hW49 := hW41.later hB3
      have hW50 := hW42.later hB3
      have hW51 := hW43.later hB3
      have hW52 := hW44.later hB3
      have hW53 := hW45.later hB3
      have hW54 := hW46.later hB3
      have hW55 := hW47.later hB3
      have hW56 := hW48.later hB3
      have hW57 := hW40.later hB3
      rcases hp11 with ⟨hc2, rfl⟩ | ⟨hc2, rfl⟩ | ⟨hc2, rfl⟩
      · exfalso; (try simp only [hlONE, hlN1, hlN2, hlN3, hlN4] at hc2); omega
      · exfalso; (try simp only [hlONE, hlN1, hlN2, hlN3, hlN4] at hc2); omega
      · refine s_valg hS12 (wanted_of (j := 11) (b := false) (d := 35) rfl rfl rfl rfl) rfl (r_cmp_f rfl rfl (.t rfl rfl) .c (show ¬ (1 ≤ 0) from by omega)) ?_
        refine s_val hS12 rfl rfl (r_pick rfl (.t rfl rfl) (.t rfl rfl)) ?_
        refine s_val hS12 rfl rfl (r_move rfl (.t rfl rfl)) ?_
        refine s_valg hS12 (wanted_of (j := 23) (b := false) (d := 47) rfl rfl rfl rfl) rfl (r_move rfl (.t rfl rfl)) ?_
        refine s_valg hS12 (wanted_of (j := 23) (b := false) (d := 47) rfl rfl rfl rfl) rfl (r_move rfl (.t rfl rfl)) ?_
        refine s_valg hS12 (wanted_of (j := 23) (b := false) (d := 47) rfl rfl rfl rfl) rfl (r_move rfl (.t rfl rfl)) ?_
        refine s_callg (wanted_of (j := 23) (b := false) (d := 47) rfl rfl rfl rfl) rfl rfl (vs := [.slice a5 R1.length c5, .slice a5 R1.length c5]) ⟨(.t rfl rfl), (.t rfl rfl), trivial⟩ cb19 (lmul_ok w10 a5 c5 R1 hR45 a5 c5 R1 hR45 hNR1 hNR1 (by (try simp only [hlONE, hlN1, hlN2, hlN3, hlN4, lv_nil, Nat.mul_zero, Nat.add_zero]) <;> (first | assumption | omega))) ?_
        intro v8 w11 hp12
        obtain ⟨N5, hp12, ⟨hNN5, hlN5⟩⟩ := hp12
        obtain ⟨a10, c10, rfl, hR50, -, hT10⟩ := id hp12
        have hW58 := Ow.from_ hS12 hp12
        have hS13 := hS12.keep hT10
        have hR51 := hR42.below hT10.toBelow (Nat.le_refl _)
        have hR52 := hR43.below hT10.toBelow (Nat.le_refl _)
        have hR53 := hR44.below hT10.toBelow (Nat.le_refl _)
        have hR54 := hR45.below hT10.toBelow (Nat.le_refl _)
        have hR55 := hR46.below hT10.toBelow (Nat.le_refl _)
        have hR56 := hR47.below hT10.toBelow (Nat.le_refl _)
        have hR57 := hR48.below hT10.toBelow (Nat.le_refl _)
        have hR58 := hR49.below hT10.toBelow (Nat.le_refl _)
        have hW59 := hW49.later hT10.toBelow
        have hW60 := hW50.later hT10.toBelow
        have hW61 := hW51.later hT10.toBelow
        have hW62 := hW52.later hT10.toBelow
        have hW63 := hW53.later hT10.toBelow
        have hW64 := hW54.later hT10.toBelow
        have hW65 := hW55.later hT10.toBelow
        have hW66 := hW56.later hT10.toBelow
        have hW67 := hW57.later hT10.toBelow
        have hA10 := hp12.apart hS12 (m := 0) rfl
        have hnN5 := hNN5.len
        refine s_valg hS13 (wanted_of (j := 23) (b := false) (d := 47) rfl rfl rfl rfl) rfl (r_move rfl (.t rfl rfl)) ?_
        refine s_callg (wanted_of (j := 23) (b := false) (d := 47) rfl rfl rfl rfl) rfl rfl (vs := [.slice a10 N5.length c10, .slice a1 A.length c1]) ⟨(.t rfl rfl), (.t rfl rfl), trivial⟩ cb14 (eq_ok w11 a10 c10 N5 hR50 a1 c1 A hR51 hNN5 hNA) ?_
        rintro _ w12 ⟨⟨hc3, rfl⟩ | ⟨hc3, rfl⟩, hB4⟩
        rotate_left
        · exact absurd ((by simp only [hlONE, hlN1, hlN2, hlN3, hlN4, hlN5]; omega)) hc3
        have hS14 := hS13.keep hB4
        replace hB4 := hB4.toBelow
        have hR59 := hR51.below hB4 (Nat.le_refl _)
        have hR60 := hR52.below hB4 (Nat.le_refl _)
        have hR61 := hR53.below hB4 (Nat.le_refl _)
        have hR62 := hR54.below hB4 (Nat.le_refl _)
        have hR63 := hR55.below hB4 (Nat.le_refl _)
        have hR64 := hR56.below hB4 (Nat.le_refl _)
        have hR65 := hR57.below hB4 (Nat.le_refl _)
        have hR66 := hR58.below hB4 (Nat.le_refl _)
        have hR67 := hR50.below hB4 (Nat.le_refl _)
        have hW68 := hW59.later hB4
        have hW69 := hW60.later hB4
        have hW70 := hW61.later hB4
        have hW71 := hW62.later hB4
        have hW72 := hW63.later hB4
        have hW73 := hW64.later hB4
        have hW74 := hW65.later hB4
        have hW75 := hW66.later hB4
        have hW76 := hW67.later hB4
        have hW77 := hW58.later hB4
        refine s_valg hS14 (wanted_of (j := 23) (b := false) (d := 47) rfl rfl rfl rfl) rfl (r_neb rfl Try.underlying4 (.t rfl rfl) (.t rfl rfl)) ?_
        refine s_val hS14 rfl rfl (r_pick rfl (.t rfl rfl) (.t rfl rfl)) ?_
        refine wpList_nil ?_
        refine x_tn ?_
        refine k_reb [(2, .bool false), (4, .slice a2 B.length c2), (6, .slice a4 ONE.length c4), (7, .slice a5 R1.length c5), (8, .bool true), (9, .int .i64 0), (55, .bool false)] ⟨rfl, rfl, rfl, rfl, rfl, rfl, rfl, trivial⟩ fun G5 => ?_
        refine k_f (.t rfl rfl) ?_
        refine wp_skip ?_
        refine x_tn ?_
        refine k_reb [(2, .bool false), (4, .slice a2 B.length c2), (6, .slice a4 ONE.length c4), (7, .slice a5 R1.length c5), (8, .bool true), (9, .int .i64 0)] ⟨rfl, rfl, rfl, rfl, rfl, rfl, trivial⟩ fun G6 => ?_
        refine wp_seq ?_
        refine k_reg ?_
        refine s_val hS14 rfl rfl (r_move rfl (.t rfl rfl)) ?_
        refine s_val hS14 rfl rfl (r_move rfl (.t rfl rfl)) ?_
        refine s_call rfl rfl rfl (vs := [.slice a2 B.length c2, .slice a2 B.length c2]) ⟨(.t rfl rfl), (.t rfl rfl), trivial⟩ cb19 (lmul_ok w12 a2 c2 B hR60 a2 c2 B hR60 hNB hNB (by (try simp only [hlONE, hlN1, hlN2, hlN3, hlN4, hlN5, lv_nil, Nat.mul_zero, Nat.add_zero]) <;> (first | assumption | omega))) ?_
        intro v9 w13 hp13
        obtain ⟨SQ, hp13, ⟨hNSQ, hlSQ⟩⟩ := hp13
        obtain ⟨a11, c11, rfl, hR68, -, hT11⟩ := id hp13
        have hW78 := Ow.from_ hS14 hp13
        have hS15 := hS14.keep hT11
        have hR69 := hR60.below hT11.toBelow (Nat.le_refl _)
        have hR70 := hR61.below hT11.toBelow (Nat.le_refl _)
        have hR71 := hR62.below hT11.toBelow (Nat.le_refl _)
        have hW79 := hW68.later hT11.toBelow
        have hW80 := hW69.later hT11.toBelow
        have hW81 := hW70.later hT11.toBelow
        have hW82 := hW71.later hT11.toBelow
        have hW83 := hW72.later hT11.toBelow
        have hW84 := hW73.later hT11.toBelow
        have hW85 := hW74.later hT11.toBelow
        have hW86 := hW75.later hT11.toBelow
        have hW87 := hW76.later hT11.toBelow
        have hW88 := hW77.later hT11.toBelow
        have hA11 := hp13.apart hS14 (m := 0) rfl
        have hnSQ := hNSQ.len
        refine s_val hS15 rfl rfl (r_assign rfl (.t rfl rfl)) ?_
        refine wpList_nil ?_
        refine x_tn ?_
        refine k_reb [(2, .bool false), (4, .slice a2 B.length c2), (6, .slice a4 ONE.length c4), (7, .slice a5 R1.length c5), (8, .bool true), (9, .int .i64 0), (10, .slice a11 SQ.length c11)] ⟨rfl, rfl, rfl, rfl, rfl, rfl, rfl, trivial⟩ fun G7 => ?_
        refine wp_seq ?_
        refine k_reg ?_
        refine s_val hS15 rfl rfl (r_move rfl (.t rfl rfl)) ?_
        refine s_call rfl rfl rfl (vs := [.slice a11 SQ.length c11]) ⟨(.t rfl rfl), trivial⟩ cb31 (Root_ok w13 a11 c11 SQ hR68 hNSQ) ?_
        rintro v10 w14 ⟨R2, _, rfl, hp14, hNR2, hstR2, hslR2⟩
        obtain ⟨a12, c12, rfl, hR72, -, hT12⟩ := id hp14
        have hW89 := Ow.from_ hS15 hp14
        have hS16 := hS15.keep hT12
        have hR73 := hR69.below hT12.toBelow (Nat.le_refl _)
        have hR74 := hR70.below hT12.toBelow (Nat.le_refl _)
        have hR75 := hR71.below hT12.toBelow (Nat.le_refl _)
        have hR76 := hR68.below hT12.toBelow (Nat.le_refl _)
        have hW90 := hW79.later hT12.toBelow
        have hW91 := hW80.later hT12.toBelow
        have hW92 := hW81.later hT12.toBelow
        have hW93 := hW82.later hT12.toBelow
        have hW94 := hW83.later hT12.toBelow
        have hW95 := hW84.later hT12.toBelow
        have hW96 := hW85.later hT12.toBelow
        have hW97 := hW86.later hT12.toBelow
        have hW98 := hW87.later hT12.toBelow
        have hW99 := hW88.later hT12.toBelow
        have hW100 := hW78.later hT12.toBelow
        have hA12 := hp14.apart hS15 (m := 0) rfl
        have hnR2 := hNR2.len
        have hexR2 : decide (lv R2 * lv R2 = lv SQ) = true := decide_eq_true (by have h8 := root_sq (b := lv B) (r := lv R2) (by rw [← hlSQ]; exact hstR2) (by rw [← hlSQ]; exact hslR2); rw [h8, hlSQ])
        rw [hexR2]
        refine s_val hS16 rfl rfl (r_move rfl (.t rfl rfl)) ?_
        refine s_val hS16 rfl rfl (r_extract rfl (.t rfl rfl) rfl) ?_
        refine s_val hS16 rfl rfl (r_extract rfl (.t rfl rfl) rfl) ?_
        refine s_val hS16 rfl rfl (r_extract rfl (.t rfl rfl) rfl) ?_
        refine s_val hS16 rfl rfl (r_assign rfl (.t rfl rfl)) ?_
        refine s_val hS16 rfl rfl (r_assign rfl (.t rfl rfl)) ?_
        refine s_val hS16 rfl rfl (r_assign rfl (.t rfl rfl)) ?_
        refine wpList_nil ?_
        refine x_tn ?_
        refine k_reb [(2, .bool false), (4, .slice a2 B.length c2), (6, .slice a4 ONE.length c4), (7, .slice a12 R2.length c12), (8, .bool true), (9, .int .i64 0), (10, .slice a11 SQ.length c11)] ⟨rfl, rfl, rfl, rfl, rfl, rfl, rfl, trivial⟩ fun G8 => ?_
        refine wp_seq ?_
        refine wp_seq ?_
        refine k_reg ?_
        refine s_val hS16 rfl rfl (r_move rfl (.t rfl rfl)) ?_
        refine s_call rfl rfl rfl (vs := [.int .i64 0]) ⟨(.t rfl rfl), trivial⟩ cb13 (num_ok w14 0) ?_
        rintro _ w14 ⟨rfl, rfl⟩
        refine s_val hS16 rfl rfl (r_cmp_f rfl rfl (.t rfl rfl) .c (show ¬ (¬ 0 = 0) from by omega)) ?_
        refine s_val hS16 rfl rfl (r_move rfl (.t rfl rfl)) ?_
        refine s_valg hS16 (wanted_of (j := 3) (b := false) (d := 68) rfl rfl rfl rfl) rfl (r_move rfl (.t rfl rfl)) ?_
        refine s_valg hS16 (wanted_of (j := 3) (b := false) (d := 68) rfl rfl rfl rfl) rfl (r_lnot rfl (.t rfl rfl)) ?_
        refine s_val hS16 rfl rfl (r_pick rfl (.t rfl rfl) (.t rfl rfl)) ?_
        refine s_val hS16 rfl rfl (r_move rfl (.t rfl rfl)) ?_
        refine s_valg hS16 (wanted_of (j := 7) (b := false) (d := 72) rfl rfl rfl rfl) rfl (r_move rfl (.t rfl rfl)) ?_
        refine s_valg hS16 (wanted_of (j := 7) (b := false) (d := 72) rfl rfl rfl rfl) rfl (r_move rfl (.t rfl rfl)) ?_
        refine s_callg (wanted_of (j := 7) (b := false) (d := 72) rfl rfl rfl rfl) rfl rfl (vs := [.slice a12 R2.length c12, .slice a2 B.length c2]) ⟨(.t rfl rfl), (.t rfl rfl), trivial⟩ cb14 (eq_ok w14 a12 c12 R2 hR72 a2 c2 B hR73 hNR2 hNB) ?_
        rintro _ w15 ⟨⟨hc4, rfl⟩ | ⟨hc4, rfl⟩, hB5⟩
        rotate_left
        · exact absurd ((root_sq (by rw [← hlSQ]; exact hstR2) (by rw [← hlSQ]; exact hslR2))) hc4
        have hS17 := hS16.keep hB5
        replace hB5 := hB5.toBelow
        have hR77 := hR73.below hB5 (Nat.le_refl _)
        have hR78 := hR74.below hB5 (Nat.le_refl _)
        have hR79 := hR72.below hB5 (Nat.le_refl _)
        have hR80 := hR76.below hB5 (Nat.le_refl _)
        have hW101 := hW90.later hB5
        have hW102 := hW91.later hB5
        have hW103 := hW92.later hB5
        have hW104 := hW93.later hB5
        have hW105 := hW94.later hB5
        have hW106 := hW95.later hB5
        have hW107 := hW96.later hB5
        have hW108 := hW97.later hB5
        have hW109 := hW98.later hB5
        have hW110 := hW99.later hB5
        have hW111 := hW100.later hB5
        have hW112 := hW89.later hB5
        refine s_valg hS17 (wanted_of (j := 7) (b := false) (d := 72) rfl rfl rfl rfl) rfl (r_lnot rfl (.t rfl rfl)) ?_
        refine s_val hS17 rfl rfl (r_pick rfl (.t rfl rfl) (.t rfl rfl)) ?_
        refine wpList_nil ?_
        refine x_tn ?_
        refine k_reb [(2, .bool false), (4, .slice a2 B.length c2), (6, .slice a4 ONE.length c4), (7, .slice a12 R2.length c12), (8, .bool true), (9, .int .i64 0), (10, .slice a11 SQ.length c11), (77, .bool false)] ⟨rfl, rfl, rfl, rfl, rfl, rfl, rfl, rfl, trivial⟩ fun G9 => ?_
        refine k_f (.t rfl rfl) ?_
        refine wp_skip ?_
        refine x_tn ?_
        refine k_reb [(2, .bool false), (4, .slice a2 B.length c2), (6, .slice a4 ONE.length c4), (7, .slice a12 R2.length c12), (8, .bool true), (9, .int .i64 0), (10, .slice a11 SQ.length c11)] ⟨rfl, rfl, rfl, rfl, rfl, rfl, rfl, trivial⟩ fun G10 => ?_
        refine wp_seq ?_
        refine wp_seq ?_
        refine k_reg ?_
        refine s_val hS17 rfl rfl (r_move rfl (.t rfl rfl)) ?_
        refine s_val hS17 rfl rfl (r_len rfl rfl Try.underlying27 (.t rfl rfl)) ?_
        by_cases c13 : B.length > 0
        · have hB0 := lv_pos hNB.nz (by omega)
          have hBB : 0 < lv B * lv B := Nat.mul_pos hB0 hB0
          refine s_val hS17 rfl rfl (r_cmp_t rfl rfl (.t rfl rfl) .c (show ((B.length : Nat) : Int) > 0 from by omega)) ?_
          refine wpList_nil ?_
          refine x_tn ?_
          refine k_reb [(2, .bool false), (4, .slice a2 B.length c2), (6, .slice a4 ONE.length c4), (7, .slice a12 R2.length c12), (8, .bool true), (9, .int .i64 0), (10, .slice a11 SQ.length c11), (80, .bool true)] ⟨rfl, rfl, rfl, rfl, rfl, rfl, rfl, rfl, trivial⟩ fun G11 => ?_
          refine k_t (.t rfl rfl) ?_
          refine wp_seq ?_
          refine k_reg ?_
          refine s_val hS17 rfl rfl (r_move rfl (.t rfl rfl)) ?_
          refine s_val hS17 rfl rfl (r_move rfl (.t rfl rfl)) ?_
          refine s_call rfl rfl rfl (vs := [.slice a11 SQ.length c11, .slice a4 ONE.length c4]) ⟨(.t rfl rfl), (.t rfl rfl), trivial⟩ cb27 (lsub_ok w15 a11 c11 SQ hR80 a4 c4 ONE hR78 hNSQ hNONE (by (try simp only [hlONE, hlN1, hlN2, hlN3, hlN4, hlN5, hlSQ, lv_nil, Nat.mul_zero, Nat.add_zero]) <;> (first | assumption | omega))) ?_
          intro v11 w16 hp15
          obtain ⟨SM, hp15, ⟨hNSM, hlSM⟩⟩ := hp15
          obtain ⟨a13, c14, rfl, hR81, -, hT13⟩ := id hp15
          have hW113 := Ow.from_ hS17 hp15
          have hS18 := hS17.keep hT13
          have hR82 := hR77.below hT13.toBelow (Nat.le_refl _)
          have hR83 := hR78.below hT13.toBelow (Nat.le_refl _)
          have hR84 := hR79.below hT13.toBelow (Nat.le_refl _)
          have hR85 := hR80.below hT13.toBelow (Nat.le_refl _)
          have hW114 := hW101.later hT13.toBelow
          have hW115 := hW102.later hT13.toBelow
          have hW116 := hW103.later hT13.toBelow
          have hW117 := hW104.later hT13.toBelow
          have hW118 := hW105.later hT13.toBelow
          have hW119 := hW106.later hT13.toBelow
          have hW120 := hW107.later hT13.toBelow
          have hW121 := hW108.later hT13.toBelow
          have hW122 := hW109.later hT13.toBelow
          have hW123 := hW110.later hT13.toBelow
          have hW124 := hW111.later hT13.toBelow
          have hW125 := hW112.later hT13.toBelow
          have hA13 := hp15.apart hS17 (m := 0) rfl
          have hnSM := hNSM.len
          refine s_call rfl rfl rfl (vs := [.slice a13 SM.length c14]) ⟨(.t rfl rfl), trivial⟩ cb31 (Root_ok w16 a13 c14 SM hR81 hNSM) ?_
          rintro v12 w17 ⟨R3, _, rfl, hp16, hNR3, hstR3, hslR3⟩
          obtain ⟨a14, c15, rfl, hR86, -, hT14⟩ := id hp16
          have hW126 := Ow.from_ hS18 hp16
          have hS19 := hS18.keep hT14
          have hR87 := hR82.below hT14.toBelow (Nat.le_refl _)
          have hR88 := hR83.below hT14.toBelow (Nat.le_refl _)
          have hR89 := hR84.below hT14.toBelow (Nat.le_refl _)
          have hR90 := hR85.below hT14.toBelow (Nat.le_refl _)
          have hR91 := hR81.below hT14.toBelow (Nat.le_refl _)
          have hW127 := hW114.later hT14.toBelow
          have hW128 := hW115.later hT14.toBelow
          have hW129 := hW116.later hT14.toBelow
          have hW130 := hW117.later hT14.toBelow
          have hW131 := hW118.later hT14.toBelow
          have hW132 := hW119.later hT14.toBelow
          have hW133 := hW120.later hT14.toBelow
          have hW134 := hW121.later hT14.toBelow
          have hW135 := hW122.later hT14.toBelow
          have hW136 := hW123.later hT14.toBelow
          have hW137 := hW124.later hT14.toBelow
          have hW138 := hW125.later hT14.toBelow
          have hW139 := hW113.later hT14.toBelow
          have hA14 := hp16.apart hS18 (m := 0) rfl
          have hnR3 := hNR3.len
          by_cases hexR3 : lv R3 * lv R3 = lv SM
          · rw [decide_eq_true hexR3]
            refine s_val hS19 rfl rfl (r_move rfl (.t rfl rfl)) ?_
            refine s_val hS19 rfl rfl (r_extract rfl (.t rfl rfl) rfl) ?_
            refine s_val hS19 rfl rfl (r_extract rfl (.t rfl rfl) rfl) ?_
            refine s_val hS19 rfl rfl (r_extract rfl (.t rfl rfl) rfl) ?_
            refine s_val hS19 rfl rfl (r_assign rfl (.t rfl rfl)) ?_
            refine s_val hS19 rfl rfl (r_assign rfl (.t rfl rfl)) ?_
            refine s_val hS19 rfl rfl (r_assign rfl (.t rfl rfl)) ?_
            refine wpList_nil ?_
            refine x_tn ?_
            refine k_reb [(2, .bool false), (4, .slice a2 B.length c2), (6, .slice a4 ONE.length c4), (7, .slice a14 R3.length c15), (8, .bool true), (9, .int .i64 0), (10, .slice a11 SQ.length c11)] ⟨rfl, rfl, rfl, rfl, rfl, rfl, rfl, trivial⟩ fun G12 => ?_
            refine wp_seq ?_
            refine wp_seq ?_
            refine k_reg ?_
            refine s_val hS19 rfl rfl (r_move rfl (.t rfl rfl)) ?_
            refine s_call rfl rfl rfl (vs := [.int .i64 0]) ⟨(.t rfl rfl), trivial⟩ cb13 (num_ok w17 0) ?_
            rintro _ w17 ⟨rfl, rfl⟩
            refine s_val hS19 rfl rfl (r_cmp_f rfl rfl (.t rfl rfl) .c (show ¬ (¬ 0 = 0) from by omega)) ?_
            refine s_val hS19 rfl rfl (r_move rfl (.t rfl rfl)) ?_
            refine s_valg hS19 (wanted_of (j := 3) (b := false) (d := 92) rfl rfl rfl rfl) rfl (r_move rfl (.t rfl rfl)) ?_
            refine s_valg hS19 (wanted_of (j := 3) (b := false) (d := 92) rfl rfl rfl rfl) rfl (r_move rfl (.t rfl rfl)) ?_
            refine s_valg hS19 (wanted_of (j := 3) (b := false) (d := 92) rfl rfl rfl rfl) rfl (r_move rfl (.t rfl rfl)) ?_
            refine s_callg (wanted_of (j := 3) (b := false) (d := 92) rfl rfl rfl rfl) rfl rfl (vs := [.slice a2 B.length c2, .slice a4 ONE.length c4]) ⟨(.t rfl rfl), (.t rfl rfl), trivial⟩ cb27 (lsub_ok w17 a2 c2 B hR87 a4 c4 ONE hR88 hNB hNONE (by (try simp only [hlONE, hlN1, hlN2, hlN3, hlN4, hlN5, hlSQ, hlSM, lv_nil, Nat.mul_zero, Nat.add_zero]) <;> (first | assumption | omega))) ?_
            intro v13 w18 hp17
            obtain ⟨N6, hp17, ⟨hNN6, hlN6⟩⟩ := hp17
            obtain ⟨a15, c16, rfl, hR92, -, hT15⟩ := id hp17
            have hW140 := Ow.from_ hS19 hp17
            have hS20 := hS19.keep hT15
            have hR93 := hR87.below hT15.toBelow (Nat.le_refl _)
            have hR94 := hR88.below hT15.toBelow (Nat.le_refl _)
            have hR95 := hR86.below hT15.toBelow (Nat.le_refl _)
            have hR96 := hR90.below hT15.toBelow (Nat.le_refl _)
            have hW141 := hW127.later hT15.toBelow
            have hW142 := hW128.later hT15.toBelow
            have hW143 := hW129.later hT15.toBelow
            have hW144 := hW130.later hT15.toBelow
            have hW145 := hW131.later hT15.toBelow
            have hW146 := hW132.later hT15.toBelow
            have hW147 := hW133.later hT15.toBelow
            have hW148 := hW134.later hT15.toBelow
            have hW149 := hW135.later hT15.toBelow
            have hW150 := hW136.later hT15.toBelow
            have hW151 := hW137.later hT15.toBelow
            have hW152 := hW138.later hT15.toBelow
            have hW153 := hW139.later hT15.toBelow
            have hW154 := hW126.later hT15.toBelow
            have hA15 := hp17.apart hS19 (m := 0) rfl
            have hnN6 := hNN6.len
            refine s_callg (wanted_of (j := 3) (b := false) (d := 92) rfl rfl rfl rfl) rfl rfl (vs := [.slice a14 R3.length c15, .slice a15 N6.length c16]) ⟨(.t rfl rfl), (.t rfl rfl), trivial⟩ cb14 (eq_ok w18 a14 c15 R3 hR95 a15 c16 N6 hR92 hNR3 hNN6) ?_
            rintro _ w19 ⟨⟨hc5, rfl⟩ | ⟨hc5, rfl⟩, hB6⟩
            rotate_left
            · exact absurd ((by simp only [hlONE, hlN1, hlN2, hlN3, hlN4, hlN5, hlSQ, hlSM, hlN6]; exact root_below hB0 (by simpa only [hlSM, hlSQ, hlONE] using hstR3) (by simpa only [hlSM, hlSQ, hlONE] using hslR3))) hc5
            have hS21 := hS20.keep hB6
            replace hB6 := hB6.toBelow
            have hR97 := hR93.below hB6 (Nat.le_refl _)
            have hR98 := hR94.below hB6 (Nat.le_refl _)
            have hR99 := hR95.below hB6 (Nat.le_refl _)
            have hR100 := hR96.below hB6 (Nat.le_refl _)
            have hR101 := hR92.below hB6 (Nat.le_refl _)
            have hW155 := hW141.later hB6
            have hW156 := hW142.later hB6
            have hW157 := hW143.later hB6
            have hW158 := hW144.later hB6
            have hW159 := hW145.later hB6
            have hW160 := hW146.later hB6
            have hW161 := hW147.later hB6
            have hW162 := hW148.later hB6
            have hW163 := hW149.later hB6
            have hW164 := hW150.later hB6
            have hW165 := hW151.later hB6
            have hW166 := hW152.later hB6
            have hW167 := hW153.later hB6
            have hW168 := hW154.later hB6
            have hW169 := hW140.later hB6
            refine s_valg hS21 (wanted_of (j := 3) (b := false) (d := 92) rfl rfl rfl rfl) rfl (r_lnot rfl (.t rfl rfl)) ?_
            refine s_val hS21 rfl rfl (r_pick rfl (.t rfl rfl) (.t rfl rfl)) ?_
            refine s_val hS21 rfl rfl (r_move rfl (.t rfl rfl)) ?_
            refine s_valg hS21 (wanted_of (j := 11) (b := false) (d := 100) rfl rfl rfl rfl) rfl (r_move rfl (.t rfl rfl)) ?_
            refine s_valg hS21 (wanted_of (j := 11) (b := false) (d := 100) rfl rfl rfl rfl) rfl (r_move rfl (.t rfl rfl)) ?_
            refine s_valg hS21 (wanted_of (j := 11) (b := false) (d := 100) rfl rfl rfl rfl) rfl (r_move rfl (.t rfl rfl)) ?_
            refine s_callg (wanted_of (j := 11) (b := false) (d := 100) rfl rfl rfl rfl) rfl rfl (vs := [.slice a2 B.length c2, .slice a4 ONE.length c4]) ⟨(.t rfl rfl), (.t rfl rfl), trivial⟩ cb14 (eq_ok w19 a2 c2 B hR97 a4 c4 ONE hR98 hNB hNONE) ?_
            rintro _ w20 ⟨⟨hc6, rfl⟩ | ⟨hc6, rfl⟩, hB7⟩
            rotate_left
            · exact absurd ((by have h8 := root_below hB0 (by simpa only [hlSM, hlSQ, hlONE] using hstR3) (by simpa only [hlSM, hlSQ, hlONE] using hslR3); have h9 := hexR3; rw [h8, hlSM, hlSQ, hlONE] at h9; have h7 := root_below_exact hB0; simp only [hlONE]; exact h7.1 h9)) hc6
            have hS22 := hS21.keep hB7
            replace hB7 := hB7.toBelow
            have hR102 := hR97.below hB7 (Nat.le_refl _)
            have hR103 := hR98.below hB7 (Nat.le_refl _)
            have hR104 := hR99.below hB7 (Nat.le_refl _)
            have hR105 := hR100.below hB7 (Nat.le_refl _)
            have hR106 := hR101.below hB7 (Nat.le_refl _)
            have hW170 := hW155.later hB7
            have hW171 := hW156.later hB7
            have hW172 := hW157.later hB7
            have hW173 := hW158.later hB7
            have hW174 := hW159.later hB7
            have hW175 := hW160.later hB7
            have hW176 := hW161.later hB7
            have hW177 := hW162.later hB7
            have hW178 := hW163.later hB7
            have hW179 := hW164.later hB7
            have hW180 := hW165.later hB7
            have hW181 := hW166.later hB7
            have hW182 := hW167.later hB7
            have hW183 := hW168.later hB7
            have hW184 := hW169.later hB7
            refine s_valg hS22 (wanted_of (j := 11) (b := false) (d := 100) rfl rfl rfl rfl) rfl (r_neb rfl Try.underlying4 (.t rfl rfl) (.t rfl rfl)) ?_
            refine s_val hS22 rfl rfl (r_pick rfl (.t rfl rfl) (.t rfl rfl)) ?_
            refine wpList_nil ?_
            refine x_tn ?_
            refine k_reb [(2, .bool false), (4, .slice a2 B.length c2), (6, .slice a4 ONE.length c4), (7, .slice a14 R3.length c15), (8, .bool true), (9, .int .i64 0), (10, .slice a11 SQ.length c11), (106, .bool false)] ⟨rfl, rfl, rfl, rfl, rfl, rfl, rfl, rfl, trivial⟩ fun G13 => ?_
            refine k_f (.t rfl rfl) ?_
            refine wp_skip ?_
            refine x_tn ?_
            refine k_reb [(2, .bool false), (4, .slice a2 B.length c2), (6, .slice a4 ONE.length c4), (7, .slice a14 R3.length c15), (8, .bool true), (9, .int .i64 0), (10, .slice a11 SQ.length c11)] ⟨rfl, rfl, rfl, rfl, rfl, rfl, rfl, trivial⟩ fun G14 => ?_
            refine wp_seq ?_
            refine k_reg ?_
            refine s_val hS22 rfl rfl (r_move rfl (.t rfl rfl)) ?_
            refine s_val hS22 rfl rfl (r_move rfl (.t rfl rfl)) ?_
            refine s_call rfl rfl rfl (vs := [.slice a11 SQ.length c11, .slice a4 ONE.length c4]) ⟨(.t rfl rfl), (.t rfl rfl), trivial⟩ cb15 (ladd_ok w20 a11 c11 SQ hR105 a4 c4 ONE hR103 hNSQ hNONE (by (try simp only [hlONE, hlN1, hlN2, hlN3, hlN4, hlN5, hlSQ, hlSM, hlN6, lv_nil, Nat.mul_zero, Nat.add_zero]) <;> (first | assumption | omega))) ?_
            intro v14 w21 hp18
            obtain ⟨SP, hp18, ⟨hNSP, hlSP⟩⟩ := hp18
            obtain ⟨a16, c17, rfl, hR107, -, hT16⟩ := id hp18
            have hW185 := Ow.from_ hS22 hp18
            have hS23 := hS22.keep hT16
            have hR108 := hR102.below hT16.toBelow (Nat.le_refl _)
            have hR109 := hR103.below hT16.toBelow (Nat.le_refl _)
            have hR110 := hR104.below hT16.toBelow (Nat.le_refl _)
            have hR111 := hR105.below hT16.toBelow (Nat.le_refl _)
            have hW186 := hW170.later hT16.toBelow
            have hW187 := hW171.later hT16.toBelow
            have hW188 := hW172.later hT16.toBelow
            have hW189 := hW173.later hT16.toBelow
            have hW190 := hW174.later hT16.toBelow
            have hW191 := hW175.later hT16.toBelow
            have hW192 := hW176.later hT16.toBelow
            have hW193 := hW177.later hT16.toBelow
            have hW194 := hW178.later hT16.toBelow
            have hW195 := hW179.later hT16.toBelow
            have hW196 := hW180.later hT16.toBelow
            have hW197 := hW181.later hT16.toBelow
            have hW198 := hW182.later hT16.toBelow
            have hW199 := hW183.later hT16.toBelow
            have hW200 := hW184.later hT16.toBelow
            have hA16 := hp18.apart hS22 (m := 0) rfl
            have hnSP := hNSP.len
            refine s_call rfl rfl rfl (vs := [.slice a16 SP.length c17]) ⟨(.t rfl rfl), trivial⟩ cb31 (Root_ok w21 a16 c17 SP hR107 hNSP) ?_
            rintro v15 w22 ⟨R4, _, rfl, hp19, hNR4, hstR4, hslR4⟩
            obtain ⟨a17, c18, rfl, hR112, -, hT17⟩ := id hp19
            have hW201 := Ow.from_ hS23 hp19
            have hS24 := hS23.keep hT17
            have hR113 := hR108.below hT17.toBelow (Nat.le_refl _)
            have hR114 := hR109.below hT17.toBelow (Nat.le_refl _)
            have hR115 := hR110.below hT17.toBelow (Nat.le_refl _)
            have hR116 := hR111.below hT17.toBelow (Nat.le_refl _)
            have hR117 := hR107.below hT17.toBelow (Nat.le_refl _)
            have hW202 := hW186.later hT17.toBelow
            have hW203 := hW187.later hT17.toBelow
            have hW204 := hW188.later hT17.toBelow
            have hW205 := hW189.later hT17.toBelow
            have hW206 := hW190.later hT17.toBelow
            have hW207 := hW191.later hT17.toBelow
            have hW208 := hW192.later hT17.toBelow
            have hW209 := hW193.later hT17.toBelow
            have hW210 := hW194.later hT17.toBelow
            have hW211 := hW195.later hT17.toBelow
            have hW212 := hW196.later hT17.toBelow
            have hW213 := hW197.later hT17.toBelow
            have hW214 := hW198.later hT17.toBelow
            have hW215 := hW199.later hT17.toBelow
            have hW216 := hW200.later hT17.toBelow
            have hW217 := hW185.later hT17.toBelow
            have hA17 := hp19.apart hS23 (m := 0) rfl
            have hnR4 := hNR4.len
            have hexR4 : decide (lv R4 * lv R4 = lv SP) = false := decide_eq_false (by have h8 := root_above hB0 (by simpa only [hlSP, hlSQ, hlONE] using hstR4) (by simpa only [hlSP, hlSQ, hlONE] using hslR4); rw [h8, hlSP, hlSQ, hlONE]; omega)
            rw [hexR4]
            refine s_val hS24 rfl rfl (r_move rfl (.t rfl rfl)) ?_
            refine s_val hS24 rfl rfl (r_extract rfl (.t rfl rfl) rfl) ?_
            refine s_val hS24 rfl rfl (r_extract rfl (.t rfl rfl) rfl) ?_
            refine s_val hS24 rfl rfl (r_extract rfl (.t rfl rfl) rfl) ?_
            refine s_val hS24 rfl rfl (r_assign rfl (.t rfl rfl)) ?_
            refine s_val hS24 rfl rfl (r_assign rfl (.t rfl rfl)) ?_
            refine s_val hS24 rfl rfl (r_assign rfl (.t rfl rfl)) ?_
            refine wpList_nil ?_
            refine x_tn ?_
            refine k_reb [(2, .bool false), (4, .slice a2 B.length c2), (7, .slice a17 R4.length c18), (8, .bool false), (9, .int .i64 0)] ⟨rfl, rfl, rfl, rfl, rfl, trivial⟩ fun G15 => ?_
            refine wp_seq ?_
            refine k_reg ?_
            refine s_val hS24 rfl rfl (r_move rfl (.t rfl rfl)) ?_
            refine s_call rfl rfl rfl (vs := [.int .i64 0]) ⟨(.t rfl rfl), trivial⟩ cb13 (num_ok w22 0) ?_
            rintro _ w22 ⟨rfl, rfl⟩
            refine s_val hS24 rfl rfl (r_cmp_f rfl rfl (.t rfl rfl) .c (show ¬ (¬ 0 = 0) from by omega)) ?_
            refine s_val hS24 rfl rfl (r_move rfl (.t rfl rfl)) ?_
            refine s_valg hS24 (wanted_of (j := 3) (b := false) (d := 118) rfl rfl rfl rfl) rfl (r_move rfl (.t rfl rfl)) ?_
            refine s_valg hS24 (wanted_of (j := 3) (b := false) (d := 118) rfl rfl rfl rfl) rfl (r_move rfl (.t rfl rfl)) ?_
            refine s_callg (wanted_of (j := 3) (b := false) (d := 118) rfl rfl rfl rfl) rfl rfl (vs := [.slice a17 R4.length c18, .slice a2 B.length c2]) ⟨(.t rfl rfl), (.t rfl rfl), trivial⟩ cb14 (eq_ok w22 a17 c18 R4 hR112 a2 c2 B hR113 hNR4 hNB) ?_
            rintro _ w23 ⟨⟨hc7, rfl⟩ | ⟨hc7, rfl⟩, hB8⟩
            rotate_left
            · exact absurd ((root_above hB0 (by simpa only [hlSP, hlSQ, hlONE] using hstR4) (by simpa only [hlSP, hlSQ, hlONE] using hslR4))) hc7
            have hS25 := hS24.keep hB8
            replace hB8 := hB8.toBelow
            have hR118 := hR113.below hB8 (Nat.le_refl _)
            have hR119 := hR112.below hB8 (Nat.le_refl _)
            have hW218 := hW202.later hB8
            have hW219 := hW203.later hB8
            have hW220 := hW204.later hB8
            have hW221 := hW205.later hB8
            have hW222 := hW206.later hB8
            have hW223 := hW207.later hB8
            have hW224 := hW208.later hB8
            have hW225 := hW209.later hB8
            have hW226 := hW210.later hB8
            have hW227 := hW211.later hB8
            have hW228 := hW212.later hB8
            have hW229 := hW213.later hB8
            have hW230 := hW214.later hB8
            have hW231 := hW215.later hB8
            have hW232 := hW216.later hB8
            have hW233 := hW217.later hB8
            have hW234 := hW201.later hB8
            refine s_valg hS25 (wanted_of (j := 3) (b := false) (d := 118) rfl rfl rfl rfl) rfl (r_lnot rfl (.t rfl rfl)) ?_
            refine s_val hS25 rfl rfl (r_pick rfl (.t rfl rfl) (.t rfl rfl)) ?_
            refine s_val hS25 rfl rfl (r_move rfl (.t rfl rfl)) ?_
            refine s_valg hS25 (wanted_of (j := 9) (b := false) (d := 124) rfl rfl rfl rfl) rfl (r_move rfl (.t rfl rfl)) ?_
            refine s_val hS25 rfl rfl (r_pick rfl (.t rfl rfl) (.t rfl rfl)) ?_
            refine wpList_nil ?_
            refine x_tn ?_
            refine k_reb [(2, .bool false), (126, .bool false)] ⟨rfl, rfl, trivial⟩ fun G16 => ?_
            refine k_f (.t rfl rfl) ?_
            refine wp_skip ?_
            refine x_tn ?_
            refine k_reb [(2, .bool false)] ⟨rfl, trivial⟩ fun G17 => ?_
            refine wp_seq ?_
            refine k_reg ?_
            refine s_call rfl rfl rfl (vs := []) trivial cb16 (wakes_ok w23 ) ?_
            intro v16 w24 hp20
            obtain ⟨hp20, hB9⟩ := hp20
            have hS26 := hS25.keep hB9
            replace hB9 := hB9.toBelow
            have hW235 := hW218.later hB9
            have hW236 := hW219.later hB9
            have hW237 := hW220.later hB9
            have hW238 := hW221.later hB9
            have hW239 := hW222.later hB9
            have hW240 := hW223.later hB9
            have hW241 := hW224.later hB9
            have hW242 := hW225.later hB9
            have hW243 := hW226.later hB9
            have hW244 := hW227.later hB9
            have hW245 := hW228.later hB9
            have hW246 := hW229.later hB9
            have hW247 := hW230.later hB9
            have hW248 := hW231.later hB9
            have hW249 := hW232.later hB9
            have hW250 := hW233.later hB9
            have hW251 := hW234.later hB9
            obtain rfl := hp20
            refine s_val hS26 rfl rfl (r_assign rfl (.t rfl rfl)) ?_
            refine wpList_nil ?_
            refine x_tn ?_
            refine k_reb [(2, .bool true)] ⟨rfl, trivial⟩ fun G18 => ?_
            refine wp_ret ?_
            refine k_ret1 Try.results8 rfl rfl ?_
            refine ⟨_, rfl, ?_⟩
            exact ⟨rfl, hS26.none⟩
          · rw [decide_eq_false hexR3]
            refine s_val hS19 rfl rfl (r_move rfl (.t rfl rfl)) ?_
            refine s_val hS19 rfl rfl (r_extract rfl (.t rfl rfl) rfl) ?_
            refine s_val hS19 rfl rfl (r_extract rfl (.t rfl rfl) rfl) ?_
            refine s_val hS19 rfl rfl (r_extract rfl (.t rfl rfl) rfl) ?_
            refine s_val hS19 rfl rfl (r_assign rfl (.t rfl rfl)) ?_
            refine s_val hS19 rfl rfl (r_assign rfl (.t rfl rfl)) ?_
            refine s_val hS19 rfl rfl (r_assign rfl (.t rfl rfl)) ?_
            refine wpList_nil ?_
            refine x_tn ?_
            refine k_reb [(2, .bool false), (4, .slice a2 B.length c2), (6, .slice a4 ONE.length c4), (7, .slice a14 R3.length c15), (8, .bool false), (9, .int .i64 0), (10, .slice a11 SQ.length c11)] ⟨rfl, rfl, rfl, rfl, rfl, rfl, rfl, trivial⟩ fun G19 => ?_
            refine wp_seq ?_
            refine wp_seq ?_
            refine k_reg ?_
            refine s_val hS19 rfl rfl (r_move rfl (.t rfl rfl)) ?_
            refine s_call rfl rfl rfl (vs := [.int .i64 0]) ⟨(.t rfl rfl), trivial⟩ cb13 (num_ok w17 0) ?_
            rintro _ w17 ⟨rfl, rfl⟩
            refine s_val hS19 rfl rfl (r_cmp_f rfl rfl (.t rfl rfl) .c (show ¬ (¬ 0 = 0) from by omega)) ?_
            refine s_val hS19 rfl rfl (r_move rfl (.t rfl rfl)) ?_
            refine s_valg hS19 (wanted_of (j := 3) (b := false) (d := 92) rfl rfl rfl rfl) rfl (r_move rfl (.t rfl rfl)) ?_
            refine s_valg hS19 (wanted_of (j := 3) (b := false) (d := 92) rfl rfl rfl rfl) rfl (r_move rfl (.t rfl rfl)) ?_
            refine s_valg hS19 (wanted_of (j := 3) (b := false) (d := 92) rfl rfl rfl rfl) rfl (r_move rfl (.t rfl rfl)) ?_
            refine s_callg (wanted_of (j := 3) (b := false) (d := 92) rfl rfl rfl rfl) rfl rfl (vs := [.slice a2 B.length c2, .slice a4 ONE.length c4]) ⟨(.t rfl rfl), (.t rfl rfl), trivial⟩ cb27 (lsub_ok w17 a2 c2 B hR87 a4 c4 ONE hR88 hNB hNONE (by (try simp only [hlONE, hlN1, hlN2, hlN3, hlN4, hlN5, hlSQ, hlSM, lv_nil, Nat.mul_zero, Nat.add_zero]) <;> (first | assumption | omega))) ?_
            intro v17 w25 hp21
            obtain ⟨N7, hp21, ⟨hNN7, hlN7⟩⟩ := hp21
            obtain ⟨a18, c19, rfl, hR120, -, hT18⟩ := id hp21
            have hW252 := Ow.from_ hS19 hp21
            have hS27 := hS19.keep hT18
            have hR121 := hR87.below hT18.toBelow (Nat.le_refl _)
            have hR122 := hR88.below hT18.toBelow (Nat.le_refl _)
            have hR123 := hR86.below hT18.toBelow (Nat.le_refl _)
            have hR124 := hR90.below hT18.toBelow (Nat.le_refl _)
            have hW253 := hW127.later hT18.toBelow
            have hW254 := hW128.later hT18.toBelow
            have hW255 := hW129.later hT18.toBelow
            have hW256 := hW130.later hT18.toBelow
            have hW257 := hW131.later hT18.toBelow
            have hW258 := hW132.later hT18.toBelow
            have hW259 := hW133.later hT18.toBelow
            have hW260 := hW134.later hT18.toBelow
            have hW261 := hW135.later hT18.toBelow
            have hW262 := hW136.later hT18.toBelow
            have hW263 := hW137.later hT18.toBelow
            have hW264 := hW138.later hT18.toBelow
            have hW265 := hW139.later hT18.toBelow
            have hW266 := hW126.later hT18.toBelow
            have hA18 := hp21.apart hS19 (m := 0) rfl
            have hnN7 := hNN7.len
            refine s_callg (wanted_of (j := 3) (b := false) (d := 92) rfl rfl rfl rfl) rfl rfl (vs := [.slice a14 R3.length c15, .slice a18 N7.length c19]) ⟨(.t rfl rfl), (.t rfl rfl), trivial⟩ cb14 (eq_ok w25 a14 c15 R3 hR123 a18 c19 N7 hR120 hNR3 hNN7) ?_
            rintro _ w26 ⟨⟨hc8, rfl⟩ | ⟨hc8, rfl⟩, hB10⟩
            rotate_left
            · exact absurd ((by simp only [hlONE, hlN1, hlN2, hlN3, hlN4, hlN5, hlSQ, hlSM, hlN7]; exact root_below hB0 (by simpa only [hlSM, hlSQ, hlONE] using hstR3) (by simpa only [hlSM, hlSQ, hlONE] using hslR3))) hc8
            have hS28 := hS27.keep hB10
            replace hB10 := hB10.toBelow
            have hR125 := hR121.below hB10 (Nat.le_refl _)
            have hR126 := hR122.below hB10 (Nat.le_refl _)
            have hR127 := hR123.below hB10 (Nat.le_refl _)
            have hR128 := hR124.below hB10 (Nat.le_refl _)
            have hR129 := hR120.below hB10 (Nat.le_refl _)
            have hW267 := hW253.later hB10
            have hW268 := hW254.later hB10
            have hW269 := hW255.later hB10
            have hW270 := hW256.later hB10
            have hW271 := hW257.later hB10
            have hW272 := hW258.later hB10
            have hW273 := hW259.later hB10
            have hW274 := hW260.later hB10
            have hW275 := hW261.later hB10
            have hW276 := hW262.later hB10
            have hW277 := hW263.later hB10
            have hW278 := hW264.later hB10
            have hW279 := hW265.later hB10
            have hW280 := hW266.later hB10
            have hW281 := hW252.later hB10
            refine s_valg hS28 (wanted_of (j := 3) (b := false) (d := 92) rfl rfl rfl rfl) rfl (r_lnot rfl (.t rfl rfl)) ?_
            refine s_val hS28 rfl rfl (r_pick rfl (.t rfl rfl) (.t rfl rfl)) ?_
            refine s_val hS28 rfl rfl (r_move rfl (.t rfl rfl)) ?_
            refine s_valg hS28 (wanted_of (j := 11) (b := false) (d := 100) rfl rfl rfl rfl) rfl (r_move rfl (.t rfl rfl)) ?_
            refine s_valg hS28 (wanted_of (j := 11) (b := false) (d := 100) rfl rfl rfl rfl) rfl (r_move rfl (.t rfl rfl)) ?_
            refine s_valg hS28 (wanted_of (j := 11) (b := false) (d := 100) rfl rfl rfl rfl) rfl (r_move rfl (.t rfl rfl)) ?_
            refine s_callg (wanted_of (j := 11) (b := false) (d := 100) rfl rfl rfl rfl) rfl rfl (vs := [.slice a2 B.length c2, .slice a4 ONE.length c4]) ⟨(.t rfl rfl), (.t rfl rfl), trivial⟩ cb14 (eq_ok w26 a2 c2 B hR125 a4 c4 ONE hR126 hNB hNONE) ?_
            rintro _ w27 ⟨⟨hc9, rfl⟩ | ⟨hc9, rfl⟩, hB11⟩
            · exact absurd hc9 ((by have h8 := root_below hB0 (by simpa only [hlSM, hlSQ, hlONE] using hstR3) (by simpa only [hlSM, hlSQ, hlONE] using hslR3); have h9 := hexR3; rw [h8, hlSM, hlSQ, hlONE] at h9; have h7 := root_below_exact hB0; simp only [hlONE]; exact fun h => h9 (h7.2 h)))
            have hS29 := hS28.keep hB11
            replace hB11 := hB11.toBelow
            have hR130 := hR125.below hB11 (Nat.le_refl _)
            have hR131 := hR126.below hB11 (Nat.le_refl _)
            have hR132 := hR127.below hB11 (Nat.le_refl _)
            have hR133 := hR128.below hB11 (Nat.le_refl _)
            have hR134 := hR129.below hB11 (Nat.le_refl _)
            have hW282 := hW267.later hB11
            have hW283 := hW268.later hB11
            have hW284 := hW269.later hB11
            have hW285 := hW270.later hB11
            have hW286 := hW271.later hB11
            have hW287 := hW272.later hB11
            have hW288 := hW273.later hB11
            have hW289 := hW274.later hB11
            have hW290 := hW275.later hB11
            have hW291 := hW276.later hB11
            have hW292 := hW277.later hB11
            have hW293 := hW278.later hB11
            have hW294 := hW279.later hB11
            have hW295 := hW280.later hB11
            have hW296 := hW281.later hB11
            refine s_valg hS29 (wanted_of (j := 11) (b := false) (d := 100) rfl rfl rfl rfl) rfl (r_neb rfl Try.underlying4 (.t rfl rfl) (.t rfl rfl)) ?_
            refine s_val hS29 rfl rfl (r_pick rfl (.t rfl rfl) (.t rfl rfl)) ?_
            refine wpList_nil ?_
            refine x_tn ?_
            refine k_reb [(2, .bool false), (4, .slice a2 B.length c2), (6, .slice a4 ONE.length c4), (7, .slice a14 R3.length c15), (8, .bool false), (9, .int .i64 0), (10, .slice a11 SQ.length c11), (106, .bool false)] ⟨rfl, rfl, rfl, rfl, rfl, rfl, rfl, rfl, trivial⟩ fun G20 => ?_
            refine k_f (.t rfl rfl) ?_
            refine wp_skip ?_
            refine x_tn ?_
            refine k_reb [(2, .bool false), (4, .slice a2 B.length c2), (6, .slice a4 ONE.length c4), (7, .slice a14 R3.length c15), (8, .bool false), (9, .int .i64 0), (10, .slice a11 SQ.length c11)] ⟨rfl, rfl, rfl, rfl, rfl, rfl, rfl, trivial⟩ fun G21 => ?_
            refine wp_seq ?_
            refine k_reg ?_
            refine s_val hS29 rfl rfl (r_move rfl (.t rfl rfl)) ?_
            refine s_val hS29 rfl rfl (r_move rfl (.t rfl rfl)) ?_
            refine s_call rfl rfl rfl (vs := [.slice a11 SQ.length c11, .slice a4 ONE.length c4]) ⟨(.t rfl rfl), (.t rfl rfl), trivial⟩ cb15 (ladd_ok w27 a11 c11 SQ hR133 a4 c4 ONE hR131 hNSQ hNONE (by (try simp only [hlONE, hlN1, hlN2, hlN3, hlN4, hlN5, hlSQ, hlSM, hlN7, lv_nil, Nat.mul_zero, Nat.add_zero]) <;> (first | assumption | omega))) ?_
            intro v18 w28 hp22
            obtain ⟨SP, hp22, ⟨hNSP, hlSP⟩⟩ := hp22
            obtain ⟨a19, c20, rfl, hR135, -, hT19⟩ := id hp22
            have hW297 := Ow.from_ hS29 hp22
            have hS30 := hS29.keep hT19
            have hR136 := hR130.below hT19.toBelow (Nat.le_refl _)
            have hR137 := hR131.below hT19.toBelow (Nat.le_refl _)
            have hR138 := hR132.below hT19.toBelow (Nat.le_refl _)
            have hR139 := hR133.below hT19.toBelow (Nat.le_refl _)
            have hW298 := hW282.later hT19.toBelow
            have hW299 := hW283.later hT19.toBelow
            have hW300 := hW284.later hT19.toBelow
            have hW301 := hW285.later hT19.toBelow
            have hW302 := hW286.later hT19.toBelow
            have hW303 := hW287.later hT19.toBelow
            have hW304 := hW288.later hT19.toBelow
            have hW305 := hW289.later hT19.toBelow
            have hW306 := hW290.later hT19.toBelow
            have hW307 := hW291.later hT19.toBelow
            have hW308 := hW292.later hT19.toBelow
            have hW309 := hW293.later hT19.toBelow
            have hW310 := hW294.later hT19.toBelow
            have hW311 := hW295.later hT19.toBelow
            have hW312 := hW296.later hT19.toBelow
            have hA19 := hp22.apart hS29 (m := 0) rfl
            have hnSP := hNSP.len
            refine s_call rfl rfl rfl (vs := [.slice a19 SP.length c20]) ⟨(.t rfl rfl), trivial⟩ cb31 (Root_ok w28 a19 c20 SP hR135 hNSP) ?_
            rintro v19 w29 ⟨R4, _, rfl, hp23, hNR4, hstR4, hslR4⟩
            obtain ⟨a20, c21, rfl, hR140, -, hT20⟩ := id hp23
            have hW313 := Ow.from_ hS30 hp23
            have hS31 := hS30.keep hT20
            have hR141 := hR136.below hT20.toBelow (Nat.le_refl _)
            have hR142 := hR137.below hT20.toBelow (Nat.le_refl _)
            have hR143 := hR138.below hT20.toBelow (Nat.le_refl _)
            have hR144 := hR139.below hT20.toBelow (Nat.le_refl _)
            have hR145 := hR135.below hT20.toBelow (Nat.le_refl _)
            have hW314 := hW298.later hT20.toBelow
            have hW315 := hW299.later hT20.toBelow
            have hW316 := hW300.later hT20.toBelow
            have hW317 := hW301.later hT20.toBelow
            have hW318 := hW302.later hT20.toBelow
            have hW319 := hW303.later hT20.toBelow
            have hW320 := hW304.later hT20.toBelow
            have hW321 := hW305.later hT20.toBelow
            have hW322 := hW306.later hT20.toBelow
            have hW323 := hW307.later hT20.toBelow
            have hW324 := hW308.later hT20.toBelow
            have hW325 := hW309.later hT20.toBelow
            have hW326 := hW310.later hT20.toBelow
            have hW327 := hW311.later hT20.toBelow
            have hW328 := hW312.later hT20.toBelow
            have hW329 := hW297.later hT20.toBelow
            have hA20 := hp23.apart hS30 (m := 0) rfl
            have hnR4 := hNR4.len
            have hexR4 : decide (lv R4 * lv R4 = lv SP) = false := decide_eq_false (by have h8 := root_above hB0 (by simpa only [hlSP, hlSQ, hlONE] using hstR4) (by simpa only [hlSP, hlSQ, hlONE] using hslR4); rw [h8, hlSP, hlSQ, hlONE]; omega)
            rw [hexR4]
            refine s_val hS31 rfl rfl (r_move rfl (.t rfl rfl)) ?_
            refine s_val hS31 rfl rfl (r_extract rfl (.t rfl rfl) rfl) ?_
            refine s_val hS31 rfl rfl (r_extract rfl (.t rfl rfl) rfl) ?_
            refine s_val hS31 rfl rfl (r_extract rfl (.t rfl rfl) rfl) ?_
            refine s_val hS31 rfl rfl (r_assign rfl (.t rfl rfl)) ?_
            refine s_val hS31 rfl rfl (r_assign rfl (.t rfl rfl)) ?_
            refine s_val hS31 rfl rfl (r_assign rfl (.t rfl rfl)) ?_
            refine wpList_nil ?_
            refine x_tn ?_
            refine k_reb [(2, .bool false), (4, .slice a2 B.length c2), (7, .slice a20 R4.length c21), (8, .bool false), (9, .int .i64 0)] ⟨rfl, rfl, rfl, rfl, rfl, trivial⟩ fun G22 => ?_
            refine wp_seq ?_
            refine k_reg ?_
            refine s_val hS31 rfl rfl (r_move rfl (.t rfl rfl)) ?_
            refine s_call rfl rfl rfl (vs := [.int .i64 0]) ⟨(.t rfl rfl), trivial⟩ cb13 (num_ok w29 0) ?_
            rintro _ w29 ⟨rfl, rfl⟩
            refine s_val hS31 rfl rfl (r_cmp_f rfl rfl (.t rfl rfl) .c (show ¬ (¬ 0 = 0) from by omega)) ?_
            refine s_val hS31 rfl rfl (r_move rfl (.t rfl rfl)) ?_
            refine s_valg hS31 (wanted_of (j := 3) (b := false) (d := 118) rfl rfl rfl rfl) rfl (r_move rfl (.t rfl rfl)) ?_
            refine s_valg hS31 (wanted_of (j := 3) (b := false) (d := 118) rfl rfl rfl rfl) rfl (r_move rfl (.t rfl rfl)) ?_
            refine s_callg (wanted_of (j := 3) (b := false) (d := 118) rfl rfl rfl rfl) rfl rfl (vs := [.slice a20 R4.length c21, .slice a2 B.length c2]) ⟨(.t rfl rfl), (.t rfl rfl), trivial⟩ cb14 (eq_ok w29 a20 c21 R4 hR140 a2 c2 B hR141 hNR4 hNB) ?_
            rintro _ w30 ⟨⟨hc10, rfl⟩ | ⟨hc10, rfl⟩, hB12⟩
            rotate_left
            · exact absurd ((root_above hB0 (by simpa only [hlSP, hlSQ, hlONE] using hstR4) (by simpa only [hlSP, hlSQ, hlONE] using hslR4))) hc10
            have hS32 := hS31.keep hB12
            replace hB12 := hB12.toBelow
            have hR146 := hR141.below hB12 (Nat.le_refl _)
            have hR147 := hR140.below hB12 (Nat.le_refl _)
            have hW330 := hW314.later hB12
            have hW331 := hW315.later hB12
            have hW332 := hW316.later hB12
            have hW333 := hW317.later hB12
            have hW334 := hW318.later hB12
            have hW335 := hW319.later hB12
            have hW336 := hW320.later hB12
            have hW337 := hW321.later hB12
            have hW338 := hW322.later hB12
            have hW339 := hW323.later hB12
            have hW340 := hW324.later hB12
            have hW341 := hW325.later hB12
            have hW342 := hW326.later hB12
            have hW343 := hW327.later hB12
            have hW344 := hW328.later hB12
            have hW345 := hW329.later hB12
            have hW346 := hW313.later hB12
            refine s_valg hS32 (wanted_of (j := 3) (b := false) (d := 118) rfl rfl rfl rfl) rfl (r_lnot rfl (.t rfl rfl)) ?_
            refine s_val hS32 rfl rfl (r_pick rfl (.t rfl rfl) (.t rfl rfl)) ?_
            refine s_val hS32 rfl rfl (r_move rfl (.t rfl rfl)) ?_
            refine s_valg hS32 (wanted_of (j := 9) (b := false) (d := 124) rfl rfl rfl rfl) rfl (r_move rfl (.t rfl rfl)) ?_
            refine s_val hS32 rfl rfl (r_pick rfl (.t rfl rfl) (.t rfl rfl)) ?_
            refine wpList_nil ?_
            refine x_tn ?_
            refine k_reb [(2, .bool false), (126, .bool false)] ⟨rfl, rfl, trivial⟩ fun G23 => ?_
            refine k_f (.t rfl rfl) ?_
            refine wp_skip ?_
            refine x_tn ?_
            refine k_reb [(2, .bool false)] ⟨rfl, trivial⟩ fun G24 => ?_
            refine wp_seq ?_
            refine k_reg ?_
            refine s_call rfl rfl rfl (vs := []) trivial cb16 (wakes_ok w30 ) ?_
            intro v20 w31 hp24
            obtain ⟨hp24, hB13⟩ := hp24
            have hS33 := hS32.keep hB13
            replace hB13 := hB13.toBelow
            have hW347 := hW330.later hB13
            have hW348 := hW331.later hB13
            have hW349 := hW332.later hB13
            have hW350 := hW333.later hB13
            have hW351 := hW334.later hB13
            have hW352 := hW335.later hB13
            have hW353 := hW336.later hB13
            have hW354 := hW337.later hB13
            have hW355 := hW338.later hB13
            have hW356 := hW339.later hB13
            have hW357 := hW340.later hB13
            have hW358 := hW341.later hB13
            have hW359 := hW342.later hB13
            have hW360 := hW343.later hB13
            have hW361 := hW344.later hB13
            have hW362 := hW345.later hB13
            have hW363 := hW346.later hB13
            obtain rfl := hp24
            refine s_val hS33 rfl rfl (r_assign rfl (.t rfl rfl)) ?_
            refine wpList_nil ?_
            refine x_tn ?_
            refine k_reb [(2, .bool true)] ⟨rfl, trivial⟩ fun G25 => ?_
            refine wp_ret ?_
            refine k_ret1 Try.results8 rfl rfl ?_
            refine ⟨_, rfl, ?_⟩
            exact ⟨rfl, hS33.none⟩
        · refine s_val hS17 rfl rfl (r_cmp_f rfl rfl (.t rfl rfl) .c (show ¬ (((B.length : Nat) : Int) > 0) from by omega)) ?_
          refine wpList_nil ?_
          refine x_tn ?_
          refine k_reb [(2, .bool false), (4, .slice a2 B.length c2), (6, .slice a4 ONE.length c4), (7, .slice a12 R2.length c12), (8, .bool true), (9, .int .i64 0), (10, .slice a11 SQ.length c11), (80, .bool false)] ⟨rfl, rfl, rfl, rfl, rfl, rfl, rfl, rfl, trivial⟩ fun G26 => ?_
          refine k_f (.t rfl rfl) ?_
          refine wp_skip ?_
          refine x_tn ?_
          refine k_reb [(2, .bool false)] ⟨rfl, trivial⟩ fun G27 => ?_
          refine wp_seq ?_
          refine k_reg ?_
          refine s_call rfl rfl rfl (vs := []) trivial cb16 (wakes_ok w15 ) ?_
          intro v21 w32 hp25
          obtain ⟨hp25, hB14⟩ := hp25
          have hS34 := hS17.keep hB14
          replace hB14 := hB14.toBelow
          have hW364 := hW101.later hB14
          have hW365 := hW102.later hB14
          have hW366 := hW103.later hB14
          have hW367 := hW104.later hB14
          have hW368 := hW105.later hB14
          have hW369 := hW106.later hB14
          have hW370 := hW107.later hB14
          have hW371 := hW108.later hB14
          have hW372 := hW109.later hB14
          have hW373 := hW110.later hB14
          have hW374 := hW111.later hB14
          have hW375 := hW112.later hB14
          obtain rfl := hp25
          refine s_val hS34 rfl rfl (r_assign rfl (.t rfl rfl)) ?_
          refine wpList_nil ?_
          refine x_tn ?_
          refine k_reb [(2, .bool true)] ⟨rfl, trivial⟩ fun G28 => ?_
          refine wp_ret ?_
          refine k_ret1 Try.results8 rfl rfl ?_
          refine ⟨_, rfl, ?_⟩
          exact ⟨rfl, hS34.none⟩
    · refine s_valg hS8 (wanted_of (j := 3) (b := false) (d := 27) rfl rfl rfl rfl) rfl (r_cmp_f rfl rfl (.t rfl rfl) .c (show ¬ (0 > 0) from by omega)) ?_
      refine s_val hS8 rfl rfl (r_pick rfl (.t rfl rfl) (.t rfl rfl)) ?_
      refine s_val hS8 rfl rfl (r_move rfl (.t rfl rfl)) ?_
      refine s_valg hS8 (wanted_of (j := 11) (b := false) (d := 35) rfl rfl rfl rfl) rfl (r_move rfl (.t rfl rfl)) ?_
      refine s_valg hS8 (wanted_of (j := 11) (b := false) (d := 35) rfl rfl rfl rfl) rfl (r_move rfl (.t rfl rfl)) ?_
      refine s_callg (wanted_of (j := 11) (b := false) (d := 35) rfl rfl rfl rfl) rfl rfl (vs := [.slice a5 R1.length c5, .slice a4 ONE.length c4]) ⟨(.t rfl rfl), (.t rfl rfl), trivial⟩ cb15 (ladd_ok w6 a5 c5 R1 hR19 a4 c4 ONE hR18 hNR1 hNONE (by (try simp only [hlONE, hlN1, lv_nil, Nat.mul_zero, Nat.add_zero]) <;> (first | assumption | omega))) ?_
      intro v22 w33 hp26
      obtain ⟨N8, hp26, ⟨hNN8, hlN8⟩⟩ := hp26
      obtain ⟨a21, c22, rfl, hR148, -, hT21⟩ := id hp26
      have hW376 := Ow.from_ hS8 hp26
      have hS35 := hS8.keep hT21
      have hR149 := hR16.below hT21.toBelow (Nat.le_refl _)
      have hR150 := hR17.below hT21.toBelow (Nat.le_refl _)
      have hR151 := hR18.below hT21.toBelow (Nat.le_refl _)
      have hR152 := hR19.below hT21.toBelow (Nat.le_refl _)
      have hR153 := hR20.below hT21.toBelow (Nat.le_refl _)
      have hW377 := hW19.later hT21.toBelow
      have hW378 := hW20.later hT21.toBelow
      have hW379 := hW21.later hT21.toBelow
      have hW380 := hW22.later hT21.toBelow
      have hW381 := hW23.later hT21.toBelow
      have hW382 := hW24.later hT21.toBelow
      have hA21 := hp26.apart hS8 (m := 0) rfl
      have hnN8 := hNN8.len
      refine s_valg hS35 (wanted_of (j := 11) (b := false) (d := 35) rfl rfl rfl rfl) rfl (r_move rfl (.t rfl rfl)) ?_
      refine s_valg hS35 (wanted_of (j := 11) (b := false) (d := 35) rfl rfl rfl rfl) rfl (r_move rfl (.t rfl rfl)) ?_
      refine s_callg (wanted_of (j := 11) (b := false) (d := 35) rfl rfl rfl rfl) rfl rfl (vs := [.slice a5 R1.length c5, .slice a4 ONE.length c4]) ⟨(.t rfl rfl), (.t rfl rfl), trivial⟩ cb15 (ladd_ok w33 a5 c5 R1 hR152 a4 c4 ONE hR151 hNR1 hNONE (by (try simp only [hlONE, hlN1, hlN8, lv_nil, Nat.mul_zero, Nat.add_zero]) <;> (first | assumption | omega))) ?_
      intro v23 w34 hp27
      obtain ⟨N9, hp27, ⟨hNN9, hlN9⟩⟩ := hp27
      obtain ⟨a22, c23, rfl, hR154, -, hT22⟩ := id hp27
      have hW383 := Ow.from_ hS35 hp27
      have hS36 := hS35.keep hT22
      have hR155 := hR149.below hT22.toBelow (Nat.le_refl _)
      have hR156 := hR150.below hT22.toBelow (Nat.le_refl _)
      have hR157 := hR151.below hT22.toBelow (Nat.le_refl _)
      have hR158 := hR152.below hT22.toBelow (Nat.le_refl _)
      have hR159 := hR153.below hT22.toBelow (Nat.le_refl _)
      have hR160 := hR148.below hT22.toBelow (Nat.le_refl _)
      have hW384 := hW377.later hT22.toBelow
      have hW385 := hW378.later hT22.toBelow
      have hW386 := hW379.later hT22.toBelow
      have hW387 := hW380.later hT22.toBelow
      have hW388 := hW381.later hT22.toBelow
      have hW389 := hW382.later hT22.toBelow
      have hW390 := hW376.later hT22.toBelow
      have hA22 := hp27.apart hS35 (m := 0) rfl
      have hnN9 := hNN9.len
      refine s_callg (wanted_of (j := 11) (b := false) (d := 35) rfl rfl rfl rfl) rfl rfl (vs := [.slice a21 N8.length c22, .slice a22 N9.length c23]) ⟨(.t rfl rfl), (.t rfl rfl), trivial⟩ cb19 (lmul_ok w34 a21 c22 N8 hR160 a22 c23 N9 hR154 hNN8 hNN9 (by (try simp only [hlONE, hlN1, hlN8, hlN9, lv_nil, Nat.mul_zero, Nat.add_zero]) <;> (first | assumption | omega))) ?_
      intro v24 w35 hp28
      obtain ⟨N10, hp28, ⟨hNN10, hlN10⟩⟩ := hp28
      obtain ⟨a23, c24, rfl, hR161, -, hT23⟩ := id hp28
      have hW391 := Ow.from_ hS36 hp28
      have hS37 := hS36.keep hT23
      have hR162 := hR155.below hT23.toBelow (Nat.le_refl _)
      have hR163 := hR156.below hT23.toBelow (Nat.le_refl _)
      have hR164 := hR157.below hT23.toBelow (Nat.le_refl _)
      have hR165 := hR158.below hT23.toBelow (Nat.le_refl _)
      have hR166 := hR159.below hT23.toBelow (Nat.le_refl _)
      have hR167 := hR160.below hT23.toBelow (Nat.le_refl _)
      have hR168 := hR154.below hT23.toBelow (Nat.le_refl _)
      have hW392 := hW384.later hT23.toBelow
      have hW393 := hW385.later hT23.toBelow
      have hW394 := hW386.later hT23.toBelow
      have hW395 := hW387.later hT23.toBelow
      have hW396 := hW388.later hT23.toBelow
      have hW397 := hW389.later hT23.toBelow
      have hW398 := hW390.later hT23.toBelow
      have hW399 := hW383.later hT23.toBelow
      have hA23 := hp28.apart hS36 (m := 0) rfl
      have hnN10 := hNN10.len
      refine s_valg hS37 (wanted_of (j := 11) (b := false) (d := 35) rfl rfl rfl rfl) rfl (r_move rfl (.t rfl rfl)) ?_
      refine s_callg (wanted_of (j := 11) (b := false) (d := 35) rfl rfl rfl rfl) rfl rfl (vs := [.slice a23 N10.length c24, .slice a1 A.length c1]) ⟨(.t rfl rfl), (.t rfl rfl), trivial⟩ cb28 (Cmp_ok w35 a23 c24 N10 hR161 a1 c1 A hR162 hNN10 hNA) ?_
      rintro _ w36 ⟨hp29, hB15⟩
      have hS38 := hS37.keep hB15
      replace hB15 := hB15.toBelow
      have hR169 := hR162.below hB15 (Nat.le_refl _)
      have hR170 := hR163.below hB15 (Nat.le_refl _)
      have hR171 := hR164.below hB15 (Nat.le_refl _)
      have hR172 := hR165.below hB15 (Nat.le_refl _)
      have hR173 := hR166.below hB15 (Nat.le_refl _)
      have hR174 := hR167.below hB15 (Nat.le_refl _)
      have hR175 := hR168.below hB15 (Nat.le_refl _)
      have hR176 := hR161.below hB15 (Nat.le_refl _)
      have hW400 := hW392.later hB15
      have hW401 := hW393.later hB15
      have hW402 := hW394.later hB15
      have hW403 := hW395.later hB15
      have hW404 := hW396.later hB15
      have hW405 := hW397.later hB15
      have hW406 := hW398.later hB15
      have hW407 := hW399.later hB15
      have hW408 := hW391.later hB15
      rcases hp29 with ⟨hc11, rfl⟩ | ⟨hc11, rfl⟩ | ⟨hc11, rfl⟩
      · exfalso; (try simp only [hlONE, hlN1, hlN8, hlN9, hlN10] at hc11); omega
      · exfalso; (try simp only [hlONE, hlN1, hlN8, hlN9, hlN10] at hc11); omega
      · refine s_valg hS38 (wanted_of (j := 11) (b := false) (d := 35) rfl rfl rfl rfl) rfl (r_cmp_f rfl rfl (.t rfl rfl) .c (show ¬ (1 ≤ 0) from by omega)) ?_
        refine s_val hS38 rfl rfl (r_pick rfl (.t rfl rfl) (.t rfl rfl)) ?_
        refine s_val hS38 rfl rfl (r_move rfl (.t rfl rfl)) ?_
        refine s_valg hS38 (wanted_of (j := 23) (b := false) (d := 47) rfl rfl rfl rfl) rfl (r_move rfl (.t rfl rfl)) ?_
        refine s_valg hS38 (wanted_of (j := 23) (b := false) (d := 47) rfl rfl rfl rfl) rfl (r_move rfl (.t rfl rfl)) ?_
        refine s_valg hS38 (wanted_of (j := 23) (b := false) (d := 47) rfl rfl rfl rfl) rfl (r_move rfl (.t rfl rfl)) ?_
        refine s_callg (wanted_of (j := 23) (b := false) (d := 47) rfl rfl rfl rfl) rfl rfl (vs := [.slice a5 R1.length c5, .slice a5 R1.length c5]) ⟨(.t rfl rfl), (.t rfl rfl), trivial⟩ cb19 (lmul_ok w36 a5 c5 R1 hR172 a5 c5 R1 hR172 hNR1 hNR1 (by (try simp only [hlONE, hlN1, hlN8, hlN9, hlN10, lv_nil, Nat.mul_zero, Nat.add_zero]) <;> (first | assumption | omega))) ?_
        intro v25 w37 hp30
        obtain ⟨N11, hp30, ⟨hNN11, hlN11⟩⟩ := hp30
        obtain ⟨a24, c25, rfl, hR177, -, hT24⟩ := id hp30
        have hW409 := Ow.from_ hS38 hp30
        have hS39 := hS38.keep hT24
        have hR178 := hR169.below hT24.toBelow (Nat.le_refl _)
        have hR179 := hR170.below hT24.toBelow (Nat.le_refl _)
        have hR180 := hR171.below hT24.toBelow (Nat.le_refl _)
        have hR181 := hR172.below hT24.toBelow (Nat.le_refl _)
        have hR182 := hR173.below hT24.toBelow (Nat.le_refl _)
        have hR183 := hR174.below hT24.toBelow (Nat.le_refl _)
        have hR184 := hR175.below hT24.toBelow (Nat.le_refl _)
        have hR185 := hR176.below hT24.toBelow (Nat.le_refl _)
        have hW410 := hW400.later hT24.toBelow
        have hW411 := hW401.later hT24.toBelow
        have hW412 := hW402.later hT24.toBelow
        have hW413 := hW403.later hT24.toBelow
        have hW414 := hW404.later hT24.toBelow
        have hW415 := hW405.later hT24.toBelow
        have hW416 := hW406.later hT24.toBelow
        have hW417 := hW407.later hT24.toBelow
        have hW418 := hW408.later hT24.toBelow
        have hA24 := hp30.apart hS38 (m := 0) rfl
        have hnN11 := hNN11.len
        refine s_valg hS39 (wanted_of (j := 23) (b := false) (d := 47) rfl rfl rfl rfl) rfl (r_move rfl (.t rfl rfl)) ?_
        refine s_callg (wanted_of (j := 23) (b := false) (d := 47) rfl rfl rfl rfl) rfl rfl (vs := [.slice a24 N11.length c25, .slice a1 A.length c1]) ⟨(.t rfl rfl), (.t rfl rfl), trivial⟩ cb14 (eq_ok w37 a24 c25 N11 hR177 a1 c1 A hR178 hNN11 hNA) ?_
        rintro _ w38 ⟨⟨hc12, rfl⟩ | ⟨hc12, rfl⟩, hB16⟩
        rotate_left
        · exact absurd ((by simp only [hlONE, hlN1, hlN8, hlN9, hlN10, hlN11]; omega)) hc12
        have hS40 := hS39.keep hB16
        replace hB16 := hB16.toBelow
        have hR186 := hR178.below hB16 (Nat.le_refl _)
        have hR187 := hR179.below hB16 (Nat.le_refl _)
        have hR188 := hR180.below hB16 (Nat.le_refl _)
        have hR189 := hR181.below hB16 (Nat.le_refl _)
        have hR190 := hR182.below hB16 (Nat.le_refl _)
        have hR191 := hR183.below hB16 (Nat.le_refl _)
        have hR192 := hR184.below hB16 (Nat.le_refl _)
        have hR193 := hR185.below hB16 (Nat.le_refl _)
        have hR194 := hR177.below hB16 (Nat.le_refl _)
        have hW419 := hW410.later hB16
        have hW420 := hW411.later hB16
        have hW421 := hW412.later hB16
        have hW422 := hW413.later hB16
        have hW423 := hW414.later hB16
        have hW424 := hW415.later hB16
        have hW425 := hW416.later hB16
        have hW426 := hW417.later hB16
        have hW427 := hW418.later hB16
        have hW428 := hW409.later hB16
        refine s_valg hS40 (wanted_of (j := 23) (b := false) (d := 47) rfl rfl rfl rfl) rfl (r_neb rfl Try.underlying4 (.t rfl rfl) (.t rfl rfl)) ?_
        refine s_val hS40 rfl rfl (r_pick rfl (.t rfl rfl) (.t rfl rfl)) ?_
        refine wpList_nil ?_
        refine x_tn ?_
        refine k_reb [(2, .bool false), (4, .slice a2 B.length c2), (6, .slice a4 ONE.length c4), (7, .slice a5 R1.length c5), (8, .bool true), (9, .int .i64 0), (55, .bool false)] ⟨rfl, rfl, rfl, rfl, rfl, rfl, rfl, trivial⟩ fun G29 => ?_
        refine k_f (.t rfl rfl) ?_
        refine wp_skip ?_
        refine x_tn ?_
        refine k_reb [(2, .bool false), (4, .slice a2 B.length c2), (6, .slice a4 ONE.length c4), (7, .slice a5 R1.length c5), (8, .bool true), (9, .int .i64 0)] ⟨rfl, rfl, rfl, rfl, rfl, rfl, trivial⟩ fun G30 => ?_
        refine wp_seq ?_
        refine k_reg ?_
        refine s_val hS40 rfl rfl (r_move rfl (.t rfl rfl)) ?_
        refine s_val hS40 rfl rfl (r_move rfl (.t rfl rfl)) ?_
        refine s_call rfl rfl rfl (vs := [.slice a2 B.length c2, .slice a2 B.length c2]) ⟨(.t rfl rfl), (.t rfl rfl), trivial⟩ cb19 (lmul_ok w38 a2 c2 B hR187 a2 c2 B hR187 hNB hNB (by (try simp only [hlONE, hlN1, hlN8, hlN9, hlN10, hlN11, lv_nil, Nat.mul_zero, Nat.add_zero]) <;> (first | assumption | omega))) ?_
        intro v26 w39 hp31
        obtain ⟨SQ, hp31, ⟨hNSQ, hlSQ⟩⟩ := hp31
        obtain ⟨a25, c26, rfl, hR195, -, hT25⟩ := id hp31
        have hW429 := Ow.from_ hS40 hp31
        have hS41 := hS40.keep hT25
        have hR196 := hR187.below hT25.toBelow (Nat.le_refl _)
        have hR197 := hR188.below hT25.toBelow (Nat.le_refl _)
        have hR198 := hR189.below hT25.toBelow (Nat.le_refl _)
        have hW430 := hW419.later hT25.toBelow
        have hW431 := hW420.later hT25.toBelow
        have hW432 := hW421.later hT25.toBelow
        have hW433 := hW422.later hT25.toBelow
        have hW434 := hW423.later hT25.toBelow
        have hW435 := hW424.later hT25.toBelow
        have hW436 := hW425.later hT25.toBelow
        have hW437 := hW426.later hT25.toBelow
        have hW438 := hW427.later hT25.toBelow
        have hW439 := hW428.later hT25.toBelow
        have hA25 := hp31.apart hS40 (m := 0) rfl
        have hnSQ := hNSQ.len
        refine s_val hS41 rfl rfl (r_assign rfl (.t rfl rfl)) ?_
        refine wpList_nil ?_
        refine x_tn ?_
        refine k_reb [(2, .bool false), (4, .slice a2 B.length c2), (6, .slice a4 ONE.length c4), (7, .slice a5 R1.length c5), (8, .bool true), (9, .int .i64 0), (10, .slice a25 SQ.length c26)] ⟨rfl, rfl, rfl, rfl, rfl, rfl, rfl, trivial⟩ fun G31 => ?_
        refine wp_seq ?_
        refine k_reg ?_
        refine s_val hS41 rfl rfl (r_move rfl (.t rfl rfl)) ?_
        refine s_call rfl rfl rfl (vs := [.slice a25 SQ.length c26]) ⟨(.t rfl rfl), trivial⟩ cb31 (Root_ok w39 a25 c26 SQ hR195 hNSQ) ?_
        rintro v27 w40 ⟨R2, _, rfl, hp32, hNR2, hstR2, hslR2⟩
        obtain ⟨a26, c27, rfl, hR199, -, hT26⟩ := id hp32
        have hW440 := Ow.from_ hS41 hp32
        have hS42 := hS41.keep hT26
        have hR200 := hR196.below hT26.toBelow (Nat.le_refl _)
        have hR201 := hR197.below hT26.toBelow (Nat.le_refl _)
        have hR202 := hR198.below hT26.toBelow (Nat.le_refl _)
        have hR203 := hR195.below hT26.toBelow (Nat.le_refl _)
        have hW441 := hW430.later hT26.toBelow
        have hW442 := hW431.later hT26.toBelow
        have hW443 := hW432.later hT26.toBelow
        have hW444 := hW433.later hT26.toBelow
        have hW445 := hW434.later hT26.toBelow
        have hW446 := hW435.later hT26.toBelow
        have hW447 := hW436.later hT26.toBelow
        have hW448 := hW437.later hT26.toBelow
        have hW449 := hW438.later hT26.toBelow
        have hW450 := hW439.later hT26.toBelow
        have hW451 := hW429.later hT26.toBelow
        have hA26 := hp32.apart hS41 (m := 0) rfl
        have hnR2 := hNR2.len
        have hexR2 : decide (lv R2 * lv R2 = lv SQ) = true := decide_eq_true (by have h8 := root_sq (b := lv B) (r := lv R2) (by rw [← hlSQ]; exact hstR2) (by rw [← hlSQ]; exact hslR2); rw [h8, hlSQ])
        rw [hexR2]
        refine s_val hS42 rfl rfl (r_move rfl (.t rfl rfl)) ?_
        refine s_val hS42 rfl rfl (r_extract rfl (.t rfl rfl) rfl) ?_
        refine s_val hS42 rfl rfl (r_extract rfl (.t rfl rfl) rfl) ?_
        refine s_val hS42 rfl rfl (r_extract rfl (.t rfl rfl) rfl) ?_
        refine s_val hS42 rfl rfl (r_assign rfl (.t rfl rfl)) ?_
        refine s_val hS42 rfl rfl (r_assign rfl (.t rfl rfl)) ?_
        refine s_val hS42 rfl rfl (r_assign rfl (.t rfl rfl)) ?_
        refine wpList_nil ?_
        refine x_tn ?_
        refine k_reb [(2, .bool false), (4, .slice a2 B.length c2), (6, .slice a4 ONE.length c4), (7, .slice a26 R2.length c27), (8, .bool true), (9, .int .i64 0), (10, .slice a25 SQ.length c26)] ⟨rfl, rfl, rfl, rfl, rfl, rfl, rfl, trivial⟩ fun G32 => ?_
        refine wp_seq ?_
        refine wp_seq ?_
        refine k_reg ?_
        refine s_val hS42 rfl rfl (r_move rfl (.t rfl rfl)) ?_
        refine s_call rfl rfl rfl (vs := [.int .i64 0]) ⟨(.t rfl rfl), trivial⟩ cb13 (num_ok w40 0) ?_
        rintro _ w40 ⟨rfl, rfl⟩
        refine s_val hS42 rfl rfl (r_cmp_f rfl rfl (.t rfl rfl) .c (show ¬ (¬ 0 = 0) from by omega)) ?_
        refine s_val hS42 rfl rfl (r_move rfl (.t rfl rfl)) ?_
        refine s_valg hS42 (wanted_of (j := 3) (b := false) (d := 68) rfl rfl rfl rfl) rfl (r_move rfl (.t rfl rfl)) ?_
        refine s_valg hS42 (wanted_of (j := 3) (b := false) (d := 68) rfl rfl rfl rfl) rfl (r_lnot rfl (.t rfl rfl)) ?_
        refine s_val hS42 rfl rfl (r_pick rfl (.t rfl rfl) (.t rfl rfl)) ?_
        refine s_val hS42 rfl rfl (r_move rfl (.t rfl rfl)) ?_
        refine s_valg hS42 (wanted_of (j := 7) (b := false) (d := 72) rfl rfl rfl rfl) rfl (r_move rfl (.t rfl rfl)) ?_
        refine s_valg hS42 (wanted_of (j := 7) (b := false) (d := 72) rfl rfl rfl rfl) rfl (r_move rfl (.t rfl rfl)) ?_
        refine s_callg (wanted_of (j := 7) (b := false) (d := 72) rfl rfl rfl rfl) rfl rfl (vs := [.slice a26 R2.length c27, .slice a2 B.length c2]) ⟨(.t rfl rfl), (.t rfl rfl), trivial⟩ cb14 (eq_ok w40 a26 c27 R2 hR199 a2 c2 B hR200 hNR2 hNB) ?_
        rintro _ w41 ⟨⟨hc13, rfl⟩ | ⟨hc13, rfl⟩, hB17⟩
        rotate_left
        · exact absurd ((root_sq (by rw [← hlSQ]; exact hstR2) (by rw [← hlSQ]; exact hslR2))) hc13
        have hS43 := hS42.keep hB17
        replace hB17 := hB17.toBelow
        have hR204 := hR200.below hB17 (Nat.le_refl _)
        have hR205 := hR201.below hB17 (Nat.le_refl _)
        have hR206 := hR199.below hB17 (Nat.le_refl _)
        have hR207 := hR203.below hB17 (Nat.le_refl _)
        have hW452 := hW441.later hB17
        have hW453 := hW442.later hB17
        have hW454 := hW443.later hB17
        have hW455 := hW444.later hB17
        have hW456 := hW445.later hB17
        have hW457 := hW446.later hB17
        have hW458 := hW447.later hB17
        have hW459 := hW448.later hB17
        have hW460 := hW449.later hB17
        have hW461 := hW450.later hB17
        have hW462 := hW451.later hB17
        have hW463 := hW440.later hB17
        refine s_valg hS43 (wanted_of (j := 7) (b := false) (d := 72) rfl rfl rfl rfl) rfl (r_lnot rfl (.t rfl rfl)) ?_
        refine s_val hS43 rfl rfl (r_pick rfl (.t rfl rfl) (.t rfl rfl)) ?_
        refine wpList_nil ?_
        refine x_tn ?_
        refine k_reb [(2, .bool false), (4, .slice a2 B.length c2), (6, .slice a4 ONE.length c4), (7, .slice a26 R2.length c27), (8, .bool true), (9, .int .i64 0), (10, .slice a25 SQ.length c26), (77, .bool false)] ⟨rfl, rfl, rfl, rfl, rfl, rfl, rfl, rfl, trivial⟩ fun G33 => ?_
        refine k_f (.t rfl rfl) ?_
        refine wp_skip ?_
        refine x_tn ?_
        refine k_reb [(2, .bool false), (4, .slice a2 B.length c2), (6, .slice a4 ONE.length c4), (7, .slice a26 R2.length c27), (8, .bool true), (9, .int .i64 0), (10, .slice a25 SQ.length c26)] ⟨rfl, rfl, rfl, rfl, rfl, rfl, rfl, trivial⟩ fun G34 => ?_
        refine wp_seq ?_
        refine wp_seq ?_
        refine k_reg ?_
        refine s_val hS43 rfl rfl (r_move rfl (.t rfl rfl)) ?_
        refine s_val hS43 rfl rfl (r_len rfl rfl Try.underlying27 (.t rfl rfl)) ?_
        by_cases c28 : B.length > 0
        · have hB0 := lv_pos hNB.nz (by omega)
          have hBB : 0 < lv B * lv B := Nat.mul_pos hB0 hB0
          refine s_val hS43 rfl rfl (r_cmp_t rfl rfl (.t rfl rfl) .c (show ((B.length : Nat) : Int) > 0 from by omega)) ?_
          refine wpList_nil ?_
          refine x_tn ?_
          refine k_reb [(2, .bool false), (4, .slice a2 B.length c2), (6, .slice a4 ONE.length c4), (7, .slice a26 R2.length c27), (8, .bool true), (9, .int .i64 0), (10, .slice a25 SQ.length c26), (80, .bool true)] ⟨rfl, rfl, rfl, rfl, rfl, rfl, rfl, rfl, trivial⟩ fun G35 => ?_
          refine k_t (.t rfl rfl) ?_
          refine wp_seq ?_
          refine k_reg ?_
          refine s_val hS43 rfl rfl (r_move rfl (.t rfl rfl)) ?_
          refine s_val hS43 rfl rfl (r_move rfl (.t rfl rfl)) ?_
          refine s_call rfl rfl rfl (vs := [.slice a25 SQ.length c26, .slice a4 ONE.length c4]) ⟨(.t rfl rfl), (.t rfl rfl), trivial⟩ cb27 (lsub_ok w41 a25 c26 SQ hR207 a4 c4 ONE hR205 hNSQ hNONE (by (try simp only [hlONE, hlN1, hlN8, hlN9, hlN10, hlN11, hlSQ, lv_nil, Nat.mul_zero, Nat.add_zero]) <;> (first | assumption | omega))) ?_
          intro v28 w42 hp33
          obtain ⟨SM, hp33, ⟨hNSM, hlSM⟩⟩ := hp33
          obtain ⟨a27, c29, rfl, hR208, -, hT27⟩ := id hp33
          have hW464 := Ow.from_ hS43 hp33
          have hS44 := hS43.keep hT27
          have hR209 := hR204.below hT27.toBelow (Nat.le_refl _)
          have hR210 := hR205.below hT27.toBelow (Nat.le_refl _)
          have hR211 := hR206.below hT27.toBelow (Nat.le_refl _)
          have hR212 := hR207.below hT27.toBelow (Nat.le_refl _)
          have hW465 := hW452.later hT27.toBelow
          have hW466 := hW453.later hT27.toBelow
          have hW467 := hW454.later hT27.toBelow
          have hW468 := hW455.later hT27.toBelow
          have hW469 := hW456.later hT27.toBelow
          have hW470 := hW457.later hT27.toBelow
          have hW471 := hW458.later hT27.toBelow
          have hW472 := hW459.later hT27.toBelow
          have hW473 := hW460.later hT27.toBelow
          have hW474 := hW461.later hT27.toBelow
          have hW475 := hW462.later hT27.toBelow
          have hW476 := hW463.later hT27.toBelow
          have hA27 := hp33.apart hS43 (m := 0) rfl
          have hnSM := hNSM.len
          refine s_call rfl rfl rfl (vs := [.slice a27 SM.length c29]) ⟨(.t rfl rfl), trivial⟩ cb31 (Root_ok w42 a27 c29 SM hR208 hNSM) ?_
          rintro v29 w43 ⟨R3, _, rfl, hp34, hNR3, hstR3, hslR3⟩
          obtain ⟨a28, c30, rfl, hR213, -, hT28⟩ := id hp34
          have hW477 := Ow.from_ hS44 hp34
          have hS45 := hS44.keep hT28
          have hR214 := hR209.below hT28.toBelow (Nat.le_refl _)
          have hR215 := hR210.below hT28.toBelow (Nat.le_refl _)
          have hR216 := hR211.below hT28.toBelow (Nat.le_refl _)
          have hR217 := hR212.below hT28.toBelow (Nat.le_refl _)
          have hR218 := hR208.below hT28.toBelow (Nat.le_refl _)
          have hW478 := hW465.later hT28.toBelow
          have hW479 := hW466.later hT28.toBelow
          have hW480 := hW467.later hT28.toBelow
          have hW481 := hW468.later hT28.toBelow
          have hW482 := hW469.later hT28.toBelow
          have hW483 := hW470.later hT28.toBelow
          have hW484 := hW471.later hT28.toBelow
          have hW485 := hW472.later hT28.toBelow
          have hW486 := hW473.later hT28.toBelow
          have hW487 := hW474.later hT28.toBelow
          have hW488 := hW475.later hT28.toBelow
          have hW489 := hW476.later hT28.toBelow
          have hW490 := hW464.later hT28.toBelow
          have hA28 := hp34.apart hS44 (m := 0) rfl
          have hnR3 := hNR3.len
          by_cases hexR3 : lv R3 * lv R3 = lv SM
          · rw [decide_eq_true hexR3]
            refine s_val hS45 rfl rfl (r_move rfl (.t rfl rfl)) ?_
            refine s_val hS45 rfl rfl (r_extract rfl (.t rfl rfl) rfl) ?_
            refine s_val hS45 rfl rfl (r_extract rfl (.t rfl rfl) rfl) ?_
            refine s_val hS45 rfl rfl (r_extract rfl (.t rfl rfl) rfl) ?_
            refine s_val hS45 rfl rfl (r_assign rfl (.t rfl rfl)) ?_
            refine s_val hS45 rfl rfl (r_assign rfl (.t rfl rfl)) ?_
            refine s_val hS45 rfl rfl (r_assign rfl (.t rfl rfl)) ?_
            refine wpList_nil ?_
            refine x_tn ?_
            refine k_reb [(2, .bool false), (4, .slice a2 B.length c2), (6, .slice a4 ONE.length c4), (7, .slice a28 R3.length c30), (8, .bool true), (9, .int .i64 0), (10, .slice a25 SQ.length c26)] ⟨rfl, rfl, rfl, rfl, rfl, rfl, rfl, trivial⟩ fun G36 => ?_
            refine wp_seq ?_
            refine wp_seq ?_
            refine k_reg ?_
            refine s_val hS45 rfl rfl (r_move rfl (.t rfl rfl)) ?_
            refine s_call rfl rfl rfl (vs := [.int .i64 0]) ⟨(.t rfl rfl), trivial⟩ cb13 (num_ok w43 0) ?_
            rintro _ w43 ⟨rfl, rfl⟩
            refine s_val hS45 rfl rfl (r_cmp_f rfl rfl (.t rfl rfl) .c (show ¬ (¬ 0 = 0) from by omega)) ?_
            refine s_val hS45 rfl rfl (r_move rfl (.t rfl rfl)) ?_
            refine s_valg hS45 (wanted_of (j := 3) (b := false) (d := 92) rfl rfl rfl rfl) rfl (r_move rfl (.t rfl rfl)) ?_
            refine s_valg hS45 (wanted_of (j := 3) (b := false) (d := 92) rfl rfl rfl rfl) rfl (r_move rfl (.t rfl rfl)) ?_
            refine s_valg hS45 (wanted_of (j := 3) (b := false) (d := 92) rfl rfl rfl rfl) rfl (r_move rfl (.t rfl rfl)) ?_
            refine s_callg (wanted_of (j := 3) (b := false) (d := 92) rfl rfl rfl rfl) rfl rfl (vs := [.slice a2 B.length c2, .slice a4 ONE.length c4]) ⟨(.t rfl rfl), (.t rfl rfl), trivial⟩ cb27 (lsub_ok w43 a2 c2 B hR214 a4 c4 ONE hR215 hNB hNONE (by (try simp only [hlONE, hlN1, hlN8, hlN9, hlN10, hlN11, hlSQ, hlSM, lv_nil, Nat.mul_zero, Nat.add_zero]) <;> (first | assumption | omega))) ?_
            intro v30 w44 hp35
            obtain ⟨N12, hp35, ⟨hNN12, hlN12⟩⟩ := hp35
            obtain ⟨a29, c31, rfl, hR219, -, hT29⟩ := id hp35
            have hW491 := Ow.from_ hS45 hp35
            have hS46 := hS45.keep hT29
            have hR220 := hR214.below hT29.toBelow (Nat.le_refl _)
            have hR221 := hR215.below hT29.toBelow (Nat.le_refl _)
            have hR222 := hR213.below hT29.toBelow (Nat.le_refl _)
            have hR223 := hR217.below hT29.toBelow (Nat.le_refl _)
            have hW492 := hW478.later hT29.toBelow
            have hW493 := hW479.later hT29.toBelow
            have hW494 := hW480.later hT29.toBelow
            have hW495 := hW481.later hT29.toBelow
            have hW496 := hW482.later hT29.toBelow
            have hW497 := hW483.later hT29.toBelow
            have hW498 := hW484.later hT29.toBelow
            have hW499 := hW485.later hT29.toBelow
            have hW500 := hW486.later hT29.toBelow
            have hW501 := hW487.later hT29.toBelow
            have hW502 := hW488.later hT29.toBelow
            have hW503 := hW489.later hT29.toBelow
            have hW504 := hW490.later hT29.toBelow
            have hW505 := hW477.later hT29.toBelow
            have hA29 := hp35.apart hS45 (m := 0) rfl
            have hnN12 := hNN12.len
            refine s_callg (wanted_of (j := 3) (b := false) (d := 92) rfl rfl rfl rfl) rfl rfl (vs := [.slice a28 R3.length c30, .slice a29 N12.length c31]) ⟨(.t rfl rfl), (.t rfl rfl), trivial⟩ cb14 (eq_ok w44 a28 c30 R3 hR222 a29 c31 N12 hR219 hNR3 hNN12) ?_
            rintro _ w45 ⟨⟨hc14, rfl⟩ | ⟨hc14, rfl⟩, hB18⟩
            rotate_left
            · exact absurd ((by simp only [hlONE, hlN1, hlN8, hlN9, hlN10, hlN11, hlSQ, hlSM, hlN12]; exact root_below hB0 (by simpa only [hlSM, hlSQ, hlONE] using hstR3) (by simpa only [hlSM, hlSQ, hlONE] using hslR3))) hc14
            have hS47 := hS46.keep hB18
            replace hB18 := hB18.toBelow
            have hR224 := hR220.below hB18 (Nat.le_refl _)
            have hR225 := hR221.below hB18 (Nat.le_refl _)
            have hR226 := hR222.below hB18 (Nat.le_refl _)
            have hR227 := hR223.below hB18 (Nat.le_refl _)
            have hR228 := hR219.below hB18 (Nat.le_refl _)
            have hW506 := hW492.later hB18
            have hW507 := hW493.later hB18
            have hW508 := hW494.later hB18
            have hW509 := hW495.later hB18
            have hW510 := hW496.later hB18
            have hW511 := hW497.later hB18
            have hW512 := hW498.later hB18
            have hW513 := hW499.later hB18
            have hW514 := hW500.later hB18
            have hW515 := hW501.later hB18
            have hW516 := hW502.later hB18
            have hW517 := hW503.later hB18
            have hW518 := hW504.later hB18
            have hW519 := hW505.later hB18
            have hW520 := hW491.later hB18
            refine s_valg hS47 (wanted_of (j := 3) (b := false) (d := 92) rfl rfl rfl rfl) rfl (r_lnot rfl (.t rfl rfl)) ?_
            refine s_val hS47 rfl rfl (r_pick rfl (.t rfl rfl) (.t rfl rfl)) ?_
            refine s_val hS47 rfl rfl (r_move rfl (.t rfl rfl)) ?_
            refine s_valg hS47 (wanted_of (j := 11) (b := false) (d := 100) rfl rfl rfl rfl) rfl (r_move rfl (.t rfl rfl)) ?_
            refine s_valg hS47 (wanted_of (j := 11) (b := false) (d := 100) rfl rfl rfl rfl) rfl (r_move rfl (.t rfl rfl)) ?_
            refine s_valg hS47 (wanted_of (j := 11) (b := false) (d := 100) rfl rfl rfl rfl) rfl (r_move rfl (.t rfl rfl)) ?_
            refine s_callg (wanted_of (j := 11) (b := false) (d := 100) rfl rfl rfl rfl) rfl rfl (vs := [.slice a2 B.length c2, .slice a4 ONE.length c4]) ⟨(.t rfl rfl), (.t rfl rfl), trivial⟩ cb14 (eq_ok w45 a2 c2 B hR224 a4 c4 ONE hR225 hNB hNONE) ?_
            rintro _ w46 ⟨⟨hc15, rfl⟩ | ⟨hc15, rfl⟩, hB19⟩
            rotate_left
            · exact absurd ((by have h8 := root_below hB0 (by simpa only [hlSM, hlSQ, hlONE] using hstR3) (by simpa only [hlSM, hlSQ, hlONE] using hslR3); have h9 := hexR3; rw [h8, hlSM, hlSQ, hlONE] at h9; have h7 := root_below_exact hB0; simp only [hlONE]; exact h7.1 h9)) hc15
            have hS48 := hS47.keep hB19
            replace hB19 := hB19.toBelow
            have hR229 := hR224.below hB19 (Nat.le_refl _)
            have hR230 := hR225.below hB19 (Nat.le_refl _)
            have hR231 := hR226.below hB19 (Nat.le_refl _)
            have hR232 := hR227.below hB19 (Nat.le_refl _)
            have hR233 := hR228.below hB19 (Nat.le_refl _)
            have hW521 := hW506.later hB19
            have hW522 := hW507.later hB19
            have hW523 := hW508.later hB19
            have hW524 := hW509.later hB19
            have hW525 := hW510.later hB19
            have hW526 := hW511.later hB19
            have hW527 := hW512.later hB19
            have hW528 := hW513.later hB19
            have hW529 := hW514.later hB19
            have hW530 := hW515.later hB19
            have hW531 := hW516.later hB19
            have hW532 := hW517.later hB19
            have hW533 := hW518.later hB19
            have hW534 := hW519.later hB19
            have hW535 := hW520.later hB19
            refine s_valg hS48 (wanted_of (j := 11) (b := false) (d := 100) rfl rfl rfl rfl) rfl (r_neb rfl Try.underlying4 (.t rfl rfl) (.t rfl rfl)) ?_
            refine s_val hS48 rfl rfl (r_pick rfl (.t rfl rfl) (.t rfl rfl)) ?_
            refine wpList_nil ?_
            refine x_tn ?_
            refine k_reb [(2, .bool false), (4, .slice a2 B.length c2), (6, .slice a4 ONE.length c4), (7, .slice a28 R3.length c30), (8, .bool true), (9, .int .i64 0), (10, .slice a25 SQ.length c26), (106, .bool false)] ⟨rfl, rfl, rfl, rfl, rfl, rfl, rfl, rfl, trivial⟩ fun G37 => ?_
            refine k_f (.t rfl rfl) ?_
            refine wp_skip ?_
            refine x_tn ?_
            refine k_reb [(2, .bool false), (4, .slice a2 B.length c2), (6, .slice a4 ONE.length c4), (7, .slice a28 R3.length c30), (8, .bool true), (9, .int .i64 0), (10, .slice a25 SQ.length c26)] ⟨rfl, rfl, rfl, rfl, rfl, rfl, rfl, trivial⟩ fun G38 => ?_
            refine wp_seq ?_
            refine k_reg ?_
            refine s_val hS48 rfl rfl (r_move rfl (.t rfl rfl)) ?_
            refine s_val hS48 rfl rfl (r_move rfl (.t rfl rfl)) ?_
            refine s_call rfl rfl rfl (vs := [.slice a25 SQ.length c26, .slice a4 ONE.length c4]) ⟨(.t rfl rfl), (.t rfl rfl), trivial⟩ cb15 (ladd_ok w46 a25 c26 SQ hR232 a4 c4 ONE hR230 hNSQ hNONE (by (try simp only [hlONE, hlN1, hlN8, hlN9, hlN10, hlN11, hlSQ, hlSM, hlN12, lv_nil, Nat.mul_zero, Nat.add_zero]) <;> (first | assumption | omega))) ?_
            intro v31 w47 hp36
            obtain ⟨SP, hp36, ⟨hNSP, hlSP⟩⟩ := hp36
            obtain ⟨a30, c32, rfl, hR234, -, hT30⟩ := id hp36
            have hW536 := Ow.from_ hS48 hp36
            have hS49 := hS48.keep hT30
            have hR235 := hR229.below hT30.toBelow (Nat.le_refl _)
            have hR236 := hR230.below hT30.toBelow (Nat.le_refl _)
            have hR237 := hR231.below hT30.toBelow (Nat.le_refl _)
            have hR238 := hR232.below hT30.toBelow (Nat.le_refl _)
            have hW537 := hW521.later hT30.toBelow
            have hW538 := hW522.later hT30.toBelow
            have hW539 := hW523.later hT30.toBelow
            have hW540 := hW524.later hT30.toBelow
            have hW541 := hW525.later hT30.toBelow
            have hW542 := hW526.later hT30.toBelow
            have hW543 := hW527.later hT30.toBelow
            have hW544 := hW528.later hT30.toBelow
            have hW545 := hW529.later hT30.toBelow
            have hW546 := hW530.later hT30.toBelow
            have hW547 := hW531.later hT30.toBelow
            have hW548 := hW532.later hT30.toBelow
            have hW549 := hW533.later hT30.toBelow
            have hW550 := hW534.later hT30.toBelow
            have hW551 := hW535.later hT30.toBelow
            have hA30 := hp36.apart hS48 (m := 0) rfl
            have hnSP := hNSP.len
            refine s_call rfl rfl rfl (vs := [.slice a30 SP.length c32]) ⟨(.t rfl rfl), trivial⟩ cb31 (Root_ok w47 a30 c32 SP hR234 hNSP) ?_
            rintro v32 w48 ⟨R4, _, rfl, hp37, hNR4, hstR4, hslR4⟩
            obtain ⟨a31, c33, rfl, hR239, -, hT31⟩ := id hp37
            have hW552 := Ow.from_ hS49 hp37
            have hS50 := hS49.keep hT31
            have hR240 := hR235.below hT31.toBelow (Nat.le_refl _)
            have hR241 := hR236.below hT31.toBelow (Nat.le_refl _)
            have hR242 := hR237.below hT31.toBelow (Nat.le_refl _)
            have hR243 := hR238.below hT31.toBelow (Nat.le_refl _)
            have hR244 := hR234.below hT31.toBelow (Nat.le_refl _)
            have hW553 := hW537.later hT31.toBelow
            have hW554 := hW538.later hT31.toBelow
            have hW555 := hW539.later hT31.toBelow
            have hW556 := hW540.later hT31.toBelow
            have hW557 := hW541.later hT31.toBelow
            have hW558 := hW542.later hT31.toBelow
            have hW559 := hW543.later hT31.toBelow
            have hW560 := hW544.later hT31.toBelow
            have hW561 := hW545.later hT31.toBelow
            have hW562 := hW546.later hT31.toBelow
            have hW563 := hW547.later hT31.toBelow
            have hW564 := hW548.later hT31.toBelow
            have hW565 := hW549.later hT31.toBelow
            have hW566 := hW550.later hT31.toBelow
            have hW567 := hW551.later hT31.toBelow
            have hW568 := hW536.later hT31.toBelow
            have hA31 := hp37.apart hS49 (m := 0) rfl
            have hnR4 := hNR4.len
            have hexR4 : decide (lv R4 * lv R4 = lv SP) = false := decide_eq_false (by have h8 := root_above hB0 (by simpa only [hlSP, hlSQ, hlONE] using hstR4) (by simpa only [hlSP, hlSQ, hlONE] using hslR4); rw [h8, hlSP, hlSQ, hlONE]; omega)
            rw [hexR4]
            refine s_val hS50 rfl rfl (r_move rfl (.t rfl rfl)) ?_
            refine s_val hS50 rfl rfl (r_extract rfl (.t rfl rfl) rfl) ?_
            refine s_val hS50 rfl rfl (r_extract rfl (.t rfl rfl) rfl) ?_
            refine s_val hS50 rfl rfl (r_extract rfl (.t rfl rfl) rfl) ?_
            refine s_val hS50 rfl rfl (r_assign rfl (.t rfl rfl)) ?_
            refine s_val hS50 rfl rfl (r_assign rfl (.t rfl rfl)) ?_
            refine s_val hS50 rfl rfl (r_assign rfl (.t rfl rfl)) ?_
            refine wpList_nil ?_
            refine x_tn ?_
            refine k_reb [(2, .bool false), (4, .slice a2 B.length c2), (7, .slice a31 R4.length c33), (8, .bool false), (9, .int .i64 0)] ⟨rfl, rfl, rfl, rfl, rfl, trivial⟩ fun G39 => ?_
            refine wp_seq ?_
            refine k_reg ?_
            refine s_val hS50 rfl rfl (r_move rfl (.t rfl rfl)) ?_
            refine s_call rfl rfl rfl (vs := [.int .i64 0]) ⟨(.t rfl rfl), trivial⟩ cb13 (num_ok w48 0) ?_
            rintro _ w48 ⟨rfl, rfl⟩
            refine s_val hS50 rfl rfl (r_cmp_f rfl rfl (.t rfl rfl) .c (show ¬ (¬ 0 = 0) from by omega)) ?_
            refine s_val hS50 rfl rfl (r_move rfl (.t rfl rfl)) ?_
            refine s_valg hS50 (wanted_of (j := 3) (b := false) (d := 118) rfl rfl rfl rfl) rfl (r_move rfl (.t rfl rfl)) ?_
            refine s_valg hS50 (wanted_of (j := 3) (b := false) (d := 118) rfl rfl rfl rfl) rfl (r_move rfl (.t rfl rfl)) ?_
            refine s_callg (wanted_of (j := 3) (b := false) (d := 118) rfl rfl rfl rfl) rfl rfl (vs := [.slice a31 R4.length c33, .slice a2 B.length c2]) ⟨(.t rfl rfl), (.t rfl rfl), trivial⟩ cb14 (eq_ok w48 a31 c33 R4 hR239 a2 c2 B hR240 hNR4 hNB) ?_
            rintro _ w49 ⟨⟨hc16, rfl⟩ | ⟨hc16, rfl⟩, hB20⟩
            rotate_left
            · exact absurd ((root_above hB0 (by simpa only [hlSP, hlSQ, hlONE] using hstR4) (by simpa only [hlSP, hlSQ, hlONE] using hslR4))) hc16
            have hS51 := hS50.keep hB20
            replace hB20 := hB20.toBelow
            have hR245 := hR240.below hB20 (Nat.le_refl _)
            have hR246 := hR239.below hB20 (Nat.le_refl _)
            have hW569 := hW553.later hB20
            have hW570 := hW554.later hB20
            have hW571 := hW555.later hB20
            have hW572 := hW556.later hB20
            have hW573 := hW557.later hB20
            have hW574 := hW558.later hB20
            have hW575 := hW559.later hB20
            have hW576 := hW560.later hB20
            have hW577 := hW561.later hB20
            have hW578 := hW562.later hB20
            have hW579 := hW563.later hB20
            have hW580 := hW564.later hB20
            have hW581 := hW565.later hB20
            have hW582 := hW566.later hB20
            have hW583 := hW567.later hB20
            have hW584 := hW568.later hB20
            have hW585 := hW552.later hB20
            refine s_valg hS51 (wanted_of (j := 3) (b := false) (d := 118) rfl rfl rfl rfl) rfl (r_lnot rfl (.t rfl rfl)) ?_
            refine s_val hS51 rfl rfl (r_pick rfl (.t rfl rfl) (.t rfl rfl)) ?_
            refine s_val hS51 rfl rfl (r_move rfl (.t rfl rfl)) ?_
            refine s_valg hS51 (wanted_of (j := 9) (b := false) (d := 124) rfl rfl rfl rfl) rfl (r_move rfl (.t rfl rfl)) ?_
            refine s_val hS51 rfl rfl (r_pick rfl (.t rfl rfl) (.t rfl rfl)) ?_
            refine wpList_nil ?_
            refine x_tn ?_
            refine k_reb [(2, .bool false), (126, .bool false)] ⟨rfl, rfl, trivial⟩ fun G40 => ?_
            refine k_f (.t rfl rfl) ?_
            refine wp_skip ?_
            refine x_tn ?_
            refine k_reb [(2, .bool false)] ⟨rfl, trivial⟩ fun G41 => ?_
            refine wp_seq ?_
            refine k_reg ?_
            refine s_call rfl rfl rfl (vs := []) trivial cb16 (wakes_ok w49 ) ?_
            intro v33 w50 hp38
            obtain ⟨hp38, hB21⟩ := hp38
            have hS52 := hS51.keep hB21
            replace hB21 := hB21.toBelow
            have hW586 := hW569.later hB21
            have hW587 := hW570.later hB21
            have hW588 := hW571.later hB21
            have hW589 := hW572.later hB21
            have hW590 := hW573.later hB21
            have hW591 := hW574.later hB21
            have hW592 := hW575.later hB21
            have hW593 := hW576.later hB21
            have hW594 := hW577.later hB21
            have hW595 := hW578.later hB21
            have hW596 := hW579.later hB21
            have hW597 := hW580.later hB21
            have hW598 := hW581.later hB21
            have hW599 := hW582.later hB21
            have hW600 := hW583.later hB21
            have hW601 := hW584.later hB21
            have hW602 := hW585.later hB21
            obtain rfl := hp38
            refine s_val hS52 rfl rfl (r_assign rfl (.t rfl rfl)) ?_
            refine wpList_nil ?_
            refine x_tn ?_
            refine k_reb [(2, .bool true)] ⟨rfl, trivial⟩ fun G42 => ?_
            refine wp_ret ?_
            refine k_ret1 Try.results8 rfl rfl ?_
            refine ⟨_, rfl, ?_⟩
            exact ⟨rfl, hS52.none⟩
          · rw [decide_eq_false hexR3]
            refine s_val hS45 rfl rfl (r_move rfl (.t rfl rfl)) ?_
            refine s_val hS45 rfl rfl (r_extract rfl (.t rfl rfl) rfl) ?_
            refine s_val hS45 rfl rfl (r_extract rfl (.t rfl rfl) rfl) ?_
            refine s_val hS45 rfl rfl (r_extract rfl (.t rfl rfl) rfl) ?_
            refine s_val hS45 rfl rfl (r_assign rfl (.t rfl rfl)) ?_
            refine s_val hS45 rfl rfl (r_assign rfl (.t rfl rfl)) ?_
            refine s_val hS45 rfl rfl (r_assign rfl (.t rfl rfl)) ?_
            refine wpList_nil ?_
            refine x_tn ?_
            refine k_reb [(2, .bool false), (4, .slice a2 B.length c2), (6, .slice a4 ONE.length c4), (7, .slice a28 R3.length c30), (8, .bool false), (9, .int .i64 0), (10, .slice a25 SQ.length c26)] ⟨rfl, rfl, rfl, rfl, rfl, rfl, rfl, trivial⟩ fun G43 => ?_
            refine wp_seq ?_
            refine wp_seq ?_
            refine k_reg ?_
            refine s_val hS45 rfl rfl (r_move rfl (.t rfl rfl)) ?_
            refine s_call rfl rfl rfl (vs := [.int .i64 0]) ⟨(.t rfl rfl), trivial⟩ cb13 (num_ok w43 0) ?_
            rintro _ w43 ⟨rfl, rfl⟩
            refine s_val hS45 rfl rfl (r_cmp_f rfl rfl (.t rfl rfl) .c (show ¬ (¬ 0 = 0) from by omega)) ?_
            refine s_val hS45 rfl rfl (r_move rfl (.t rfl rfl)) ?_
            refine s_valg hS45 (wanted_of (j := 3) (b := false) (d := 92) rfl rfl rfl rfl) rfl (r_move rfl (.t rfl rfl)) ?_
            refine s_valg hS45 (wanted_of (j := 3) (b := false) (d := 92) rfl rfl rfl rfl) rfl (r_move rfl (.t rfl rfl)) ?_
            refine s_valg hS45 (wanted_of (j := 3) (b := false) (d := 92) rfl rfl rfl rfl) rfl (r_move rfl (.t rfl rfl)) ?_
            refine s_callg (wanted_of (j := 3) (b := false) (d := 92) rfl rfl rfl rfl) rfl rfl (vs := [.slice a2 B.length c2, .slice a4 ONE.length c4]) ⟨(.t rfl rfl), (.t rfl rfl), trivial⟩ cb27 (lsub_ok w43 a2 c2 B hR214 a4 c4 ONE hR215 hNB hNONE (by (try simp only [hlONE, hlN1, hlN8, hlN9, hlN10, hlN11, hlSQ, hlSM, lv_nil, Nat.mul_zero, Nat.add_zero]) <;> (first | assumption | omega))) ?_
            intro v34 w51 hp39
            obtain ⟨N13, hp39, ⟨hNN13, hlN13⟩⟩ := hp39
            obtain ⟨a32, c34, rfl, hR247, -, hT32⟩ := id hp39
            have hW603 := Ow.from_ hS45 hp39
            have hS53 := hS45.keep hT32
            have hR248 := hR214.below hT32.toBelow (Nat.le_refl _)
            have hR249 := hR215.below hT32.toBelow (Nat.le_refl _)
            have hR250 := hR213.below hT32.toBelow (Nat.le_refl _)
            have hR251 := hR217.below hT32.toBelow (Nat.le_refl _)
            have hW604 := hW478.later hT32.toBelow
            have hW605 := hW479.later hT32.toBelow
            have hW606 := hW480.later hT32.toBelow
            have hW607 := hW481.later hT32.toBelow
            have hW608 := hW482.later hT32.toBelow
            have hW609 := hW483.later hT32.toBelow
            have hW610 := hW484.later hT32.toBelow
            have hW611 := hW485.later hT32.toBelow
            have hW612 := hW486.later hT32.toBelow
            have hW613 := hW487.later hT32.toBelow
            have hW614 := hW488.later hT32.toBelow
            have hW615 := hW489.later hT32.toBelow
            have hW616 := hW490.later hT32.toBelow
            have hW617 := hW477.later hT32.toBelow
            have hA32 := hp39.apart hS45 (m := 0) rfl
            have hnN13 := hNN13.len
            refine s_callg (wanted_of (j := 3) (b := false) (d := 92) rfl rfl rfl rfl) rfl rfl (vs := [.slice a28 R3.length c30, .slice a32 N13.length c34]) ⟨(.t rfl rfl), (.t rfl rfl), trivial⟩ cb14 (eq_ok w51 a28 c30 R3 hR250 a32 c34 N13 hR247 hNR3 hNN13) ?_
            rintro _ w52 ⟨⟨hc17, rfl⟩ | ⟨hc17, rfl⟩, hB22⟩
            rotate_left
            · exact absurd ((by simp only [hlONE, hlN1, hlN8, hlN9, hlN10, hlN11, hlSQ, hlSM, hlN13]; exact root_below hB0 (by simpa only [hlSM, hlSQ, hlONE] using hstR3) (by simpa only [hlSM, hlSQ, hlONE] using hslR3))) hc17
            have hS54 := hS53.keep hB22
            replace hB22 := hB22.toBelow
            have hR252 := hR248.below hB22 (Nat.le_refl _)
            have hR253 := hR249.below hB22 (Nat.le_refl _)
            have hR254 := hR250.below hB22 (Nat.le_refl _)
            have hR255 := hR251.below hB22 (Nat.le_refl _)
            have hR256 := hR247.below hB22 (Nat.le_refl _)
            have hW618 := hW604.later hB22
            have hW619 := hW605.later hB22
            have hW620 := hW606.later hB22
            have hW621 := hW607.later hB22
            have hW622 := hW608.later hB22
            have hW623 := hW609.later hB22
            have hW624 := hW610.later hB22
            have hW625 := hW611.later hB22
            have hW626 := hW612.later hB22
            have hW627 := hW613.later hB22
            have hW628 := hW614.later hB22
            have hW629 := hW615.later hB22
            have hW630 := hW616.later hB22
            have hW631 := hW617.later hB22
            have hW632 := hW603.later hB22
            refine s_valg hS54 (wanted_of (j := 3) (b := false) (d := 92) rfl rfl rfl rfl) rfl (r_lnot rfl (.t rfl rfl)) ?_
            refine s_val hS54 rfl rfl (r_pick rfl (.t rfl rfl) (.t rfl rfl)) ?_
            refine s_val hS54 rfl rfl (r_move rfl (.t rfl rfl)) ?_
            refine s_valg hS54 (wanted_of (j := 11) (b := false) (d := 100) rfl rfl rfl rfl) rfl (r_move rfl (.t rfl rfl)) ?_
            refine s_valg hS54 (wanted_of (j := 11) (b := false) (d := 100) rfl rfl rfl rfl) rfl (r_move rfl (.t rfl rfl)) ?_
            refine s_valg hS54 (wanted_of (j := 11) (b := false) (d := 100) rfl rfl rfl rfl) rfl (r_move rfl (.t rfl rfl)) ?_
            refine s_callg (wanted_of (j := 11) (b := false) (d := 100) rfl rfl rfl rfl) rfl rfl (vs := [.slice a2 B.length c2, .slice a4 ONE.length c4]) ⟨(.t rfl rfl), (.t rfl rfl), trivial⟩ cb14 (eq_ok w52 a2 c2 B hR252 a4 c4 ONE hR253 hNB hNONE) ?_
            rintro _ w53 ⟨⟨hc18, rfl⟩ | ⟨hc18, rfl⟩, hB23⟩
            · exact absurd hc18 ((by have h8 := root_below hB0 (by simpa only [hlSM, hlSQ, hlONE] using hstR3) (by simpa only [hlSM, hlSQ, hlONE] using hslR3); have h9 := hexR3; rw [h8, hlSM, hlSQ, hlONE] at h9; have h7 := root_below_exact hB0; simp only [hlONE]; exact fun h => h9 (h7.2 h)))
            have hS55 := hS54.keep hB23
            replace hB23 := hB23.toBelow
            have hR257 := hR252.below hB23 (Nat.le_refl _)
            have hR258 := hR253.below hB23 (Nat.le_refl _)
            have hR259 := hR254.below hB23 (Nat.le_refl _)
            have hR260 := hR255.below hB23 (Nat.le_refl _)
            have hR261 := hR256.below hB23 (Nat.le_refl _)
            have hW633 := hW618.later hB23
            have hW634 := hW619.later hB23
            have hW635 := hW620.later hB23
            have hW636 := hW621.later hB23
            have hW637 := hW622.later hB23
            have hW638 := hW623.later hB23
            have hW639 := hW624.later hB23
            have hW640 := hW625.later hB23
            have hW641 := hW626.later hB23
            have hW642 := hW627.later hB23
            have hW643 := hW628.later hB23
            have hW644 := hW629.later hB23
            have hW645 := hW630.later hB23
            have hW646 := hW631.later hB23
            have hW647 := hW632.later hB23
            refine s_valg hS55 (wanted_of (j := 11) (b := false) (d := 100) rfl rfl rfl rfl) rfl (r_neb rfl Try.underlying4 (.t rfl rfl) (.t rfl rfl)) ?_
            refine s_val hS55 rfl rfl (r_pick rfl (.t rfl rfl) (.t rfl rfl)) ?_
            refine wpList_nil ?_
            refine x_tn ?_
            refine k_reb [(2, .bool false), (4, .slice a2 B.length c2), (6, .slice a4 ONE.length c4), (7, .slice a28 R3.length c30), (8, .bool false), (9, .int .i64 0), (10, .slice a25 SQ.length c26), (106, .bool false)] ⟨rfl, rfl, rfl, rfl, rfl, rfl, rfl, rfl, trivial⟩ fun G44 => ?_
            refine k_f (.t rfl rfl) ?_
            refine wp_skip ?_
            refine x_tn ?_
            refine k_reb [(2, .bool false), (4, .slice a2 B.length c2), (6, .slice a4 ONE.length c4), (7, .slice a28 R3.length c30), (8, .bool false), (9, .int .i64 0), (10, .slice a25 SQ.length c26)] ⟨rfl, rfl, rfl, rfl, rfl, rfl, rfl, trivial⟩ fun G45 => ?_
            refine wp_seq ?_
            refine k_reg ?_
            refine s_val hS55 rfl rfl (r_move rfl (.t rfl rfl)) ?_
            refine s_val hS55 rfl rfl (r_move rfl (.t rfl rfl)) ?_
            refine s_call rfl rfl rfl (vs := [.slice a25 SQ.length c26, .slice a4 ONE.length c4]) ⟨(.t rfl rfl), (.t rfl rfl), trivial⟩ cb15 (ladd_ok w53 a25 c26 SQ hR260 a4 c4 ONE hR258 hNSQ hNONE (by (try simp only [hlONE, hlN1, hlN8, hlN9, hlN10, hlN11, hlSQ, hlSM, hlN13, lv_nil, Nat.mul_zero, Nat.add_zero]) <;> (first | assumption | omega))) ?_
            intro v35 w54 hp40
            obtain ⟨SP, hp40, ⟨hNSP, hlSP⟩⟩ := hp40
            obtain ⟨a33, c35, rfl, hR262, -, hT33⟩ := id hp40
            have hW648 := Ow.from_ hS55 hp40
            have hS56 := hS55.keep hT33
            have hR263 := hR257.below hT33.toBelow (Nat.le_refl _)
            have hR264 := hR258.below hT33.toBelow (Nat.le_refl _)
            have hR265 := hR259.below hT33.toBelow (Nat.le_refl _)
            have hR266 := hR260.below hT33.toBelow (Nat.le_refl _)
            have hW649 := hW633.later hT33.toBelow
            have hW650 := hW634.later hT33.toBelow
            have hW651 := hW635.later hT33.toBelow
            have hW652 := hW636.later hT33.toBelow
            have hW653 := hW637.later hT33.toBelow
            have hW654 := hW638.later hT33.toBelow
            have hW655 := hW639.later hT33.toBelow
            have hW656 := hW640.later hT33.toBelow
            have hW657 := hW641.later hT33.toBelow
            have hW658 := hW642.later hT33.toBelow
            have hW659 := hW643.later hT33.toBelow
            have hW660 := hW644.later hT33.toBelow
            have hW661 := hW645.later hT33.toBelow
            have hW662 := hW646.later hT33.toBelow
            have hW663 := hW647.later hT33.toBelow
            have hA33 := hp40.apart hS55 (m := 0) rfl
            have hnSP := hNSP.len
            refine s_call rfl rfl rfl (vs := [.slice a33 SP.length c35]) ⟨(.t rfl rfl), trivial⟩ cb31 (Root_ok w54 a33 c35 SP hR262 hNSP) ?_
            rintro v36 w55 ⟨R4, _, rfl, hp41, hNR4, hstR4, hslR4⟩
            obtain ⟨a34, c36, rfl, hR267, -, hT34⟩ := id hp41
            have hW664 := Ow.from_ hS56 hp41
            have hS57 := hS56.keep hT34
            have hR268 := hR263.below hT34.toBelow (Nat.le_refl _)
            have hR269 := hR264.below hT34.toBelow (Nat.le_refl _)
            have hR270 := hR265.below hT34.toBelow (Nat.le_refl _)
            have hR271 := hR266.below hT34.toBelow (Nat.le_refl _)
            have hR272 := hR262.below hT34.toBelow (Nat.le_refl _)
            have hW665 := hW649.later hT34.toBelow
            have hW666 := hW650.later hT34.toBelow
            have hW667 := hW651.later hT34.toBelow
            have hW668 := hW652.later hT34.toBelow
            have hW669 := hW653.later hT34.toBelow
            have hW670 := hW654.later hT34.toBelow
            have hW671 := hW655.later hT34.toBelow
            have hW672 := hW656.later hT34.toBelow
            have hW673 := hW657.later hT34.toBelow
            have hW674 := hW658.later hT34.toBelow
            have hW675 := hW659.later hT34.toBelow
            have hW676 := hW660.later hT34.toBelow
            have hW677 := hW661.later hT34.toBelow
            have hW678 := hW662.later hT34.toBelow
            have hW679 := hW663.later hT34.toBelow
            have hW680 := hW648.later hT34.toBelow
            have hA34 := hp41.apart hS56 (m := 0) rfl
            have hnR4 := hNR4.len
            have hexR4 : decide (lv R4 * lv R4 = lv SP) = false := decide_eq_false (by have h8 := root_above hB0 (by simpa only [hlSP, hlSQ, hlONE] using hstR4) (by simpa only [hlSP, hlSQ, hlONE] using hslR4); rw [h8, hlSP, hlSQ, hlONE]; omega)
            rw [hexR4]
            refine s_val hS57 rfl rfl (r_move rfl (.t rfl rfl)) ?_
            refine s_val hS57 rfl rfl (r_extract rfl (.t rfl rfl) rfl) ?_
            refine s_val hS57 rfl rfl (r_extract rfl (.t rfl rfl) rfl) ?_
            refine s_val hS57 rfl rfl (r_extract rfl (.t rfl rfl) rfl) ?_
            refine s_val hS57 rfl rfl (r_assign rfl (.t rfl rfl)) ?_
            refine s_val hS57 rfl rfl (r_assign rfl (.t rfl rfl)) ?_
            refine s_val hS57 rfl rfl (r_assign rfl (.t rfl rfl)) ?_
            refine wpList_nil ?_
            refine x_tn ?_
            refine k_reb [(2, .bool false), (4, .slice a2 B.length c2), (7, .slice a34 R4.length c36), (8, .bool false), (9, .int .i64 0)] ⟨rfl, rfl, rfl, rfl, rfl, trivial⟩ fun G46 => ?_
            refine wp_seq ?_
            refine k_reg ?_
            refine s_val hS57 rfl rfl (r_move rfl (.t rfl rfl)) ?_
            refine s_call rfl rfl rfl (vs := [.int .i64 0]) ⟨(.t rfl rfl), trivial⟩ cb13 (num_ok w55 0) ?_
            rintro _ w55 ⟨rfl, rfl⟩
            refine s_val hS57 rfl rfl (r_cmp_f rfl rfl (.t rfl rfl) .c (show ¬ (¬ 0 = 0) from by omega)) ?_
            refine s_val hS57 rfl rfl (r_move rfl (.t rfl rfl)) ?_
            refine s_valg hS57 (wanted_of (j := 3) (b := false) (d := 118) rfl rfl rfl rfl) rfl (r_move rfl (.t rfl rfl)) ?_
            refine s_valg hS57 (wanted_of (j := 3) (b := false) (d := 118) rfl rfl rfl rfl) rfl (r_move rfl (.t rfl rfl)) ?_
            refine s_callg (wanted_of (j := 3) (b := false) (d := 118) rfl rfl rfl rfl) rfl rfl (vs := [.slice a34 R4.length c36, .slice a2 B.length c2]) ⟨(.t rfl rfl), (.t rfl rfl), trivial⟩ cb14 (eq_ok w55 a34 c36 R4 hR267 a2 c2 B hR268 hNR4 hNB) ?_
            rintro _ w56 ⟨⟨hc19, rfl⟩ | ⟨hc19, rfl⟩, hB24⟩
            rotate_left
            · exact absurd ((root_above hB0 (by simpa only [hlSP, hlSQ, hlONE] using hstR4) (by simpa only [hlSP, hlSQ, hlONE] using hslR4))) hc19
            have hS58 := hS57.keep hB24
            replace hB24 := hB24.toBelow
            have hR273 := hR268.below hB24 (Nat.le_refl _)
            have hR274 := hR267.below hB24 (Nat.le_refl _)
            have hW681 := hW665.later hB24
            have hW682 := hW666.later hB24
            have hW683 := hW667.later hB24
            have hW684 := hW668.later hB24
            have hW685 := hW669.later hB24
            have hW686 := hW670.later hB24
            have hW687 := hW671.later hB24
            have hW688 := hW672.later hB24
            have hW689 := hW673.later hB24
            have hW690 := hW674.later hB24
            have hW691 := hW675.later hB24
            have hW692 := hW676.later hB24
            have hW693 := hW677.later hB24
            have hW694 := hW678.later hB24
            have hW695 := hW679.later hB24
            have hW696 := hW680.later hB24
            have hW697 := hW664.later hB24
            refine s_valg hS58 (wanted_of (j := 3) (b := false) (d := 118) rfl rfl rfl rfl) rfl (r_lnot rfl (.t rfl rfl)) ?_
            refine s_val hS58 rfl rfl (r_pick rfl (.t rfl rfl) (.t rfl rfl)) ?_
            refine s_val hS58 rfl rfl (r_move rfl (.t rfl rfl)) ?_
            refine s_valg hS58 (wanted_of (j := 9) (b := false) (d := 124) rfl rfl rfl rfl) rfl (r_move rfl (.t rfl rfl)) ?_
            refine s_val hS58 rfl rfl (r_pick rfl (.t rfl rfl) (.t rfl rfl)) ?_
            refine wpList_nil ?_
            refine x_tn ?_
            refine k_reb [(2, .bool false), (126, .bool false)] ⟨rfl, rfl, trivial⟩ fun G47 => ?_
            refine k_f (.t rfl rfl) ?_
            refine wp_skip ?_
            refine x_tn ?_
            refine k_reb [(2, .bool false)] ⟨rfl, trivial⟩ fun G48 => ?_
            refine wp_seq ?_
            refine k_reg ?_
            refine s_call rfl rfl rfl (vs := []) trivial cb16 (wakes_ok w56 ) ?_
            intro v37 w57 hp42
            obtain ⟨hp42, hB25⟩ := hp42
            have hS59 := hS58.keep hB25
            replace hB25 := hB25.toBelow
            have hW698 := hW681.later hB25
            have hW699 := hW682.later hB25
            have hW700 := hW683.later hB25
            have hW701 := hW684.later hB25
            have hW702 := hW685.later hB25
            have hW703 := hW686.later hB25
            have hW704 := hW687.later hB25
            have hW705 := hW688.later hB25
            have hW706 := hW689.later hB25
            have hW707 := hW690.later hB25
            have hW708 := hW691.later hB25
            have hW709 := hW692.later hB25
            have hW710 := hW693.later hB25
            have hW711 := hW694.later hB25
            have hW712 := hW695.later hB25
            have hW713 := hW696.later hB25
            have hW714 := hW697.later hB25
            obtain rfl := hp42
            refine s_val hS59 rfl rfl (r_assign rfl (.t rfl rfl)) ?_
            refine wpList_nil ?_
            refine x_tn ?_
            refine k_reb [(2, .bool true)] ⟨rfl, trivial⟩ fun G49 => ?_
            refine wp_ret ?_
            refine k_ret1 Try.results8 rfl rfl ?_
            refine ⟨_, rfl, ?_⟩
            exact ⟨rfl, hS59.none⟩
        · refine s_val hS43 rfl rfl (r_cmp_f rfl rfl (.t rfl rfl) .c (show ¬ (((B.length : Nat) : Int) > 0) from by omega)) ?_
          refine wpList_nil ?_
          refine x_tn ?_
          refine k_reb [(2, .bool false), (4, .slice a2 B.length c2), (6, .slice a4 ONE.length c4), (7, .slice a26 R2.length c27), (8, .bool true), (9, .int .i64 0), (10, .slice a25 SQ.length c26), (80, .bool false)] ⟨rfl, rfl, rfl, rfl, rfl, rfl, rfl, rfl, trivial⟩ fun G50 => ?_
          refine k_f (.t rfl rfl) ?_
          refine wp_skip ?_
          refine x_tn ?_
          refine k_reb [(2, .bool false)] ⟨rfl, trivial⟩ fun G51 => ?_
          refine wp_seq ?_
          refine k_reg ?_
          refine s_call rfl rfl rfl (vs := []) trivial cb16 (wakes_ok w41 ) ?_
          intro v38 w58 hp43
          obtain ⟨hp43, hB26⟩ := hp43
          have hS60 := hS43.keep hB26
          replace hB26 := hB26.toBelow
          have hW715 := hW452.later hB26
          have hW716 := hW453.later hB26
          have hW717 := hW454.later hB26
          have hW718 := hW455.later hB26
          have hW719 := hW456.later hB26
          have hW720 := hW457.later hB26
          have hW721 := hW458.later hB26
          have hW722 := hW459.later hB26
          have hW723 := hW460.later hB26
          have hW724 := hW461.later hB26
          have hW725 := hW462.later hB26
          have hW726 := hW463.later hB26
          obtain rfl := hp43
          refine s_val hS60 rfl rfl (r_assign rfl (.t rfl rfl)) ?_
          refine wpList_nil ?_
          refine x_tn ?_
          refine k_reb [(2, .bool true)] ⟨rfl, trivial⟩ fun G52 => ?_
          refine wp_ret ?_
          refine k_ret1 Try.results8 rfl rfl ?_
          refine ⟨_, rfl, ?_⟩
          exact ⟨rfl, hS60.none⟩
    · exfalso; (try simp only [hlONE, hlN1] at hc1); omega
  · rw [decide_eq_false hexR1]
    refine s_val hS6 rfl rfl (r_move rfl (.t rfl rfl)) ?_
    refine s_val hS6 rfl rfl (r_extract rfl (.t rfl rfl) rfl) ?_
    refine s_val hS6 rfl rfl (r_extract rfl (.t rfl rfl) rfl) ?_
    refine s_val hS6 rfl rfl (r_extract rfl (.t rfl rfl) rfl) ?_
    refine s_val hS6 rfl rfl (r_assign rfl (.t rfl rfl)) ?_
    refine s_val hS6 rfl rfl (r_assign rfl (.t rfl rfl)) ?_
    refine s_val hS6 rfl rfl (r_assign rfl (.t rfl rfl)) ?_
    refine wpList_nil ?_
    refine x_tn ?_
    refine k_reb [(2, .bool false), (3, .slice a1 A.length c1), (4, .slice a2 B.length c2), (6, .slice a4 ONE.length c4), (7, .slice a5 R1.length c5), (8, .bool false), (9, .int .i64 0)] ⟨rfl, rfl, rfl, rfl, rfl, rfl, rfl, trivial⟩ fun G53 => ?_
    refine wp_seq ?_
    refine wp_seq ?_
    refine k_reg ?_
    refine s_val hS6 rfl rfl (r_move rfl (.t rfl rfl)) ?_
    refine s_call rfl rfl rfl (vs := [.int .i64 0]) ⟨(.t rfl rfl), trivial⟩ cb13 (num_ok w4 0) ?_
    rintro _ w4 ⟨rfl, rfl⟩
    refine s_val hS6 rfl rfl (r_cmp_f rfl rfl (.t rfl rfl) .c (show ¬ (¬ 0 = 0) from by omega)) ?_
    refine s_val hS6 rfl rfl (r_move rfl (.t rfl rfl)) ?_
    refine s_valg hS6 (wanted_of (j := 3) (b := false) (d := 27) rfl rfl rfl rfl) rfl (r_move rfl (.t rfl rfl)) ?_
    refine s_valg hS6 (wanted_of (j := 3) (b := false) (d := 27) rfl rfl rfl rfl) rfl (r_move rfl (.t rfl rfl)) ?_
    obtain ⟨f1, f2, f3, f4, f5⟩ := root_fits hbA hbB hstR1
    refine s_callg (wanted_of (j := 3) (b := false) (d := 27) rfl rfl rfl rfl) rfl rfl (vs := [.slice a5 R1.length c5, .slice a5 R1.length c5]) ⟨(.t rfl rfl), (.t rfl rfl), trivial⟩ cb19 (lmul_ok w4 a5 c5 R1 hR7 a5 c5 R1 hR7 hNR1 hNR1 (by (try simp only [hlONE, lv_nil, Nat.mul_zero, Nat.add_zero]) <;> (first | assumption | omega))) ?_
    intro v39 w59 hp44
    obtain ⟨N14, hp44, ⟨hNN14, hlN14⟩⟩ := hp44
    obtain ⟨a35, c37, rfl, hR275, -, hT35⟩ := id hp44
    have hW727 := Ow.from_ hS6 hp44
    have hS61 := hS6.keep hT35
    have hR276 := hR8.below hT35.toBelow (Nat.le_refl _)
    have hR277 := hR9.below hT35.toBelow (Nat.le_refl _)
    have hR278 := hR10.below hT35.toBelow (Nat.le_refl _)
    have hR279 := hR7.below hT35.toBelow (Nat.le_refl _)
    have hW728 := hW9.later hT35.toBelow
    have hW729 := hW10.later hT35.toBelow
    have hW730 := hW11.later hT35.toBelow
    have hW731 := hW12.later hT35.toBelow
    have hW732 := hW8.later hT35.toBelow
    have hA35 := hp44.apart hS6 (m := 0) rfl
    have hnN14 := hNN14.len
    refine s_valg hS61 (wanted_of (j := 3) (b := false) (d := 27) rfl rfl rfl rfl) rfl (r_move rfl (.t rfl rfl)) ?_
    refine s_callg (wanted_of (j := 3) (b := false) (d := 27) rfl rfl rfl rfl) rfl rfl (vs := [.slice a35 N14.length c37, .slice a1 A.length c1]) ⟨(.t rfl rfl), (.t rfl rfl), trivial⟩ cb28 (Cmp_ok w59 a35 c37 N14 hR275 a1 c1 A hR276 hNN14 hNA) ?_
    rintro _ w60 ⟨hp45, hB27⟩
    have hS62 := hS61.keep hB27
    replace hB27 := hB27.toBelow
    have hR280 := hR276.below hB27 (Nat.le_refl _)
    have hR281 := hR277.below hB27 (Nat.le_refl _)
    have hR282 := hR278.below hB27 (Nat.le_refl _)
    have hR283 := hR279.below hB27 (Nat.le_refl _)
    have hR284 := hR275.below hB27 (Nat.le_refl _)
    have hW733 := hW728.later hB27
    have hW734 := hW729.later hB27
    have hW735 := hW730.later hB27
    have hW736 := hW731.later hB27
    have hW737 := hW732.later hB27
    have hW738 := hW727.later hB27
    rcases hp45 with ⟨hc20, rfl⟩ | ⟨hc20, rfl⟩ | ⟨hc20, rfl⟩
    · refine s_valg hS62 (wanted_of (j := 3) (b := false) (d := 27) rfl rfl rfl rfl) rfl (r_cmp_f rfl rfl (.t rfl rfl) .c (show ¬ ((-1) > 0) from by omega)) ?_
      refine s_val hS62 rfl rfl (r_pick rfl (.t rfl rfl) (.t rfl rfl)) ?_
      refine s_val hS62 rfl rfl (r_move rfl (.t rfl rfl)) ?_
      refine s_valg hS62 (wanted_of (j := 11) (b := false) (d := 35) rfl rfl rfl rfl) rfl (r_move rfl (.t rfl rfl)) ?_
      refine s_valg hS62 (wanted_of (j := 11) (b := false) (d := 35) rfl rfl rfl rfl) rfl (r_move rfl (.t rfl rfl)) ?_
      refine s_callg (wanted_of (j := 11) (b := false) (d := 35) rfl rfl rfl rfl) rfl rfl (vs := [.slice a5 R1.length c5, .slice a4 ONE.length c4]) ⟨(.t rfl rfl), (.t rfl rfl), trivial⟩ cb15 (ladd_ok w60 a5 c5 R1 hR283 a4 c4 ONE hR282 hNR1 hNONE (by (try simp only [hlONE, hlN14, lv_nil, Nat.mul_zero, Nat.add_zero]) <;> (first | assumption | omega))) ?_
      intro v40 w61 hp46
      obtain ⟨N15, hp46, ⟨hNN15, hlN15⟩⟩ := hp46
      obtain ⟨a36, c38, rfl, hR285, -, hT36⟩ := id hp46
      have hW739 := Ow.from_ hS62 hp46
      have hS63 := hS62.keep hT36
      have hR286 := hR280.below hT36.toBelow (Nat.le_refl _)
      have hR287 := hR281.below hT36.toBelow (Nat.le_refl _)
      have hR288 := hR282.below hT36.toBelow (Nat.le_refl _)
      have hR289 := hR283.below hT36.toBelow (Nat.le_refl _)
      have hR290 := hR284.below hT36.toBelow (Nat.le_refl _)
      have hW740 := hW733.later hT36.toBelow
      have hW741 := hW734.later hT36.toBelow
      have hW742 := hW735.later hT36.toBelow
      have hW743 := hW736.later hT36.toBelow
      have hW744 := hW737.later hT36.toBelow
      have hW745 := hW738.later hT36.toBelow
      have hA36 := hp46.apart hS62 (m := 0) rfl
      have hnN15 := hNN15.len
      refine s_valg hS63 (wanted_of (j := 11) (b := false) (d := 35) rfl rfl rfl rfl) rfl (r_move rfl (.t rfl rfl)) ?_
      refine s_valg hS63 (wanted_of (j := 11) (b := false) (d := 35) rfl rfl rfl rfl) rfl (r_move rfl (.t rfl rfl)) ?_
      refine s_callg (wanted_of (j := 11) (b := false) (d := 35) rfl rfl rfl rfl) rfl rfl (vs := [.slice a5 R1.length c5, .slice a4 ONE.length c4]) ⟨(.t rfl rfl), (.t rfl rfl), trivial⟩ cb15 (ladd_ok w61 a5 c5 R1 hR289 a4 c4 ONE hR288 hNR1 hNONE (by (try simp only [hlONE, hlN14, hlN15, lv_nil, Nat.mul_zero, Nat.add_zero]) <;> (first | assumption | omega))) ?_
      intro v41 w62 hp47
      obtain ⟨N16, hp47, ⟨hNN16, hlN16⟩⟩ := hp47
      obtain ⟨a37, c39, rfl, hR291, -, hT37⟩ := id hp47
      have hW746 := Ow.from_ hS63 hp47
      have hS64 := hS63.keep hT37
      have hR292 := hR286.below hT37.toBelow (Nat.le_refl _)
      have hR293 := hR287.below hT37.toBelow (Nat.le_refl _)
      have hR294 := hR288.below hT37.toBelow (Nat.le_refl _)
      have hR295 := hR289.below hT37.toBelow (Nat.le_refl _)
      have hR296 := hR290.below hT37.toBelow (Nat.le_refl _)
      have hR297 := hR285.below hT37.toBelow (Nat.le_refl _)
      have hW747 := hW740.later hT37.toBelow
      have hW748 := hW741.later hT37.toBelow
      have hW749 := hW742.later hT37.toBelow
      have hW750 := hW743.later hT37.toBelow
      have hW751 := hW744.later hT37.toBelow
      have hW752 := hW745.later hT37.toBelow
      have hW753 := hW739.later hT37.toBelow
      have hA37 := hp47.apart hS63 (m := 0) rfl
      have hnN16 := hNN16.len
      refine s_callg (wanted_of (j := 11) (b := false) (d := 35) rfl rfl rfl rfl) rfl rfl (vs := [.slice a36 N15.length c38, .slice a37 N16.length c39]) ⟨(.t rfl rfl), (.t rfl rfl), trivial⟩ cb19 (lmul_ok w62 a36 c38 N15 hR297 a37 c39 N16 hR291 hNN15 hNN16 (by (try simp only [hlONE, hlN14, hlN15, hlN16, lv_nil, Nat.mul_zero, Nat.add_zero]) <;> (first | assumption | omega))) ?_
      intro v42 w63 hp48
      obtain ⟨N17, hp48, ⟨hNN17, hlN17⟩⟩ := hp48
      obtain ⟨a38, c40, rfl, hR298, -, hT38⟩ := id hp48
      have hW754 := Ow.from_ hS64 hp48
      have hS65 := hS64.keep hT38
      have hR299 := hR292.below hT38.toBelow (Nat.le_refl _)
      have hR300 := hR293.below hT38.toBelow (Nat.le_refl _)
      have hR301 := hR294.below hT38.toBelow (Nat.le_refl _)
      have hR302 := hR295.below hT38.toBelow (Nat.le_refl _)
      have hR303 := hR296.below hT38.toBelow (Nat.le_refl _)
      have hR304 := hR297.below hT38.toBelow (Nat.le_refl _)
      have hR305 := hR291.below hT38.toBelow (Nat.le_refl _)
      have hW755 := hW747.later hT38.toBelow
      have hW756 := hW748.later hT38.toBelow
      have hW757 := hW749.later hT38.toBelow
      have hW758 := hW750.later hT38.toBelow
      have hW759 := hW751.later hT38.toBelow
      have hW760 := hW752.later hT38.toBelow
      have hW761 := hW753.later hT38.toBelow
      have hW762 := hW746.later hT38.toBelow
      have hA38 := hp48.apart hS64 (m := 0) rfl
      have hnN17 := hNN17.len
      refine s_valg hS65 (wanted_of (j := 11) (b := false) (d := 35) rfl rfl rfl rfl) rfl (r_move rfl (.t rfl rfl)) ?_
      refine s_callg (wanted_of (j := 11) (b := false) (d := 35) rfl rfl rfl rfl) rfl rfl (vs := [.slice a38 N17.length c40, .slice a1 A.length c1]) ⟨(.t rfl rfl), (.t rfl rfl), trivial⟩ cb28 (Cmp_ok w63 a38 c40 N17 hR298 a1 c1 A hR299 hNN17 hNA) ?_
      rintro _ w64 ⟨hp49, hB28⟩
      have hS66 := hS65.keep hB28
      replace hB28 := hB28.toBelow
      have hR306 := hR299.below hB28 (Nat.le_refl _)
      have hR307 := hR300.below hB28 (Nat.le_refl _)
      have hR308 := hR301.below hB28 (Nat.le_refl _)
      have hR309 := hR302.below hB28 (Nat.le_refl _)
      have hR310 := hR303.below hB28 (Nat.le_refl _)
      have hR311 := hR304.below hB28 (Nat.le_refl _)
      have hR312 := hR305.below hB28 (Nat.le_refl _)
      have hR313 := hR298.below hB28 (Nat.le_refl _)
      have hW763 := hW755.later hB28
      have hW764 := hW756.later hB28
      have hW765 := hW757.later hB28
      have hW766 := hW758.later hB28
      have hW767 := hW759.later hB28
      have hW768 := hW760.later hB28
      have hW769 := hW761.later hB28
      have hW770 := hW762.later hB28
      have hW771 := hW754.later hB28
      rcases hp49 with ⟨hc21, rfl⟩ | ⟨hc21, rfl⟩ | ⟨hc21, rfl⟩
      · exfalso; (try simp only [hlONE, hlN14, hlN15, hlN16, hlN17] at hc21); omega
      · exfalso; (try simp only [hlONE, hlN14, hlN15, hlN16, hlN17] at hc21); omega
      · refine s_valg hS66 (wanted_of (j := 11) (b := false) (d := 35) rfl rfl rfl rfl) rfl (r_cmp_f rfl rfl (.t rfl rfl) .c (show ¬ (1 ≤ 0) from by omega)) ?_
        refine s_val hS66 rfl rfl (r_pick rfl (.t rfl rfl) (.t rfl rfl)) ?_
        refine s_val hS66 rfl rfl (r_move rfl (.t rfl rfl)) ?_
        refine s_valg hS66 (wanted_of (j := 23) (b := false) (d := 47) rfl rfl rfl rfl) rfl (r_move rfl (.t rfl rfl)) ?_
        refine s_valg hS66 (wanted_of (j := 23) (b := false) (d := 47) rfl rfl rfl rfl) rfl (r_move rfl (.t rfl rfl)) ?_
        refine s_valg hS66 (wanted_of (j := 23) (b := false) (d := 47) rfl rfl rfl rfl) rfl (r_move rfl (.t rfl rfl)) ?_
        refine s_callg (wanted_of (j := 23) (b := false) (d := 47) rfl rfl rfl rfl) rfl rfl (vs := [.slice a5 R1.length c5, .slice a5 R1.length c5]) ⟨(.t rfl rfl), (.t rfl rfl), trivial⟩ cb19 (lmul_ok w64 a5 c5 R1 hR309 a5 c5 R1 hR309 hNR1 hNR1 (by (try simp only [hlONE, hlN14, hlN15, hlN16, hlN17, lv_nil, Nat.mul_zero, Nat.add_zero]) <;> (first | assumption | omega))) ?_
        intro v43 w65 hp50
        obtain ⟨N18, hp50, ⟨hNN18, hlN18⟩⟩ := hp50
        obtain ⟨a39, c41, rfl, hR314, -, hT39⟩ := id hp50
        have hW772 := Ow.from_ hS66 hp50
        have hS67 := hS66.keep hT39
        have hR315 := hR306.below hT39.toBelow (Nat.le_refl _)
        have hR316 := hR307.below hT39.toBelow (Nat.le_refl _)
        have hR317 := hR308.below hT39.toBelow (Nat.le_refl _)
        have hR318 := hR309.below hT39.toBelow (Nat.le_refl _)
        have hR319 := hR310.below hT39.toBelow (Nat.le_refl _)
        have hR320 := hR311.below hT39.toBelow (Nat.le_refl _)
        have hR321 := hR312.below hT39.toBelow (Nat.le_refl _)
        have hR322 := hR313.below hT39.toBelow (Nat.le_refl _)
        have hW773 := hW763.later hT39.toBelow
        have hW774 := hW764.later hT39.toBelow
        have hW775 := hW765.later hT39.toBelow
        have hW776 := hW766.later hT39.toBelow
        have hW777 := hW767.later hT39.toBelow
        have hW778 := hW768.later hT39.toBelow
        have hW779 := hW769.later hT39.toBelow
        have hW780 := hW770.later hT39.toBelow
        have hW781 := hW771.later hT39.toBelow
        have hA39 := hp50.apart hS66 (m := 0) rfl
        have hnN18 := hNN18.len
        refine s_valg hS67 (wanted_of (j := 23) (b := false) (d := 47) rfl rfl rfl rfl) rfl (r_move rfl (.t rfl rfl)) ?_
        refine s_callg (wanted_of (j := 23) (b := false) (d := 47) rfl rfl rfl rfl) rfl rfl (vs := [.slice a39 N18.length c41, .slice a1 A.length c1]) ⟨(.t rfl rfl), (.t rfl rfl), trivial⟩ cb14 (eq_ok w65 a39 c41 N18 hR314 a1 c1 A hR315 hNN18 hNA) ?_
        rintro _ w66 ⟨⟨hc22, rfl⟩ | ⟨hc22, rfl⟩, hB29⟩
        · exact absurd hc22 ((by simp only [hlONE, hlN14, hlN15, hlN16, hlN17, hlN18]; omega))
        have hS68 := hS67.keep hB29
        replace hB29 := hB29.toBelow
        have hR323 := hR315.below hB29 (Nat.le_refl _)
        have hR324 := hR316.below hB29 (Nat.le_refl _)
        have hR325 := hR317.below hB29 (Nat.le_refl _)
        have hR326 := hR318.below hB29 (Nat.le_refl _)
        have hR327 := hR319.below hB29 (Nat.le_refl _)
        have hR328 := hR320.below hB29 (Nat.le_refl _)
        have hR329 := hR321.below hB29 (Nat.le_refl _)
        have hR330 := hR322.below hB29 (Nat.le_refl _)
        have hR331 := hR314.below hB29 (Nat.le_refl _)
        have hW782 := hW773.later hB29
        have hW783 := hW774.later hB29
        have hW784 := hW775.later hB29
        have hW785 := hW776.later hB29
        have hW786 := hW777.later hB29
        have hW787 := hW778.later hB29
        have hW788 := hW779.later hB29
        have hW789 := hW780.later hB29
        have hW790 := hW781.later hB29
        have hW791 := hW772.later hB29
        refine s_valg hS68 (wanted_of (j := 23) (b := false) (d := 47) rfl rfl rfl rfl) rfl (r_neb rfl Try.underlying4 (.t rfl rfl) (.t rfl rfl)) ?_
        refine s_val hS68 rfl rfl (r_pick rfl (.t rfl rfl) (.t rfl rfl)) ?_
        refine wpList_nil ?_
        refine x_tn ?_
        refine k_reb [(2, .bool false), (4, .slice a2 B.length c2), (6, .slice a4 ONE.length c4), (7, .slice a5 R1.length c5), (8, .bool false), (9, .int .i64 0), (55, .bool false)] ⟨rfl, rfl, rfl, rfl, rfl, rfl, rfl, trivial⟩ fun G54 => ?_
        refine k_f (.t rfl rfl) ?_
        refine wp_skip ?_
        refine x_tn ?_
        refine k_reb [(2, .bool false), (4, .slice a2 B.length c2), (6, .slice a4 ONE.length c4), (7, .slice a5 R1.length c5), (8, .bool false), (9, .int .i64 0)] ⟨rfl, rfl, rfl, rfl, rfl, rfl, trivial⟩ fun G55 => ?_
        refine wp_seq ?_
        refine k_reg ?_
        refine s_val hS68 rfl rfl (r_move rfl (.t rfl rfl)) ?_
        refine s_val hS68 rfl rfl (r_move rfl (.t rfl rfl)) ?_
        refine s_call rfl rfl rfl (vs := [.slice a2 B.length c2, .slice a2 B.length c2]) ⟨(.t rfl rfl), (.t rfl rfl), trivial⟩ cb19 (lmul_ok w66 a2 c2 B hR324 a2 c2 B hR324 hNB hNB (by (try simp only [hlONE, hlN14, hlN15, hlN16, hlN17, hlN18, lv_nil, Nat.mul_zero, Nat.add_zero]) <;> (first | assumption | omega))) ?_
        intro v44 w67 hp51
        obtain ⟨SQ, hp51, ⟨hNSQ, hlSQ⟩⟩ := hp51
        obtain ⟨a40, c42, rfl, hR332, -, hT40⟩ := id hp51
        have hW792 := Ow.from_ hS68 hp51
        have hS69 := hS68.keep hT40
        have hR333 := hR324.below hT40.toBelow (Nat.le_refl _)
        have hR334 := hR325.below hT40.toBelow (Nat.le_refl _)
        have hR335 := hR326.below hT40.toBelow (Nat.le_refl _)
        have hW793 := hW782.later hT40.toBelow
        have hW794 := hW783.later hT40.toBelow
        have hW795 := hW784.later hT40.toBelow
        have hW796 := hW785.later hT40.toBelow
        have hW797 := hW786.later hT40.toBelow
        have hW798 := hW787.later hT40.toBelow
        have hW799 := hW788.later hT40.toBelow
        have hW800 := hW789.later hT40.toBelow
        have hW801 := hW790.later hT40.toBelow
        have hW802 := hW791.later hT40.toBelow
        have hA40 := hp51.apart hS68 (m := 0) rfl
        have hnSQ := hNSQ.len
        refine s_val hS69 rfl rfl (r_assign rfl (.t rfl rfl)) ?_
        refine wpList_nil ?_
        refine x_tn ?_
        refine k_reb [(2, .bool false), (4, .slice a2 B.length c2), (6, .slice a4 ONE.length c4), (7, .slice a5 R1.length c5), (8, .bool false), (9, .int .i64 0), (10, .slice a40 SQ.length c42)] ⟨rfl, rfl, rfl, rfl, rfl, rfl, rfl, trivial⟩ fun G56 => ?_
        refine wp_seq ?_
        refine k_reg ?_
        refine s_val hS69 rfl rfl (r_move rfl (.t rfl rfl)) ?_
        refine s_call rfl rfl rfl (vs := [.slice a40 SQ.length c42]) ⟨(.t rfl rfl), trivial⟩ cb31 (Root_ok w67 a40 c42 SQ hR332 hNSQ) ?_
        rintro v45 w68 ⟨R2, _, rfl, hp52, hNR2, hstR2, hslR2⟩
        obtain ⟨a41, c43, rfl, hR336, -, hT41⟩ := id hp52
        have hW803 := Ow.from_ hS69 hp52
        have hS70 := hS69.keep hT41
        have hR337 := hR333.below hT41.toBelow (Nat.le_refl _)
        have hR338 := hR334.below hT41.toBelow (Nat.le_refl _)
        have hR339 := hR335.below hT41.toBelow (Nat.le_refl _)
        have hR340 := hR332.below hT41.toBelow (Nat.le_refl _)
        have hW804 := hW793.later hT41.toBelow
        have hW805 := hW794.later hT41.toBelow
        have hW806 := hW795.later hT41.toBelow
        have hW807 := hW796.later hT41.toBelow
        have hW808 := hW797.later hT41.toBelow
        have hW809 := hW798.later hT41.toBelow
        have hW810 := hW799.later hT41.toBelow
        have hW811 := hW800.later hT41.toBelow
        have hW812 := hW801.later hT41.toBelow
        have hW813 := hW802.later hT41.toBelow
        have hW814 := hW792.later hT41.toBelow
        have hA41 := hp52.apart hS69 (m := 0) rfl
        have hnR2 := hNR2.len
        have hexR2 : decide (lv R2 * lv R2 = lv SQ) = true := decide_eq_true (by have h8 := root_sq (b := lv B) (r := lv R2) (by rw [← hlSQ]; exact hstR2) (by rw [← hlSQ]; exact hslR2); rw [h8, hlSQ])
        rw [hexR2]
        refine s_val hS70 rfl rfl (r_move rfl (.t rfl rfl)) ?_
        refine s_val hS70 rfl rfl (r_extract rfl (.t rfl rfl) rfl) ?_
        refine s_val hS70 rfl rfl (r_extract rfl (.t rfl rfl) rfl) ?_
        refine s_val hS70 rfl rfl (r_extract rfl (.t rfl rfl) rfl) ?_
        refine s_val hS70 rfl rfl (r_assign rfl (.t rfl rfl)) ?_
        refine s_val hS70 rfl rfl (r_assign rfl (.t rfl rfl)) ?_
        refine s_val hS70 rfl rfl (r_assign rfl (.t rfl rfl)) ?_
        refine wpList_nil ?_
        refine x_tn ?_
        refine k_reb [(2, .bool false), (4, .slice a2 B.length c2), (6, .slice a4 ONE.length c4), (7, .slice a41 R2.length c43), (8, .bool true), (9, .int .i64 0), (10, .slice a40 SQ.length c42)] ⟨rfl, rfl, rfl, rfl, rfl, rfl, rfl, trivial⟩ fun G57 => ?_
        refine wp_seq ?_
        refine wp_seq ?_
        refine k_reg ?_
        refine s_val hS70 rfl rfl (r_move rfl (.t rfl rfl)) ?_
        refine s_call rfl rfl rfl (vs := [.int .i64 0]) ⟨(.t rfl rfl), trivial⟩ cb13 (num_ok w68 0) ?_
        rintro _ w68 ⟨rfl, rfl⟩
        refine s_val hS70 rfl rfl (r_cmp_f rfl rfl (.t rfl rfl) .c (show ¬ (¬ 0 = 0) from by omega)) ?_
        refine s_val hS70 rfl rfl (r_move rfl (.t rfl rfl)) ?_
        refine s_valg hS70 (wanted_of (j := 3) (b := false) (d := 68) rfl rfl rfl rfl) rfl (r_move rfl (.t rfl rfl)) ?_
        refine s_valg hS70 (wanted_of (j := 3) (b := false) (d := 68) rfl rfl rfl rfl) rfl (r_lnot rfl (.t rfl rfl)) ?_
        refine s_val hS70 rfl rfl (r_pick rfl (.t rfl rfl) (.t rfl rfl)) ?_
        refine s_val hS70 rfl rfl (r_move rfl (.t rfl rfl)) ?_
        refine s_valg hS70 (wanted_of (j := 7) (b := false) (d := 72) rfl rfl rfl rfl) rfl (r_move rfl (.t rfl rfl)) ?_
        refine s_valg hS70 (wanted_of (j := 7) (b := false) (d := 72) rfl rfl rfl rfl) rfl (r_move rfl (.t rfl rfl)) ?_
        refine s_callg (wanted_of (j := 7) (b := false) (d := 72) rfl rfl rfl rfl) rfl rfl (vs := [.slice a41 R2.length c43, .slice a2 B.length c2]) ⟨(.t rfl rfl), (.t rfl rfl), trivial⟩ cb14 (eq_ok w68 a41 c43 R2 hR336 a2 c2 B hR337 hNR2 hNB) ?_
        rintro _ w69 ⟨⟨hc23, rfl⟩ | ⟨hc23, rfl⟩, hB30⟩
        rotate_left
        · exact absurd ((root_sq (by rw [← hlSQ]; exact hstR2) (by rw [← hlSQ]; exact hslR2))) hc23
        have hS71 := hS70.keep hB30
        replace hB30 := hB30.toBelow
        have hR341 := hR337.below hB30 (Nat.le_refl _)
        have hR342 := hR338.below hB30 (Nat.le_refl _)
        have hR343 := hR336.below hB30 (Nat.le_refl _)
        have hR344 := hR340.below hB30 (Nat.le_refl _)
        have hW815 := hW804.later hB30
        have hW816 := hW805.later hB30
        have hW817 := hW806.later hB30
        have hW818 := hW807.later hB30
        have hW819 := hW808.later hB30
        have hW820 := hW809.later hB30
        have hW821 := hW810.later hB30
        have hW822 := hW811.later hB30
        have hW823 := hW812.later hB30
        have hW824 := hW813.later hB30
        have hW825 := hW814.later hB30
        have hW826 := hW803.later hB30
        refine s_valg hS71 (wanted_of (j := 7) (b := false) (d := 72) rfl rfl rfl rfl) rfl (r_lnot rfl (.t rfl rfl)) ?_
        refine s_val hS71 rfl rfl (r_pick rfl (.t rfl rfl) (.t rfl rfl)) ?_
        refine wpList_nil ?_
        refine x_tn ?_
        refine k_reb [(2, .bool false), (4, .slice a2 B.length c2), (6, .slice a4 ONE.length c4), (7, .slice a41 R2.length c43), (8, .bool true), (9, .int .i64 0), (10, .slice a40 SQ.length c42), (77, .bool false)] ⟨rfl, rfl, rfl, rfl, rfl, rfl, rfl, rfl, trivial⟩ fun G58 => ?_
        refine k_f (.t rfl rfl) ?_
        refine wp_skip ?_
        refine x_tn ?_
        refine k_reb [(2, .bool false), (4, .slice a2 B.length c2), (6, .slice a4 ONE.length c4), (7, .slice a41 R2.length c43), (8, .bool true), (9, .int .i64 0), (10, .slice a40 SQ.length c42)] ⟨rfl, rfl, rfl, rfl, rfl, rfl, rfl, trivial⟩ fun G59 => ?_
        refine wp_seq ?_
        refine wp_seq ?_
        refine k_reg ?_
        refine s_val hS71 rfl rfl (r_move rfl (.t rfl rfl)) ?_
        refine s_val hS71 rfl rfl (r_len rfl rfl Try.underlying27 (.t rfl rfl)) ?_
        by_cases c44 : B.length > 0
        · have hB0 := lv_pos hNB.nz (by omega)
          have hBB : 0 < lv B * lv B := Nat.mul_pos hB0 hB0
          refine s_val hS71 rfl rfl (r_cmp_t rfl rfl (.t rfl rfl) .c (show ((B.length : Nat) : Int) > 0 from by omega)) ?_
          refine wpList_nil ?_
          refine x_tn ?_
          refine k_reb [(2, .bool false), (4, .slice a2 B.length c2), (6, .slice a4 ONE.length c4), (7, .slice a41 R2.length c43), (8, .bool true), (9, .int .i64 0), (10, .slice a40 SQ.length c42), (80, .bool true)] ⟨rfl, rfl, rfl, rfl, rfl, rfl, rfl, rfl, trivial⟩ fun G60 => ?_
          refine k_t (.t rfl rfl) ?_
          refine wp_seq ?_
          refine k_reg ?_
          refine s_val hS71 rfl rfl (r_move rfl (.t rfl rfl)) ?_
          refine s_val hS71 rfl rfl (r_move rfl (.t rfl rfl)) ?_
          refine s_call rfl rfl rfl (vs := [.slice a40 SQ.length c42, .slice a4 ONE.length c4]) ⟨(.t rfl rfl), (.t rfl rfl), trivial⟩ cb27 (lsub_ok w69 a40 c42 SQ hR344 a4 c4 ONE hR342 hNSQ hNONE (by (try simp only [hlONE, hlN14, hlN15, hlN16, hlN17, hlN18, hlSQ, lv_nil, Nat.mul_zero, Nat.add_zero]) <;> (first | assumption | omega))) ?_
          intro v46 w70 hp53
          obtain ⟨SM, hp53, ⟨hNSM, hlSM⟩⟩ := hp53
          obtain ⟨a42, c45, rfl, hR345, -, hT42⟩ := id hp53
          have hW827 := Ow.from_ hS71 hp53
          have hS72 := hS71.keep hT42
          have hR346 := hR341.below hT42.toBelow (Nat.le_refl _)
          have hR347 := hR342.below hT42.toBelow (Nat.le_refl _)
          have hR348 := hR343.below hT42.toBelow (Nat.le_refl _)
          have hR349 := hR344.below hT42.toBelow (Nat.le_refl _)
          have hW828 := hW815.later hT42.toBelow
          have hW829 := hW816.later hT42.toBelow
          have hW830 := hW817.later hT42.toBelow
          have hW831 := hW818.later hT42.toBelow
          have hW832 := hW819.later hT42.toBelow
          have hW833 := hW820.later hT42.toBelow
          have hW834 := hW821.later hT42.toBelow
          have hW835 := hW822.later hT42.toBelow
          have hW836 := hW823.later hT42.toBelow
          have hW837 := hW824.later hT42.toBelow
          have hW838 := hW825.later hT42.toBelow
          have hW839 := hW826.later hT42.toBelow
          have hA42 := hp53.apart hS71 (m := 0) rfl
          have hnSM := hNSM.len
          refine s_call rfl rfl rfl (vs := [.slice a42 SM.length c45]) ⟨(.t rfl rfl), trivial⟩ cb31 (Root_ok w70 a42 c45 SM hR345 hNSM) ?_
          rintro v47 w71 ⟨R3, _, rfl, hp54, hNR3, hstR3, hslR3⟩
          obtain ⟨a43, c46, rfl, hR350, -, hT43⟩ := id hp54
          have hW840 := Ow.from_ hS72 hp54
          have hS73 := hS72.keep hT43
          have hR351 := hR346.below hT43.toBelow (Nat.le_refl _)
          have hR352 := hR347.below hT43.toBelow (Nat.le_refl _)
          have hR353 := hR348.below hT43.toBelow (Nat.le_refl _)
          have hR354 := hR349.below hT43.toBelow (Nat.le_refl _)
          have hR355 := hR345.below hT43.toBelow (Nat.le_refl _)
          have hW841 := hW828.later hT43.toBelow
          have hW842 := hW829.later hT43.toBelow
          have hW843 := hW830.later hT43.toBelow
          have hW844 := hW831.later hT43.toBelow
          have hW845 := hW832.later hT43.toBelow
          have hW846 := hW833.later hT43.toBelow
          have hW847 := hW834.later hT43.toBelow
          have hW848 := hW835.later hT43.toBelow
          have hW849 := hW836.later hT43.toBelow
          have hW850 := hW837.later hT43.toBelow
          have hW851 := hW838.later hT43.toBelow
          have hW852 := hW839.later hT43.toBelow
          have hW853 := hW827.later hT43.toBelow
          have hA43 := hp54.apart hS72 (m := 0) rfl
          have hnR3 := hNR3.len
          by_cases hexR3 : lv R3 * lv R3 = lv SM
          · rw [decide_eq_true hexR3]
            refine s_val hS73 rfl rfl (r_move rfl (.t rfl rfl)) ?_
            refine s_val hS73 rfl rfl (r_extract rfl (.t rfl rfl) rfl) ?_
            refine s_val hS73 rfl rfl (r_extract rfl (.t rfl rfl) rfl) ?_
            refine s_val hS73 rfl rfl (r_extract rfl (.t rfl rfl) rfl) ?_
            refine s_val hS73 rfl rfl (r_assign rfl (.t rfl rfl)) ?_
            refine s_val hS73 rfl rfl (r_assign rfl (.t rfl rfl)) ?_
            refine s_val hS73 rfl rfl (r_assign rfl (.t rfl rfl)) ?_
            refine wpList_nil ?_
            refine x_tn ?_
            refine k_reb [(2, .bool false), (4, .slice a2 B.length c2), (6, .slice a4 ONE.length c4), (7, .slice a43 R3.length c46), (8, .bool true), (9, .int .i64 0), (10, .slice a40 SQ.length c42)] ⟨rfl, rfl, rfl, rfl, rfl, rfl, rfl, trivial⟩ fun G61 => ?_
            refine wp_seq ?_
            refine wp_seq ?_
            refine k_reg ?_
            refine s_val hS73 rfl rfl (r_move rfl (.t rfl rfl)) ?_
            refine s_call rfl rfl rfl (vs := [.int .i64 0]) ⟨(.t rfl rfl), trivial⟩ cb13 (num_ok w71 0) ?_
            rintro _ w71 ⟨rfl, rfl⟩
            refine s_val hS73 rfl rfl (r_cmp_f rfl rfl (.t rfl rfl) .c (show ¬ (¬ 0 = 0) from by omega)) ?_
            refine s_val hS73 rfl rfl (r_move rfl (.t rfl rfl)) ?_
            refine s_valg hS73 (wanted_of (j := 3) (b := false) (d := 92) rfl rfl rfl rfl) rfl (r_move rfl (.t rfl rfl)) ?_
            refine s_valg hS73 (wanted_of (j := 3) (b := false) (d := 92) rfl rfl rfl rfl) rfl (r_move rfl (.t rfl rfl)) ?_
            refine s_valg hS73 (wanted_of (j := 3) (b := false) (d := 92) rfl rfl rfl rfl) rfl (r_move rfl (.t rfl rfl)) ?_
            refine s_callg (wanted_of (j := 3) (b := false) (d := 92) rfl rfl rfl rfl) rfl rfl (vs := [.slice a2 B.length c2, .slice a4 ONE.length c4]) ⟨(.t rfl rfl), (.t rfl rfl), trivial⟩ cb27 (lsub_ok w71 a2 c2 B hR351 a4 c4 ONE hR352 hNB hNONE (by (try simp only [hlONE, hlN14, hlN15, hlN16, hlN17, hlN18, hlSQ, hlSM, lv_nil, Nat.mul_zero, Nat.add_zero]) <;> (first | assumption | omega))) ?_
            intro v48 w72 hp55
            obtain ⟨N19, hp55, ⟨hNN19, hlN19⟩⟩ := hp55
            obtain ⟨a44, c47, rfl, hR356, -, hT44⟩ := id hp55
            have hW854 := Ow.from_ hS73 hp55
            have hS74 := hS73.keep hT44
            have hR357 := hR351.below hT44.toBelow (Nat.le_refl _)
            have hR358 := hR352.below hT44.toBelow (Nat.le_refl _)
            have hR359 := hR350.below hT44.toBelow (Nat.le_refl _)
            have hR360 := hR354.below hT44.toBelow (Nat.le_refl _)
            have hW855 := hW841.later hT44.toBelow
            have hW856 := hW842.later hT44.toBelow
            have hW857 := hW843.later hT44.toBelow
            have hW858 := hW844.later hT44.toBelow
            have hW859 := hW845.later hT44.toBelow
            have hW860 := hW846.later hT44.toBelow
            have hW861 := hW847.later hT44.toBelow
            have hW862 := hW848.later hT44.toBelow
            have hW863 := hW849.later hT44.toBelow
            have hW864 := hW850.later hT44.toBelow
            have hW865 := hW851.later hT44.toBelow
            have hW866 := hW852.later hT44.toBelow
            have hW867 := hW853.later hT44.toBelow
            have hW868 := hW840.later hT44.toBelow
            have hA44 := hp55.apart hS73 (m := 0) rfl
            have hnN19 := hNN19.len
            refine s_callg (wanted_of (j := 3) (b := false) (d := 92) rfl rfl rfl rfl) rfl rfl (vs := [.slice a43 R3.length c46, .slice a44 N19.length c47]) ⟨(.t rfl rfl), (.t rfl rfl), trivial⟩ cb14 (eq_ok w72 a43 c46 R3 hR359 a44 c47 N19 hR356 hNR3 hNN19) ?_
            rintro _ w73 ⟨⟨hc24, rfl⟩ | ⟨hc24, rfl⟩, hB31⟩
            rotate_left
            · exact absurd ((by simp only [hlONE, hlN14, hlN15, hlN16, hlN17, hlN18, hlSQ, hlSM, hlN19]; exact root_below hB0 (by simpa only [hlSM, hlSQ, hlONE] using hstR3) (by simpa only [hlSM, hlSQ, hlONE] using hslR3))) hc24
            have hS75 := hS74.keep hB31
            replace hB31 := hB31.toBelow
            have hR361 := hR357.below hB31 (Nat.le_refl _)
            have hR362 := hR358.below hB31 (Nat.le_refl _)
            have hR363 := hR359.below hB31 (Nat.le_refl _)
            have hR364 := hR360.below hB31 (Nat.le_refl _)
            have hR365 := hR356.below hB31 (Nat.le_refl _)
            have hW869 := hW855.later hB31
            have hW870 := hW856.later hB31
            have hW871 := hW857.later hB31
            have hW872 := hW858.later hB31
            have hW873 := hW859.later hB31
            have hW874 := hW860.later hB31
            have hW875 := hW861.later hB31
            have hW876 := hW862.later hB31
            have hW877 := hW863.later hB31
            have hW878 := hW864.later hB31
            have hW879 := hW865.later hB31
            have hW880 := hW866.later hB31
            have hW881 := hW867.later hB31
            have hW882 := hW868.later hB31
            have hW883 := hW854.later hB31
            refine s_valg hS75 (wanted_of (j := 3) (b := false) (d := 92) rfl rfl rfl rfl) rfl (r_lnot rfl (.t rfl rfl)) ?_
            refine s_val hS75 rfl rfl (r_pick rfl (.t rfl rfl) (.t rfl rfl)) ?_
            refine s_val hS75 rfl rfl (r_move rfl (.t rfl rfl)) ?_
            refine s_valg hS75 (wanted_of (j := 11) (b := false) (d := 100) rfl rfl rfl rfl) rfl (r_move rfl (.t rfl rfl)) ?_
            refine s_valg hS75 (wanted_of (j := 11) (b := false) (d := 100) rfl rfl rfl rfl) rfl (r_move rfl (.t rfl rfl)) ?_
            refine s_valg hS75 (wanted_of (j := 11) (b := false) (d := 100) rfl rfl rfl rfl) rfl (r_move rfl (.t rfl rfl)) ?_
            refine s_callg (wanted_of (j := 11) (b := false) (d := 100) rfl rfl rfl rfl) rfl rfl (vs := [.slice a2 B.length c2, .slice a4 ONE.length c4]) ⟨(.t rfl rfl), (.t rfl rfl), trivial⟩ cb14 (eq_ok w73 a2 c2 B hR361 a4 c4 ONE hR362 hNB hNONE) ?_
            rintro _ w74 ⟨⟨hc25, rfl⟩ | ⟨hc25, rfl⟩, hB32⟩
            rotate_left
            · exact absurd ((by have h8 := root_below hB0 (by simpa only [hlSM, hlSQ, hlONE] using hstR3) (by simpa only [hlSM, hlSQ, hlONE] using hslR3); have h9 := hexR3; rw [h8, hlSM, hlSQ, hlONE] at h9; have h7 := root_below_exact hB0; simp only [hlONE]; exact h7.1 h9)) hc25
            have hS76 := hS75.keep hB32
            replace hB32 := hB32.toBelow
            have hR366 := hR361.below hB32 (Nat.le_refl _)
            have hR367 := hR362.below hB32 (Nat.le_refl _)
            have hR368 := hR363.below hB32 (Nat.le_refl _)
            have hR369 := hR364.below hB32 (Nat.le_refl _)
            have hR370 := hR365.below hB32 (Nat.le_refl _)
            have hW884 := hW869.later hB32
            have hW885 := hW870.later hB32
            have hW886 := hW871.later hB32
            have hW887 := hW872.later hB32
            have hW888 := hW873.later hB32
            have hW889 := hW874.later hB32
            have hW890 := hW875.later hB32
            have hW891 := hW876.later hB32
            have hW892 := hW877.later hB32
            have hW893 := hW878.later hB32
            have hW894 := hW879.later hB32
            have hW895 := hW880.later hB32
            have hW896 := hW881.later hB32
            have hW897 := hW882.later hB32
            have hW898 := hW883.later hB32
            refine s_valg hS76 (wanted_of (j := 11) (b := false) (d := 100) rfl rfl rfl rfl) rfl (r_neb rfl Try.underlying4 (.t rfl rfl) (.t rfl rfl)) ?_
            refine s_val hS76 rfl rfl (r_pick rfl (.t rfl rfl) (.t rfl rfl)) ?_
            refine wpList_nil ?_
            refine x_tn ?_
            refine k_reb [(2, .bool false), (4, .slice a2 B.length c2), (6, .slice a4 ONE.length c4), (7, .slice a43 R3.length c46), (8, .bool true), (9, .int .i64 0), (10, .slice a40 SQ.length c42), (106, .bool false)] ⟨rfl, rfl, rfl, rfl, rfl, rfl, rfl, rfl, trivial⟩ fun G62 => ?_
            refine k_f (.t rfl rfl) ?_
            refine wp_skip ?_
            refine x_tn ?_
            refine k_reb [(2, .bool false), (4, .slice a2 B.length c2), (6, .slice a4 ONE.length c4), (7, .slice a43 R3.length c46), (8, .bool true), (9, .int .i64 0), (10, .slice a40 SQ.length c42)] ⟨rfl, rfl, rfl, rfl, rfl, rfl, rfl, trivial⟩ fun G63 => ?_
            refine wp_seq ?_
            refine k_reg ?_
            refine s_val hS76 rfl rfl (r_move rfl (.t rfl rfl)) ?_
            refine s_val hS76 rfl rfl (r_move rfl (.t rfl rfl)) ?_
            refine s_call rfl rfl rfl (vs := [.slice a40 SQ.length c42, .slice a4 ONE.length c4]) ⟨(.t rfl rfl), (.t rfl rfl), trivial⟩ cb15 (ladd_ok w74 a40 c42 SQ hR369 a4 c4 ONE hR367 hNSQ hNONE (by (try simp only [hlONE, hlN14, hlN15, hlN16, hlN17, hlN18, hlSQ, hlSM, hlN19, lv_nil, Nat.mul_zero, Nat.add_zero]) <;> (first | assumption | omega))) ?_
            intro v49 w75 hp56
            obtain ⟨SP, hp56, ⟨hNSP, hlSP⟩⟩ := hp56
            obtain ⟨a45, c48, rfl, hR371, -, hT45⟩ := id hp56
            have hW899 := Ow.from_ hS76 hp56
            have hS77 := hS76.keep hT45
            have hR372 := hR366.below hT45.toBelow (Nat.le_refl _)
            have hR373 := hR367.below hT45.toBelow (Nat.le_refl _)
            have hR374 := hR368.below hT45.toBelow (Nat.le_refl _)
            have hR375 := hR369.below hT45.toBelow (Nat.le_refl _)
            have hW900 := hW884.later hT45.toBelow
            have hW901 := hW885.later hT45.toBelow
            have hW902 := hW886.later hT45.toBelow
            have hW903 := hW887.later hT45.toBelow
            have hW904 := hW888.later hT45.toBelow
            have hW905 := hW889.later hT45.toBelow
            have hW906 := hW890.later hT45.toBelow
            have hW907 := hW891.later hT45.toBelow
            have hW908 := hW892.later hT45.toBelow
            have hW909 := hW893.later hT45.toBelow
            have hW910 := hW894.later hT45.toBelow
            have hW911 := hW895.later hT45.toBelow
            have hW912 := hW896.later hT45.toBelow
            have hW913 := hW897.later hT45.toBelow
            have hW914 := hW898.later hT45.toBelow
            have hA45 := hp56.apart hS76 (m := 0) rfl
            have hnSP := hNSP.len
            refine s_call rfl rfl rfl (vs := [.slice a45 SP.length c48]) ⟨(.t rfl rfl), trivial⟩ cb31 (Root_ok w75 a45 c48 SP hR371 hNSP) ?_
            rintro v50 w76 ⟨R4, _, rfl, hp57, hNR4, hstR4, hslR4⟩
            obtain ⟨a46, c49, rfl, hR376, -, hT46⟩ := id hp57
            have hW915 := Ow.from_ hS77 hp57
            have hS78 := hS77.keep hT46
            have hR377 := hR372.below hT46.toBelow (Nat.le_refl _)
            have hR378 := hR373.below hT46.toBelow (Nat.le_refl _)
            have hR379 := hR374.below hT46.toBelow (Nat.le_refl _)
            have hR380 := hR375.below hT46.toBelow (Nat.le_refl _)
            have hR381 := hR371.below hT46.toBelow (Nat.le_refl _)
            have hW916 := hW900.later hT46.toBelow
            have hW917 := hW901.later hT46.toBelow
            have hW918 := hW902.later hT46.toBelow
            have hW919 := hW903.later hT46.toBelow
            have hW920 := hW904.later hT46.toBelow
            have hW921 := hW905.later hT46.toBelow
            have hW922 := hW906.later hT46.toBelow
            have hW923 := hW907.later hT46.toBelow
            have hW924 := hW908.later hT46.toBelow
            have hW925 := hW909.later hT46.toBelow
            have hW926 := hW910.later hT46.toBelow
            have hW927 := hW911.later hT46.toBelow
            have hW928 := hW912.later hT46.toBelow
            have hW929 := hW913.later hT46.toBelow
            have hW930 := hW914.later hT46.toBelow
            have hW931 := hW899.later hT46.toBelow
            have hA46 := hp57.apart hS77 (m := 0) rfl
            have hnR4 := hNR4.len
            have hexR4 : decide (lv R4 * lv R4 = lv SP) = false := decide_eq_false (by have h8 := root_above hB0 (by simpa only [hlSP, hlSQ, hlONE] using hstR4) (by simpa only [hlSP, hlSQ, hlONE] using hslR4); rw [h8, hlSP, hlSQ, hlONE]; omega)
            rw [hexR4]
            refine s_val hS78 rfl rfl (r_move rfl (.t rfl rfl)) ?_
            refine s_val hS78 rfl rfl (r_extract rfl (.t rfl rfl) rfl) ?_
            refine s_val hS78 rfl rfl (r_extract rfl (.t rfl rfl) rfl) ?_
            refine s_val hS78 rfl rfl (r_extract rfl (.t rfl rfl) rfl) ?_
            refine s_val hS78 rfl rfl (r_assign rfl (.t rfl rfl)) ?_
            refine s_val hS78 rfl rfl (r_assign rfl (.t rfl rfl)) ?_
            refine s_val hS78 rfl rfl (r_assign rfl (.t rfl rfl)) ?_
            refine wpList_nil ?_
            refine x_tn ?_
            refine k_reb [(2, .bool false), (4, .slice a2 B.length c2), (7, .slice a46 R4.length c49), (8, .bool false), (9, .int .i64 0)] ⟨rfl, rfl, rfl, rfl, rfl, trivial⟩ fun G64 => ?_
            refine wp_seq ?_
            refine k_reg ?_
            refine s_val hS78 rfl rfl (r_move rfl (.t rfl rfl)) ?_
            refine s_call rfl rfl rfl (vs := [.int .i64 0]) ⟨(.t rfl rfl), trivial⟩ cb13 (num_ok w76 0) ?_
            rintro _ w76 ⟨rfl, rfl⟩
            refine s_val hS78 rfl rfl (r_cmp_f rfl rfl (.t rfl rfl) .c (show ¬ (¬ 0 = 0) from by omega)) ?_
            refine s_val hS78 rfl rfl (r_move rfl (.t rfl rfl)) ?_
            refine s_valg hS78 (wanted_of (j := 3) (b := false) (d := 118) rfl rfl rfl rfl) rfl (r_move rfl (.t rfl rfl)) ?_
            refine s_valg hS78 (wanted_of (j := 3) (b := false) (d := 118) rfl rfl rfl rfl) rfl (r_move rfl (.t rfl rfl)) ?_
            refine s_callg (wanted_of (j := 3) (b := false) (d := 118) rfl rfl rfl rfl) rfl rfl (vs := [.slice a46 R4.length c49, .slice a2 B.length c2]) ⟨(.t rfl rfl), (.t rfl rfl), trivial⟩ cb14 (eq_ok w76 a46 c49 R4 hR376 a2 c2 B hR377 hNR4 hNB) ?_
            rintro _ w77 ⟨⟨hc26, rfl⟩ | ⟨hc26, rfl⟩, hB33⟩
            rotate_left
            · exact absurd ((root_above hB0 (by simpa only [hlSP, hlSQ, hlONE] using hstR4) (by simpa only [hlSP, hlSQ, hlONE] using hslR4))) hc26
            have hS79 := hS78.keep hB33
            replace hB33 := hB33.toBelow
            have hR382 := hR377.below hB33 (Nat.le_refl _)
            have hR383 := hR376.below hB33 (Nat.le_refl _)
            have hW932 := hW916.later hB33
            have hW933 := hW917.later hB33
            have hW934 := hW918.later hB33
            have hW935 := hW919.later hB33
            have hW936 := hW920.later hB33
            have hW937 := hW921.later hB33
            have hW938 := hW922.later hB33
            have hW939 := hW923.later hB33
            have hW940 := hW924.later hB33
            have hW941 := hW925.later hB33
            have hW942 := hW926.later hB33
            have hW943 := hW927.later hB33
            have hW944 := hW928.later hB33
            have hW945 := hW929.later hB33
            have hW946 := hW930.later hB33
            have hW947 := hW931.later hB33
            have hW948 := hW915.later hB33
            refine s_valg hS79 (wanted_of (j := 3) (b := false) (d := 118) rfl rfl rfl rfl) rfl (r_lnot rfl (.t rfl rfl)) ?_
            refine s_val hS79 rfl rfl (r_pick rfl (.t rfl rfl) (.t rfl rfl)) ?_
            refine s_val hS79 rfl rfl (r_move rfl (.t rfl rfl)) ?_
            refine s_valg hS79 (wanted_of (j := 9) (b := false) (d := 124) rfl rfl rfl rfl) rfl (r_move rfl (.t rfl rfl)) ?_
            refine s_val hS79 rfl rfl (r_pick rfl (.t rfl rfl) (.t rfl rfl)) ?_
            refine wpList_nil ?_
            refine x_tn ?_
            refine k_reb [(2, .bool false), (126, .bool false)] ⟨rfl, rfl, trivial⟩ fun G65 => ?_
            refine k_f (.t rfl rfl) ?_
            refine wp_skip ?_
            refine x_tn ?_
            refine k_reb [(2, .bool false)] ⟨rfl, trivial⟩ fun G66 => ?_
            refine wp_seq ?_
            refine k_reg ?_
            refine s_call rfl rfl rfl (vs := []) trivial cb16 (wakes_ok w77 ) ?_
            intro v51 w78 hp58
            obtain ⟨hp58, hB34⟩ := hp58
            have hS80 := hS79.keep hB34
            replace hB34 := hB34.toBelow
            have hW949 := hW932.later hB34
            have hW950 := hW933.later hB34
            have hW951 := hW934.later hB34
            have hW952 := hW935.later hB34
            have hW953 := hW936.later hB34
            have hW954 := hW937.later hB34
            have hW955 := hW938.later hB34
            have hW956 := hW939.later hB34
            have hW957 := hW940.later hB34
            have hW958 := hW941.later hB34
            have hW959 := hW942.later hB34
            have hW960 := hW943.later hB34
            have hW961 := hW944.later hB34
            have hW962 := hW945.later hB34
            have hW963 := hW946.later hB34
            have hW964 := hW947.later hB34
            have hW965 := hW948.later hB34
            obtain rfl := hp58
            refine s_val hS80 rfl rfl (r_assign rfl (.t rfl rfl)) ?_
            refine wpList_nil ?_
            refine x_tn ?_
            refine k_reb [(2, .bool true)] ⟨rfl, trivial⟩ fun G67 => ?_
            refine wp_ret ?_
            refine k_ret1 Try.results8 rfl rfl ?_
            refine ⟨_, rfl, ?_⟩
            exact ⟨rfl, hS80.none⟩
          · rw [decide_eq_false hexR3]
            refine s_val hS73 rfl rfl (r_move rfl (.t rfl rfl)) ?_
            refine s_val hS73 rfl rfl (r_extract rfl (.t rfl rfl) rfl) ?_
            refine s_val hS73 rfl rfl (r_extract rfl (.t rfl rfl) rfl) ?_
            refine s_val hS73 rfl rfl (r_extract rfl (.t rfl rfl) rfl) ?_
            refine s_val hS73 rfl rfl (r_assign rfl (.t rfl rfl)) ?_
            refine s_val hS73 rfl rfl (r_assign rfl (.t rfl rfl)) ?_
            refine s_val hS73 rfl rfl (r_assign rfl (.t rfl rfl)) ?_
            refine wpList_nil ?_
            refine x_tn ?_
            refine k_reb [(2, .bool false), (4, .slice a2 B.length c2), (6, .slice a4 ONE.length c4), (7, .slice a43 R3.length c46), (8, .bool false), (9, .int .i64 0), (10, .slice a40 SQ.length c42)] ⟨rfl, rfl, rfl, rfl, rfl, rfl, rfl, trivial⟩ fun G68 => ?_
            refine wp_seq ?_
            refine wp_seq ?_
            refine k_reg ?_
            refine s_val hS73 rfl rfl (r_move rfl (.t rfl rfl)) ?_
            refine s_call rfl rfl rfl (vs := [.int .i64 0]) ⟨(.t rfl rfl), trivial⟩ cb13 (num_ok w71 0) ?_
            rintro _ w71 ⟨rfl, rfl⟩
            refine s_val hS73 rfl rfl (r_cmp_f rfl rfl (.t rfl rfl) .c (show ¬ (¬ 0 = 0) from by omega)) ?_
            refine s_val hS73 rfl rfl (r_move rfl (.t rfl rfl)) ?_
            refine s_valg hS73 (wanted_of (j := 3) (b := false) (d := 92) rfl rfl rfl rfl) rfl (r_move rfl (.t rfl rfl)) ?_
            refine s_valg hS73 (wanted_of (j := 3) (b := false) (d := 92) rfl rfl rfl rfl) rfl (r_move rfl (.t rfl rfl)) ?_
            refine s_valg hS73 (wanted_of (j := 3) (b := false) (d := 92) rfl rfl rfl rfl) rfl (r_move rfl (.t rfl rfl)) ?_
            refine s_callg (wanted_of (j := 3) (b := false) (d := 92) rfl rfl rfl rfl) rfl rfl (vs := [.slice a2 B.length c2, .slice a4 ONE.length c4]) ⟨(.t rfl rfl), (.t rfl rfl), trivial⟩ cb27 (lsub_ok w71 a2 c2 B hR351 a4 c4 ONE hR352 hNB hNONE (by (try simp only [hlONE, hlN14, hlN15, hlN16, hlN17, hlN18, hlSQ, hlSM, lv_nil, Nat.mul_zero, Nat.add_zero]) <;> (first | assumption | omega))) ?_
            intro v52 w79 hp59
            obtain ⟨N20, hp59, ⟨hNN20, hlN20⟩⟩ := hp59
            obtain ⟨a47, c50, rfl, hR384, -, hT47⟩ := id hp59
            have hW966 := Ow.from_ hS73 hp59
            have hS81 := hS73.keep hT47
            have hR385 := hR351.below hT47.toBelow (Nat.le_refl _)
            have hR386 := hR352.below hT47.toBelow (Nat.le_refl _)
            have hR387 := hR350.below hT47.toBelow (Nat.le_refl _)
            have hR388 := hR354.below hT47.toBelow (Nat.le_refl _)
            have hW967 := hW841.later hT47.toBelow
            have hW968 := hW842.later hT47.toBelow
            have hW969 := hW843.later hT47.toBelow
            have hW970 := hW844.later hT47.toBelow
            have hW971 := hW845.later hT47.toBelow
            have hW972 := hW846.later hT47.toBelow
            have hW973 := hW847.later hT47.toBelow
            have hW974 := hW848.later hT47.toBelow
            have hW975 := hW849.later hT47.toBelow
            have hW976 := hW850.later hT47.toBelow
            have hW977 := hW851.later hT47.toBelow
            have hW978 := hW852.later hT47.toBelow
            have hW979 := hW853.later hT47.toBelow
            have hW980 := hW840.later hT47.toBelow
            have hA47 := hp59.apart hS73 (m := 0) rfl
            have hnN20 := hNN20.len
            refine s_callg (wanted_of (j := 3) (b := false) (d := 92) rfl rfl rfl rfl) rfl rfl (vs := [.slice a43 R3.length c46, .slice a47 N20.length c50]) ⟨(.t rfl rfl), (.t rfl rfl), trivial⟩ cb14 (eq_ok w79 a43 c46 R3 hR387 a47 c50 N20 hR384 hNR3 hNN20) ?_
            rintro _ w80 ⟨⟨hc27, rfl⟩ | ⟨hc27, rfl⟩, hB35⟩
            rotate_left
            · exact absurd ((by simp only [hlONE, hlN14, hlN15, hlN16, hlN17, hlN18, hlSQ, hlSM, hlN20]; exact root_below hB0 (by simpa only [hlSM, hlSQ, hlONE] using hstR3) (by simpa only [hlSM, hlSQ, hlONE] using hslR3))) hc27
            have hS82 := hS81.keep hB35
            replace hB35 := hB35.toBelow
            have hR389 := hR385.below hB35 (Nat.le_refl _)
            have hR390 := hR386.below hB35 (Nat.le_refl _)
            have hR391 := hR387.below hB35 (Nat.le_refl _)
            have hR392 := hR388.below hB35 (Nat.le_refl _)
            have hR393 := hR384.below hB35 (Nat.le_refl _)
            have hW981 := hW967.later hB35
            have hW982 := hW968.later hB35
            have hW983 := hW969.later hB35
            have hW984 := hW970.later hB35
            have hW985 := hW971.later hB35
            have hW986 := hW972.later hB35
            have hW987 := hW973.later hB35
            have hW988 := hW974.later hB35
            have hW989 := hW975.later hB35
            have hW990 := hW976.later hB35
            have hW991 := hW977.later hB35
            have hW992 := hW978.later hB35
            have hW993 := hW979.later hB35
            have hW994 := hW980.later hB35
            have hW995 := hW966.later hB35
            refine s_valg hS82 (wanted_of (j := 3) (b := false) (d := 92) rfl rfl rfl rfl) rfl (r_lnot rfl (.t rfl rfl)) ?_
            refine s_val hS82 rfl rfl (r_pick rfl (.t rfl rfl) (.t rfl rfl)) ?_
            refine s_val hS82 rfl rfl (r_move rfl (.t rfl rfl)) ?_
            refine s_valg hS82 (wanted_of (j := 11) (b := false) (d := 100) rfl rfl rfl rfl) rfl (r_move rfl (.t rfl rfl)) ?_
            refine s_valg hS82 (wanted_of (j := 11) (b := false) (d := 100) rfl rfl rfl rfl) rfl (r_move rfl (.t rfl rfl)) ?_
            refine s_valg hS82 (wanted_of (j := 11) (b := false) (d := 100) rfl rfl rfl rfl) rfl (r_move rfl (.t rfl rfl)) ?_
            refine s_callg (wanted_of (j := 11) (b := false) (d := 100) rfl rfl rfl rfl) rfl rfl (vs := [.slice a2 B.length c2, .slice a4 ONE.length c4]) ⟨(.t rfl rfl), (.t rfl rfl), trivial⟩ cb14 (eq_ok w80 a2 c2 B hR389 a4 c4 ONE hR390 hNB hNONE) ?_
            rintro _ w81 ⟨⟨hc28, rfl⟩ | ⟨hc28, rfl⟩, hB36⟩
            · exact absurd hc28 ((by have h8 := root_below hB0 (by simpa only [hlSM, hlSQ, hlONE] using hstR3) (by simpa only [hlSM, hlSQ, hlONE] using hslR3); have h9 := hexR3; rw [h8, hlSM, hlSQ, hlONE] at h9; have h7 := root_below_exact hB0; simp only [hlONE]; exact fun h => h9 (h7.2 h)))
            have hS83 := hS82.keep hB36
            replace hB36 := hB36.toBelow
            have hR394 := hR389.below hB36 (Nat.le_refl _)
            have hR395 := hR390.below hB36 (Nat.le_refl _)
            have hR396 := hR391.below hB36 (Nat.le_refl _)
            have hR397 := hR392.below hB36 (Nat.le_refl _)
            have hR398 := hR393.below hB36 (Nat.le_refl _)
            have hW996 := hW981.later hB36
            have hW997 := hW982.later hB36
            have hW998 := hW983.later hB36
            have hW999 := hW984.later hB36
            have hW1000 := hW985.later hB36
            have hW1001 := hW986.later hB36
            have hW1002 := hW987.later hB36
            have hW1003 := hW988.later hB36
            have hW1004 := hW989.later hB36
            have hW1005 := hW990.later hB36
            have hW1006 := hW991.later hB36
            have hW1007 := hW992.later hB36
            have hW1008 := hW993.later hB36
            have hW1009 := hW994.later hB36
            have hW1010 := hW995.later hB36
            refine s_valg hS83 (wanted_of (j := 11) (b := false) (d := 100) rfl rfl rfl rfl) rfl (r_neb rfl Try.underlying4 (.t rfl rfl) (.t rfl rfl)) ?_
            refine s_val hS83 rfl rfl (r_pick rfl (.t rfl rfl) (.t rfl rfl)) ?_
            refine wpList_nil ?_
            refine x_tn ?_
            refine k_reb [(2, .bool false), (4, .slice a2 B.length c2), (6, .slice a4 ONE.length c4), (7, .slice a43 R3.length c46), (8, .bool false), (9, .int .i64 0), (10, .slice a40 SQ.length c42), (106, .bool false)] ⟨rfl, rfl, rfl, rfl, rfl, rfl, rfl, rfl, trivial⟩ fun G69 => ?_
            refine k_f (.t rfl rfl) ?_
            refine wp_skip ?_
            refine x_tn ?_
            refine k_reb [(2, .bool false), (4, .slice a2 B.length c2), (6, .slice a4 ONE.length c4), (7, .slice a43 R3.length c46), (8, .bool false), (9, .int .i64 0), (10, .slice a40 SQ.length c42)] ⟨rfl, rfl, rfl, rfl, rfl, rfl, rfl, trivial⟩ fun G70 => ?_
            refine wp_seq ?_
            refine k_reg ?_
            refine s_val hS83 rfl rfl (r_move rfl (.t rfl rfl)) ?_
            refine s_val hS83 rfl rfl (r_move rfl (.t rfl rfl)) ?_
            refine s_call rfl rfl rfl (vs := [.slice a40 SQ.length c42, .slice a4 ONE.length c4]) ⟨(.t rfl rfl), (.t rfl rfl), trivial⟩ cb15 (ladd_ok w81 a40 c42 SQ hR397 a4 c4 ONE hR395 hNSQ hNONE (by (try simp only [hlONE, hlN14, hlN15, hlN16, hlN17, hlN18, hlSQ, hlSM, hlN20, lv_nil, Nat.mul_zero, Nat.add_zero]) <;> (first | assumption | omega))) ?_
            intro v53 w82 hp60
            obtain ⟨SP, hp60, ⟨hNSP, hlSP⟩⟩ := hp60
            obtain ⟨a48, c51, rfl, hR399, -, hT48⟩ := id hp60
            have hW1011 := Ow.from_ hS83 hp60
            have hS84 := hS83.keep hT48
            have hR400 := hR394.below hT48.toBelow (Nat.le_refl _)
            have hR401 := hR395.below hT48.toBelow (Nat.le_refl _)
            have hR402 := hR396.below hT48.toBelow (Nat.le_refl _)
            have hR403 := hR397.below hT48.toBelow (Nat.le_refl _)
            have hW1012 := hW996.later hT48.toBelow
            have hW1013 := hW997.later hT48.toBelow
            have hW1014 := hW998.later hT48.toBelow
            have hW1015 := hW999.later hT48.toBelow
            have hW1016 := hW1000.later hT48.toBelow
            have hW1017 := hW1001.later hT48.toBelow
            have hW1018 := hW1002.later hT48.toBelow
            have hW1019 := hW1003.later hT48.toBelow
            have hW1020 := hW1004.later hT48.toBelow
            have hW1021 := hW1005.later hT48.toBelow
            have hW1022 := hW1006.later hT48.toBelow
            have hW1023 := hW1007.later hT48.toBelow
            have hW1024 := hW1008.later hT48.toBelow
            have hW1025 := hW1009.later hT48.toBelow
            have hW1026 := hW1010.later hT48.toBelow
            have hA48 := hp60.apart hS83 (m := 0) rfl
            have hnSP := hNSP.len
            refine s_call rfl rfl rfl (vs := [.slice a48 SP.length c51]) ⟨(.t rfl rfl), trivial⟩ cb31 (Root_ok w82 a48 c51 SP hR399 hNSP) ?_
            rintro v54 w83 ⟨R4, _, rfl, hp61, hNR4, hstR4, hslR4⟩
            obtain ⟨a49, c52, rfl, hR404, -, hT49⟩ := id hp61
            have hW1027 := Ow.from_ hS84 hp61
            have hS85 := hS84.keep hT49
            have hR405 := hR400.below hT49.toBelow (Nat.le_refl _)
            have hR406 := hR401.below hT49.toBelow (Nat.le_refl _)
            have hR407 := hR402.below hT49.toBelow (Nat.le_refl _)
            have hR408 := hR403.below hT49.toBelow (Nat.le_refl _)
            have hR409 := hR399.below hT49.toBelow (Nat.le_refl _)
            have hW1028 := hW1012.later hT49.toBelow
            have hW1029 := hW1013.later hT49.toBelow
            have hW1030 := hW1014.later hT49.toBelow
            have hW1031 := hW1015.later hT49.toBelow
            have hW1032 := hW1016.later hT49.toBelow
            have hW1033 := hW1017.later hT49.toBelow
            have hW1034 := hW1018.later hT49.toBelow
            have hW1035 := hW1019.later hT49.toBelow
            have hW1036 := hW1020.later hT49.toBelow
            have hW1037 := hW1021.later hT49.toBelow
            have hW1038 := hW1022.later hT49.toBelow
            have hW1039 := hW1023.later hT49.toBelow
            have hW1040 := hW1024.later hT49.toBelow
            have hW1041 := hW1025.later hT49.toBelow
            have hW1042 := hW1026.later hT49.toBelow
            have hW1043 := hW1011.later hT49.toBelow
            have hA49 := hp61.apart hS84 (m := 0) rfl
            have hnR4 := hNR4.len
            have hexR4 : decide (lv R4 * lv R4 = lv SP) = false := decide_eq_false (by have h8 := root_above hB0 (by simpa only [hlSP, hlSQ, hlONE] using hstR4) (by simpa only [hlSP, hlSQ, hlONE] using hslR4); rw [h8, hlSP, hlSQ, hlONE]; omega)
            rw [hexR4]
            refine s_val hS85 rfl rfl (r_move rfl (.t rfl rfl)) ?_
            refine s_val hS85 rfl rfl (r_extract rfl (.t rfl rfl) rfl) ?_
            refine s_val hS85 rfl rfl (r_extract rfl (.t rfl rfl) rfl) ?_
            refine s_val hS85 rfl rfl (r_extract rfl (.t rfl rfl) rfl) ?_
            refine s_val hS85 rfl rfl (r_assign rfl (.t rfl rfl)) ?_
            refine s_val hS85 rfl rfl (r_assign rfl (.t rfl rfl)) ?_
            refine s_val hS85 rfl rfl (r_assign rfl (.t rfl rfl)) ?_
            refine wpList_nil ?_
            refine x_tn ?_
            refine k_reb [(2, .bool false), (4, .slice a2 B.length c2), (7, .slice a49 R4.length c52), (8, .bool false), (9, .int .i64 0)] ⟨rfl, rfl, rfl, rfl, rfl, trivial⟩ fun G71 => ?_
            refine wp_seq ?_
            refine k_reg ?_
            refine s_val hS85 rfl rfl (r_move rfl (.t rfl rfl)) ?_
            refine s_call rfl rfl rfl (vs := [.int .i64 0]) ⟨(.t rfl rfl), trivial⟩ cb13 (num_ok w83 0) ?_
            rintro _ w83 ⟨rfl, rfl⟩
            refine s_val hS85 rfl rfl (r_cmp_f rfl rfl (.t rfl rfl) .c (show ¬ (¬ 0 = 0) from by omega)) ?_
            refine s_val hS85 rfl rfl (r_move rfl (.t rfl rfl)) ?_
            refine s_valg hS85 (wanted_of (j := 3) (b := false) (d := 118) rfl rfl rfl rfl) rfl (r_move rfl (.t rfl rfl)) ?_
            refine s_valg hS85 (wanted_of (j := 3) (b := false) (d := 118) rfl rfl rfl rfl) rfl (r_move rfl (.t rfl rfl)) ?_
            refine s_callg (wanted_of (j := 3) (b := false) (d := 118) rfl rfl rfl rfl) rfl rfl (vs := [.slice a49 R4.length c52, .slice a2 B.length c2]) ⟨(.t rfl rfl), (.t rfl rfl), trivial⟩ cb14 (eq_ok w83 a49 c52 R4 hR404 a2 c2 B hR405 hNR4 hNB) ?_
            rintro _ w84 ⟨⟨hc29, rfl⟩ | ⟨hc29, rfl⟩, hB37⟩
            rotate_left
            · exact absurd ((root_above hB0 (by simpa only [hlSP, hlSQ, hlONE] using hstR4) (by simpa only [hlSP, hlSQ, hlONE] using hslR4))) hc29
            have hS86 := hS85.keep hB37
            replace hB37 := hB37.toBelow
            have hR410 := hR405.below hB37 (Nat.le_refl _)
            have hR411 := hR404.below hB37 (Nat.le_refl _)
            have hW1044 := hW1028.later hB37
            have hW1045 := hW1029.later hB37
            have hW1046 := hW1030.later hB37
            have hW1047 := hW1031.later hB37
            have hW1048 := hW1032.later hB37
            have hW1049 := hW1033.later hB37
            have hW1050 := hW1034.later hB37
            have hW1051 := hW1035.later hB37
            have hW1052 := hW1036.later hB37
            have hW1053 := hW1037.later hB37
            have hW1054 := hW1038.later hB37
            have hW1055 := hW1039.later hB37
            have hW1056 := hW1040.later hB37
            have hW1057 := hW1041.later hB37
            have hW1058 := hW1042.later hB37
            have hW1059 := hW1043.later hB37
            have hW1060 := hW1027.later hB37
            refine s_valg hS86 (wanted_of (j := 3) (b := false) (d := 118) rfl rfl rfl rfl) rfl (r_lnot rfl (.t rfl rfl)) ?_
            refine s_val hS86 rfl rfl (r_pick rfl (.t rfl rfl) (.t rfl rfl)) ?_
            refine s_val hS86 rfl rfl (r_move rfl (.t rfl rfl)) ?_
            refine s_valg hS86 (wanted_of (j := 9) (b := false) (d := 124) rfl rfl rfl rfl) rfl (r_move rfl (.t rfl rfl)) ?_
            refine s_val hS86 rfl rfl (r_pick rfl (.t rfl rfl) (.t rfl rfl)) ?_
            refine wpList_nil ?_
            refine x_tn ?_
            refine k_reb [(2, .bool false), (126, .bool false)] ⟨rfl, rfl, trivial⟩ fun G72 => ?_
            refine k_f (.t rfl rfl) ?_
            refine wp_skip ?_
            refine x_tn ?_
            refine k_reb [(2, .bool false)] ⟨rfl, trivial⟩ fun G73 => ?_
            refine wp_seq ?_
            refine k_reg ?_
            refine s_call rfl rfl rfl (vs := []) trivial cb16 (wakes_ok w84 ) ?_
            intro v55 w85 hp62
            obtain ⟨hp62, hB38⟩ := hp62
            have hS87 := hS86.keep hB38
            replace hB38 := hB38.toBelow
            have hW1061 := hW1044.later hB38
            have hW1062 := hW1045.later hB38
            have hW1063 := hW1046.later hB38
            have hW1064 := hW1047.later hB38
            have hW1065 := hW1048.later hB38
            have hW1066 := hW1049.later hB38
            have hW1067 := hW1050.later hB38
            have hW1068 := hW1051.later hB38
            have hW1069 := hW1052.later hB38
            have hW1070 := hW1053.later hB38
            have hW1071 := hW1054.later hB38
            have hW1072 := hW1055.later hB38
            have hW1073 := hW1056.later hB38
            have hW1074 := hW1057.later hB38
            have hW1075 := hW1058.later hB38
            have hW1076 := hW1059.later hB38
            have hW1077 := hW1060.later hB38
            obtain rfl := hp62
            refine s_val hS87 rfl rfl (r_assign rfl (.t rfl rfl)) ?_
            refine wpList_nil ?_
            refine x_tn ?_
            refine k_reb [(2, .bool true)] ⟨rfl, trivial⟩ fun G74 => ?_
            refine wp_ret ?_
            refine k_ret1 Try.results8 rfl rfl ?_
            refine ⟨_, rfl, ?_⟩
            exact ⟨rfl, hS87.none⟩
        · refine s_val hS71 rfl rfl (r_cmp_f rfl rfl (.t rfl rfl) .c (show ¬ (((B.length : Nat) : Int) > 0) from by omega)) ?_
          refine wpList_nil ?_
          refine x_tn ?_
          refine k_reb [(2, .bool false), (4, .slice a2 B.length c2), (6, .slice a4 ONE.length c4), (7, .slice a41 R2.length c43), (8, .bool true), (9, .int .i64 0), (10, .slice a40 SQ.length c42), (80, .bool false)] ⟨rfl, rfl, rfl, rfl, rfl, rfl, rfl, rfl, trivial⟩ fun G75 => ?_
          refine k_f (.t rfl rfl) ?_
          refine wp_skip ?_
          refine x_tn ?_
          refine k_reb [(2, .bool false)] ⟨rfl, trivial⟩ fun G76 => ?_
          refine wp_seq ?_
          refine k_reg ?_
          refine s_call rfl rfl rfl (vs := []) trivial cb16 (wakes_ok w69 ) ?_
          intro v56 w86 hp63
          obtain ⟨hp63, hB39⟩ := hp63
          have hS88 := hS71.keep hB39
          replace hB39 := hB39.toBelow
          have hW1078 := hW815.later hB39
          have hW1079 := hW816.later hB39
          have hW1080 := hW817.later hB39
          have hW1081 := hW818.later hB39
          have hW1082 := hW819.later hB39
          have hW1083 := hW820.later hB39
          have hW1084 := hW821.later hB39
          have hW1085 := hW822.later hB39
          have hW1086 := hW823.later hB39
          have hW1087 := hW824.later hB39
          have hW1088 := hW825.later hB39
          have hW1089 := hW826.later hB39
          obtain rfl := hp63
          refine s_val hS88 rfl rfl (r_assign rfl (.t rfl rfl)) ?_
          refine wpList_nil ?_
          refine x_tn ?_
          refine k_reb [(2, .bool true)] ⟨rfl, trivial⟩ fun G77 => ?_
          refine wp_ret ?_
          refine k_ret1 Try.results8 rfl rfl ?_
          refine ⟨_, rfl, ?_⟩
          exact ⟨rfl, hS88.none⟩
    · refine s_valg hS62 (wanted_of (j := 3) (b := false) (d := 27) rfl rfl rfl rfl) rfl (r_cmp_f rfl rfl (.t rfl rfl) .c (show ¬ (0 > 0) from by omega)) ?_
      refine s_val hS62 rfl rfl (r_pick rfl (.t rfl rfl) (.t rfl rfl)) ?_
      refine s_val hS62 rfl rfl (r_move rfl (.t rfl rfl)) ?_
      refine s_valg hS62 (wanted_of (j := 11) (b := false) (d := 35) rfl rfl rfl rfl) rfl (r_move rfl (.t rfl rfl)) ?_
      refine s_valg hS62 (wanted_of (j := 11) (b := false) (d := 35) rfl rfl rfl rfl) rfl (r_move rfl (.t rfl rfl)) ?_
      refine s_callg (wanted_of (j := 11) (b := false) (d := 35) rfl rfl rfl rfl) rfl rfl (vs := [.slice a5 R1.length c5, .slice a4 ONE.length c4]) ⟨(.t rfl rfl), (.t rfl rfl), trivial⟩ cb15 (ladd_ok w60 a5 c5 R1 hR283 a4 c4 ONE hR282 hNR1 hNONE (by (try simp only [hlONE, hlN14, lv_nil, Nat.mul_zero, Nat.add_zero]) <;> (first | assumption | omega))) ?_
      intro v57 w87 hp64
      obtain ⟨N21, hp64, ⟨hNN21, hlN21⟩⟩ := hp64
      obtain ⟨a50, c53, rfl, hR412, -, hT50⟩ := id hp64
      have hW1090 := Ow.from_ hS62 hp64
      have hS89 := hS62.keep hT50
      have hR413 := hR280.below hT50.toBelow (Nat.le_refl _)
      have hR414 := hR281.below hT50.toBelow (Nat.le_refl _)
      have hR415 := hR282.below hT50.toBelow (Nat.le_refl _)
      have hR416 := hR283.below hT50.toBelow (Nat.le_refl _)
      have hR417 := hR284.below hT50.toBelow (Nat.le_refl _)
      have hW1091 := hW733.later hT50.toBelow
      have hW1092 := hW734.later hT50.toBelow
      have hW1093 := hW735.later hT50.toBelow
      have hW1094 := hW736.later hT50.toBelow
      have hW1095 := hW737.later hT50.toBelow
      have hW1096 := hW738.later hT50.toBelow
      have hA50 := hp64.apart hS62 (m := 0) rfl
      have hnN21 := hNN21.len
      refine s_valg hS89 (wanted_of (j := 11) (b := false) (d := 35) rfl rfl rfl rfl) rfl (r_move rfl (.t rfl rfl)) ?_
      refine s_valg hS89 (wanted_of (j := 11) (b := false) (d := 35) rfl rfl rfl rfl) rfl (r_move rfl (.t rfl rfl)) ?_
      refine s_callg (wanted_of (j := 11) (b := false) (d := 35) rfl rfl rfl rfl) rfl rfl (vs := [.slice a5 R1.length c5, .slice a4 ONE.length c4]) ⟨(.t rfl rfl), (.t rfl rfl), trivial⟩ cb15 (ladd_ok w87 a5 c5 R1 hR416 a4 c4 ONE hR415 hNR1 hNONE (by (try simp only [hlONE, hlN14, hlN21, lv_nil, Nat.mul_zero, Nat.add_zero]) <;> (first | assumption | omega))) ?_
      intro v58 w88 hp65
      obtain ⟨N22, hp65, ⟨hNN22, hlN22⟩⟩ := hp65
      obtain ⟨a51, c54, rfl, hR418, -, hT51⟩ := id hp65
      have hW1097 := Ow.from_ hS89 hp65
      have hS90 := hS89.keep hT51
      have hR419 := hR413.below hT51.toBelow (Nat.le_refl _)
      have hR420 := hR414.below hT51.toBelow (Nat.le_refl _)
      have hR421 := hR415.below hT51.toBelow (Nat.le_refl _)
      have hR422 := hR416.below hT51.toBelow (Nat.le_refl _)
      have hR423 := hR417.below hT51.toBelow (Nat.le_refl _)
      have hR424 := hR412.below hT51.toBelow (Nat.le_refl _)
      have hW1098 := hW1091.later hT51.toBelow
      have hW1099 := hW1092.later hT51.toBelow
      have hW1100 := hW1093.later hT51.toBelow
      have hW1101 := hW1094.later hT51.toBelow
      have hW1102 := hW1095.later hT51.toBelow
      have hW1103 := hW1096.later hT51.toBelow
      have hW1104 := hW1090.later hT51.toBelow
      have hA51 := hp65.apart hS89 (m := 0) rfl
      have hnN22 := hNN22.len
      refine s_callg (wanted_of (j := 11) (b := false) (d := 35) rfl rfl rfl rfl) rfl rfl (vs := [.slice a50 N21.length c53, .slice a51 N22.length c54]) ⟨(.t rfl rfl), (.t rfl rfl), trivial⟩ cb19 (lmul_ok w88 a50 c53 N21 hR424 a51 c54 N22 hR418 hNN21 hNN22 (by (try simp only [hlONE, hlN14, hlN21, hlN22, lv_nil, Nat.mul_zero, Nat.add_zero]) <;> (first | assumption | omega))) ?_
      intro v59 w89 hp66
      obtain ⟨N23, hp66, ⟨hNN23, hlN23⟩⟩ := hp66
      obtain ⟨a52, c55, rfl, hR425, -, hT52⟩ := id hp66
      have hW1105 := Ow.from_ hS90 hp66
      have hS91 := hS90.keep hT52
      have hR426 := hR419.below hT52.toBelow (Nat.le_refl _)
      have hR427 := hR420.below hT52.toBelow (Nat.le_refl _)
      have hR428 := hR421.below hT52.toBelow (Nat.le_refl _)
      have hR429 := hR422.below hT52.toBelow (Nat.le_refl _)
      have hR430 := hR423.below hT52.toBelow (Nat.le_refl _)
      have hR431 := hR424.below hT52.toBelow (Nat.le_refl _)
      have hR432 := hR418.below hT52.toBelow (Nat.le_refl _)
      have hW1106 := hW1098.later hT52.toBelow
      have hW1107 := hW1099.later hT52.toBelow
      have hW1108 := hW1100.later hT52.toBelow
      have hW1109 := hW1101.later hT52.toBelow
      have hW1110 := hW1102.later hT52.toBelow
      have hW1111 := hW1103.later hT52.toBelow
      have hW1112 := hW1104.later hT52.toBelow
      have hW1113 := hW1097.later hT52.toBelow
      have hA52 := hp66.apart hS90 (m := 0) rfl
      have hnN23 := hNN23.len
      refine s_valg hS91 (wanted_of (j := 11) (b := false) (d := 35) rfl rfl rfl rfl) rfl (r_move rfl (.t rfl rfl)) ?_
      refine s_callg (wanted_of (j := 11) (b := false) (d := 35) rfl rfl rfl rfl) rfl rfl (vs := [.slice a52 N23.length c55, .slice a1 A.length c1]) ⟨(.t rfl rfl), (.t rfl rfl), trivial⟩ cb28 (Cmp_ok w89 a52 c55 N23 hR425 a1 c1 A hR426 hNN23 hNA) ?_
      rintro _ w90 ⟨hp67, hB40⟩
      have hS92 := hS91.keep hB40
      replace hB40 := hB40.toBelow
      have hR433 := hR426.below hB40 (Nat.le_refl _)
      have hR434 := hR427.below hB40 (Nat.le_refl _)
      have hR435 := hR428.below hB40 (Nat.le_refl _)
      have hR436 := hR429.below hB40 (Nat.le_refl _)
      have hR437 := hR430.below hB40 (Nat.le_refl _)
      have hR438 := hR431.below hB40 (Nat.le_refl _)
      have hR439 := hR432.below hB40 (Nat.le_refl _)
      have hR440 := hR425.below hB40 (Nat.le_refl _)
      have hW1114 := hW1106.later hB40
      have hW1115 := hW1107.later hB40
      have hW1116 := hW1108.later hB40
      have hW1117 := hW1109.later hB40
      have hW1118 := hW1110.later hB40
      have hW1119 := hW1111.later hB40
      have hW1120 := hW1112.later hB40
      have hW1121 := hW1113.later hB40
      have hW1122 := hW1105.later hB40
      rcases hp67 with ⟨hc30, rfl⟩ | ⟨hc30, rfl⟩ | ⟨hc30, rfl⟩
      · exfalso; (try simp only [hlONE, hlN14, hlN21, hlN22, hlN23] at hc30); omega
      · exfalso; (try simp only [hlONE, hlN14, hlN21, hlN22, hlN23] at hc30); omega
      · refine s_valg hS92 (wanted_of (j := 11) (b := false) (d := 35) rfl rfl rfl rfl) rfl (r_cmp_f rfl rfl (.t rfl rfl) .c (show ¬ (1 ≤ 0) from by omega)) ?_
        refine s_val hS92 rfl rfl (r_pick rfl (.t rfl rfl) (.t rfl rfl)) ?_
        refine s_val hS92 rfl rfl (r_move rfl (.t rfl rfl)) ?_
        refine s_valg hS92 (wanted_of (j := 23) (b := false) (d := 47) rfl rfl rfl rfl) rfl (r_move rfl (.t rfl rfl)) ?_
        refine s_valg hS92 (wanted_of (j := 23) (b := false) (d := 47) rfl rfl rfl rfl) rfl (r_move rfl (.t rfl rfl)) ?_
        refine s_valg hS92 (wanted_of (j := 23) (b := false) (d := 47) rfl rfl rfl rfl) rfl (r_move rfl (.t rfl rfl)) ?_
        refine s_callg (wanted_of (j := 23) (b := false) (d := 47) rfl rfl rfl rfl) rfl rfl (vs := [.slice a5 R1.length c5, .slice a5 R1.length c5]) ⟨(.t rfl rfl), (.t rfl rfl), trivial⟩ cb19 (lmul_ok w90 a5 c5 R1 hR436 a5 c5 R1 hR436 hNR1 hNR1 (by (try simp only [hlONE, hlN14, hlN21, hlN22, hlN23, lv_nil, Nat.mul_zero, Nat.add_zero]) <;> (first | assumption | omega))) ?_
        intro v60 w91 hp68
        obtain ⟨N24, hp68, ⟨hNN24, hlN24⟩⟩ := hp68
        obtain ⟨a53, c56, rfl, hR441, -, hT53⟩ := id hp68
        have hW1123 := Ow.from_ hS92 hp68
        have hS93 := hS92.keep hT53
        have hR442 := hR433.below hT53.toBelow (Nat.le_refl _)
        have hR443 := hR434.below hT53.toBelow (Nat.le_refl _)
        have hR444 := hR435.below hT53.toBelow (Nat.le_refl _)
        have hR445 := hR436.below hT53.toBelow (Nat.le_refl _)
        have hR446 := hR437.below hT53.toBelow (Nat.le_refl _)
        have hR447 := hR438.below hT53.toBelow (Nat.le_refl _)
        have hR448 := hR439.below hT53.toBelow (Nat.le_refl _)
        have hR449 := hR440.below hT53.toBelow (Nat.le_refl _)
        have hW1124 := hW1114.later hT53.toBelow
        have hW1125 := hW1115.later hT53.toBelow
        have hW1126 := hW1116.later hT53.toBelow
        have hW1127 := hW1117.later hT53.toBelow
        have hW1128 := hW1118.later hT53.toBelow
        have hW1129 := hW1119.later hT53.toBelow
        have hW1130 := hW1120.later hT53.toBelow
        have hW1131 := hW1121.later hT53.toBelow
        have hW1132 := hW1122.later hT53.toBelow
        have hA53 := hp68.apart hS92 (m := 0) rfl
        have hnN24 := hNN24.len
        refine s_valg hS93 (wanted_of (j := 23) (b := false) (d := 47) rfl rfl rfl rfl) rfl (r_move rfl (.t rfl rfl)) ?_
        refine s_callg (wanted_of (j := 23) (b := false) (d := 47) rfl rfl rfl rfl) rfl rfl (vs := [.slice a53 N24.length c56, .slice a1 A.length c1]) ⟨(.t rfl rfl), (.t rfl rfl), trivial⟩ cb14 (eq_ok w91 a53 c56 N24 hR441 a1 c1 A hR442 hNN24 hNA) ?_
        rintro _ w92 ⟨⟨hc31, rfl⟩ | ⟨hc31, rfl⟩, hB41⟩
        · exact absurd hc31 ((by simp only [hlONE, hlN14, hlN21, hlN22, hlN23, hlN24]; omega))
        have hS94 := hS93.keep hB41
        replace hB41 := hB41.toBelow
        have hR450 := hR442.below hB41 (Nat.le_refl _)
        have hR451 := hR443.below hB41 (Nat.le_refl _)
        have hR452 := hR444.below hB41 (Nat.le_refl _)
        have hR453 := hR445.below hB41 (Nat.le_refl _)
        have hR454 := hR446.below hB41 (Nat.le_refl _)
        have hR455 := hR447.below hB41 (Nat.le_refl _)
        have hR456 := hR448.below hB41 (Nat.le_refl _)
        have hR457 := hR449.below hB41 (Nat.le_refl _)
        have hR458 := hR441.below hB41 (Nat.le_refl _)
        have hW1133 := hW1124.later hB41
        have hW1134 := hW1125.later hB41
        have hW1135 := hW1126.later hB41
        have hW1136 := hW1127.later hB41
        have hW1137 := hW1128.later hB41
        have hW1138 := hW1129.later hB41
        have hW1139 := hW1130.later hB41
        have hW1140 := hW1131.later hB41
        have hW1141 := hW1132.later hB41
        have hW1142 := hW1123.later hB41
        refine s_valg hS94 (wanted_of (j := 23) (b := false) (d := 47) rfl rfl rfl rfl) rfl (r_neb rfl Try.underlying4 (.t rfl rfl) (.t rfl rfl)) ?_
        refine s_val hS94 rfl rfl (r_pick rfl (.t rfl rfl) (.t rfl rfl)) ?_
        refine wpList_nil ?_
        refine x_tn ?_
        refine k_reb [(2, .bool false), (4, .slice a2 B.length c2), (6, .slice a4 ONE.length c4), (7, .slice a5 R1.length c5), (8, .bool false), (9, .int .i64 0), (55, .bool false)] ⟨rfl, rfl, rfl, rfl, rfl, rfl, rfl, trivial⟩ fun G78 => ?_
        refine k_f (.t rfl rfl) ?_
        refine wp_skip ?_
        refine x_tn ?_
        refine k_reb [(2, .bool false), (4, .slice a2 B.length c2), (6, .slice a4 ONE.length c4), (7, .slice a5 R1.length c5), (8, .bool false), (9, .int .i64 0)] ⟨rfl, rfl, rfl, rfl, rfl, rfl, trivial⟩ fun G79 => ?_
        refine wp_seq ?_
        refine k_reg ?_
        refine s_val hS94 rfl rfl (r_move rfl (.t rfl rfl)) ?_
        refine s_val hS94 rfl rfl (r_move rfl (.t rfl rfl)) ?_
        refine s_call rfl rfl rfl (vs := [.slice a2 B.length c2, .slice a2 B.length c2]) ⟨(.t rfl rfl), (.t rfl rfl), trivial⟩ cb19 (lmul_ok w92 a2 c2 B hR451 a2 c2 B hR451 hNB hNB (by (try simp only [hlONE, hlN14, hlN21, hlN22, hlN23, hlN24, lv_nil, Nat.mul_zero, Nat.add_zero]) <;> (first | assumption | omega))) ?_
        intro v61 w93 hp69
        obtain ⟨SQ, hp69, ⟨hNSQ, hlSQ⟩⟩ := hp69
        obtain ⟨a54, c57, rfl, hR459, -, hT54⟩ := id hp69
        have hW1143 := Ow.from_ hS94 hp69
        have hS95 := hS94.keep hT54
        have hR460 := hR451.below hT54.toBelow (Nat.le_refl _)
        have hR461 := hR452.below hT54.toBelow (Nat.le_refl _)
        have hR462 := hR453.below hT54.toBelow (Nat.le_refl _)
        have hW1144 := hW1133.later hT54.toBelow
        have hW1145 := hW1134.later hT54.toBelow
        have hW1146 := hW1135.later hT54.toBelow
        have hW1147 := hW1136.later hT54.toBelow
        have hW1148 := hW1137.later hT54.toBelow
        have hW1149 := hW1138.later hT54.toBelow
        have hW1150 := hW1139.later hT54.toBelow
        have hW1151 := hW1140.later hT54.toBelow
        have hW1152 := hW1141.later hT54.toBelow
        have hW1153 := hW1142.later hT54.toBelow
        have hA54 := hp69.apart hS94 (m := 0) rfl
        have hnSQ := hNSQ.len
        refine s_val hS95 rfl rfl (r_assign rfl (.t rfl rfl)) ?_
        refine wpList_nil ?_
        refine x_tn ?_
        refine k_reb [(2, .bool false), (4, .slice a2 B.length c2), (6, .slice a4 ONE.length c4), (7, .slice a5 R1.length c5), (8, .bool false), (9, .int .i64 0), (10, .slice a54 SQ.length c57)] ⟨rfl, rfl, rfl, rfl, rfl, rfl, rfl, trivial⟩ fun G80 => ?_
        refine wp_seq ?_
        refine k_reg ?_
        refine s_val hS95 rfl rfl (r_move rfl (.t rfl rfl)) ?_
        refine s_call rfl rfl rfl (vs := [.slice a54 SQ.length c57]) ⟨(.t rfl rfl), trivial⟩ cb31 (Root_ok w93 a54 c57 SQ hR459 hNSQ) ?_
        rintro v62 w94 ⟨R2, _, rfl, hp70, hNR2, hstR2, hslR2⟩
        obtain ⟨a55, c58, rfl, hR463, -, hT55⟩ := id hp70
        have hW1154 := Ow.from_ hS95 hp70
        have hS96 := hS95.keep hT55
        have hR464 := hR460.below hT55.toBelow (Nat.le_refl _)
        have hR465 := hR461.below hT55.toBelow (Nat.le_refl _)
        have hR466 := hR462.below hT55.toBelow (Nat.le_refl _)
        have hR467 := hR459.below hT55.toBelow (Nat.le_refl _)
        have hW1155 := hW1144.later hT55.toBelow
        have hW1156 := hW1145.later hT55.toBelow
        have hW1157 := hW1146.later hT55.toBelow
        have hW1158 := hW1147.later hT55.toBelow
        have hW1159 := hW1148.later hT55.toBelow
        have hW1160 := hW1149.later hT55.toBelow
        have hW1161 := hW1150.later hT55.toBelow
        have hW1162 := hW1151.later hT55.toBelow
        have hW1163 := hW1152.later hT55.toBelow
        have hW1164 := hW1153.later hT55.toBelow
        have hW1165 := hW1143.later hT55.toBelow
        have hA55 := hp70.apart hS95 (m := 0) rfl
        have hnR2 := hNR2.len
        have hexR2 : decide (lv R2 * lv R2 = lv SQ) = true := decide_eq_true (by have h8 := root_sq (b := lv B) (r := lv R2) (by rw [← hlSQ]; exact hstR2) (by rw [← hlSQ]; exact hslR2); rw [h8, hlSQ])
        rw [hexR2]
        refine s_val hS96 rfl rfl (r_move rfl (.t rfl rfl)) ?_
        refine s_val hS96 rfl rfl (r_extract rfl (.t rfl rfl) rfl) ?_
        refine s_val hS96 rfl rfl (r_extract rfl (.t rfl rfl) rfl) ?_
        refine s_val hS96 rfl rfl (r_extract rfl (.t rfl rfl) rfl) ?_
        refine s_val hS96 rfl rfl (r_assign rfl (.t rfl rfl)) ?_
        refine s_val hS96 rfl rfl (r_assign rfl (.t rfl rfl)) ?_
        refine s_val hS96 rfl rfl (r_assign rfl (.t rfl rfl)) ?_
        refine wpList_nil ?_
        refine x_tn ?_
        refine k_reb [(2, .bool false), (4, .slice a2 B.length c2), (6, .slice a4 ONE.length c4), (7, .slice a55 R2.length c58), (8, .bool true), (9, .int .i64 0), (10, .slice a54 SQ.length c57)] ⟨rfl, rfl, rfl, rfl, rfl, rfl, rfl, trivial⟩ fun G81 => ?_
        refine wp_seq ?_
        refine wp_seq ?_
        refine k_reg ?_
        refine s_val hS96 rfl rfl (r_move rfl (.t rfl rfl)) ?_
        refine s_call rfl rfl rfl (vs := [.int .i64 0]) ⟨(.t rfl rfl), trivial⟩ cb13 (num_ok w94 0) ?_
        rintro _ w94 ⟨rfl, rfl⟩
        refine s_val hS96 rfl rfl (r_cmp_f rfl rfl (.t rfl rfl) .c (show ¬ (¬ 0 = 0) from by omega)) ?_
        refine s_val hS96 rfl rfl (r_move rfl (.t rfl rfl)) ?_
        refine s_valg hS96 (wanted_of (j := 3) (b := false) (d := 68) rfl rfl rfl rfl) rfl (r_move rfl (.t rfl rfl)) ?_
        refine s_valg hS96 (wanted_of (j := 3) (b := false) (d := 68) rfl rfl rfl rfl) rfl (r_lnot rfl (.t rfl rfl)) ?_
        refine s_val hS96 rfl rfl (r_pick rfl (.t rfl rfl) (.t rfl rfl)) ?_
        refine s_val hS96 rfl rfl (r_move rfl (.t rfl rfl)) ?_
        refine s_valg hS96 (wanted_of (j := 7) (b := false) (d := 72) rfl rfl rfl rfl) rfl (r_move rfl (.t rfl rfl)) ?_
        refine s_valg hS96 (wanted_of (j := 7) (b := false) (d := 72) rfl rfl rfl rfl) rfl (r_move rfl (.t rfl rfl)) ?_
        refine s_callg (wanted_of (j := 7) (b := false) (d := 72) rfl rfl rfl rfl) rfl rfl (vs := [.slice a55 R2.length c58, .slice a2 B.length c2]) ⟨(.t rfl rfl), (.t rfl rfl), trivial⟩ cb14 (eq_ok w94 a55 c58 R2 hR463 a2 c2 B hR464 hNR2 hNB) ?_
        rintro _ w95 ⟨⟨hc32, rfl⟩ | ⟨hc32, rfl⟩, hB42⟩
        rotate_left
        · exact absurd ((root_sq (by rw [← hlSQ]; exact hstR2) (by rw [← hlSQ]; exact hslR2))) hc32
        have hS97 := hS96.keep hB42
        replace hB42 := hB42.toBelow
        have hR468 := hR464.below hB42 (Nat.le_refl _)
        have hR469 := hR465.below hB42 (Nat.le_refl _)
        have hR470 := hR463.below hB42 (Nat.le_refl _)
        have hR471 := hR467.below hB42 (Nat.le_refl _)
        have hW1166 := hW1155.later hB42
        have hW1167 := hW1156.later hB42
        have hW1168 := hW1157.later hB42
        have hW1169 := hW1158.later hB42
        have hW1170 := hW1159.later hB42
        have hW1171 := hW1160.later hB42
        have hW1172 := hW1161.later hB42
        have hW1173 := hW1162.later hB42
        have hW1174 := hW1163.later hB42
        have hW1175 := hW1164.later hB42
        have hW1176 := hW1165.later hB42
        have hW1177 := hW1154.later hB42
        refine s_valg hS97 (wanted_of (j := 7) (b := false) (d := 72) rfl rfl rfl rfl) rfl (r_lnot rfl (.t rfl rfl)) ?_
        refine s_val hS97 rfl rfl (r_pick rfl (.t rfl rfl) (.t rfl rfl)) ?_
        refine wpList_nil ?_
        refine x_tn ?_
        refine k_reb [(2, .bool false), (4, .slice a2 B.length c2), (6, .slice a4 ONE.length c4), (7, .slice a55 R2.length c58), (8, .bool true), (9, .int .i64 0), (10, .slice a54 SQ.length c57), (77, .bool false)] ⟨rfl, rfl, rfl, rfl, rfl, rfl, rfl, rfl, trivial⟩ fun G82 => ?_
        refine k_f (.t rfl rfl) ?_
        refine wp_skip ?_
        refine x_tn ?_
        refine k_reb [(2, .bool false), (4, .slice a2 B.length c2), (6, .slice a4 ONE.length c4), (7, .slice a55 R2.length c58), (8, .bool true), (9, .int .i64 0), (10, .slice a54 SQ.length c57)] ⟨rfl, rfl, rfl, rfl, rfl, rfl, rfl, trivial⟩ fun G83 => ?_
        refine wp_seq ?_
        refine wp_seq ?_
        refine k_reg ?_
        refine s_val hS97 rfl rfl (r_move rfl (.t rfl rfl)) ?_
        refine s_val hS97 rfl rfl (r_len rfl rfl Try.underlying27 (.t rfl rfl)) ?_
        by_cases c59 : B.length > 0
        · have hB0 := lv_pos hNB.nz (by omega)
          have hBB : 0 < lv B * lv B := Nat.mul_pos hB0 hB0
          refine s_val hS97 rfl rfl (r_cmp_t rfl rfl (.t rfl rfl) .c (show ((B.length : Nat) : Int) > 0 from by omega)) ?_
          refine wpList_nil ?_
          refine x_tn ?_
          refine k_reb [(2, .bool false), (4, .slice a2 B.length c2), (6, .slice a4 ONE.length c4), (7, .slice a55 R2.length c58), (8, .bool true), (9, .int .i64 0), (10, .slice a54 SQ.length c57), (80, .bool true)] ⟨rfl, rfl, rfl, rfl, rfl, rfl, rfl, rfl, trivial⟩ fun G84 => ?_
          refine k_t (.t rfl rfl) ?_
          refine wp_seq ?_
          refine k_reg ?_
          refine s_val hS97 rfl rfl (r_move rfl (.t rfl rfl)) ?_
          refine s_val hS97 rfl rfl (r_move rfl (.t rfl rfl)) ?_
          refine s_call rfl rfl rfl (vs := [.slice a54 SQ.length c57, .slice a4 ONE.length c4]) ⟨(.t rfl rfl), (.t rfl rfl), trivial⟩ cb27 (lsub_ok w95 a54 c57 SQ hR471 a4 c4 ONE hR469 hNSQ hNONE (by (try simp only [hlONE, hlN14, hlN21, hlN22, hlN23, hlN24, hlSQ, lv_nil, Nat.mul_zero, Nat.add_zero]) <;> (first | assumption | omega))) ?_
          intro v63 w96 hp71
          obtain ⟨SM, hp71, ⟨hNSM, hlSM⟩⟩ := hp71
          obtain ⟨a56, c60, rfl, hR472, -, hT56⟩ := id hp71
          have hW1178 := Ow.from_ hS97 hp71
          have hS98 := hS97.keep hT56
          have hR473 := hR468.below hT56.toBelow (Nat.le_refl _)
          have hR474 := hR469.below hT56.toBelow (Nat.le_refl _)
          have hR475 := hR470.below hT56.toBelow (Nat.le_refl _)
          have hR476 := hR471.below hT56.toBelow (Nat.le_refl _)
          have hW1179 := hW1166.later hT56.toBelow
          have hW1180 := hW1167.later hT56.toBelow
          have hW1181 := hW1168.later hT56.toBelow
          have hW1182 := hW1169.later hT56.toBelow
          have hW1183 := hW1170.later hT56.toBelow
          have hW1184 := hW1171.later hT56.toBelow
          have hW1185 := hW1172.later hT56.toBelow
          have hW1186 := hW1173.later hT56.toBelow
          have hW1187 := hW1174.later hT56.toBelow
          have hW1188 := hW1175.later hT56.toBelow
          have hW1189 := hW1176.later hT56.toBelow
          have hW1190 := hW1177.later hT56.toBelow
          have hA56 := hp71.apart hS97 (m := 0) rfl
          have hnSM := hNSM.len
          refine s_call rfl rfl rfl (vs := [.slice a56 SM.length c60]) ⟨(.t rfl rfl), trivial⟩ cb31 (Root_ok w96 a56 c60 SM hR472 hNSM) ?_
          rintro v64 w97 ⟨R3, _, rfl, hp72, hNR3, hstR3, hslR3⟩
          obtain ⟨a57, c61, rfl, hR477, -, hT57⟩ := id hp72
          have hW1191 := Ow.from_ hS98 hp72
          have hS99 := hS98.keep hT57
          have hR478 := hR473.below hT57.toBelow (Nat.le_refl _)
          have hR479 := hR474.below hT57.toBelow (Nat.le_refl _)
          have hR480 := hR475.below hT57.toBelow (Nat.le_refl _)
          have hR481 := hR476.below hT57.toBelow (Nat.le_refl _)
          have hR482 := hR472.below hT57.toBelow (Nat.le_refl _)
          have hW1192 := hW1179.later hT57.toBelow
          have hW1193 := hW1180.later hT57.toBelow
          have hW1194 := hW1181.later hT57.toBelow
          have hW1195 := hW1182.later hT57.toBelow
          have hW1196 := hW1183.later hT57.toBelow
          have hW1197 := hW1184.later hT57.toBelow
          have hW1198 := hW1185.later hT57.toBelow
          have hW1199 := hW1186.later hT57.toBelow
          have hW1200 := hW1187.later hT57.toBelow
          have hW1201 := hW1188.later hT57.toBelow
          have hW1202 := hW1189.later hT57.toBelow
          have hW1203 := hW1190.later hT57.toBelow
          have hW1204 := hW1178.later hT57.toBelow
          have hA57 := hp72.apart hS98 (m := 0) rfl
          have hnR3 := hNR3.len
          by_cases hexR3 : lv R3 * lv R3 = lv SM
          · rw [decide_eq_true hexR3]
            refine s_val hS99 rfl rfl (r_move rfl (.t rfl rfl)) ?_
            refine s_val hS99 rfl rfl (r_extract rfl (.t rfl rfl) rfl) ?_
            refine s_val hS99 rfl rfl (r_extract rfl (.t rfl rfl) rfl) ?_
            refine s_val hS99 rfl rfl (r_extract rfl (.t rfl rfl) rfl) ?_
            refine s_val hS99 rfl rfl (r_assign rfl (.t rfl rfl)) ?_
            refine s_val hS99 rfl rfl (r_assign rfl (.t rfl rfl)) ?_
            refine s_val hS99 rfl rfl (r_assign rfl (.t rfl rfl)) ?_
            refine wpList_nil ?_
            refine x_tn ?_
            refine k_reb [(2, .bool false), (4, .slice a2 B.length c2), (6, .slice a4 ONE.length c4), (7, .slice a57 R3.length c61), (8, .bool true), (9, .int .i64 0), (10, .slice a54 SQ.length c57)] ⟨rfl, rfl, rfl, rfl, rfl, rfl, rfl, trivial⟩ fun G85 => ?_
            refine wp_seq ?_
            refine wp_seq ?_
            refine k_reg ?_
            refine s_val hS99 rfl rfl (r_move rfl (.t rfl rfl)) ?_
            refine s_call rfl rfl rfl (vs := [.int .i64 0]) ⟨(.t rfl rfl), trivial⟩ cb13 (num_ok w97 0) ?_
            rintro _ w97 ⟨rfl, rfl⟩
            refine s_val hS99 rfl rfl (r_cmp_f rfl rfl (.t rfl rfl) .c (show ¬ (¬ 0 = 0) from by omega)) ?_
            refine s_val hS99 rfl rfl (r_move rfl (.t rfl rfl)) ?_
            refine s_valg hS99 (wanted_of (j := 3) (b := false) (d := 92) rfl rfl rfl rfl) rfl (r_move rfl (.t rfl rfl)) ?_
            refine s_valg hS99 (wanted_of (j := 3) (b := false) (d := 92) rfl rfl rfl rfl) rfl (r_move rfl (.t rfl rfl)) ?_
            refine s_valg hS99 (wanted_of (j := 3) (b := false) (d := 92) rfl rfl rfl rfl) rfl (r_move rfl (.t rfl rfl)) ?_
            refine s_callg (wanted_of (j := 3) (b := false) (d := 92) rfl rfl rfl rfl) rfl rfl (vs := [.slice a2 B.length c2, .slice a4 ONE.length c4]) ⟨(.t rfl rfl), (.t rfl rfl), trivial⟩ cb27 (lsub_ok w97 a2 c2 B hR478 a4 c4 ONE hR479 hNB hNONE (by (try simp only [hlONE, hlN14, hlN21, hlN22, hlN23, hlN24, hlSQ, hlSM, lv_nil, Nat.mul_zero, Nat.add_zero]) <;> (first | assumption | omega))) ?_
            intro v65 w98 hp73
            obtain ⟨N25, hp73, ⟨hNN25, hlN25⟩⟩ := hp73
            obtain ⟨a58, c62, rfl, hR483, -, hT58⟩ := id hp73
            have hW1205 := Ow.from_ hS99 hp73
            have hS100 := hS99.keep hT58
            have hR484 := hR478.below hT58.toBelow (Nat.le_refl _)
            have hR485 := hR479.below hT58.toBelow (Nat.le_refl _)
            have hR486 := hR477.below hT58.toBelow (Nat.le_refl _)
            have hR487 := hR481.below hT58.toBelow (Nat.le_refl _)
            have hW1206 := hW1192.later hT58.toBelow
            have hW1207 := hW1193.later hT58.toBelow
            have hW1208 := hW1194.later hT58.toBelow
            have hW1209 := hW1195.later hT58.toBelow
            have hW1210 := hW1196.later hT58.toBelow
            have hW1211 := hW1197.later hT58.toBelow
            have hW1212 := hW1198.later hT58.toBelow
            have hW1213 := hW1199.later hT58.toBelow
            have hW1214 := hW1200.later hT58.toBelow
            have hW1215 := hW1201.later hT58.toBelow
            have hW1216 := hW1202.later hT58.toBelow
            have hW1217 := hW1203.later hT58.toBelow
            have hW1218 := hW1204.later hT58.toBelow
            have hW1219 := hW1191.later hT58.toBelow
            have hA58 := hp73.apart hS99 (m := 0) rfl
            have hnN25 := hNN25.len
            refine s_callg (wanted_of (j := 3) (b := false) (d := 92) rfl rfl rfl rfl) rfl rfl (vs := [.slice a57 R3.length c61, .slice a58 N25.length c62]) ⟨(.t rfl rfl), (.t rfl rfl), trivial⟩ cb14 (eq_ok w98 a57 c61 R3 hR486 a58 c62 N25 hR483 hNR3 hNN25) ?_
            rintro _ w99 ⟨⟨hc33, rfl⟩ | ⟨hc33, rfl⟩, hB43⟩
            rotate_left
            · exact absurd ((by simp only [hlONE, hlN14, hlN21, hlN22, hlN23, hlN24, hlSQ, hlSM, hlN25]; exact root_below hB0 (by simpa only [hlSM, hlSQ, hlONE] using hstR3) (by simpa only [hlSM, hlSQ, hlONE] using hslR3))) hc33
            have hS101 := hS100.keep hB43
            replace hB43 := hB43.toBelow
            have hR488 := hR484.below hB43 (Nat.le_refl _)
            have hR489 := hR485.below hB43 (Nat.le_refl _)
            have hR490 := hR486.below hB43 (Nat.le_refl _)
            have hR491 := hR487.below hB43 (Nat.le_refl _)
            have hR492 := hR483.below hB43 (Nat.le_refl _)
            have hW1220 := hW1206.later hB43
            have hW1221 := hW1207.later hB43
            have hW1222 := hW1208.later hB43
            have hW1223 := hW1209.later hB43
            have hW1224 := hW1210.later hB43
            have hW1225 := hW1211.later hB43
            have hW1226 := hW1212.later hB43
            have hW1227 := hW1213.later hB43
            have hW1228 := hW1214.later hB43
            have hW1229 := hW1215.later hB43
            have hW1230 := hW1216.later hB43
            have hW1231 := hW1217.later hB43
            have hW1232 := hW1218.later hB43
            have hW1233 := hW1219.later hB43
            have hW1234 := hW1205.later hB43
            refine s_valg hS101 (wanted_of (j := 3) (b := false) (d := 92) rfl rfl rfl rfl) rfl (r_lnot rfl (.t rfl rfl)) ?_
            refine s_val hS101 rfl rfl (r_pick rfl (.t rfl rfl) (.t rfl rfl)) ?_
            refine s_val hS101 rfl rfl (r_move rfl (.t rfl rfl)) ?_
            refine s_valg hS101 (wanted_of (j := 11) (b := false) (d := 100) rfl rfl rfl rfl) rfl (r_move rfl (.t rfl rfl)) ?_
            refine s_valg hS101 (wanted_of (j := 11) (b := false) (d := 100) rfl rfl rfl rfl) rfl (r_move rfl (.t rfl rfl)) ?_
            refine s_valg hS101 (wanted_of (j := 11) (b := false) (d := 100) rfl rfl rfl rfl) rfl (r_move rfl (.t rfl rfl)) ?_
            refine s_callg (wanted_of (j := 11) (b := false) (d := 100) rfl rfl rfl rfl) rfl rfl (vs := [.slice a2 B.length c2, .slice a4 ONE.length c4]) ⟨(.t rfl rfl), (.t rfl rfl), trivial⟩ cb14 (eq_ok w99 a2 c2 B hR488 a4 c4 ONE hR489 hNB hNONE) ?_
            rintro _ w100 ⟨⟨hc34, rfl⟩ | ⟨hc34, rfl⟩, hB44⟩
            rotate_left
            · exact absurd ((by have h8 := root_below hB0 (by simpa only [hlSM, hlSQ, hlONE] using hstR3) (by simpa only [hlSM, hlSQ, hlONE] using hslR3); have h9 := hexR3; rw [h8, hlSM, hlSQ, hlONE] at h9; have h7 := root_below_exact hB0; simp only [hlONE]; exact h7.1 h9)) hc34
            have hS102 := hS101.keep hB44
            replace hB44 := hB44.toBelow
            have hR493 := hR488.below hB44 (Nat.le_refl _)
            have hR494 := hR489.below hB44 (Nat.le_refl _)
            have hR495 := hR490.below hB44 (Nat.le_refl _)
            have hR496 := hR491.below hB44 (Nat.le_refl _)
            have hR497 := hR492.below hB44 (Nat.le_refl _)
            have hW1235 := hW1220.later hB44
            have hW1236 := hW1221.later hB44
            have hW1237 := hW1222.later hB44
            have hW1238 := hW1223.later hB44
            have hW1239 := hW1224.later hB44
            have hW1240 := hW1225.later hB44
            have hW1241 := hW1226.later hB44
            have hW1242 := hW1227.later hB44
            have hW1243 := hW1228.later hB44
            have hW1244 := hW1229.later hB44
            have hW1245 := hW1230.later hB44
            have hW1246 := hW1231.later hB44
            have hW1247 := hW1232.later hB44
            have hW1248 := hW1233.later hB44
            have hW1249 := hW1234.later hB44
            refine s_valg hS102 (wanted_of (j := 11) (b := false) (d := 100) rfl rfl rfl rfl) rfl (r_neb rfl Try.underlying4 (.t rfl rfl) (.t rfl rfl)) ?_
            refine s_val hS102 rfl rfl (r_pick rfl (.t rfl rfl) (.t rfl rfl)) ?_
            refine wpList_nil ?_
            refine x_tn ?_
            refine k_reb [(2, .bool false), (4, .slice a2 B.length c2), (6, .slice a4 ONE.length c4), (7, .slice a57 R3.length c61), (8, .bool true), (9, .int .i64 0), (10, .slice a54 SQ.length c57), (106, .bool false)] ⟨rfl, rfl, rfl, rfl, rfl, rfl, rfl, rfl, trivial⟩ fun G86 => ?_
            refine k_f (.t rfl rfl) ?_
            refine wp_skip ?_
            refine x_tn ?_
            refine k_reb [(2, .bool false), (4, .slice a2 B.length c2), (6, .slice a4 ONE.length c4), (7, .slice a57 R3.length c61), (8, .bool true), (9, .int .i64 0), (10, .slice a54 SQ.length c57)] ⟨rfl, rfl, rfl, rfl, rfl, rfl, rfl, trivial⟩ fun G87 => ?_
            refine wp_seq ?_
            refine k_reg ?_
            refine s_val hS102 rfl rfl (r_move rfl (.t rfl rfl)) ?_
            refine s_val hS102 rfl rfl (r_move rfl (.t rfl rfl)) ?_
            refine s_call rfl rfl rfl (vs := [.slice a54 SQ.length c57, .slice a4 ONE.length c4]) ⟨(.t rfl rfl), (.t rfl rfl), trivial⟩ cb15 (ladd_ok w100 a54 c57 SQ hR496 a4 c4 ONE hR494 hNSQ hNONE (by (try simp only [hlONE, hlN14, hlN21, hlN22, hlN23, hlN24, hlSQ, hlSM, hlN25, lv_nil, Nat.mul_zero, Nat.add_zero]) <;> (first | assumption | omega))) ?_
            intro v66 w101 hp74
            obtain ⟨SP, hp74, ⟨hNSP, hlSP⟩⟩ := hp74
            obtain ⟨a59, c63, rfl, hR498, -, hT59⟩ := id hp74
            have hW1250 := Ow.from_ hS102 hp74
            have hS103 := hS102.keep hT59
            have hR499 := hR493.below hT59.toBelow (Nat.le_refl _)
            have hR500 := hR494.below hT59.toBelow (Nat.le_refl _)
            have hR501 := hR495.below hT59.toBelow (Nat.le_refl _)
            have hR502 := hR496.below hT59.toBelow (Nat.le_refl _)
            have hW1251 := hW1235.later hT59.toBelow
            have hW1252 := hW1236.later hT59.toBelow
            have hW1253 := hW1237.later hT59.toBelow
            have hW1254 := hW1238.later hT59.toBelow
            have hW1255 := hW1239.later hT59.toBelow
            have hW1256 := hW1240.later hT59.toBelow
            have hW1257 := hW1241.later hT59.toBelow
            have hW1258 := hW1242.later hT59.toBelow
            have hW1259 := hW1243.later hT59.toBelow
            have hW1260 := hW1244.later hT59.toBelow
            have hW1261 := hW1245.later hT59.toBelow
            have hW1262 := hW1246.later hT59.toBelow
            have hW1263 := hW1247.later hT59.toBelow
            have hW1264 := hW1248.later hT59.toBelow
            have hW1265 := hW1249.later hT59.toBelow
            have hA59 := hp74.apart hS102 (m := 0) rfl
            have hnSP := hNSP.len
            refine s_call rfl rfl rfl (vs := [.slice a59 SP.length c63]) ⟨(.t rfl rfl), trivial⟩ cb31 (Root_ok w101 a59 c63 SP hR498 hNSP) ?_
            rintro v67 w102 ⟨R4, _, rfl, hp75, hNR4, hstR4, hslR4⟩
            obtain ⟨a60, c64, rfl, hR503, -, hT60⟩ := id hp75
            have hW1266 := Ow.from_ hS103 hp75
            have hS104 := hS103.keep hT60
            have hR504 := hR499.below hT60.toBelow (Nat.le_refl _)
            have hR505 := hR500.below hT60.toBelow (Nat.le_refl _)
            have hR506 := hR501.below hT60.toBelow (Nat.le_refl _)
            have hR507 := hR502.below hT60.toBelow (Nat.le_refl _)
            have hR508 := hR498.below hT60.toBelow (Nat.le_refl _)
            have hW1267 := hW1251.later hT60.toBelow
            have hW1268 := hW1252.later hT60.toBelow
            have hW1269 := hW1253.later hT60.toBelow
            have hW1270 := hW1254.later hT60.toBelow
            have hW1271 := hW1255.later hT60.toBelow
            have hW1272 := hW1256.later hT60.toBelow
            have hW1273 := hW1257.later hT60.toBelow
            have hW1274 := hW1258.later hT60.toBelow
            have hW1275 := hW1259.later hT60.toBelow
            have hW1276 := hW1260.later hT60.toBelow
            have hW1277 := hW1261.later hT60.toBelow
            have hW1278 := hW1262.later hT60.toBelow
            have hW1279 := hW1263.later hT60.toBelow
            have hW1280 := hW1264.later hT60.toBelow
            have hW1281 := hW1265.later hT60.toBelow
            have hW1282 := hW1250.later hT60.toBelow
            have hA60 := hp75.apart hS103 (m := 0) rfl
            have hnR4 := hNR4.len
            have hexR4 : decide (lv R4 * lv R4 = lv SP) = false := decide_eq_false (by have h8 := root_above hB0 (by simpa only [hlSP, hlSQ, hlONE] using hstR4) (by simpa only [hlSP, hlSQ, hlONE] using hslR4); rw [h8, hlSP, hlSQ, hlONE]; omega)
            rw [hexR4]
            refine s_val hS104 rfl rfl (r_move rfl (.t rfl rfl)) ?_
            refine s_val hS104 rfl rfl (r_extract rfl (.t rfl rfl) rfl) ?_
            refine s_val hS104 rfl rfl (r_extract rfl (.t rfl rfl) rfl) ?_
            refine s_val hS104 rfl rfl (r_extract rfl (.t rfl rfl) rfl) ?_
            refine s_val hS104 rfl rfl (r_assign rfl (.t rfl rfl)) ?_
            refine s_val hS104 rfl rfl (r_assign rfl (.t rfl rfl)) ?_
            refine s_val hS104 rfl rfl (r_assign rfl (.t rfl rfl)) ?_
            refine wpList_nil ?_
            refine x_tn ?_
            refine k_reb [(2, .bool false), (4, .slice a2 B.length c2), (7, .slice a60 R4.length c64), (8, .bool false), (9, .int .i64 0)] ⟨rfl, rfl, rfl, rfl, rfl, trivial⟩ fun G88 => ?_
            refine wp_seq ?_
            refine k_reg ?_
            refine s_val hS104 rfl rfl (r_move rfl (.t rfl rfl)) ?_
            refine s_call rfl rfl rfl (vs := [.int .i64 0]) ⟨(.t rfl rfl), trivial⟩ cb13 (num_ok w102 0) ?_
            rintro _ w102 ⟨rfl, rfl⟩
            refine s_val hS104 rfl rfl (r_cmp_f rfl rfl (.t rfl rfl) .c (show ¬ (¬ 0 = 0) from by omega)) ?_
            refine s_val hS104 rfl rfl (r_move rfl (.t rfl rfl)) ?_
            refine s_valg hS104 (wanted_of (j := 3) (b := false) (d := 118) rfl rfl rfl rfl) rfl (r_move rfl (.t rfl rfl)) ?_
            refine s_valg hS104 (wanted_of (j := 3) (b := false) (d := 118) rfl rfl rfl rfl) rfl (r_move rfl (.t rfl rfl)) ?_
            refine s_callg (wanted_of (j := 3) (b := false) (d := 118) rfl rfl rfl rfl) rfl rfl (vs := [.slice a60 R4.length c64, .slice a2 B.length c2]) ⟨(.t rfl rfl), (.t rfl rfl), trivial⟩ cb14 (eq_ok w102 a60 c64 R4 hR503 a2 c2 B hR504 hNR4 hNB) ?_
            rintro _ w103 ⟨⟨hc35, rfl⟩ | ⟨hc35, rfl⟩, hB45⟩
            rotate_left
            · exact absurd ((root_above hB0 (by simpa only [hlSP, hlSQ, hlONE] using hstR4) (by simpa only [hlSP, hlSQ, hlONE] using hslR4))) hc35
            have hS105 := hS104.keep hB45
            replace hB45 := hB45.toBelow
            have hR509 := hR504.below hB45 (Nat.le_refl _)
            have hR510 := hR503.below hB45 (Nat.le_refl _)
            have hW1283 := hW1267.later hB45
            have hW1284 := hW1268.later hB45
            have hW1285 := hW1269.later hB45
            have hW1286 := hW1270.later hB45
            have hW1287 := hW1271.later hB45
            have hW1288 := hW1272.later hB45
            have hW1289 := hW1273.later hB45
            have hW1290 := hW1274.later hB45
            have hW1291 := hW1275.later hB45
            have hW1292 := hW1276.later hB45
            have hW1293 := hW1277.later hB45
            have hW1294 := hW1278.later hB45
            have hW1295 := hW1279.later hB45
            have hW1296 := hW1280.later hB45
            have hW1297 := hW1281.later hB45
            have hW1298 := hW1282.later hB45
            have hW1299 := hW1266.later hB45
            refine s_valg hS105 (wanted_of (j := 3) (b := false) (d := 118) rfl rfl rfl rfl) rfl (r_lnot rfl (.t rfl rfl)) ?_
            refine s_val hS105 rfl rfl (r_pick rfl (.t rfl rfl) (.t rfl rfl)) ?_
            refine s_val hS105 rfl rfl (r_move rfl (.t rfl rfl)) ?_
            refine s_valg hS105 (wanted_of (j := 9) (b := false) (d := 124) rfl rfl rfl rfl) rfl (r_move rfl (.t rfl rfl)) ?_
            refine s_val hS105 rfl rfl (r_pick rfl (.t rfl rfl) (.t rfl rfl)) ?_
            refine wpList_nil ?_
            refine x_tn ?_
            refine k_reb [(2, .bool false), (126, .bool false)] ⟨rfl, rfl, trivial⟩ fun G89 => ?_
            refine k_f (.t rfl rfl) ?_
            refine wp_skip ?_
            refine x_tn ?_
            refine k_reb [(2, .bool false)] ⟨rfl, trivial⟩ fun G90 => ?_
            refine wp_seq ?_
            refine k_reg ?_
            refine s_call rfl rfl rfl (vs := []) trivial cb16 (wakes_ok w103 ) ?_
            intro v68 w104 hp76
            obtain ⟨hp76, hB46⟩ := hp76
            have hS106 := hS105.keep hB46
            replace hB46 := hB46.toBelow
            have hW1300 := hW1283.later hB46
            have hW1301 := hW1284.later hB46
            have hW1302 := hW1285.later hB46
            have hW1303 := hW1286.later hB46
            have hW1304 := hW1287.later hB46
            have hW1305 := hW1288.later hB46
            have hW1306 := hW1289.later hB46
            have hW1307 := hW1290.later hB46
            have hW1308 := hW1291.later hB46
            have hW1309 := hW1292.later hB46
            have hW1310 := hW1293.later hB46
            have hW1311 := hW1294.later hB46
            have hW1312 := hW1295.later hB46
            have hW1313 := hW1296.later hB46
            have hW1314 := hW1297.later hB46
            have hW1315 := hW1298.later hB46
            have hW1316 := hW1299.later hB46
            obtain rfl := hp76
            refine s_val hS106 rfl rfl (r_assign rfl (.t rfl rfl)) ?_
            refine wpList_nil ?_
            refine x_tn ?_
            refine k_reb [(2, .bool true)] ⟨rfl, trivial⟩ fun G91 => ?_
            refine wp_ret ?_
            refine k_ret1 Try.results8 rfl rfl ?_
            refine ⟨_, rfl, ?_⟩
            exact ⟨rfl, hS106.none⟩
          · rw [decide_eq_false hexR3]
            refine s_val hS99 rfl rfl (r_move rfl (.t rfl rfl)) ?_
            refine s_val hS99 rfl rfl (r_extract rfl (.t rfl rfl) rfl) ?_
            refine s_val hS99 rfl rfl (r_extract rfl (.t rfl rfl) rfl) ?_
            refine s_val hS99 rfl rfl (r_extract rfl (.t rfl rfl) rfl) ?_
            refine s_val hS99 rfl rfl (r_assign rfl (.t rfl rfl)) ?_
            refine s_val hS99 rfl rfl (r_assign rfl (.t rfl rfl)) ?_
            refine s_val hS99 rfl rfl (r_assign rfl (.t rfl rfl)) ?_
            refine wpList_nil ?_
            refine x_tn ?_
            refine k_reb [(2, .bool false), (4, .slice a2 B.length c2), (6, .slice a4 ONE.length c4), (7, .slice a57 R3.length c61), (8, .bool false), (9, .int .i64 0), (10, .slice a54 SQ.length c57)] ⟨rfl, rfl, rfl, rfl, rfl, rfl, rfl, trivial⟩ fun G92 => ?_
            refine wp_seq ?_
            refine wp_seq ?_
            refine k_reg ?_
            refine s_val hS99 rfl rfl (r_move rfl (.t rfl rfl)) ?_
            refine s_call rfl rfl rfl (vs := [.int .i64 0]) ⟨(.t rfl rfl), trivial⟩ cb13 (num_ok w97 0) ?_
            rintro _ w97 ⟨rfl, rfl⟩
            refine s_val hS99 rfl rfl (r_cmp_f rfl rfl (.t rfl rfl) .c (show ¬ (¬ 0 = 0) from by omega)) ?_
            refine s_val hS99 rfl rfl (r_move rfl (.t rfl rfl)) ?_
            refine s_valg hS99 (wanted_of (j := 3) (b := false) (d := 92) rfl rfl rfl rfl) rfl (r_move rfl (.t rfl rfl)) ?_
            refine s_valg hS99 (wanted_of (j := 3) (b := false) (d := 92) rfl rfl rfl rfl) rfl (r_move rfl (.t rfl rfl)) ?_
            refine s_valg hS99 (wanted_of (j := 3) (b := false) (d := 92) rfl rfl rfl rfl) rfl (r_move rfl (.t rfl rfl)) ?_
            refine s_callg (wanted_of (j := 3) (b := false) (d := 92) rfl rfl rfl rfl) rfl rfl (vs := [.slice a2 B.length c2, .slice a4 ONE.length c4]) ⟨(.t rfl rfl), (.t rfl rfl), trivial⟩ cb27 (lsub_ok w97 a2 c2 B hR478 a4 c4 ONE hR479 hNB hNONE (by (try simp only [hlONE, hlN14, hlN21, hlN22, hlN23, hlN24, hlSQ, hlSM, lv_nil, Nat.mul_zero, Nat.add_zero]) <;> (first | assumption | omega))) ?_
            intro v69 w105 hp77
            obtain ⟨N26, hp77, ⟨hNN26, hlN26⟩⟩ := hp77
            obtain ⟨a61, c65, rfl, hR511, -, hT61⟩ := id hp77
            have hW1317 := Ow.from_ hS99 hp77
            have hS107 := hS99.keep hT61
            have hR512 := hR478.below hT61.toBelow (Nat.le_refl _)
            have hR513 := hR479.below hT61.toBelow (Nat.le_refl _)
            have hR514 := hR477.below hT61.toBelow (Nat.le_refl _)
            have hR515 := hR481.below hT61.toBelow (Nat.le_refl _)
            have hW1318 := hW1192.later hT61.toBelow
            have hW1319 := hW1193.later hT61.toBelow
            have hW1320 := hW1194.later hT61.toBelow
            have hW1321 := hW1195.later hT61.toBelow
            have hW1322 := hW1196.later hT61.toBelow
            have hW1323 := hW1197.later hT61.toBelow
            have hW1324 := hW1198.later hT61.toBelow
            have hW1325 := hW1199.later hT61.toBelow
            have hW1326 := hW1200.later hT61.toBelow
            have hW1327 := hW1201.later hT61.toBelow
            have hW1328 := hW1202.later hT61.toBelow
            have hW1329 := hW1203.later hT61.toBelow
            have hW1330 := hW1204.later hT61.toBelow
            have hW1331 := hW1191.later hT61.toBelow
            have hA61 := hp77.apart hS99 (m := 0) rfl
            have hnN26 := hNN26.len
            refine s_callg (wanted_of (j := 3) (b := false) (d := 92) rfl rfl rfl rfl) rfl rfl (vs := [.slice a57 R3.length c61, .slice a61 N26.length c65]) ⟨(.t rfl rfl), (.t rfl rfl), trivial⟩ cb14 (eq_ok w105 a57 c61 R3 hR514 a61 c65 N26 hR511 hNR3 hNN26) ?_
            rintro _ w106 ⟨⟨hc36, rfl⟩ | ⟨hc36, rfl⟩, hB47⟩
            rotate_left
            · exact absurd ((by simp only [hlONE, hlN14, hlN21, hlN22, hlN23, hlN24, hlSQ, hlSM, hlN26]; exact root_below hB0 (by simpa only [hlSM, hlSQ, hlONE] using hstR3) (by simpa only [hlSM, hlSQ, hlONE] using hslR3))) hc36
            have hS108 := hS107.keep hB47
            replace hB47 := hB47.toBelow
            have hR516 := hR512.below hB47 (Nat.le_refl _)
            have hR517 := hR513.below hB47 (Nat.le_refl _)
            have hR518 := hR514.below hB47 (Nat.le_refl _)
            have hR519 := hR515.below hB47 (Nat.le_refl _)
            have hR520 := hR511.below hB47 (Nat.le_refl _)
            have hW1332 := hW1318.later hB47
            have hW1333 := hW1319.later hB47
            have hW1334 := hW1320.later hB47
            have hW1335 := hW1321.later hB47
            have hW1336 := hW1322.later hB47
            have hW1337 := hW1323.later hB47
            have hW1338 := hW1324.later hB47
            have hW1339 := hW1325.later hB47
            have hW1340 := hW1326.later hB47
            have hW1341 := hW1327.later hB47
            have hW1342 := hW1328.later hB47
            have hW1343 := hW1329.later hB47
            have hW1344 := hW1330.later hB47
            have hW1345 := hW1331.later hB47
            have hW1346 := hW1317.later hB47
            refine s_valg hS108 (wanted_of (j := 3) (b := false) (d := 92) rfl rfl rfl rfl) rfl (r_lnot rfl (.t rfl rfl)) ?_
            refine s_val hS108 rfl rfl (r_pick rfl (.t rfl rfl) (.t rfl rfl)) ?_
            refine s_val hS108 rfl rfl (r_move rfl (.t rfl rfl)) ?_
            refine s_valg hS108 (wanted_of (j := 11) (b := false) (d := 100) rfl rfl rfl rfl) rfl (r_move rfl (.t rfl rfl)) ?_
            refine s_valg hS108 (wanted_of (j := 11) (b := false) (d := 100) rfl rfl rfl rfl) rfl (r_move rfl (.t rfl rfl)) ?_
            refine s_valg hS108 (wanted_of (j := 11) (b := false) (d := 100) rfl rfl rfl rfl) rfl (r_move rfl (.t rfl rfl)) ?_
            refine s_callg (wanted_of (j := 11) (b := false) (d := 100) rfl rfl rfl rfl) rfl rfl (vs := [.slice a2 B.length c2, .slice a4 ONE.length c4]) ⟨(.t rfl rfl), (.t rfl rfl), trivial⟩ cb14 (eq_ok w106 a2 c2 B hR516 a4 c4 ONE hR517 hNB hNONE) ?_
            rintro _ w107 ⟨⟨hc37, rfl⟩ | ⟨hc37, rfl⟩, hB48⟩
            · exact absurd hc37 ((by have h8 := root_below hB0 (by simpa only [hlSM, hlSQ, hlONE] using hstR3) (by simpa only [hlSM, hlSQ, hlONE] using hslR3); have h9 := hexR3; rw [h8, hlSM, hlSQ, hlONE] at h9; have h7 := root_below_exact hB0; simp only [hlONE]; exact fun h => h9 (h7.2 h)))
            have hS109 := hS108.keep hB48
            replace hB48 := hB48.toBelow
            have hR521 := hR516.below hB48 (Nat.le_refl _)
            have hR522 := hR517.below hB48 (Nat.le_refl _)
            have hR523 := hR518.below hB48 (Nat.le_refl _)
            have hR524 := hR519.below hB48 (Nat.le_refl _)
            have hR525 := hR520.below hB48 (Nat.le_refl _)
            have hW1347 := hW1332.later hB48
            have hW1348 := hW1333.later hB48
            have hW1349 := hW1334.later hB48
            have hW1350 := hW1335.later hB48
            have hW1351 := hW1336.later hB48
            have hW1352 := hW1337.later hB48
            have hW1353 := hW1338.later hB48
            have hW1354 := hW1339.later hB48
            have hW1355 := hW1340.later hB48
            have hW1356 := hW1341.later hB48
            have hW1357 := hW1342.later hB48
            have hW1358 := hW1343.later hB48
            have hW1359 := hW1344.later hB48
            have hW1360 := hW1345.later hB48
            have hW1361 := hW1346.later hB48
            refine s_valg hS109 (wanted_of (j := 11) (b := false) (d := 100) rfl rfl rfl rfl) rfl (r_neb rfl Try.underlying4 (.t rfl rfl) (.t rfl rfl)) ?_
            refine s_val hS109 rfl rfl (r_pick rfl (.t rfl rfl) (.t rfl rfl)) ?_
            refine wpList_nil ?_
            refine x_tn ?_
            refine k_reb [(2, .bool false), (4, .slice a2 B.length c2), (6, .slice a4 ONE.length c4), (7, .slice a57 R3.length c61), (8, .bool false), (9, .int .i64 0), (10, .slice a54 SQ.length c57), (106, .bool false)] ⟨rfl, rfl, rfl, rfl, rfl, rfl, rfl, rfl, trivial⟩ fun G93 => ?_
            refine k_f (.t rfl rfl) ?_
            refine wp_skip ?_
            refine x_tn ?_
            refine k_reb [(2, .bool false), (4, .slice a2 B.length c2), (6, .slice a4 ONE.length c4), (7, .slice a57 R3.length c61), (8, .bool false), (9, .int .i64 0), (10, .slice a54 SQ.length c57)] ⟨rfl, rfl, rfl, rfl, rfl, rfl, rfl, trivial⟩ fun G94 => ?_
            refine wp_seq ?_
            refine k_reg ?_
            refine s_val hS109 rfl rfl (r_move rfl (.t rfl rfl)) ?_
            refine s_val hS109 rfl rfl (r_move rfl (.t rfl rfl)) ?_
            refine s_call rfl rfl rfl (vs := [.slice a54 SQ.length c57, .slice a4 ONE.length c4]) ⟨(.t rfl rfl), (.t rfl rfl), trivial⟩ cb15 (ladd_ok w107 a54 c57 SQ hR524 a4 c4 ONE hR522 hNSQ hNONE (by (try simp only [hlONE, hlN14, hlN21, hlN22, hlN23, hlN24, hlSQ, hlSM, hlN26, lv_nil, Nat.mul_zero, Nat.add_zero]) <;> (first | assumption | omega))) ?_
            intro v70 w108 hp78
            obtain ⟨SP, hp78, ⟨hNSP, hlSP⟩⟩ := hp78
            obtain ⟨a62, c66, rfl, hR526, -, hT62⟩ := id hp78
            have hW1362 := Ow.from_ hS109 hp78
            have hS110 := hS109.keep hT62
            have hR527 := hR521.below hT62.toBelow (Nat.le_refl _)
            have hR528 := hR522.below hT62.toBelow (Nat.le_refl _)
            have hR529 := hR523.below hT62.toBelow (Nat.le_refl _)
            have hR530 := hR524.below hT62.toBelow (Nat.le_refl _)
            have hW1363 := hW1347.later hT62.toBelow
            have hW1364 := hW1348.later hT62.toBelow
            have hW1365 := hW1349.later hT62.toBelow
            have hW1366 := hW1350.later hT62.toBelow
            have hW1367 := hW1351.later hT62.toBelow
            have hW1368 := hW1352.later hT62.toBelow
            have hW1369 := hW1353.later hT62.toBelow
            have hW1370 := hW1354.later hT62.toBelow
            have hW1371 := hW1355.later hT62.toBelow
            have hW1372 := hW1356.later hT62.toBelow
            have hW1373 := hW1357.later hT62.toBelow
            have hW1374 := hW1358.later hT62.toBelow
            have hW1375 := hW1359.later hT62.toBelow
            have hW1376 := hW1360.later hT62.toBelow
            have hW1377 := hW1361.later hT62.toBelow
            have hA62 := hp78.apart hS109 (m := 0) rfl
            have hnSP := hNSP.len
            refine s_call rfl rfl rfl (vs := [.slice a62 SP.length c66]) ⟨(.t rfl rfl), trivial⟩ cb31 (Root_ok w108 a62 c66 SP hR526 hNSP) ?_
            rintro v71 w109 ⟨R4, _, rfl, hp79, hNR4, hstR4, hslR4⟩
            obtain ⟨a63, c67, rfl, hR531, -, hT63⟩ := id hp79
            have hW1378 := Ow.from_ hS110 hp79
            have hS111 := hS110.keep hT63
            have hR532 := hR527.below hT63.toBelow (Nat.le_refl _)
            have hR533 := hR528.below hT63.toBelow (Nat.le_refl _)
            have hR534 := hR529.below hT63.toBelow (Nat.le_refl _)
            have hR535 := hR530.below hT63.toBelow (Nat.le_refl _)
            have hR536 := hR526.below hT63.toBelow (Nat.le_refl _)
            have hW1379 := hW1363.later hT63.toBelow
            have hW1380 := hW1364.later hT63.toBelow
            have hW1381 := hW1365.later hT63.toBelow
            have hW1382 := hW1366.later hT63.toBelow
            have hW1383 := hW1367.later hT63.toBelow
            have hW1384 := hW1368.later hT63.toBelow
            have hW1385 := hW1369.later hT63.toBelow
            have hW1386 := hW1370.later hT63.toBelow
            have hW1387 := hW1371.later hT63.toBelow
            have hW1388 := hW1372.later hT63.toBelow
            have hW1389 := hW1373.later hT63.toBelow
            have hW1390 := hW1374.later hT63.toBelow
            have hW1391 := hW1375.later hT63.toBelow
            have hW1392 := hW1376.later hT63.toBelow
            have hW1393 := hW1377.later hT63.toBelow
            have hW1394 := hW1362.later hT63.toBelow
            have hA63 := hp79.apart hS110 (m := 0) rfl
            have hnR4 := hNR4.len
            have hexR4 : decide (lv R4 * lv R4 = lv SP) = false := decide_eq_false (by have h8 := root_above hB0 (by simpa only [hlSP, hlSQ, hlONE] using hstR4) (by simpa only [hlSP, hlSQ, hlONE] using hslR4); rw [h8, hlSP, hlSQ, hlONE]; omega)
            rw [hexR4]
            refine s_val hS111 rfl rfl (r_move rfl (.t rfl rfl)) ?_
            refine s_val hS111 rfl rfl (r_extract rfl (.t rfl rfl) rfl) ?_
            refine s_val hS111 rfl rfl (r_extract rfl (.t rfl rfl) rfl) ?_
            refine s_val hS111 rfl rfl (r_extract rfl (.t rfl rfl) rfl) ?_
            refine s_val hS111 rfl rfl (r_assign rfl (.t rfl rfl)) ?_
            refine s_val hS111 rfl rfl (r_assign rfl (.t rfl rfl)) ?_
            refine s_val hS111 rfl rfl (r_assign rfl (.t rfl rfl)) ?_
            refine wpList_nil ?_
            refine x_tn ?_
            refine k_reb [(2, .bool false), (4, .slice a2 B.length c2), (7, .slice a63 R4.length c67), (8, .bool false), (9, .int .i64 0)] ⟨rfl, rfl, rfl, rfl, rfl, trivial⟩ fun G95 => ?_
            refine wp_seq ?_
            refine k_reg ?_
            refine s_val hS111 rfl rfl (r_move rfl (.t rfl rfl)) ?_
            refine s_call rfl rfl rfl (vs := [.int .i64 0]) ⟨(.t rfl rfl), trivial⟩ cb13 (num_ok w109 0) ?_
            rintro _ w109 ⟨rfl, rfl⟩
            refine s_val hS111 rfl rfl (r_cmp_f rfl rfl (.t rfl rfl) .c (show ¬ (¬ 0 = 0) from by omega)) ?_
            refine s_val hS111 rfl rfl (r_move rfl (.t rfl rfl)) ?_
            refine s_valg hS111 (wanted_of (j := 3) (b := false) (d := 118) rfl rfl rfl rfl) rfl (r_move rfl (.t rfl rfl)) ?_
            refine s_valg hS111 (wanted_of (j := 3) (b := false) (d := 118) rfl rfl rfl rfl) rfl (r_move rfl (.t rfl rfl)) ?_
            refine s_callg (wanted_of (j := 3) (b := false) (d := 118) rfl rfl rfl rfl) rfl rfl (vs := [.slice a63 R4.length c67, .slice a2 B.length c2]) ⟨(.t rfl rfl), (.t rfl rfl), trivial⟩ cb14 (eq_ok w109 a63 c67 R4 hR531 a2 c2 B hR532 hNR4 hNB) ?_
            rintro _ w110 ⟨⟨hc38, rfl⟩ | ⟨hc38, rfl⟩, hB49⟩
            rotate_left
            · exact absurd ((root_above hB0 (by simpa only [hlSP, hlSQ, hlONE] using hstR4) (by simpa only [hlSP, hlSQ, hlONE] using hslR4))) hc38
            have hS112 := hS111.keep hB49
            replace hB49 := hB49.toBelow
            have hR537 := hR532.below hB49 (Nat.le_refl _)
            have hR538 := hR531.below hB49 (Nat.le_refl _)
            have hW1395 := hW1379.later hB49
            have hW1396 := hW1380.later hB49
            have hW1397 := hW1381.later hB49
            have hW1398 := hW1382.later hB49
            have hW1399 := hW1383.later hB49
            have hW1400 := hW1384.later hB49
            have hW1401 := hW1385.later hB49
            have hW1402 := hW1386.later hB49
            have hW1403 := hW1387.later hB49
            have hW1404 := hW1388.later hB49
            have hW1405 := hW1389.later hB49
            have hW1406 := hW1390.later hB49
            have hW1407 := hW1391.later hB49
            have hW1408 := hW1392.later hB49
            have hW1409 := hW1393.later hB49
            have hW1410 := hW1394.later hB49
            have hW1411 := hW1378.later hB49
            refine s_valg hS112 (wanted_of (j := 3) (b := false) (d := 118) rfl rfl rfl rfl) rfl (r_lnot rfl (.t rfl rfl)) ?_
            refine s_val hS112 rfl rfl (r_pick rfl (.t rfl rfl) (.t rfl rfl)) ?_
            refine s_val hS112 rfl rfl (r_move rfl (.t rfl rfl)) ?_
            refine s_valg hS112 (wanted_of (j := 9) (b := false) (d := 124) rfl rfl rfl rfl) rfl (r_move rfl (.t rfl rfl)) ?_
            refine s_val hS112 rfl rfl (r_pick rfl (.t rfl rfl) (.t rfl rfl)) ?_
            refine wpList_nil ?_
            refine x_tn ?_
            refine k_reb [(2, .bool false), (126, .bool false)] ⟨rfl, rfl, trivial⟩ fun G96 => ?_
            refine k_f (.t rfl rfl) ?_
            refine wp_skip ?_
            refine x_tn ?_
            refine k_reb [(2, .bool false)] ⟨rfl, trivial⟩ fun G97 => ?_
            refine wp_seq ?_
            refine k_reg ?_
            refine s_call rfl rfl rfl (vs := []) trivial cb16 (wakes_ok w110 ) ?_
            intro v72 w111 hp80
            obtain ⟨hp80, hB50⟩ := hp80
            have hS113 := hS112.keep hB50
            replace hB50 := hB50.toBelow
            have hW1412 := hW1395.later hB50
            have hW1413 := hW1396.later hB50
            have hW1414 := hW1397.later hB50
            have hW1415 := hW1398.later hB50
            have hW1416 := hW1399.later hB50
            have hW1417 := hW1400.later hB50
            have hW1418 := hW1401.later hB50
            have hW1419 := hW1402.later hB50
            have hW1420 := hW1403.later hB50
            have hW1421 := hW1404.later hB50
            have hW1422 := hW1405.later hB50
            have hW1423 := hW1406.later hB50
            have hW1424 := hW1407.later hB50
            have hW1425 := hW1408.later hB50
            have hW1426 := hW1409.later hB50
            have hW1427 := hW1410.later hB50
            have hW1428 := hW1411.later hB50
            obtain rfl := hp80
            refine s_val hS113 rfl rfl (r_assign rfl (.t rfl rfl)) ?_
            refine wpList_nil ?_
            refine x_tn ?_
            refine k_reb [(2, .bool true)] ⟨rfl, trivial⟩ fun G98 => ?_
            refine wp_ret ?_
            refine k_ret1 Try.results8 rfl rfl ?_
            refine ⟨_, rfl, ?_⟩
            exact ⟨rfl, hS113.none⟩
        · refine s_val hS97 rfl rfl (r_cmp_f rfl rfl (.t rfl rfl) .c (show ¬ (((B.length : Nat) : Int) > 0) from by omega)) ?_
          refine wpList_nil ?_
          refine x_tn ?_
          refine k_reb [(2, .bool false), (4, .slice a2 B.length c2), (6, .slice a4 ONE.length c4), (7, .slice a55 R2.length c58), (8, .bool true), (9, .int .i64 0), (10, .slice a54 SQ.length c57), (80, .bool false)] ⟨rfl, rfl, rfl, rfl, rfl, rfl, rfl, rfl, trivial⟩ fun G99 => ?_
          refine k_f (.t rfl rfl) ?_
          refine wp_skip ?_
          refine x_tn ?_
          refine k_reb [(2, .bool false)] ⟨rfl, trivial⟩ fun G100 => ?_
          refine wp_seq ?_
          refine k_reg ?_
          refine s_call rfl rfl rfl (vs := []) trivial cb16 (wakes_ok w95 ) ?_
          intro v73 w112 hp81
          obtain ⟨hp81, hB51⟩ := hp81
          have hS114 := hS97.keep hB51
          replace hB51 := hB51.toBelow
          have hW1429 := hW1166.later hB51
          have hW1430 := hW1167.later hB51
          have hW1431 := hW1168.later hB51
          have hW1432 := hW1169.later hB51
          have hW1433 := hW1170.later hB51
          have hW1434 := hW1171.later hB51
          have hW1435 := hW1172.later hB51
          have hW1436 := hW1173.later hB51
          have hW1437 := hW1174.later hB51
          have hW1438 := hW1175.later hB51
          have hW1439 := hW1176.later hB51
          have hW1440 := hW1177.later hB51
          obtain rfl := hp81
          refine s_val hS114 rfl rfl (r_assign rfl (.t rfl rfl)) ?_
          refine wpList_nil ?_
          refine x_tn ?_
          refine k_reb [(2, .bool true)] ⟨rfl, trivial⟩ fun G101 => ?_
          refine wp_ret ?_
          refine k_ret1 Try.results8 rfl rfl ?_
          refine ⟨_, rfl, ?_⟩
          exact ⟨rfl, hS114.none⟩
    · exfalso; (try simp only [hlONE, hlN14] at hc20); omega

end Go.Proofs.Ytnbklceenfjojaa

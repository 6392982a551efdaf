/- Contracts of functions of the program, each walked once. -/
import Derived.Test.YtnbklceenfjojaaFnJ
import Derived.Test.YtnbklceenfjojaaKFits
namespace Go.Proofs.Ytnbklceenfjojaa
open Go Go.RowKit K
namespace FK
theorem mixed : Try.prog.follows .mixedOrders = true := by kernel_rfl
theorem agg25 : (match Try.prog.underlying 25 with | some (.struct _) | some (.array ..) => true | _ => false) = true := by kernel_rfl
theorem cb11 : callable Try.prog 11 = true := by kernel_rfl
theorem cb13 : callable Try.prog 13 = true := by kernel_rfl
theorem cb14 : callable Try.prog 14 = true := by kernel_rfl
theorem cb15 : callable Try.prog 15 = true := by kernel_rfl
theorem cb16 : callable Try.prog 16 = true := by kernel_rfl
theorem cb17 : callable Try.prog 17 = true := by kernel_rfl
theorem cb18 : callable Try.prog 18 = true := by kernel_rfl
theorem cb19 : callable Try.prog 19 = true := by kernel_rfl
theorem cb27 : callable Try.prog 27 = true := by kernel_rfl
theorem cb28 : callable Try.prog 28 = true := by kernel_rfl
theorem ti25 : (Try.prog.info? 25).map (fun i => (i.zero, i.size, i.bytes)) = some (some (.agg #[.slice none 0 0, .slice none 0 0]), 2, 48) := by kernel_rfl

end FK
open FK
attribute [local irreducible] Go.wpList Go.wpQuiet Go.wpStill Go.wpAny Go.Code.wp
set_option maxRecDepth 10000
set_option maxHeartbeats 8000000
set_option linter.unusedVariables false
set_option linter.unusedSimpArgs false
theorem LimbDivides_ok (w0 : World) (aL : Option Addr) (cL : Nat) (LL : List (Option Addr × Nat × List Nat)) (hL : RdS w0 aL LL) (vN : Value) :
    Calls Try.prog 6 #[.agg #[.slice aL LL.length cL, vN]] w0 (Ret fun v w' => v = .bool true ∧ St w0 [] [] w') := by
  refine k_enter (vs := [.agg #[.slice aL LL.length cL, vN]]) Try.func6 rfl Try.ntmps6 rfl ?_
  have hS := St.init w0
  have mL := hL.most
  refine wp_seq ?_
  refine k_reg ?_
  refine s_box rfl rfl rfl (.t rfl rfl) (cs := #[.slice aL LL.length cL, vN]) rfl hS fun blk1 w1 hb1 hB1 hS1 => ?_
  refine s_val hS1 rfl rfl (r_assign rfl .c) ?_
  refine wpList_nil ?_
  refine x_tn ?_
  refine k_reb [(1, .pointer (some ⟨blk1, 0, none⟩)), (2, .bool false)] ⟨rfl, rfl, trivial⟩ fun G1 => ?_
  refine wp_seq ?_
  refine k_reg ?_
  refine s_val hS1 rfl rfl (r_loadA rfl agg25 ti25 rfl (.t rfl rfl) (St.block (m := 0) rfl)) ?_
  refine s_call rfl rfl rfl (vs := [.agg #[.slice aL LL.length cL, vN], .int .i64 250]) ⟨(.t rfl rfl), .c, trivial⟩ cb11 (three_ok w1 aL cL LL (RdS.st hS1 hL (by intro x hx; cases hx)) vN 250 (by omega)) ?_
  rintro v1 w2 ⟨Q, B, R, _, _, _, rfl, hp1, hp2, hp3, hNQ, hNB, hNR, hmQ, hmB, hmR⟩
  obtain ⟨a1, c1, rfl, hR1, -, hT1⟩ := id hp1
  have hW1 := Ow.from_ hS1 hp1
  have hS2 := hS1.keep hT1
  have hA1 := hp1.apart hS1 (m := 0) rfl
  obtain ⟨a2, c2, rfl, hR2, -, hT2⟩ := id hp2
  have hW2 := Ow.from_ hS1 hp2
  have hA2 := hp2.apart hS1 (m := 0) rfl
  obtain ⟨a3, c3, rfl, hR3, -, hT3⟩ := id hp3
  have hW3 := Ow.from_ hS1 hp3
  have hA3 := hp3.apart hS1 (m := 0) rfl
  have hnQ := hNQ.len
  have hbQ := nm_bound hNQ hmQ
  have hnB := hNB.len
  have hbB := nm_bound hNB hmB
  have hnR := hNR.len
  have hbR := nm_bound hNR hmR
  obtain ⟨f1, f2, f3, f4, f5⟩ := div_fits hbQ hbB hbR
  refine s_val hS2 rfl rfl (r_move rfl (.t rfl rfl)) ?_
  refine s_val hS2 rfl rfl (r_extract rfl (.t rfl rfl) rfl) ?_
  refine s_val hS2 rfl rfl (r_extract rfl (.t rfl rfl) rfl) ?_
  refine s_val hS2 rfl rfl (r_extract rfl (.t rfl rfl) rfl) ?_
  refine s_val hS2 rfl rfl (r_assign rfl (.t rfl rfl)) ?_
  refine s_val hS2 rfl rfl (r_assign rfl (.t rfl rfl)) ?_
  refine s_val hS2 rfl rfl (r_assign rfl (.t rfl rfl)) ?_
  refine wpList_nil ?_
  refine x_tn ?_
  refine k_reb [(2, .bool false), (3, .slice a1 Q.length c1), (4, .slice a2 B.length c2), (5, .slice a3 R.length c3)] ⟨rfl, rfl, rfl, rfl, trivial⟩ fun G2 => ?_
  refine wp_seq ?_
  refine wp_seq ?_
  refine k_reg ?_
  refine s_val hS2 rfl rfl (r_move rfl (.t rfl rfl)) ?_
  refine s_val hS2 rfl rfl (r_len rfl rfl Try.underlying27 (.t rfl rfl)) ?_
  by_cases c4 : B.length = 0
  · refine s_val hS2 rfl rfl (r_cmp_t rfl rfl (.t rfl rfl) .c (show ((B.length : Nat) : Int) = 0 from by omega)) ?_
    refine wpList_nil ?_
    refine x_tn ?_
    refine k_reb [(2, .bool false), (3, .slice a1 Q.length c1), (4, .slice a2 B.length c2), (5, .slice a3 R.length c3), (22, .bool true)] ⟨rfl, rfl, rfl, rfl, rfl, trivial⟩ fun G3 => ?_
    refine k_t (.t rfl rfl) ?_
    refine wp_seq ?_
    refine k_reg ?_
    refine s_val hS2 rfl rfl (r_move rfl (.t rfl rfl)) ?_
    refine s_val hS2 rfl rfl (r_move rfl (.t rfl rfl)) ?_
    refine s_call rfl rfl rfl (vs := [.slice a1 Q.length c1, .slice a2 B.length c2]) ⟨(.t rfl rfl), (.t rfl rfl), trivial⟩ cb17 (DivMod_zero w2 a1 c1 Q hR1 a2 c2 B hR2 hNQ hNB (by omega)) ?_
    intro v3 w4 hp5
    obtain ⟨hp5, hB2⟩ := hp5
    have hS5 := hS2.keep hB2
    replace hB2 := hB2.toBelow
    have hR4 := hR1.below hB2 (Nat.le_refl _)
    have hR5 := hR2.below hB2 (Nat.le_refl _)
    have hR6 := hR3.below hB2 (Nat.le_refl _)
    have hW4 := hW1.later hB2
    have hW5 := hW2.later hB2
    have hW6 := hW3.later hB2
    obtain rfl := hp5
    refine s_val hS5 rfl rfl (r_move rfl (.t rfl rfl)) ?_
    refine s_val hS5 rfl rfl (r_extract rfl (.t rfl rfl) rfl) ?_
    refine s_val hS5 rfl rfl (r_extract rfl (.t rfl rfl) rfl) ?_
    refine s_val hS5 rfl rfl (r_extract rfl (.t rfl rfl) rfl) ?_
    refine s_val hS5 rfl rfl (r_assign rfl (.t rfl rfl)) ?_
    refine s_val hS5 rfl rfl (r_assign rfl (.t rfl rfl)) ?_
    refine s_val hS5 rfl rfl (r_assign rfl (.t rfl rfl)) ?_
    refine wpList_nil ?_
    refine x_tn ?_
    refine k_reb [(2, .bool false), (3, .slice a1 Q.length c1), (4, .slice a2 B.length c2), (5, .slice a3 R.length c3), (8, .int .i64 23)] ⟨rfl, rfl, rfl, rfl, rfl, trivial⟩ fun G4 => ?_
    refine wp_seq ?_
    refine k_reg ?_
    refine s_val hS5 rfl rfl (r_move rfl (.t rfl rfl)) ?_
    refine s_call rfl rfl rfl (vs := [.int .i64 23]) ⟨(.t rfl rfl), trivial⟩ cb13 (num_ok w4 23) ?_
    rintro _ w4 ⟨rfl, rfl⟩
    refine s_val hS5 rfl rfl (r_cmp_t rfl rfl (.t rfl rfl) .c (show 23 = 23 from by omega)) ?_
    refine s_val hS5 rfl rfl (r_move rfl (.t rfl rfl)) ?_
    refine s_callg (wanted_of (j := 3) (b := true) (d := 33) rfl rfl rfl rfl) rfl rfl (vs := []) trivial cb16 (wakes_ok w4 ) ?_
    intro v4 w5 hp6
    obtain ⟨hp6, hB3⟩ := hp6
    have hS6 := hS5.keep hB3
    replace hB3 := hB3.toBelow
    have hR7 := hR4.below hB3 (Nat.le_refl _)
    have hR8 := hR5.below hB3 (Nat.le_refl _)
    have hR9 := hR6.below hB3 (Nat.le_refl _)
    have hW7 := hW4.later hB3
    have hW8 := hW5.later hB3
    have hW9 := hW6.later hB3
    obtain rfl := hp6
    refine s_val hS6 rfl rfl (r_pick rfl (.t rfl rfl) (.t rfl rfl)) ?_
    refine s_val hS6 rfl rfl (r_assign rfl (.t rfl rfl)) ?_
    refine wpList_nil ?_
    refine x_tn ?_
    refine k_reb [(2, .bool true), (3, .slice a1 Q.length c1), (4, .slice a2 B.length c2), (5, .slice a3 R.length c3)] ⟨rfl, rfl, rfl, rfl, trivial⟩ fun G5 => ?_
    refine wp_ret ?_
    refine x_tr ?_
    refine k_ret1 Try.results6 rfl rfl ?_
    refine ⟨_, rfl, ?_⟩
    exact ⟨rfl, hS6.none⟩
  · refine s_val hS2 rfl rfl (r_cmp_f rfl rfl (.t rfl rfl) .c (show ¬ (((B.length : Nat) : Int) = 0) from by omega)) ?_
    refine wpList_nil ?_
    refine x_tn ?_
    refine k_reb [(2, .bool false), (3, .slice a1 Q.length c1), (4, .slice a2 B.length c2), (5, .slice a3 R.length c3), (22, .bool false)] ⟨rfl, rfl, rfl, rfl, rfl, trivial⟩ fun G6 => ?_
    refine k_f (.t rfl rfl) ?_
    refine wp_skip ?_
    refine x_tn ?_
    refine k_reb [(2, .bool false), (3, .slice a1 Q.length c1), (4, .slice a2 B.length c2), (5, .slice a3 R.length c3)] ⟨rfl, rfl, rfl, rfl, trivial⟩ fun G7 => ?_
    refine wp_seq ?_
    refine k_reg ?_
    refine s_val hS2 rfl rfl (r_move rfl (.t rfl rfl)) ?_
    refine s_val hS2 rfl rfl (r_move rfl (.t rfl rfl)) ?_
    have hB0 : 0 < lv B := lv_pos hNB.nz (by omega)
    refine s_call rfl rfl rfl (vs := [.slice a3 R.length c3, .slice a2 B.length c2]) ⟨(.t rfl rfl), (.t rfl rfl), trivial⟩ cb17 (DivMod_ok w2 a3 c3 R hR3 a2 c2 B hR2 hNR hNB hB0) ?_
    rintro v5 w6 ⟨D1, R1, _, _, rfl, hp7, hq2, hND1, hNR1, hlD1, hlR1⟩
    obtain ⟨a4, c5, rfl, hR10, -, hT4⟩ := id hp7
    have hW10 := Ow.from_ hS2 hp7
    have hS7 := hS2.keep hT4
    have hR11 := hR1.below hT4.toBelow (Nat.le_refl _)
    have hR12 := hR2.below hT4.toBelow (Nat.le_refl _)
    have hR13 := hR3.below hT4.toBelow (Nat.le_refl _)
    have hW11 := hW1.later hT4.toBelow
    have hW12 := hW2.later hT4.toBelow
    have hW13 := hW3.later hT4.toBelow
    have hA4 := hp7.apart hS2 (m := 0) rfl
    obtain ⟨a5, c6, rfl, hR14, -, hT5⟩ := id hq2
    have hW14 := Ow.from_ hS2 hq2
    have hA5 := hq2.apart hS2 (m := 0) rfl
    have hnD1 := hND1.len
    have hnR1 := hNR1.len
    have hr1 : lv R1 < lv B := by rw [hlR1]; exact Nat.mod_lt _ hB0
    refine s_val hS7 rfl rfl (r_move rfl (.t rfl rfl)) ?_
    refine s_val hS7 rfl rfl (r_extract rfl (.t rfl rfl) rfl) ?_
    refine s_val hS7 rfl rfl (r_extract rfl (.t rfl rfl) rfl) ?_
    refine s_val hS7 rfl rfl (r_extract rfl (.t rfl rfl) rfl) ?_
    refine s_val hS7 rfl rfl (r_assign rfl (.t rfl rfl)) ?_
    refine s_val hS7 rfl rfl (r_assign rfl (.t rfl rfl)) ?_
    refine s_val hS7 rfl rfl (r_assign rfl (.t rfl rfl)) ?_
    refine wpList_nil ?_
    refine x_tn ?_
    refine k_reb [(2, .bool false), (3, .slice a1 Q.length c1), (4, .slice a2 B.length c2), (5, .slice a5 R1.length c6), (10, .int .i64 0)] ⟨rfl, rfl, rfl, rfl, rfl, trivial⟩ fun G8 => ?_
    refine wp_seq ?_
    refine wp_seq ?_
    refine k_reg ?_
    refine s_val hS7 rfl rfl (r_move rfl (.t rfl rfl)) ?_
    refine s_call rfl rfl rfl (vs := [.int .i64 0]) ⟨(.t rfl rfl), trivial⟩ cb13 (num_ok w6 0) ?_
    rintro _ w6 ⟨rfl, rfl⟩
    refine s_val hS7 rfl rfl (r_cmp_f rfl rfl (.t rfl rfl) .c (show ¬ (¬ 0 = 0) from by omega)) ?_
    refine s_val hS7 rfl rfl (r_move rfl (.t rfl rfl)) ?_
    refine s_valg hS7 (wanted_of (j := 3) (b := false) (d := 46) rfl rfl rfl rfl) rfl (r_move rfl (.t rfl rfl)) ?_
    refine s_valg hS7 (wanted_of (j := 3) (b := false) (d := 46) rfl rfl rfl rfl) rfl (r_move rfl (.t rfl rfl)) ?_
    refine s_callg (wanted_of (j := 3) (b := false) (d := 46) rfl rfl rfl rfl) rfl rfl (vs := [.slice a5 R1.length c6, .slice a2 B.length c2]) ⟨(.t rfl rfl), (.t rfl rfl), trivial⟩ cb28 (Cmp_ok w6 a5 c6 R1 hR14 a2 c2 B hR12 hNR1 hNB) ?_
    rintro _ w7 ⟨hp8, hB4⟩
    have hS9 := hS7.keep hB4
    replace hB4 := hB4.toBelow
    have hR15 := hR11.below hB4 (Nat.le_refl _)
    have hR16 := hR12.below hB4 (Nat.le_refl _)
    have hR17 := hR14.below hB4 (Nat.le_refl _)
    have hW15 := hW11.later hB4
    have hW16 := hW12.later hB4
    have hW17 := hW13.later hB4
    have hW18 := hW10.later hB4
    have hW19 := hW14.later hB4
    rcases hp8 with ⟨hc1, rfl⟩ | ⟨hc1, rfl⟩ | ⟨hc1, rfl⟩
    · refine s_valg hS9 (wanted_of (j := 3) (b := false) (d := 46) rfl rfl rfl rfl) rfl (r_cmp_f rfl rfl (.t rfl rfl) .c (show ¬ ((-1) ≥ 0) from by omega)) ?_
      refine s_val hS9 rfl rfl (r_pick rfl (.t rfl rfl) (.t rfl rfl)) ?_
      refine wpList_nil ?_
      refine x_tn ?_
      refine k_reb [(2, .bool false), (3, .slice a1 Q.length c1), (4, .slice a2 B.length c2), (5, .slice a5 R1.length c6), (10, .int .i64 0), (51, .bool false)] ⟨rfl, rfl, rfl, rfl, rfl, rfl, trivial⟩ fun G9 => ?_
      refine k_f (.t rfl rfl) ?_
      refine wp_skip ?_
      refine x_tn ?_
      refine k_reb [(2, .bool false), (3, .slice a1 Q.length c1), (4, .slice a2 B.length c2), (5, .slice a5 R1.length c6), (10, .int .i64 0)] ⟨rfl, rfl, rfl, rfl, rfl, trivial⟩ fun G10 => ?_
      refine wp_seq ?_
      refine k_reg ?_
      refine s_val hS9 rfl rfl (r_move rfl (.t rfl rfl)) ?_
      refine s_val hS9 rfl rfl (r_move rfl (.t rfl rfl)) ?_
      refine s_call rfl rfl rfl (vs := [.slice a1 Q.length c1, .slice a2 B.length c2]) ⟨(.t rfl rfl), (.t rfl rfl), trivial⟩ cb19 (lmul_ok w7 a1 c1 Q hR15 a2 c2 B hR16 hNQ hNB (by (try simp only [lv_nil, Nat.mul_zero, Nat.add_zero]) <;> (first | assumption | omega))) ?_
      intro v6 w8 hp9
      obtain ⟨M1, hp9, ⟨hNM1, hlM1⟩⟩ := hp9
      obtain ⟨a6, c7, rfl, hR18, -, hT6⟩ := id hp9
      have hW20 := Ow.from_ hS9 hp9
      have hS10 := hS9.keep hT6
      have hR19 := hR15.below hT6.toBelow (Nat.le_refl _)
      have hR20 := hR16.below hT6.toBelow (Nat.le_refl _)
      have hR21 := hR17.below hT6.toBelow (Nat.le_refl _)
      have hW21 := hW15.later hT6.toBelow
      have hW22 := hW16.later hT6.toBelow
      have hW23 := hW17.later hT6.toBelow
      have hW24 := hW18.later hT6.toBelow
      have hW25 := hW19.later hT6.toBelow
      have hA6 := hp9.apart hS9 (m := 0) rfl
      have hnM1 := hNM1.len
      refine s_val hS10 rfl rfl (r_move rfl (.t rfl rfl)) ?_
      refine s_call rfl rfl rfl (vs := [.slice a6 M1.length c7, .slice a5 R1.length c6]) ⟨(.t rfl rfl), (.t rfl rfl), trivial⟩ cb15 (ladd_ok w8 a6 c7 M1 hR18 a5 c6 R1 hR21 hNM1 hNR1 (by (try simp only [hlM1, lv_nil, Nat.mul_zero, Nat.add_zero]) <;> (first | assumption | omega))) ?_
      intro v7 w9 hp10
      obtain ⟨AA, hp10, ⟨hNAA, hlAA⟩⟩ := hp10
      obtain ⟨a7, c8, rfl, hR22, -, hT7⟩ := id hp10
      have hW26 := Ow.from_ hS10 hp10
      have hS11 := hS10.keep hT7
      have hR23 := hR19.below hT7.toBelow (Nat.le_refl _)
      have hR24 := hR20.below hT7.toBelow (Nat.le_refl _)
      have hR25 := hR21.below hT7.toBelow (Nat.le_refl _)
      have hR26 := hR18.below hT7.toBelow (Nat.le_refl _)
      have hW27 := hW21.later hT7.toBelow
      have hW28 := hW22.later hT7.toBelow
      have hW29 := hW23.later hT7.toBelow
      have hW30 := hW24.later hT7.toBelow
      have hW31 := hW25.later hT7.toBelow
      have hW32 := hW20.later hT7.toBelow
      have hA7 := hp10.apart hS10 (m := 0) rfl
      have hnAA := hNAA.len
      refine s_val hS11 rfl rfl (r_assign rfl (.t rfl rfl)) ?_
      refine wpList_nil ?_
      refine x_tn ?_
      refine k_reb [(2, .bool false), (3, .slice a1 Q.length c1), (4, .slice a2 B.length c2), (5, .slice a5 R1.length c6), (10, .int .i64 0), (11, .slice a7 AA.length c8)] ⟨rfl, rfl, rfl, rfl, rfl, rfl, trivial⟩ fun G11 => ?_
      refine wp_seq ?_
      refine k_reg ?_
      refine s_val hS11 rfl rfl (r_move rfl (.t rfl rfl)) ?_
      refine s_val hS11 rfl rfl (r_move rfl (.t rfl rfl)) ?_
      refine s_call rfl rfl rfl (vs := [.slice a7 AA.length c8, .slice a2 B.length c2]) ⟨(.t rfl rfl), (.t rfl rfl), trivial⟩ cb17 (DivMod_ok w9 a7 c8 AA hR22 a2 c2 B hR24 hNAA hNB hB0) ?_
      rintro v8 w10 ⟨X1, Y1, _, _, rfl, hp11, hq3, hNX1, hNY1, hlX1, hlY1⟩
      obtain ⟨a8, c9, rfl, hR27, -, hT8⟩ := id hp11
      have hW33 := Ow.from_ hS11 hp11
      have hS12 := hS11.keep hT8
      have hR28 := hR23.below hT8.toBelow (Nat.le_refl _)
      have hR29 := hR24.below hT8.toBelow (Nat.le_refl _)
      have hR30 := hR25.below hT8.toBelow (Nat.le_refl _)
      have hR31 := hR22.below hT8.toBelow (Nat.le_refl _)
      have hW34 := hW27.later hT8.toBelow
      have hW35 := hW28.later hT8.toBelow
      have hW36 := hW29.later hT8.toBelow
      have hW37 := hW30.later hT8.toBelow
      have hW38 := hW31.later hT8.toBelow
      have hW39 := hW32.later hT8.toBelow
      have hW40 := hW26.later hT8.toBelow
      have hA8 := hp11.apart hS11 (m := 0) rfl
      obtain ⟨a9, c10, rfl, hR32, -, hT9⟩ := id hq3
      have hW41 := Ow.from_ hS11 hq3
      have hA9 := hq3.apart hS11 (m := 0) rfl
      have hnX1 := hNX1.len
      have hnY1 := hNY1.len
      have k1 : lv X1 = lv Q := by rw [hlX1, hlAA, hlM1]; exact (div_back hr1).1
      have k2 : lv Y1 = lv R1 := by rw [hlY1, hlAA, hlM1]; exact (div_back hr1).2
      refine s_val hS12 rfl rfl (r_move rfl (.t rfl rfl)) ?_
      refine s_val hS12 rfl rfl (r_extract rfl (.t rfl rfl) rfl) ?_
      refine s_val hS12 rfl rfl (r_extract rfl (.t rfl rfl) rfl) ?_
      refine s_val hS12 rfl rfl (r_extract rfl (.t rfl rfl) rfl) ?_
      refine s_val hS12 rfl rfl (r_assign rfl (.t rfl rfl)) ?_
      refine s_val hS12 rfl rfl (r_assign rfl (.t rfl rfl)) ?_
      refine s_val hS12 rfl rfl (r_assign rfl (.t rfl rfl)) ?_
      refine wpList_nil ?_
      refine x_tn ?_
      refine k_reb [(2, .bool false), (3, .slice a1 Q.length c1), (4, .slice a2 B.length c2), (5, .slice a5 R1.length c6), (10, .int .i64 0), (12, .slice a8 X1.length c9), (13, .slice a9 Y1.length c10)] ⟨rfl, rfl, rfl, rfl, rfl, rfl, rfl, trivial⟩ fun G12 => ?_
      refine wp_seq ?_
      refine wp_seq ?_
      refine k_reg ?_
      refine s_val hS12 rfl rfl (r_move rfl (.t rfl rfl)) ?_
      refine s_call rfl rfl rfl (vs := [.int .i64 0]) ⟨(.t rfl rfl), trivial⟩ cb13 (num_ok w10 0) ?_
      rintro _ w10 ⟨rfl, rfl⟩
      refine s_val hS12 rfl rfl (r_cmp_f rfl rfl (.t rfl rfl) .c (show ¬ (¬ 0 = 0) from by omega)) ?_
      refine s_val hS12 rfl rfl (r_move rfl (.t rfl rfl)) ?_
      refine s_valg hS12 (wanted_of (j := 3) (b := false) (d := 67) rfl rfl rfl rfl) rfl (r_move rfl (.t rfl rfl)) ?_
      refine s_valg hS12 (wanted_of (j := 3) (b := false) (d := 67) rfl rfl rfl rfl) rfl (r_move rfl (.t rfl rfl)) ?_
      refine s_callg (wanted_of (j := 3) (b := false) (d := 67) rfl rfl rfl rfl) rfl rfl (vs := [.slice a8 X1.length c9, .slice a1 Q.length c1]) ⟨(.t rfl rfl), (.t rfl rfl), trivial⟩ cb14 (eq_ok w10 a8 c9 X1 hR27 a1 c1 Q hR28 hNX1 hNQ) ?_
      rintro _ w11 ⟨⟨hc2, rfl⟩ | ⟨hc2, rfl⟩, hB5⟩
      rotate_left
      · exact absurd ((by (try simp only [hlM1, hlAA, k1, k2, lv_nil, Nat.mul_zero, Nat.add_zero]) <;> (first | rfl | omega | grind))) hc2
      have hS14 := hS12.keep hB5
      replace hB5 := hB5.toBelow
      have hR33 := hR28.below hB5 (Nat.le_refl _)
      have hR34 := hR29.below hB5 (Nat.le_refl _)
      have hR35 := hR30.below hB5 (Nat.le_refl _)
      have hR36 := hR27.below hB5 (Nat.le_refl _)
      have hR37 := hR32.below hB5 (Nat.le_refl _)
      have hW42 := hW34.later hB5
      have hW43 := hW35.later hB5
      have hW44 := hW36.later hB5
      have hW45 := hW37.later hB5
      have hW46 := hW38.later hB5
      have hW47 := hW39.later hB5
      have hW48 := hW40.later hB5
      have hW49 := hW33.later hB5
      have hW50 := hW41.later hB5
      refine s_valg hS14 (wanted_of (j := 3) (b := false) (d := 67) rfl rfl rfl rfl) rfl (r_lnot rfl (.t rfl rfl)) ?_
      refine s_val hS14 rfl rfl (r_pick rfl (.t rfl rfl) (.t rfl rfl)) ?_
      refine s_val hS14 rfl rfl (r_move rfl (.t rfl rfl)) ?_
      refine s_valg hS14 (wanted_of (j := 9) (b := false) (d := 73) rfl rfl rfl rfl) rfl (r_move rfl (.t rfl rfl)) ?_
      refine s_valg hS14 (wanted_of (j := 9) (b := false) (d := 73) rfl rfl rfl rfl) rfl (r_move rfl (.t rfl rfl)) ?_
      refine s_callg (wanted_of (j := 9) (b := false) (d := 73) rfl rfl rfl rfl) rfl rfl (vs := [.slice a9 Y1.length c10, .slice a5 R1.length c6]) ⟨(.t rfl rfl), (.t rfl rfl), trivial⟩ cb14 (eq_ok w11 a9 c10 Y1 hR37 a5 c6 R1 hR35 hNY1 hNR1) ?_
      rintro _ w12 ⟨⟨hc3, rfl⟩ | ⟨hc3, rfl⟩, hB6⟩
      rotate_left
      · exact absurd ((by (try simp only [hlM1, hlAA, k1, k2, lv_nil, Nat.mul_zero, Nat.add_zero]) <;> (first | rfl | omega | grind))) hc3
      have hS15 := hS14.keep hB6
      replace hB6 := hB6.toBelow
      have hR38 := hR33.below hB6 (Nat.le_refl _)
      have hR39 := hR34.below hB6 (Nat.le_refl _)
      have hR40 := hR35.below hB6 (Nat.le_refl _)
      have hR41 := hR36.below hB6 (Nat.le_refl _)
      have hR42 := hR37.below hB6 (Nat.le_refl _)
      have hW51 := hW42.later hB6
      have hW52 := hW43.later hB6
      have hW53 := hW44.later hB6
      have hW54 := hW45.later hB6
      have hW55 := hW46.later hB6
      have hW56 := hW47.later hB6
      have hW57 := hW48.later hB6
      have hW58 := hW49.later hB6
      have hW59 := hW50.later hB6
      refine s_valg hS15 (wanted_of (j := 9) (b := false) (d := 73) rfl rfl rfl rfl) rfl (r_lnot rfl (.t rfl rfl)) ?_
      refine s_val hS15 rfl rfl (r_pick rfl (.t rfl rfl) (.t rfl rfl)) ?_
      refine wpList_nil ?_
      refine x_tn ?_
      refine k_reb [(2, .bool false), (3, .slice a1 Q.length c1), (4, .slice a2 B.length c2), (5, .slice a5 R1.length c6), (10, .int .i64 0), (12, .slice a8 X1.length c9), (13, .slice a9 Y1.length c10), (78, .bool false)] ⟨rfl, rfl, rfl, rfl, rfl, rfl, rfl, rfl, trivial⟩ fun G13 => ?_
      refine k_f (.t rfl rfl) ?_
      refine wp_skip ?_
      refine x_tn ?_
      refine k_reb [(2, .bool false), (3, .slice a1 Q.length c1), (4, .slice a2 B.length c2), (5, .slice a5 R1.length c6), (10, .int .i64 0), (12, .slice a8 X1.length c9), (13, .slice a9 Y1.length c10)] ⟨rfl, rfl, rfl, rfl, rfl, rfl, rfl, trivial⟩ fun G14 => ?_
      refine wp_seq ?_
      refine wp_seq ?_
      refine k_reg ?_
      refine s_val hS15 rfl rfl (r_move rfl (.t rfl rfl)) ?_
      refine s_val hS15 rfl rfl (r_len rfl rfl Try.underlying27 (.t rfl rfl)) ?_
      by_cases c11 : R1.length > 0
      · refine s_val hS15 rfl rfl (r_cmp_t rfl rfl (.t rfl rfl) .c (show ((R1.length : Nat) : Int) > 0 from by omega)) ?_
        refine wpList_nil ?_
        refine x_tn ?_
        refine k_reb [(2, .bool false), (3, .slice a1 Q.length c1), (4, .slice a2 B.length c2), (10, .int .i64 0), (12, .slice a8 X1.length c9), (13, .slice a9 Y1.length c10), (81, .bool true)] ⟨rfl, rfl, rfl, rfl, rfl, rfl, rfl, trivial⟩ fun G15 => ?_
        refine k_t (.t rfl rfl) ?_
        refine wp_seq ?_
        refine k_reg ?_
        refine s_val hS15 rfl rfl (r_move rfl (.t rfl rfl)) ?_
        refine s_val hS15 rfl rfl (r_move rfl (.t rfl rfl)) ?_
        refine s_call rfl rfl rfl (vs := [.int .u64 1]) ⟨.c, trivial⟩ cb18 (from_ok w12 1 (by omega)) ?_
        intro v9 w13 hp12
        obtain ⟨N3, hp12, ⟨hNN3, hlN3⟩⟩ := hp12
        obtain ⟨a10, c12, rfl, hR43, -, hT10⟩ := id hp12
        have hW60 := Ow.from_ hS15 hp12
        have hS16 := hS15.keep hT10
        have hR44 := hR38.below hT10.toBelow (Nat.le_refl _)
        have hR45 := hR39.below hT10.toBelow (Nat.le_refl _)
        have hR46 := hR41.below hT10.toBelow (Nat.le_refl _)
        have hR47 := hR42.below hT10.toBelow (Nat.le_refl _)
        have hW61 := hW51.later hT10.toBelow
        have hW62 := hW52.later hT10.toBelow
        have hW63 := hW53.later hT10.toBelow
        have hW64 := hW54.later hT10.toBelow
        have hW65 := hW55.later hT10.toBelow
        have hW66 := hW56.later hT10.toBelow
        have hW67 := hW57.later hT10.toBelow
        have hW68 := hW58.later hT10.toBelow
        have hW69 := hW59.later hT10.toBelow
        have hA10 := hp12.apart hS15 (m := 0) rfl
        have hnN3 := hNN3.len
        refine s_call rfl rfl rfl (vs := [.slice a1 Q.length c1, .slice a10 N3.length c12]) ⟨(.t rfl rfl), (.t rfl rfl), trivial⟩ cb15 (ladd_ok w13 a1 c1 Q hR44 a10 c12 N3 hR43 hNQ hNN3 (by (try simp only [hlM1, hlAA, k1, k2, hlN3, lv_nil, Nat.mul_zero, Nat.add_zero]) <;> (first | assumption | omega))) ?_
        intro v10 w14 hp13
        obtain ⟨N4, hp13, ⟨hNN4, hlN4⟩⟩ := hp13
        obtain ⟨a11, c13, rfl, hR48, -, hT11⟩ := id hp13
        have hW70 := Ow.from_ hS16 hp13
        have hS17 := hS16.keep hT11
        have hR49 := hR44.below hT11.toBelow (Nat.le_refl _)
        have hR50 := hR45.below hT11.toBelow (Nat.le_refl _)
        have hR51 := hR46.below hT11.toBelow (Nat.le_refl _)
        have hR52 := hR47.below hT11.toBelow (Nat.le_refl _)
        have hR53 := hR43.below hT11.toBelow (Nat.le_refl _)
        have hW71 := hW61.later hT11.toBelow
        have hW72 := hW62.later hT11.toBelow
        have hW73 := hW63.later hT11.toBelow
        have hW74 := hW64.later hT11.toBelow
        have hW75 := hW65.later hT11.toBelow
        have hW76 := hW66.later hT11.toBelow
        have hW77 := hW67.later hT11.toBelow
        have hW78 := hW68.later hT11.toBelow
        have hW79 := hW69.later hT11.toBelow
        have hW80 := hW60.later hT11.toBelow
        have hA11 := hp13.apart hS16 (m := 0) rfl
        have hnN4 := hNN4.len
        refine s_call rfl rfl rfl (vs := [.slice a2 B.length c2, .slice a11 N4.length c13]) ⟨(.t rfl rfl), (.t rfl rfl), trivial⟩ cb19 (lmul_ok w14 a2 c2 B hR50 a11 c13 N4 hR48 hNB hNN4 (by (try simp only [hlM1, hlAA, k1, k2, hlN3, hlN4, lv_nil, Nat.mul_zero, Nat.add_zero]) <;> (first | assumption | omega))) ?_
        intro v11 w15 hp14
        obtain ⟨N5, hp14, ⟨hNN5, hlN5⟩⟩ := hp14
        obtain ⟨a12, c14, rfl, hR54, -, hT12⟩ := id hp14
        have hW81 := Ow.from_ hS17 hp14
        have hS18 := hS17.keep hT12
        have hR55 := hR49.below hT12.toBelow (Nat.le_refl _)
        have hR56 := hR50.below hT12.toBelow (Nat.le_refl _)
        have hR57 := hR51.below hT12.toBelow (Nat.le_refl _)
        have hR58 := hR52.below hT12.toBelow (Nat.le_refl _)
        have hR59 := hR53.below hT12.toBelow (Nat.le_refl _)
        have hR60 := hR48.below hT12.toBelow (Nat.le_refl _)
        have hW82 := hW71.later hT12.toBelow
        have hW83 := hW72.later hT12.toBelow
        have hW84 := hW73.later hT12.toBelow
        have hW85 := hW74.later hT12.toBelow
        have hW86 := hW75.later hT12.toBelow
        have hW87 := hW76.later hT12.toBelow
        have hW88 := hW77.later hT12.toBelow
        have hW89 := hW78.later hT12.toBelow
        have hW90 := hW79.later hT12.toBelow
        have hW91 := hW80.later hT12.toBelow
        have hW92 := hW70.later hT12.toBelow
        have hA12 := hp14.apart hS17 (m := 0) rfl
        have hnN5 := hNN5.len
        refine s_call rfl rfl rfl (vs := [.int .u64 1]) ⟨.c, trivial⟩ cb18 (from_ok w15 1 (by omega)) ?_
        intro v12 w16 hp15
        obtain ⟨N6, hp15, ⟨hNN6, hlN6⟩⟩ := hp15
        obtain ⟨a13, c15, rfl, hR61, -, hT13⟩ := id hp15
        have hW93 := Ow.from_ hS18 hp15
        have hS19 := hS18.keep hT13
        have hR62 := hR55.below hT13.toBelow (Nat.le_refl _)
        have hR63 := hR56.below hT13.toBelow (Nat.le_refl _)
        have hR64 := hR57.below hT13.toBelow (Nat.le_refl _)
        have hR65 := hR58.below hT13.toBelow (Nat.le_refl _)
        have hR66 := hR59.below hT13.toBelow (Nat.le_refl _)
        have hR67 := hR60.below hT13.toBelow (Nat.le_refl _)
        have hR68 := hR54.below hT13.toBelow (Nat.le_refl _)
        have hW94 := hW82.later hT13.toBelow
        have hW95 := hW83.later hT13.toBelow
        have hW96 := hW84.later hT13.toBelow
        have hW97 := hW85.later hT13.toBelow
        have hW98 := hW86.later hT13.toBelow
        have hW99 := hW87.later hT13.toBelow
        have hW100 := hW88.later hT13.toBelow
        have hW101 := hW89.later hT13.toBelow
        have hW102 := hW90.later hT13.toBelow
        have hW103 := hW91.later hT13.toBelow
        have hW104 := hW92.later hT13.toBelow
        have hW105 := hW81.later hT13.toBelow
        have hA13 := hp15.apart hS18 (m := 0) rfl
        have hnN6 := hNN6.len
        have g1 : 1 ≤ lv B * (lv Q + 1) := Nat.mul_pos hB0 (by omega)
        refine s_call rfl rfl rfl (vs := [.slice a12 N5.length c14, .slice a13 N6.length c15]) ⟨(.t rfl rfl), (.t rfl rfl), trivial⟩ cb27 (lsub_ok w16 a12 c14 N5 hR68 a13 c15 N6 hR61 hNN5 hNN6 (by (try simp only [hlM1, hlAA, k1, k2, hlN3, hlN4, hlN5, hlN6, lv_nil, Nat.mul_zero, Nat.add_zero]) <;> (first | assumption | omega))) ?_
        intro v13 w17 hp16
        obtain ⟨N7, hp16, ⟨hNN7, hlN7⟩⟩ := hp16
        obtain ⟨a14, c16, rfl, hR69, -, hT14⟩ := id hp16
        have hW106 := Ow.from_ hS19 hp16
        have hS20 := hS19.keep hT14
        have hR70 := hR62.below hT14.toBelow (Nat.le_refl _)
        have hR71 := hR63.below hT14.toBelow (Nat.le_refl _)
        have hR72 := hR64.below hT14.toBelow (Nat.le_refl _)
        have hR73 := hR65.below hT14.toBelow (Nat.le_refl _)
        have hR74 := hR66.below hT14.toBelow (Nat.le_refl _)
        have hR75 := hR67.below hT14.toBelow (Nat.le_refl _)
        have hR76 := hR68.below hT14.toBelow (Nat.le_refl _)
        have hR77 := hR61.below hT14.toBelow (Nat.le_refl _)
        have hW107 := hW94.later hT14.toBelow
        have hW108 := hW95.later hT14.toBelow
        have hW109 := hW96.later hT14.toBelow
        have hW110 := hW97.later hT14.toBelow
        have hW111 := hW98.later hT14.toBelow
        have hW112 := hW99.later hT14.toBelow
        have hW113 := hW100.later hT14.toBelow
        have hW114 := hW101.later hT14.toBelow
        have hW115 := hW102.later hT14.toBelow
        have hW116 := hW103.later hT14.toBelow
        have hW117 := hW104.later hT14.toBelow
        have hW118 := hW105.later hT14.toBelow
        have hW119 := hW93.later hT14.toBelow
        have hA14 := hp16.apart hS19 (m := 0) rfl
        have hnN7 := hNN7.len
        refine s_val hS20 rfl rfl (r_move rfl (.t rfl rfl)) ?_
        refine s_call rfl rfl rfl (vs := [.slice a14 N7.length c16, .slice a2 B.length c2]) ⟨(.t rfl rfl), (.t rfl rfl), trivial⟩ cb17 (DivMod_ok w17 a14 c16 N7 hR69 a2 c2 B hR71 hNN7 hNB hB0) ?_
        rintro v14 w18 ⟨X2, Y2, _, _, rfl, hp17, hq4, hNX2, hNY2, hlX2, hlY2⟩
        obtain ⟨a15, c17, rfl, hR78, -, hT15⟩ := id hp17
        have hW120 := Ow.from_ hS20 hp17
        have hS21 := hS20.keep hT15
        have hR79 := hR70.below hT15.toBelow (Nat.le_refl _)
        have hR80 := hR71.below hT15.toBelow (Nat.le_refl _)
        have hR81 := hR72.below hT15.toBelow (Nat.le_refl _)
        have hR82 := hR73.below hT15.toBelow (Nat.le_refl _)
        have hR83 := hR74.below hT15.toBelow (Nat.le_refl _)
        have hR84 := hR75.below hT15.toBelow (Nat.le_refl _)
        have hR85 := hR76.below hT15.toBelow (Nat.le_refl _)
        have hR86 := hR77.below hT15.toBelow (Nat.le_refl _)
        have hR87 := hR69.below hT15.toBelow (Nat.le_refl _)
        have hW121 := hW107.later hT15.toBelow
        have hW122 := hW108.later hT15.toBelow
        have hW123 := hW109.later hT15.toBelow
        have hW124 := hW110.later hT15.toBelow
        have hW125 := hW111.later hT15.toBelow
        have hW126 := hW112.later hT15.toBelow
        have hW127 := hW113.later hT15.toBelow
        have hW128 := hW114.later hT15.toBelow
        have hW129 := hW115.later hT15.toBelow
        have hW130 := hW116.later hT15.toBelow
        have hW131 := hW117.later hT15.toBelow
        have hW132 := hW118.later hT15.toBelow
        have hW133 := hW119.later hT15.toBelow
        have hW134 := hW106.later hT15.toBelow
        have hA15 := hp17.apart hS20 (m := 0) rfl
        obtain ⟨a16, c18, rfl, hR88, -, hT16⟩ := id hq4
        have hW135 := Ow.from_ hS20 hq4
        have hA16 := hq4.apart hS20 (m := 0) rfl
        have hnX2 := hNX2.len
        have hnY2 := hNY2.len
        have k3 : lv X2 = lv Q := by rw [hlX2]; simp only [hlM1, hlAA, k1, k2, hlN3, hlN4, hlN5, hlN6, hlN7]; exact (div_less hB0).1
        have k4 : lv Y2 = lv B - 1 := by rw [hlY2]; simp only [hlM1, hlAA, k1, k2, hlN3, hlN4, hlN5, hlN6, hlN7]; exact (div_less hB0).2
        refine s_val hS21 rfl rfl (r_move rfl (.t rfl rfl)) ?_
        refine s_val hS21 rfl rfl (r_extract rfl (.t rfl rfl) rfl) ?_
        refine s_val hS21 rfl rfl (r_extract rfl (.t rfl rfl) rfl) ?_
        refine s_val hS21 rfl rfl (r_extract rfl (.t rfl rfl) rfl) ?_
        refine s_val hS21 rfl rfl (r_assign rfl (.t rfl rfl)) ?_
        refine s_val hS21 rfl rfl (r_assign rfl (.t rfl rfl)) ?_
        refine s_val hS21 rfl rfl (r_assign rfl (.t rfl rfl)) ?_
        refine wpList_nil ?_
        refine x_tn ?_
        refine k_reb [(2, .bool false), (3, .slice a1 Q.length c1), (4, .slice a2 B.length c2), (10, .int .i64 0), (12, .slice a15 X2.length c17), (13, .slice a16 Y2.length c18)] ⟨rfl, rfl, rfl, rfl, rfl, rfl, trivial⟩ fun G16 => ?_
        refine wp_seq ?_
        refine k_reg ?_
        refine s_val hS21 rfl rfl (r_move rfl (.t rfl rfl)) ?_
        refine s_call rfl rfl rfl (vs := [.int .i64 0]) ⟨(.t rfl rfl), trivial⟩ cb13 (num_ok w18 0) ?_
        rintro _ w18 ⟨rfl, rfl⟩
        refine s_val hS21 rfl rfl (r_cmp_f rfl rfl (.t rfl rfl) .c (show ¬ (¬ 0 = 0) from by omega)) ?_
        refine s_val hS21 rfl rfl (r_move rfl (.t rfl rfl)) ?_
        refine s_valg hS21 (wanted_of (j := 3) (b := false) (d := 98) rfl rfl rfl rfl) rfl (r_move rfl (.t rfl rfl)) ?_
        refine s_valg hS21 (wanted_of (j := 3) (b := false) (d := 98) rfl rfl rfl rfl) rfl (r_move rfl (.t rfl rfl)) ?_
        refine s_callg (wanted_of (j := 3) (b := false) (d := 98) rfl rfl rfl rfl) rfl rfl (vs := [.slice a15 X2.length c17, .slice a1 Q.length c1]) ⟨(.t rfl rfl), (.t rfl rfl), trivial⟩ cb14 (eq_ok w18 a15 c17 X2 hR78 a1 c1 Q hR79 hNX2 hNQ) ?_
        rintro _ w19 ⟨⟨hc4, rfl⟩ | ⟨hc4, rfl⟩, hB7⟩
        rotate_left
        · exact absurd ((by (try simp only [hlM1, hlAA, k1, k2, hlN3, hlN4, hlN5, hlN6, hlN7, k3, k4, lv_nil, Nat.mul_zero, Nat.add_zero]) <;> (first | rfl | omega | grind))) hc4
        have hS23 := hS21.keep hB7
        replace hB7 := hB7.toBelow
        have hR89 := hR79.below hB7 (Nat.le_refl _)
        have hR90 := hR80.below hB7 (Nat.le_refl _)
        have hR91 := hR78.below hB7 (Nat.le_refl _)
        have hR92 := hR88.below hB7 (Nat.le_refl _)
        have hW136 := hW121.later hB7
        have hW137 := hW122.later hB7
        have hW138 := hW123.later hB7
        have hW139 := hW124.later hB7
        have hW140 := hW125.later hB7
        have hW141 := hW126.later hB7
        have hW142 := hW127.later hB7
        have hW143 := hW128.later hB7
        have hW144 := hW129.later hB7
        have hW145 := hW130.later hB7
        have hW146 := hW131.later hB7
        have hW147 := hW132.later hB7
        have hW148 := hW133.later hB7
        have hW149 := hW134.later hB7
        have hW150 := hW120.later hB7
        have hW151 := hW135.later hB7
        refine s_valg hS23 (wanted_of (j := 3) (b := false) (d := 98) rfl rfl rfl rfl) rfl (r_lnot rfl (.t rfl rfl)) ?_
        refine s_val hS23 rfl rfl (r_pick rfl (.t rfl rfl) (.t rfl rfl)) ?_
        refine s_val hS23 rfl rfl (r_move rfl (.t rfl rfl)) ?_
        refine s_valg hS23 (wanted_of (j := 9) (b := false) (d := 104) rfl rfl rfl rfl) rfl (r_move rfl (.t rfl rfl)) ?_
        refine s_valg hS23 (wanted_of (j := 9) (b := false) (d := 104) rfl rfl rfl rfl) rfl (r_move rfl (.t rfl rfl)) ?_
        refine s_callg (wanted_of (j := 9) (b := false) (d := 104) rfl rfl rfl rfl) rfl rfl (vs := [.int .u64 1]) ⟨.c, trivial⟩ cb18 (from_ok w19 1 (by omega)) ?_
        intro v15 w20 hp18
        obtain ⟨N8, hp18, ⟨hNN8, hlN8⟩⟩ := hp18
        obtain ⟨a17, c19, rfl, hR93, -, hT17⟩ := id hp18
        have hW152 := Ow.from_ hS23 hp18
        have hS24 := hS23.keep hT17
        have hR94 := hR89.below hT17.toBelow (Nat.le_refl _)
        have hR95 := hR90.below hT17.toBelow (Nat.le_refl _)
        have hR96 := hR91.below hT17.toBelow (Nat.le_refl _)
        have hR97 := hR92.below hT17.toBelow (Nat.le_refl _)
        have hW153 := hW136.later hT17.toBelow
        have hW154 := hW137.later hT17.toBelow
        have hW155 := hW138.later hT17.toBelow
        have hW156 := hW139.later hT17.toBelow
        have hW157 := hW140.later hT17.toBelow
        have hW158 := hW141.later hT17.toBelow
        have hW159 := hW142.later hT17.toBelow
        have hW160 := hW143.later hT17.toBelow
        have hW161 := hW144.later hT17.toBelow
        have hW162 := hW145.later hT17.toBelow
        have hW163 := hW146.later hT17.toBelow
        have hW164 := hW147.later hT17.toBelow
        have hW165 := hW148.later hT17.toBelow
        have hW166 := hW149.later hT17.toBelow
        have hW167 := hW150.later hT17.toBelow
        have hW168 := hW151.later hT17.toBelow
        have hA17 := hp18.apart hS23 (m := 0) rfl
        have hnN8 := hNN8.len
        refine s_callg (wanted_of (j := 9) (b := false) (d := 104) rfl rfl rfl rfl) rfl rfl (vs := [.slice a2 B.length c2, .slice a17 N8.length c19]) ⟨(.t rfl rfl), (.t rfl rfl), trivial⟩ cb27 (lsub_ok w20 a2 c2 B hR95 a17 c19 N8 hR93 hNB hNN8 (by (try simp only [hlM1, hlAA, k1, k2, hlN3, hlN4, hlN5, hlN6, hlN7, k3, k4, hlN8, lv_nil, Nat.mul_zero, Nat.add_zero]) <;> (first | assumption | omega))) ?_
        intro v16 w21 hp19
        obtain ⟨N9, hp19, ⟨hNN9, hlN9⟩⟩ := hp19
        obtain ⟨a18, c20, rfl, hR98, -, hT18⟩ := id hp19
        have hW169 := Ow.from_ hS24 hp19
        have hS25 := hS24.keep hT18
        have hR99 := hR94.below hT18.toBelow (Nat.le_refl _)
        have hR100 := hR95.below hT18.toBelow (Nat.le_refl _)
        have hR101 := hR96.below hT18.toBelow (Nat.le_refl _)
        have hR102 := hR97.below hT18.toBelow (Nat.le_refl _)
        have hR103 := hR93.below hT18.toBelow (Nat.le_refl _)
        have hW170 := hW153.later hT18.toBelow
        have hW171 := hW154.later hT18.toBelow
        have hW172 := hW155.later hT18.toBelow
        have hW173 := hW156.later hT18.toBelow
        have hW174 := hW157.later hT18.toBelow
        have hW175 := hW158.later hT18.toBelow
        have hW176 := hW159.later hT18.toBelow
        have hW177 := hW160.later hT18.toBelow
        have hW178 := hW161.later hT18.toBelow
        have hW179 := hW162.later hT18.toBelow
        have hW180 := hW163.later hT18.toBelow
        have hW181 := hW164.later hT18.toBelow
        have hW182 := hW165.later hT18.toBelow
        have hW183 := hW166.later hT18.toBelow
        have hW184 := hW167.later hT18.toBelow
        have hW185 := hW168.later hT18.toBelow
        have hW186 := hW152.later hT18.toBelow
        have hA18 := hp19.apart hS24 (m := 0) rfl
        have hnN9 := hNN9.len
        refine s_callg (wanted_of (j := 9) (b := false) (d := 104) rfl rfl rfl rfl) rfl rfl (vs := [.slice a16 Y2.length c18, .slice a18 N9.length c20]) ⟨(.t rfl rfl), (.t rfl rfl), trivial⟩ cb14 (eq_ok w21 a16 c18 Y2 hR102 a18 c20 N9 hR98 hNY2 hNN9) ?_
        rintro _ w22 ⟨⟨hc5, rfl⟩ | ⟨hc5, rfl⟩, hB8⟩
        rotate_left
        · exact absurd ((by (try simp only [hlM1, hlAA, k1, k2, hlN3, hlN4, hlN5, hlN6, hlN7, k3, k4, hlN8, hlN9, lv_nil, Nat.mul_zero, Nat.add_zero]) <;> (first | rfl | omega | grind))) hc5
        have hS26 := hS25.keep hB8
        replace hB8 := hB8.toBelow
        have hR104 := hR99.below hB8 (Nat.le_refl _)
        have hR105 := hR100.below hB8 (Nat.le_refl _)
        have hR106 := hR101.below hB8 (Nat.le_refl _)
        have hR107 := hR102.below hB8 (Nat.le_refl _)
        have hR108 := hR103.below hB8 (Nat.le_refl _)
        have hR109 := hR98.below hB8 (Nat.le_refl _)
        have hW187 := hW170.later hB8
        have hW188 := hW171.later hB8
        have hW189 := hW172.later hB8
        have hW190 := hW173.later hB8
        have hW191 := hW174.later hB8
        have hW192 := hW175.later hB8
        have hW193 := hW176.later hB8
        have hW194 := hW177.later hB8
        have hW195 := hW178.later hB8
        have hW196 := hW179.later hB8
        have hW197 := hW180.later hB8
        have hW198 := hW181.later hB8
        have hW199 := hW182.later hB8
        have hW200 := hW183.later hB8
        have hW201 := hW184.later hB8
        have hW202 := hW185.later hB8
        have hW203 := hW186.later hB8
        have hW204 := hW169.later hB8
        refine s_valg hS26 (wanted_of (j := 9) (b := false) (d := 104) rfl rfl rfl rfl) rfl (r_lnot rfl (.t rfl rfl)) ?_
        refine s_val hS26 rfl rfl (r_pick rfl (.t rfl rfl) (.t rfl rfl)) ?_
        refine wpList_nil ?_
        refine x_tn ?_
        refine k_reb [(2, .bool false), (3, .slice a1 Q.length c1), (4, .slice a2 B.length c2), (10, .int .i64 0), (12, .slice a15 X2.length c17), (13, .slice a16 Y2.length c18), (111, .bool false)] ⟨rfl, rfl, rfl, rfl, rfl, rfl, rfl, trivial⟩ fun G17 => ?_
        refine k_f (.t rfl rfl) ?_
        refine wp_skip ?_
        refine x_tn ?_
        refine k_reb [(2, .bool false), (3, .slice a1 Q.length c1), (4, .slice a2 B.length c2), (10, .int .i64 0), (12, .slice a15 X2.length c17), (13, .slice a16 Y2.length c18)] ⟨rfl, rfl, rfl, rfl, rfl, rfl, trivial⟩ fun G18 => ?_
        refine wp_seq ?_
        refine k_reg ?_
        refine s_val hS26 rfl rfl (r_move rfl (.t rfl rfl)) ?_
        refine s_val hS26 rfl rfl (r_move rfl (.t rfl rfl)) ?_
        refine s_call rfl rfl rfl (vs := [.int .u64 1]) ⟨.c, trivial⟩ cb18 (from_ok w22 1 (by omega)) ?_
        intro v17 w23 hp20
        obtain ⟨N10, hp20, ⟨hNN10, hlN10⟩⟩ := hp20
        obtain ⟨a19, c21, rfl, hR110, -, hT19⟩ := id hp20
        have hW205 := Ow.from_ hS26 hp20
        have hS27 := hS26.keep hT19
        have hR111 := hR104.below hT19.toBelow (Nat.le_refl _)
        have hR112 := hR105.below hT19.toBelow (Nat.le_refl _)
        have hR113 := hR106.below hT19.toBelow (Nat.le_refl _)
        have hR114 := hR107.below hT19.toBelow (Nat.le_refl _)
        have hW206 := hW187.later hT19.toBelow
        have hW207 := hW188.later hT19.toBelow
        have hW208 := hW189.later hT19.toBelow
        have hW209 := hW190.later hT19.toBelow
        have hW210 := hW191.later hT19.toBelow
        have hW211 := hW192.later hT19.toBelow
        have hW212 := hW193.later hT19.toBelow
        have hW213 := hW194.later hT19.toBelow
        have hW214 := hW195.later hT19.toBelow
        have hW215 := hW196.later hT19.toBelow
        have hW216 := hW197.later hT19.toBelow
        have hW217 := hW198.later hT19.toBelow
        have hW218 := hW199.later hT19.toBelow
        have hW219 := hW200.later hT19.toBelow
        have hW220 := hW201.later hT19.toBelow
        have hW221 := hW202.later hT19.toBelow
        have hW222 := hW203.later hT19.toBelow
        have hW223 := hW204.later hT19.toBelow
        have hA19 := hp20.apart hS26 (m := 0) rfl
        have hnN10 := hNN10.len
        refine s_call rfl rfl rfl (vs := [.slice a1 Q.length c1, .slice a19 N10.length c21]) ⟨(.t rfl rfl), (.t rfl rfl), trivial⟩ cb15 (ladd_ok w23 a1 c1 Q hR111 a19 c21 N10 hR110 hNQ hNN10 (by (try simp only [hlM1, hlAA, k1, k2, hlN3, hlN4, hlN5, hlN6, hlN7, k3, k4, hlN8, hlN9, hlN10, lv_nil, Nat.mul_zero, Nat.add_zero]) <;> (first | assumption | omega))) ?_
        intro v18 w24 hp21
        obtain ⟨N11, hp21, ⟨hNN11, hlN11⟩⟩ := hp21
        obtain ⟨a20, c22, rfl, hR115, -, hT20⟩ := id hp21
        have hW224 := Ow.from_ hS27 hp21
        have hS28 := hS27.keep hT20
        have hR116 := hR111.below hT20.toBelow (Nat.le_refl _)
        have hR117 := hR112.below hT20.toBelow (Nat.le_refl _)
        have hR118 := hR113.below hT20.toBelow (Nat.le_refl _)
        have hR119 := hR114.below hT20.toBelow (Nat.le_refl _)
        have hR120 := hR110.below hT20.toBelow (Nat.le_refl _)
        have hW225 := hW206.later hT20.toBelow
        have hW226 := hW207.later hT20.toBelow
        have hW227 := hW208.later hT20.toBelow
        have hW228 := hW209.later hT20.toBelow
        have hW229 := hW210.later hT20.toBelow
        have hW230 := hW211.later hT20.toBelow
        have hW231 := hW212.later hT20.toBelow
        have hW232 := hW213.later hT20.toBelow
        have hW233 := hW214.later hT20.toBelow
        have hW234 := hW215.later hT20.toBelow
        have hW235 := hW216.later hT20.toBelow
        have hW236 := hW217.later hT20.toBelow
        have hW237 := hW218.later hT20.toBelow
        have hW238 := hW219.later hT20.toBelow
        have hW239 := hW220.later hT20.toBelow
        have hW240 := hW221.later hT20.toBelow
        have hW241 := hW222.later hT20.toBelow
        have hW242 := hW223.later hT20.toBelow
        have hW243 := hW205.later hT20.toBelow
        have hA20 := hp21.apart hS27 (m := 0) rfl
        have hnN11 := hNN11.len
        refine s_call rfl rfl rfl (vs := [.slice a2 B.length c2, .slice a20 N11.length c22]) ⟨(.t rfl rfl), (.t rfl rfl), trivial⟩ cb17 (DivMod_ok w24 a2 c2 B hR117 a20 c22 N11 hR115 hNB hNN11 (by omega)) ?_
        rintro v19 w25 ⟨X3, Y3, _, _, rfl, hp22, hq5, hNX3, hNY3, hlX3, hlY3⟩
        obtain ⟨a21, c23, rfl, hR121, -, hT21⟩ := id hp22
        have hW244 := Ow.from_ hS28 hp22
        have hS29 := hS28.keep hT21
        have hR122 := hR116.below hT21.toBelow (Nat.le_refl _)
        have hR123 := hR117.below hT21.toBelow (Nat.le_refl _)
        have hR124 := hR118.below hT21.toBelow (Nat.le_refl _)
        have hR125 := hR119.below hT21.toBelow (Nat.le_refl _)
        have hR126 := hR120.below hT21.toBelow (Nat.le_refl _)
        have hR127 := hR115.below hT21.toBelow (Nat.le_refl _)
        have hW245 := hW225.later hT21.toBelow
        have hW246 := hW226.later hT21.toBelow
        have hW247 := hW227.later hT21.toBelow
        have hW248 := hW228.later hT21.toBelow
        have hW249 := hW229.later hT21.toBelow
        have hW250 := hW230.later hT21.toBelow
        have hW251 := hW231.later hT21.toBelow
        have hW252 := hW232.later hT21.toBelow
        have hW253 := hW233.later hT21.toBelow
        have hW254 := hW234.later hT21.toBelow
        have hW255 := hW235.later hT21.toBelow
        have hW256 := hW236.later hT21.toBelow
        have hW257 := hW237.later hT21.toBelow
        have hW258 := hW238.later hT21.toBelow
        have hW259 := hW239.later hT21.toBelow
        have hW260 := hW240.later hT21.toBelow
        have hW261 := hW241.later hT21.toBelow
        have hW262 := hW242.later hT21.toBelow
        have hW263 := hW243.later hT21.toBelow
        have hW264 := hW224.later hT21.toBelow
        have hA21 := hp22.apart hS28 (m := 0) rfl
        obtain ⟨a22, c24, rfl, hR128, -, hT22⟩ := id hq5
        have hW265 := Ow.from_ hS28 hq5
        have hA22 := hq5.apart hS28 (m := 0) rfl
        have hnX3 := hNX3.len
        have hnY3 := hNY3.len
        have k5 : lv X3 * (lv Q + 1) + lv Y3 = lv B := by rw [hlX3, hlY3]; simp only [hlM1, hlAA, k1, k2, hlN3, hlN4, hlN5, hlN6, hlN7, k3, k4, hlN8, hlN9, hlN10, hlN11]; exact Nat.div_add_mod' _ _
        have k6 : lv Y3 < lv Q + 1 := by rw [hlY3]; simp only [hlM1, hlAA, k1, k2, hlN3, hlN4, hlN5, hlN6, hlN7, k3, k4, hlN8, hlN9, hlN10, hlN11]; exact Nat.mod_lt _ (Nat.succ_pos _)
        have k7 : lv X3 * (lv Q + 1) < Top := by omega
        refine s_val hS29 rfl rfl (r_move rfl (.t rfl rfl)) ?_
        refine s_val hS29 rfl rfl (r_extract rfl (.t rfl rfl) rfl) ?_
        refine s_val hS29 rfl rfl (r_extract rfl (.t rfl rfl) rfl) ?_
        refine s_val hS29 rfl rfl (r_extract rfl (.t rfl rfl) rfl) ?_
        refine s_val hS29 rfl rfl (r_assign rfl (.t rfl rfl)) ?_
        refine s_val hS29 rfl rfl (r_assign rfl (.t rfl rfl)) ?_
        refine s_val hS29 rfl rfl (r_assign rfl (.t rfl rfl)) ?_
        refine wpList_nil ?_
        refine x_tn ?_
        refine k_reb [(2, .bool false), (3, .slice a1 Q.length c1), (4, .slice a2 B.length c2), (10, .int .i64 0), (12, .slice a21 X3.length c23), (13, .slice a22 Y3.length c24)] ⟨rfl, rfl, rfl, rfl, rfl, rfl, trivial⟩ fun G19 => ?_
        refine wp_seq ?_
        refine k_reg ?_
        refine s_val hS29 rfl rfl (r_move rfl (.t rfl rfl)) ?_
        refine s_call rfl rfl rfl (vs := [.int .i64 0]) ⟨(.t rfl rfl), trivial⟩ cb13 (num_ok w25 0) ?_
        rintro _ w25 ⟨rfl, rfl⟩
        refine s_val hS29 rfl rfl (r_cmp_t rfl rfl (.t rfl rfl) .c (show 0 = 0 from by omega)) ?_
        refine s_val hS29 rfl rfl (r_move rfl (.t rfl rfl)) ?_
        refine s_valg hS29 (wanted_of (j := 3) (b := true) (d := 124) rfl rfl rfl rfl) rfl (r_move rfl (.t rfl rfl)) ?_
        refine s_valg hS29 (wanted_of (j := 3) (b := true) (d := 124) rfl rfl rfl rfl) rfl (r_move rfl (.t rfl rfl)) ?_
        refine s_callg (wanted_of (j := 3) (b := true) (d := 124) rfl rfl rfl rfl) rfl rfl (vs := [.int .u64 1]) ⟨.c, trivial⟩ cb18 (from_ok w25 1 (by omega)) ?_
        intro v20 w26 hp23
        obtain ⟨N12, hp23, ⟨hNN12, hlN12⟩⟩ := hp23
        obtain ⟨a23, c25, rfl, hR129, -, hT23⟩ := id hp23
        have hW266 := Ow.from_ hS29 hp23
        have hS31 := hS29.keep hT23
        have hR130 := hR122.below hT23.toBelow (Nat.le_refl _)
        have hR131 := hR123.below hT23.toBelow (Nat.le_refl _)
        have hR132 := hR121.below hT23.toBelow (Nat.le_refl _)
        have hR133 := hR128.below hT23.toBelow (Nat.le_refl _)
        have hW267 := hW245.later hT23.toBelow
        have hW268 := hW246.later hT23.toBelow
        have hW269 := hW247.later hT23.toBelow
        have hW270 := hW248.later hT23.toBelow
        have hW271 := hW249.later hT23.toBelow
        have hW272 := hW250.later hT23.toBelow
        have hW273 := hW251.later hT23.toBelow
        have hW274 := hW252.later hT23.toBelow
        have hW275 := hW253.later hT23.toBelow
        have hW276 := hW254.later hT23.toBelow
        have hW277 := hW255.later hT23.toBelow
        have hW278 := hW256.later hT23.toBelow
        have hW279 := hW257.later hT23.toBelow
        have hW280 := hW258.later hT23.toBelow
        have hW281 := hW259.later hT23.toBelow
        have hW282 := hW260.later hT23.toBelow
        have hW283 := hW261.later hT23.toBelow
        have hW284 := hW262.later hT23.toBelow
        have hW285 := hW263.later hT23.toBelow
        have hW286 := hW264.later hT23.toBelow
        have hW287 := hW244.later hT23.toBelow
        have hW288 := hW265.later hT23.toBelow
        have hA23 := hp23.apart hS29 (m := 0) rfl
        have hnN12 := hNN12.len
        refine s_callg (wanted_of (j := 3) (b := true) (d := 124) rfl rfl rfl rfl) rfl rfl (vs := [.slice a1 Q.length c1, .slice a23 N12.length c25]) ⟨(.t rfl rfl), (.t rfl rfl), trivial⟩ cb15 (ladd_ok w26 a1 c1 Q hR130 a23 c25 N12 hR129 hNQ hNN12 (by (try simp only [hlM1, hlAA, k1, k2, hlN3, hlN4, hlN5, hlN6, hlN7, k3, k4, hlN8, hlN9, hlN10, hlN11, hlN12, lv_nil, Nat.mul_zero, Nat.add_zero]) <;> (first | assumption | omega))) ?_
        intro v21 w27 hp24
        obtain ⟨N13, hp24, ⟨hNN13, hlN13⟩⟩ := hp24
        obtain ⟨a24, c26, rfl, hR134, -, hT24⟩ := id hp24
        have hW289 := Ow.from_ hS31 hp24
        have hS32 := hS31.keep hT24
        have hR135 := hR130.below hT24.toBelow (Nat.le_refl _)
        have hR136 := hR131.below hT24.toBelow (Nat.le_refl _)
        have hR137 := hR132.below hT24.toBelow (Nat.le_refl _)
        have hR138 := hR133.below hT24.toBelow (Nat.le_refl _)
        have hR139 := hR129.below hT24.toBelow (Nat.le_refl _)
        have hW290 := hW267.later hT24.toBelow
        have hW291 := hW268.later hT24.toBelow
        have hW292 := hW269.later hT24.toBelow
        have hW293 := hW270.later hT24.toBelow
        have hW294 := hW271.later hT24.toBelow
        have hW295 := hW272.later hT24.toBelow
        have hW296 := hW273.later hT24.toBelow
        have hW297 := hW274.later hT24.toBelow
        have hW298 := hW275.later hT24.toBelow
        have hW299 := hW276.later hT24.toBelow
        have hW300 := hW277.later hT24.toBelow
        have hW301 := hW278.later hT24.toBelow
        have hW302 := hW279.later hT24.toBelow
        have hW303 := hW280.later hT24.toBelow
        have hW304 := hW281.later hT24.toBelow
        have hW305 := hW282.later hT24.toBelow
        have hW306 := hW283.later hT24.toBelow
        have hW307 := hW284.later hT24.toBelow
        have hW308 := hW285.later hT24.toBelow
        have hW309 := hW286.later hT24.toBelow
        have hW310 := hW287.later hT24.toBelow
        have hW311 := hW288.later hT24.toBelow
        have hW312 := hW266.later hT24.toBelow
        have hA24 := hp24.apart hS31 (m := 0) rfl
        have hnN13 := hNN13.len
        refine s_callg (wanted_of (j := 3) (b := true) (d := 124) rfl rfl rfl rfl) rfl rfl (vs := [.slice a21 X3.length c23, .slice a24 N13.length c26]) ⟨(.t rfl rfl), (.t rfl rfl), trivial⟩ cb19 (lmul_ok w27 a21 c23 X3 hR137 a24 c26 N13 hR134 hNX3 hNN13 (by (try simp only [hlM1, hlAA, k1, k2, hlN3, hlN4, hlN5, hlN6, hlN7, k3, k4, hlN8, hlN9, hlN10, hlN11, hlN12, hlN13, lv_nil, Nat.mul_zero, Nat.add_zero]) <;> (first | assumption | omega))) ?_
        intro v22 w28 hp25
        obtain ⟨N14, hp25, ⟨hNN14, hlN14⟩⟩ := hp25
        obtain ⟨a25, c27, rfl, hR140, -, hT25⟩ := id hp25
        have hW313 := Ow.from_ hS32 hp25
        have hS33 := hS32.keep hT25
        have hR141 := hR135.below hT25.toBelow (Nat.le_refl _)
        have hR142 := hR136.below hT25.toBelow (Nat.le_refl _)
        have hR143 := hR137.below hT25.toBelow (Nat.le_refl _)
        have hR144 := hR138.below hT25.toBelow (Nat.le_refl _)
        have hR145 := hR139.below hT25.toBelow (Nat.le_refl _)
        have hR146 := hR134.below hT25.toBelow (Nat.le_refl _)
        have hW314 := hW290.later hT25.toBelow
        have hW315 := hW291.later hT25.toBelow
        have hW316 := hW292.later hT25.toBelow
        have hW317 := hW293.later hT25.toBelow
        have hW318 := hW294.later hT25.toBelow
        have hW319 := hW295.later hT25.toBelow
        have hW320 := hW296.later hT25.toBelow
        have hW321 := hW297.later hT25.toBelow
        have hW322 := hW298.later hT25.toBelow
        have hW323 := hW299.later hT25.toBelow
        have hW324 := hW300.later hT25.toBelow
        have hW325 := hW301.later hT25.toBelow
        have hW326 := hW302.later hT25.toBelow
        have hW327 := hW303.later hT25.toBelow
        have hW328 := hW304.later hT25.toBelow
        have hW329 := hW305.later hT25.toBelow
        have hW330 := hW306.later hT25.toBelow
        have hW331 := hW307.later hT25.toBelow
        have hW332 := hW308.later hT25.toBelow
        have hW333 := hW309.later hT25.toBelow
        have hW334 := hW310.later hT25.toBelow
        have hW335 := hW311.later hT25.toBelow
        have hW336 := hW312.later hT25.toBelow
        have hW337 := hW289.later hT25.toBelow
        have hA25 := hp25.apart hS32 (m := 0) rfl
        have hnN14 := hNN14.len
        refine s_valg hS33 (wanted_of (j := 3) (b := true) (d := 124) rfl rfl rfl rfl) rfl (r_move rfl (.t rfl rfl)) ?_
        refine s_callg (wanted_of (j := 3) (b := true) (d := 124) rfl rfl rfl rfl) rfl rfl (vs := [.slice a25 N14.length c27, .slice a22 Y3.length c24]) ⟨(.t rfl rfl), (.t rfl rfl), trivial⟩ cb15 (ladd_ok w28 a25 c27 N14 hR140 a22 c24 Y3 hR144 hNN14 hNY3 (by (try simp only [hlM1, hlAA, k1, k2, hlN3, hlN4, hlN5, hlN6, hlN7, k3, k4, hlN8, hlN9, hlN10, hlN11, hlN12, hlN13, hlN14, lv_nil, Nat.mul_zero, Nat.add_zero]) <;> (first | assumption | omega))) ?_
        intro v23 w29 hp26
        obtain ⟨N15, hp26, ⟨hNN15, hlN15⟩⟩ := hp26
        obtain ⟨a26, c28, rfl, hR147, -, hT26⟩ := id hp26
        have hW338 := Ow.from_ hS33 hp26
        have hS34 := hS33.keep hT26
        have hR148 := hR141.below hT26.toBelow (Nat.le_refl _)
        have hR149 := hR142.below hT26.toBelow (Nat.le_refl _)
        have hR150 := hR143.below hT26.toBelow (Nat.le_refl _)
        have hR151 := hR144.below hT26.toBelow (Nat.le_refl _)
        have hR152 := hR145.below hT26.toBelow (Nat.le_refl _)
        have hR153 := hR146.below hT26.toBelow (Nat.le_refl _)
        have hR154 := hR140.below hT26.toBelow (Nat.le_refl _)
        have hW339 := hW314.later hT26.toBelow
        have hW340 := hW315.later hT26.toBelow
        have hW341 := hW316.later hT26.toBelow
        have hW342 := hW317.later hT26.toBelow
        have hW343 := hW318.later hT26.toBelow
        have hW344 := hW319.later hT26.toBelow
        have hW345 := hW320.later hT26.toBelow
        have hW346 := hW321.later hT26.toBelow
        have hW347 := hW322.later hT26.toBelow
        have hW348 := hW323.later hT26.toBelow
        have hW349 := hW324.later hT26.toBelow
        have hW350 := hW325.later hT26.toBelow
        have hW351 := hW326.later hT26.toBelow
        have hW352 := hW327.later hT26.toBelow
        have hW353 := hW328.later hT26.toBelow
        have hW354 := hW329.later hT26.toBelow
        have hW355 := hW330.later hT26.toBelow
        have hW356 := hW331.later hT26.toBelow
        have hW357 := hW332.later hT26.toBelow
        have hW358 := hW333.later hT26.toBelow
        have hW359 := hW334.later hT26.toBelow
        have hW360 := hW335.later hT26.toBelow
        have hW361 := hW336.later hT26.toBelow
        have hW362 := hW337.later hT26.toBelow
        have hW363 := hW313.later hT26.toBelow
        have hA26 := hp26.apart hS33 (m := 0) rfl
        have hnN15 := hNN15.len
        refine s_valg hS34 (wanted_of (j := 3) (b := true) (d := 124) rfl rfl rfl rfl) rfl (r_move rfl (.t rfl rfl)) ?_
        refine s_callg (wanted_of (j := 3) (b := true) (d := 124) rfl rfl rfl rfl) rfl rfl (vs := [.slice a26 N15.length c28, .slice a2 B.length c2]) ⟨(.t rfl rfl), (.t rfl rfl), trivial⟩ cb14 (eq_ok w29 a26 c28 N15 hR147 a2 c2 B hR149 hNN15 hNB) ?_
        rintro _ w30 ⟨⟨hc6, rfl⟩ | ⟨hc6, rfl⟩, hB9⟩
        rotate_left
        · exact absurd ((by (try simp only [hlM1, hlAA, k1, k2, hlN3, hlN4, hlN5, hlN6, hlN7, k3, k4, hlN8, hlN9, hlN10, hlN11, hlN12, hlN13, hlN14, hlN15, lv_nil, Nat.mul_zero, Nat.add_zero]) <;> (first | rfl | omega | grind))) hc6
        have hS35 := hS34.keep hB9
        replace hB9 := hB9.toBelow
        have hR155 := hR148.below hB9 (Nat.le_refl _)
        have hR156 := hR149.below hB9 (Nat.le_refl _)
        have hR157 := hR150.below hB9 (Nat.le_refl _)
        have hR158 := hR151.below hB9 (Nat.le_refl _)
        have hR159 := hR152.below hB9 (Nat.le_refl _)
        have hR160 := hR153.below hB9 (Nat.le_refl _)
        have hR161 := hR154.below hB9 (Nat.le_refl _)
        have hR162 := hR147.below hB9 (Nat.le_refl _)
        have hW364 := hW339.later hB9
        have hW365 := hW340.later hB9
        have hW366 := hW341.later hB9
        have hW367 := hW342.later hB9
        have hW368 := hW343.later hB9
        have hW369 := hW344.later hB9
        have hW370 := hW345.later hB9
        have hW371 := hW346.later hB9
        have hW372 := hW347.later hB9
        have hW373 := hW348.later hB9
        have hW374 := hW349.later hB9
        have hW375 := hW350.later hB9
        have hW376 := hW351.later hB9
        have hW377 := hW352.later hB9
        have hW378 := hW353.later hB9
        have hW379 := hW354.later hB9
        have hW380 := hW355.later hB9
        have hW381 := hW356.later hB9
        have hW382 := hW357.later hB9
        have hW383 := hW358.later hB9
        have hW384 := hW359.later hB9
        have hW385 := hW360.later hB9
        have hW386 := hW361.later hB9
        have hW387 := hW362.later hB9
        have hW388 := hW363.later hB9
        have hW389 := hW338.later hB9
        refine s_val hS35 rfl rfl (r_pick rfl (.t rfl rfl) (.t rfl rfl)) ?_
        refine s_val hS35 rfl rfl (r_move rfl (.t rfl rfl)) ?_
        refine s_valg hS35 (wanted_of (j := 14) (b := true) (d := 135) rfl rfl rfl rfl) rfl (r_move rfl (.t rfl rfl)) ?_
        refine s_valg hS35 (wanted_of (j := 14) (b := true) (d := 135) rfl rfl rfl rfl) rfl (r_move rfl (.t rfl rfl)) ?_
        refine s_callg (wanted_of (j := 14) (b := true) (d := 135) rfl rfl rfl rfl) rfl rfl (vs := [.int .u64 1]) ⟨.c, trivial⟩ cb18 (from_ok w30 1 (by omega)) ?_
        intro v24 w31 hp27
        obtain ⟨N16, hp27, ⟨hNN16, hlN16⟩⟩ := hp27
        obtain ⟨a27, c29, rfl, hR163, -, hT27⟩ := id hp27
        have hW390 := Ow.from_ hS35 hp27
        have hS36 := hS35.keep hT27
        have hR164 := hR155.below hT27.toBelow (Nat.le_refl _)
        have hR165 := hR156.below hT27.toBelow (Nat.le_refl _)
        have hR166 := hR157.below hT27.toBelow (Nat.le_refl _)
        have hR167 := hR158.below hT27.toBelow (Nat.le_refl _)
        have hR168 := hR159.below hT27.toBelow (Nat.le_refl _)
        have hR169 := hR160.below hT27.toBelow (Nat.le_refl _)
        have hR170 := hR161.below hT27.toBelow (Nat.le_refl _)
        have hR171 := hR162.below hT27.toBelow (Nat.le_refl _)
        have hW391 := hW364.later hT27.toBelow
        have hW392 := hW365.later hT27.toBelow
        have hW393 := hW366.later hT27.toBelow
        have hW394 := hW367.later hT27.toBelow
        have hW395 := hW368.later hT27.toBelow
        have hW396 := hW369.later hT27.toBelow
        have hW397 := hW370.later hT27.toBelow
        have hW398 := hW371.later hT27.toBelow
        have hW399 := hW372.later hT27.toBelow
        have hW400 := hW373.later hT27.toBelow
        have hW401 := hW374.later hT27.toBelow
        have hW402 := hW375.later hT27.toBelow
        have hW403 := hW376.later hT27.toBelow
        have hW404 := hW377.later hT27.toBelow
        have hW405 := hW378.later hT27.toBelow
        have hW406 := hW379.later hT27.toBelow
        have hW407 := hW380.later hT27.toBelow
        have hW408 := hW381.later hT27.toBelow
        have hW409 := hW382.later hT27.toBelow
        have hW410 := hW383.later hT27.toBelow
        have hW411 := hW384.later hT27.toBelow
        have hW412 := hW385.later hT27.toBelow
        have hW413 := hW386.later hT27.toBelow
        have hW414 := hW387.later hT27.toBelow
        have hW415 := hW388.later hT27.toBelow
        have hW416 := hW389.later hT27.toBelow
        have hA27 := hp27.apart hS35 (m := 0) rfl
        have hnN16 := hNN16.len
        refine s_callg (wanted_of (j := 14) (b := true) (d := 135) rfl rfl rfl rfl) rfl rfl (vs := [.slice a1 Q.length c1, .slice a27 N16.length c29]) ⟨(.t rfl rfl), (.t rfl rfl), trivial⟩ cb15 (ladd_ok w31 a1 c1 Q hR164 a27 c29 N16 hR163 hNQ hNN16 (by (try simp only [hlM1, hlAA, k1, k2, hlN3, hlN4, hlN5, hlN6, hlN7, k3, k4, hlN8, hlN9, hlN10, hlN11, hlN12, hlN13, hlN14, hlN15, hlN16, lv_nil, Nat.mul_zero, Nat.add_zero]) <;> (first | assumption | omega))) ?_
        intro v25 w32 hp28
        obtain ⟨N17, hp28, ⟨hNN17, hlN17⟩⟩ := hp28
        obtain ⟨a28, c30, rfl, hR172, -, hT28⟩ := id hp28
        have hW417 := Ow.from_ hS36 hp28
        have hS37 := hS36.keep hT28
        have hR173 := hR164.below hT28.toBelow (Nat.le_refl _)
        have hR174 := hR165.below hT28.toBelow (Nat.le_refl _)
        have hR175 := hR166.below hT28.toBelow (Nat.le_refl _)
        have hR176 := hR167.below hT28.toBelow (Nat.le_refl _)
        have hR177 := hR168.below hT28.toBelow (Nat.le_refl _)
        have hR178 := hR169.below hT28.toBelow (Nat.le_refl _)
        have hR179 := hR170.below hT28.toBelow (Nat.le_refl _)
        have hR180 := hR171.below hT28.toBelow (Nat.le_refl _)
        have hR181 := hR163.below hT28.toBelow (Nat.le_refl _)
        have hW418 := hW391.later hT28.toBelow
        have hW419 := hW392.later hT28.toBelow
        have hW420 := hW393.later hT28.toBelow
        have hW421 := hW394.later hT28.toBelow
        have hW422 := hW395.later hT28.toBelow
        have hW423 := hW396.later hT28.toBelow
        have hW424 := hW397.later hT28.toBelow
        have hW425 := hW398.later hT28.toBelow
        have hW426 := hW399.later hT28.toBelow
        have hW427 := hW400.later hT28.toBelow
        have hW428 := hW401.later hT28.toBelow
        have hW429 := hW402.later hT28.toBelow
        have hW430 := hW403.later hT28.toBelow
        have hW431 := hW404.later hT28.toBelow
        have hW432 := hW405.later hT28.toBelow
        have hW433 := hW406.later hT28.toBelow
        have hW434 := hW407.later hT28.toBelow
        have hW435 := hW408.later hT28.toBelow
        have hW436 := hW409.later hT28.toBelow
        have hW437 := hW410.later hT28.toBelow
        have hW438 := hW411.later hT28.toBelow
        have hW439 := hW412.later hT28.toBelow
        have hW440 := hW413.later hT28.toBelow
        have hW441 := hW414.later hT28.toBelow
        have hW442 := hW415.later hT28.toBelow
        have hW443 := hW416.later hT28.toBelow
        have hW444 := hW390.later hT28.toBelow
        have hA28 := hp28.apart hS36 (m := 0) rfl
        have hnN17 := hNN17.len
        refine s_callg (wanted_of (j := 14) (b := true) (d := 135) rfl rfl rfl rfl) rfl rfl (vs := [.slice a22 Y3.length c24, .slice a28 N17.length c30]) ⟨(.t rfl rfl), (.t rfl rfl), trivial⟩ cb28 (Cmp_ok w32 a22 c24 Y3 hR176 a28 c30 N17 hR172 hNY3 hNN17) ?_
        rintro _ w33 ⟨hp29, hB10⟩
        have hS38 := hS37.keep hB10
        replace hB10 := hB10.toBelow
        have hR182 := hR173.below hB10 (Nat.le_refl _)
        have hR183 := hR174.below hB10 (Nat.le_refl _)
        have hR184 := hR175.below hB10 (Nat.le_refl _)
        have hR185 := hR176.below hB10 (Nat.le_refl _)
        have hR186 := hR177.below hB10 (Nat.le_refl _)
        have hR187 := hR178.below hB10 (Nat.le_refl _)
        have hR188 := hR179.below hB10 (Nat.le_refl _)
        have hR189 := hR180.below hB10 (Nat.le_refl _)
        have hR190 := hR181.below hB10 (Nat.le_refl _)
        have hR191 := hR172.below hB10 (Nat.le_refl _)
        have hW445 := hW418.later hB10
        have hW446 := hW419.later hB10
        have hW447 := hW420.later hB10
        have hW448 := hW421.later hB10
        have hW449 := hW422.later hB10
        have hW450 := hW423.later hB10
        have hW451 := hW424.later hB10
        have hW452 := hW425.later hB10
        have hW453 := hW426.later hB10
        have hW454 := hW427.later hB10
        have hW455 := hW428.later hB10
        have hW456 := hW429.later hB10
        have hW457 := hW430.later hB10
        have hW458 := hW431.later hB10
        have hW459 := hW432.later hB10
        have hW460 := hW433.later hB10
        have hW461 := hW434.later hB10
        have hW462 := hW435.later hB10
        have hW463 := hW436.later hB10
        have hW464 := hW437.later hB10
        have hW465 := hW438.later hB10
        have hW466 := hW439.later hB10
        have hW467 := hW440.later hB10
        have hW468 := hW441.later hB10
        have hW469 := hW442.later hB10
        have hW470 := hW443.later hB10
        have hW471 := hW444.later hB10
        have hW472 := hW417.later hB10
        rcases hp29 with ⟨hc7, rfl⟩ | ⟨hc7, rfl⟩ | ⟨hc7, rfl⟩
        · refine s_valg hS38 (wanted_of (j := 14) (b := true) (d := 135) rfl rfl rfl rfl) rfl (r_cmp_t rfl rfl (.t rfl rfl) .c (show (-1) < 0 from by omega)) ?_
          refine s_val hS38 rfl rfl (r_pick rfl (.t rfl rfl) (.t rfl rfl)) ?_
          refine s_val hS38 rfl rfl (r_move rfl (.t rfl rfl)) ?_
          refine s_callg (wanted_of (j := 22) (b := true) (d := 143) rfl rfl rfl rfl) rfl rfl (vs := []) trivial cb16 (wakes_ok w33 ) ?_
          intro v26 w34 hp30
          obtain ⟨hp30, hB11⟩ := hp30
          have hS39 := hS38.keep hB11
          replace hB11 := hB11.toBelow
          have hR192 := hR182.below hB11 (Nat.le_refl _)
          have hR193 := hR183.below hB11 (Nat.le_refl _)
          have hR194 := hR184.below hB11 (Nat.le_refl _)
          have hR195 := hR185.below hB11 (Nat.le_refl _)
          have hR196 := hR186.below hB11 (Nat.le_refl _)
          have hR197 := hR187.below hB11 (Nat.le_refl _)
          have hR198 := hR188.below hB11 (Nat.le_refl _)
          have hR199 := hR189.below hB11 (Nat.le_refl _)
          have hR200 := hR190.below hB11 (Nat.le_refl _)
          have hR201 := hR191.below hB11 (Nat.le_refl _)
          have hW473 := hW445.later hB11
          have hW474 := hW446.later hB11
          have hW475 := hW447.later hB11
          have hW476 := hW448.later hB11
          have hW477 := hW449.later hB11
          have hW478 := hW450.later hB11
          have hW479 := hW451.later hB11
          have hW480 := hW452.later hB11
          have hW481 := hW453.later hB11
          have hW482 := hW454.later hB11
          have hW483 := hW455.later hB11
          have hW484 := hW456.later hB11
          have hW485 := hW457.later hB11
          have hW486 := hW458.later hB11
          have hW487 := hW459.later hB11
          have hW488 := hW460.later hB11
          have hW489 := hW461.later hB11
          have hW490 := hW462.later hB11
          have hW491 := hW463.later hB11
          have hW492 := hW464.later hB11
          have hW493 := hW465.later hB11
          have hW494 := hW466.later hB11
          have hW495 := hW467.later hB11
          have hW496 := hW468.later hB11
          have hW497 := hW469.later hB11
          have hW498 := hW470.later hB11
          have hW499 := hW471.later hB11
          have hW500 := hW472.later hB11
          obtain rfl := hp30
          refine s_val hS39 rfl rfl (r_pick rfl (.t rfl rfl) (.t rfl rfl)) ?_
          refine s_val hS39 rfl rfl (r_assign rfl (.t rfl rfl)) ?_
          refine wpList_nil ?_
          refine x_tn ?_
          refine k_reb [(2, .bool true)] ⟨rfl, trivial⟩ fun G20 => ?_
          refine wp_ret ?_
          refine k_ret1 Try.results6 rfl rfl ?_
          refine ⟨_, rfl, ?_⟩
          exact ⟨rfl, hS39.none⟩
        · exfalso; (try simp only [hlM1, hlAA, k1, k2, hlN3, hlN4, hlN5, hlN6, hlN7, k3, k4, hlN8, hlN9, hlN10, hlN11, hlN12, hlN13, hlN14, hlN15, hlN16, hlN17] at hc7); omega
        · exfalso; (try simp only [hlM1, hlAA, k1, k2, hlN3, hlN4, hlN5, hlN6, hlN7, k3, k4, hlN8, hlN9, hlN10, hlN11, hlN12, hlN13, hlN14, hlN15, hlN16, hlN17] at hc7); omega
      · refine s_val hS15 rfl rfl (r_cmp_f rfl rfl (.t rfl rfl) .c (show ¬ (((R1.length : Nat) : Int) > 0) from by omega)) ?_
        refine wpList_nil ?_
        refine x_tn ?_
        refine k_reb [(2, .bool false), (3, .slice a1 Q.length c1), (4, .slice a2 B.length c2), (10, .int .i64 0), (12, .slice a8 X1.length c9), (13, .slice a9 Y1.length c10), (81, .bool false)] ⟨rfl, rfl, rfl, rfl, rfl, rfl, rfl, trivial⟩ fun G21 => ?_
        refine k_f (.t rfl rfl) ?_
        refine wp_skip ?_
        refine x_tn ?_
        refine k_reb [(2, .bool false), (3, .slice a1 Q.length c1), (4, .slice a2 B.length c2), (10, .int .i64 0), (12, .slice a8 X1.length c9), (13, .slice a9 Y1.length c10)] ⟨rfl, rfl, rfl, rfl, rfl, rfl, trivial⟩ fun G22 => ?_
        refine wp_seq ?_
        refine k_reg ?_
        refine s_val hS15 rfl rfl (r_move rfl (.t rfl rfl)) ?_
        refine s_val hS15 rfl rfl (r_move rfl (.t rfl rfl)) ?_
        refine s_call rfl rfl rfl (vs := [.int .u64 1]) ⟨.c, trivial⟩ cb18 (from_ok w12 1 (by omega)) ?_
        intro v27 w35 hp31
        obtain ⟨N18, hp31, ⟨hNN18, hlN18⟩⟩ := hp31
        obtain ⟨a29, c31, rfl, hR202, -, hT29⟩ := id hp31
        have hW501 := Ow.from_ hS15 hp31
        have hS40 := hS15.keep hT29
        have hR203 := hR38.below hT29.toBelow (Nat.le_refl _)
        have hR204 := hR39.below hT29.toBelow (Nat.le_refl _)
        have hR205 := hR41.below hT29.toBelow (Nat.le_refl _)
        have hR206 := hR42.below hT29.toBelow (Nat.le_refl _)
        have hW502 := hW51.later hT29.toBelow
        have hW503 := hW52.later hT29.toBelow
        have hW504 := hW53.later hT29.toBelow
        have hW505 := hW54.later hT29.toBelow
        have hW506 := hW55.later hT29.toBelow
        have hW507 := hW56.later hT29.toBelow
        have hW508 := hW57.later hT29.toBelow
        have hW509 := hW58.later hT29.toBelow
        have hW510 := hW59.later hT29.toBelow
        have hA29 := hp31.apart hS15 (m := 0) rfl
        have hnN18 := hNN18.len
        refine s_call rfl rfl rfl (vs := [.slice a1 Q.length c1, .slice a29 N18.length c31]) ⟨(.t rfl rfl), (.t rfl rfl), trivial⟩ cb15 (ladd_ok w35 a1 c1 Q hR203 a29 c31 N18 hR202 hNQ hNN18 (by (try simp only [hlM1, hlAA, k1, k2, hlN18, lv_nil, Nat.mul_zero, Nat.add_zero]) <;> (first | assumption | omega))) ?_
        intro v28 w36 hp32
        obtain ⟨N19, hp32, ⟨hNN19, hlN19⟩⟩ := hp32
        obtain ⟨a30, c32, rfl, hR207, -, hT30⟩ := id hp32
        have hW511 := Ow.from_ hS40 hp32
        have hS41 := hS40.keep hT30
        have hR208 := hR203.below hT30.toBelow (Nat.le_refl _)
        have hR209 := hR204.below hT30.toBelow (Nat.le_refl _)
        have hR210 := hR205.below hT30.toBelow (Nat.le_refl _)
        have hR211 := hR206.below hT30.toBelow (Nat.le_refl _)
        have hR212 := hR202.below hT30.toBelow (Nat.le_refl _)
        have hW512 := hW502.later hT30.toBelow
        have hW513 := hW503.later hT30.toBelow
        have hW514 := hW504.later hT30.toBelow
        have hW515 := hW505.later hT30.toBelow
        have hW516 := hW506.later hT30.toBelow
        have hW517 := hW507.later hT30.toBelow
        have hW518 := hW508.later hT30.toBelow
        have hW519 := hW509.later hT30.toBelow
        have hW520 := hW510.later hT30.toBelow
        have hW521 := hW501.later hT30.toBelow
        have hA30 := hp32.apart hS40 (m := 0) rfl
        have hnN19 := hNN19.len
        refine s_call rfl rfl rfl (vs := [.slice a2 B.length c2, .slice a30 N19.length c32]) ⟨(.t rfl rfl), (.t rfl rfl), trivial⟩ cb17 (DivMod_ok w36 a2 c2 B hR209 a30 c32 N19 hR207 hNB hNN19 (by omega)) ?_
        rintro v29 w37 ⟨X3, Y3, _, _, rfl, hp33, hq6, hNX3, hNY3, hlX3, hlY3⟩
        obtain ⟨a31, c33, rfl, hR213, -, hT31⟩ := id hp33
        have hW522 := Ow.from_ hS41 hp33
        have hS42 := hS41.keep hT31
        have hR214 := hR208.below hT31.toBelow (Nat.le_refl _)
        have hR215 := hR209.below hT31.toBelow (Nat.le_refl _)
        have hR216 := hR210.below hT31.toBelow (Nat.le_refl _)
        have hR217 := hR211.below hT31.toBelow (Nat.le_refl _)
        have hR218 := hR212.below hT31.toBelow (Nat.le_refl _)
        have hR219 := hR207.below hT31.toBelow (Nat.le_refl _)
        have hW523 := hW512.later hT31.toBelow
        have hW524 := hW513.later hT31.toBelow
        have hW525 := hW514.later hT31.toBelow
        have hW526 := hW515.later hT31.toBelow
        have hW527 := hW516.later hT31.toBelow
        have hW528 := hW517.later hT31.toBelow
        have hW529 := hW518.later hT31.toBelow
        have hW530 := hW519.later hT31.toBelow
        have hW531 := hW520.later hT31.toBelow
        have hW532 := hW521.later hT31.toBelow
        have hW533 := hW511.later hT31.toBelow
        have hA31 := hp33.apart hS41 (m := 0) rfl
        obtain ⟨a32, c34, rfl, hR220, -, hT32⟩ := id hq6
        have hW534 := Ow.from_ hS41 hq6
        have hA32 := hq6.apart hS41 (m := 0) rfl
        have hnX3 := hNX3.len
        have hnY3 := hNY3.len
        have k5 : lv X3 * (lv Q + 1) + lv Y3 = lv B := by rw [hlX3, hlY3]; simp only [hlM1, hlAA, k1, k2, hlN18, hlN19]; exact Nat.div_add_mod' _ _
        have k6 : lv Y3 < lv Q + 1 := by rw [hlY3]; simp only [hlM1, hlAA, k1, k2, hlN18, hlN19]; exact Nat.mod_lt _ (Nat.succ_pos _)
        have k7 : lv X3 * (lv Q + 1) < Top := by omega
        refine s_val hS42 rfl rfl (r_move rfl (.t rfl rfl)) ?_
        refine s_val hS42 rfl rfl (r_extract rfl (.t rfl rfl) rfl) ?_
        refine s_val hS42 rfl rfl (r_extract rfl (.t rfl rfl) rfl) ?_
        refine s_val hS42 rfl rfl (r_extract rfl (.t rfl rfl) rfl) ?_
        refine s_val hS42 rfl rfl (r_assign rfl (.t rfl rfl)) ?_
        refine s_val hS42 rfl rfl (r_assign rfl (.t rfl rfl)) ?_
        refine s_val hS42 rfl rfl (r_assign rfl (.t rfl rfl)) ?_
        refine wpList_nil ?_
        refine x_tn ?_
        refine k_reb [(2, .bool false), (3, .slice a1 Q.length c1), (4, .slice a2 B.length c2), (10, .int .i64 0), (12, .slice a31 X3.length c33), (13, .slice a32 Y3.length c34)] ⟨rfl, rfl, rfl, rfl, rfl, rfl, trivial⟩ fun G23 => ?_
        refine wp_seq ?_
        refine k_reg ?_
        refine s_val hS42 rfl rfl (r_move rfl (.t rfl rfl)) ?_
        refine s_call rfl rfl rfl (vs := [.int .i64 0]) ⟨(.t rfl rfl), trivial⟩ cb13 (num_ok w37 0) ?_
        rintro _ w37 ⟨rfl, rfl⟩
        refine s_val hS42 rfl rfl (r_cmp_t rfl rfl (.t rfl rfl) .c (show 0 = 0 from by omega)) ?_
        refine s_val hS42 rfl rfl (r_move rfl (.t rfl rfl)) ?_
        refine s_valg hS42 (wanted_of (j := 3) (b := true) (d := 124) rfl rfl rfl rfl) rfl (r_move rfl (.t rfl rfl)) ?_
        refine s_valg hS42 (wanted_of (j := 3) (b := true) (d := 124) rfl rfl rfl rfl) rfl (r_move rfl (.t rfl rfl)) ?_
        refine s_callg (wanted_of (j := 3) (b := true) (d := 124) rfl rfl rfl rfl) rfl rfl (vs := [.int .u64 1]) ⟨.c, trivial⟩ cb18 (from_ok w37 1 (by omega)) ?_
        intro v30 w38 hp34
        obtain ⟨N20, hp34, ⟨hNN20, hlN20⟩⟩ := hp34
        obtain ⟨a33, c35, rfl, hR221, -, hT33⟩ := id hp34
        have hW535 := Ow.from_ hS42 hp34
        have hS44 := hS42.keep hT33
        have hR222 := hR214.below hT33.toBelow (Nat.le_refl _)
        have hR223 := hR215.below hT33.toBelow (Nat.le_refl _)
        have hR224 := hR213.below hT33.toBelow (Nat.le_refl _)
        have hR225 := hR220.below hT33.toBelow (Nat.le_refl _)
        have hW536 := hW523.later hT33.toBelow
        have hW537 := hW524.later hT33.toBelow
        have hW538 := hW525.later hT33.toBelow
        have hW539 := hW526.later hT33.toBelow
        have hW540 := hW527.later hT33.toBelow
        have hW541 := hW528.later hT33.toBelow
        have hW542 := hW529.later hT33.toBelow
        have hW543 := hW530.later hT33.toBelow
        have hW544 := hW531.later hT33.toBelow
        have hW545 := hW532.later hT33.toBelow
        have hW546 := hW533.later hT33.toBelow
        have hW547 := hW522.later hT33.toBelow
        have hW548 := hW534.later hT33.toBelow
        have hA33 := hp34.apart hS42 (m := 0) rfl
        have hnN20 := hNN20.len
        refine s_callg (wanted_of (j := 3) (b := true) (d := 124) rfl rfl rfl rfl) rfl rfl (vs := [.slice a1 Q.length c1, .slice a33 N20.length c35]) ⟨(.t rfl rfl), (.t rfl rfl), trivial⟩ cb15 (ladd_ok w38 a1 c1 Q hR222 a33 c35 N20 hR221 hNQ hNN20 (by (try simp only [hlM1, hlAA, k1, k2, hlN18, hlN19, hlN20, lv_nil, Nat.mul_zero, Nat.add_zero]) <;> (first | assumption | omega))) ?_
        intro v31 w39 hp35
        obtain ⟨N21, hp35, ⟨hNN21, hlN21⟩⟩ := hp35
        obtain ⟨a34, c36, rfl, hR226, -, hT34⟩ := id hp35
        have hW549 := Ow.from_ hS44 hp35
        have hS45 := hS44.keep hT34
        have hR227 := hR222.below hT34.toBelow (Nat.le_refl _)
        have hR228 := hR223.below hT34.toBelow (Nat.le_refl _)
        have hR229 := hR224.below hT34.toBelow (Nat.le_refl _)
        have hR230 := hR225.below hT34.toBelow (Nat.le_refl _)
        have hR231 := hR221.below hT34.toBelow (Nat.le_refl _)
        have hW550 := hW536.later hT34.toBelow
        have hW551 := hW537.later hT34.toBelow
        have hW552 := hW538.later hT34.toBelow
        have hW553 := hW539.later hT34.toBelow
        have hW554 := hW540.later hT34.toBelow
        have hW555 := hW541.later hT34.toBelow
        have hW556 := hW542.later hT34.toBelow
        have hW557 := hW543.later hT34.toBelow
        have hW558 := hW544.later hT34.toBelow
        have hW559 := hW545.later hT34.toBelow
        have hW560 := hW546.later hT34.toBelow
        have hW561 := hW547.later hT34.toBelow
        have hW562 := hW548.later hT34.toBelow
        have hW563 := hW535.later hT34.toBelow
        have hA34 := hp35.apart hS44 (m := 0) rfl
        have hnN21 := hNN21.len
        refine s_callg (wanted_of (j := 3) (b := true) (d := 124) rfl rfl rfl rfl) rfl rfl (vs := [.slice a31 X3.length c33, .slice a34 N21.length c36]) ⟨(.t rfl rfl), (.t rfl rfl), trivial⟩ cb19 (lmul_ok w39 a31 c33 X3 hR229 a34 c36 N21 hR226 hNX3 hNN21 (by (try simp only [hlM1, hlAA, k1, k2, hlN18, hlN19, hlN20, hlN21, lv_nil, Nat.mul_zero, Nat.add_zero]) <;> (first | assumption | omega))) ?_
        intro v32 w40 hp36
        obtain ⟨N22, hp36, ⟨hNN22, hlN22⟩⟩ := hp36
        obtain ⟨a35, c37, rfl, hR232, -, hT35⟩ := id hp36
        have hW564 := Ow.from_ hS45 hp36
        have hS46 := hS45.keep hT35
        have hR233 := hR227.below hT35.toBelow (Nat.le_refl _)
        have hR234 := hR228.below hT35.toBelow (Nat.le_refl _)
        have hR235 := hR229.below hT35.toBelow (Nat.le_refl _)
        have hR236 := hR230.below hT35.toBelow (Nat.le_refl _)
        have hR237 := hR231.below hT35.toBelow (Nat.le_refl _)
        have hR238 := hR226.below hT35.toBelow (Nat.le_refl _)
        have hW565 := hW550.later hT35.toBelow
        have hW566 := hW551.later hT35.toBelow
        have hW567 := hW552.later hT35.toBelow
        have hW568 := hW553.later hT35.toBelow
        have hW569 := hW554.later hT35.toBelow
        have hW570 := hW555.later hT35.toBelow
        have hW571 := hW556.later hT35.toBelow
        have hW572 := hW557.later hT35.toBelow
        have hW573 := hW558.later hT35.toBelow
        have hW574 := hW559.later hT35.toBelow
        have hW575 := hW560.later hT35.toBelow
        have hW576 := hW561.later hT35.toBelow
        have hW577 := hW562.later hT35.toBelow
        have hW578 := hW563.later hT35.toBelow
        have hW579 := hW549.later hT35.toBelow
        have hA35 := hp36.apart hS45 (m := 0) rfl
        have hnN22 := hNN22.len
        refine s_valg hS46 (wanted_of (j := 3) (b := true) (d := 124) rfl rfl rfl rfl) rfl (r_move rfl (.t rfl rfl)) ?_
        refine s_callg (wanted_of (j := 3) (b := true) (d := 124) rfl rfl rfl rfl) rfl rfl (vs := [.slice a35 N22.length c37, .slice a32 Y3.length c34]) ⟨(.t rfl rfl), (.t rfl rfl), trivial⟩ cb15 (ladd_ok w40 a35 c37 N22 hR232 a32 c34 Y3 hR236 hNN22 hNY3 (by (try simp only [hlM1, hlAA, k1, k2, hlN18, hlN19, hlN20, hlN21, hlN22, lv_nil, Nat.mul_zero, Nat.add_zero]) <;> (first | assumption | omega))) ?_
        intro v33 w41 hp37
        obtain ⟨N23, hp37, ⟨hNN23, hlN23⟩⟩ := hp37
        obtain ⟨a36, c38, rfl, hR239, -, hT36⟩ := id hp37
        have hW580 := Ow.from_ hS46 hp37
        have hS47 := hS46.keep hT36
        have hR240 := hR233.below hT36.toBelow (Nat.le_refl _)
        have hR241 := hR234.below hT36.toBelow (Nat.le_refl _)
        have hR242 := hR235.below hT36.toBelow (Nat.le_refl _)
        have hR243 := hR236.below hT36.toBelow (Nat.le_refl _)
        have hR244 := hR237.below hT36.toBelow (Nat.le_refl _)
        have hR245 := hR238.below hT36.toBelow (Nat.le_refl _)
        have hR246 := hR232.below hT36.toBelow (Nat.le_refl _)
        have hW581 := hW565.later hT36.toBelow
        have hW582 := hW566.later hT36.toBelow
        have hW583 := hW567.later hT36.toBelow
        have hW584 := hW568.later hT36.toBelow
        have hW585 := hW569.later hT36.toBelow
        have hW586 := hW570.later hT36.toBelow
        have hW587 := hW571.later hT36.toBelow
        have hW588 := hW572.later hT36.toBelow
        have hW589 := hW573.later hT36.toBelow
        have hW590 := hW574.later hT36.toBelow
        have hW591 := hW575.later hT36.toBelow
        have hW592 := hW576.later hT36.toBelow
        have hW593 := hW577.later hT36.toBelow
        have hW594 := hW578.later hT36.toBelow
        have hW595 := hW579.later hT36.toBelow
        have hW596 := hW564.later hT36.toBelow
        have hA36 := hp37.apart hS46 (m := 0) rfl
        have hnN23 := hNN23.len
        refine s_valg hS47 (wanted_of (j := 3) (b := true) (d := 124) rfl rfl rfl rfl) rfl (r_move rfl (.t rfl rfl)) ?_
        refine s_callg (wanted_of (j := 3) (b := true) (d := 124) rfl rfl rfl rfl) rfl rfl (vs := [.slice a36 N23.length c38, .slice a2 B.length c2]) ⟨(.t rfl rfl), (.t rfl rfl), trivial⟩ cb14 (eq_ok w41 a36 c38 N23 hR239 a2 c2 B hR241 hNN23 hNB) ?_
        rintro _ w42 ⟨⟨hc8, rfl⟩ | ⟨hc8, rfl⟩, hB12⟩
        rotate_left
        · exact absurd ((by (try simp only [hlM1, hlAA, k1, k2, hlN18, hlN19, hlN20, hlN21, hlN22, hlN23, lv_nil, Nat.mul_zero, Nat.add_zero]) <;> (first | rfl | omega | grind))) hc8
        have hS48 := hS47.keep hB12
        replace hB12 := hB12.toBelow
        have hR247 := hR240.below hB12 (Nat.le_refl _)
        have hR248 := hR241.below hB12 (Nat.le_refl _)
        have hR249 := hR242.below hB12 (Nat.le_refl _)
        have hR250 := hR243.below hB12 (Nat.le_refl _)
        have hR251 := hR244.below hB12 (Nat.le_refl _)
        have hR252 := hR245.below hB12 (Nat.le_refl _)
        have hR253 := hR246.below hB12 (Nat.le_refl _)
        have hR254 := hR239.below hB12 (Nat.le_refl _)
        have hW597 := hW581.later hB12
        have hW598 := hW582.later hB12
        have hW599 := hW583.later hB12
        have hW600 := hW584.later hB12
        have hW601 := hW585.later hB12
        have hW602 := hW586.later hB12
        have hW603 := hW587.later hB12
        have hW604 := hW588.later hB12
        have hW605 := hW589.later hB12
        have hW606 := hW590.later hB12
        have hW607 := hW591.later hB12
        have hW608 := hW592.later hB12
        have hW609 := hW593.later hB12
        have hW610 := hW594.later hB12
        have hW611 := hW595.later hB12
        have hW612 := hW596.later hB12
        have hW613 := hW580.later hB12
        refine s_val hS48 rfl rfl (r_pick rfl (.t rfl rfl) (.t rfl rfl)) ?_
        refine s_val hS48 rfl rfl (r_move rfl (.t rfl rfl)) ?_
        refine s_valg hS48 (wanted_of (j := 14) (b := true) (d := 135) rfl rfl rfl rfl) rfl (r_move rfl (.t rfl rfl)) ?_
        refine s_valg hS48 (wanted_of (j := 14) (b := true) (d := 135) rfl rfl rfl rfl) rfl (r_move rfl (.t rfl rfl)) ?_
        refine s_callg (wanted_of (j := 14) (b := true) (d := 135) rfl rfl rfl rfl) rfl rfl (vs := [.int .u64 1]) ⟨.c, trivial⟩ cb18 (from_ok w42 1 (by omega)) ?_
        intro v34 w43 hp38
        obtain ⟨N24, hp38, ⟨hNN24, hlN24⟩⟩ := hp38
        obtain ⟨a37, c39, rfl, hR255, -, hT37⟩ := id hp38
        have hW614 := Ow.from_ hS48 hp38
        have hS49 := hS48.keep hT37
        have hR256 := hR247.below hT37.toBelow (Nat.le_refl _)
        have hR257 := hR248.below hT37.toBelow (Nat.le_refl _)
        have hR258 := hR249.below hT37.toBelow (Nat.le_refl _)
        have hR259 := hR250.below hT37.toBelow (Nat.le_refl _)
        have hR260 := hR251.below hT37.toBelow (Nat.le_refl _)
        have hR261 := hR252.below hT37.toBelow (Nat.le_refl _)
        have hR262 := hR253.below hT37.toBelow (Nat.le_refl _)
        have hR263 := hR254.below hT37.toBelow (Nat.le_refl _)
        have hW615 := hW597.later hT37.toBelow
        have hW616 := hW598.later hT37.toBelow
        have hW617 := hW599.later hT37.toBelow
        have hW618 := hW600.later hT37.toBelow
        have hW619 := hW601.later hT37.toBelow
        have hW620 := hW602.later hT37.toBelow
        have hW621 := hW603.later hT37.toBelow
        have hW622 := hW604.later hT37.toBelow
        have hW623 := hW605.later hT37.toBelow
        have hW624 := hW606.later hT37.toBelow
        have hW625 := hW607.later hT37.toBelow
        have hW626 := hW608.later hT37.toBelow
        have hW627 := hW609.later hT37.toBelow
        have hW628 := hW610.later hT37.toBelow
        have hW629 := hW611.later hT37.toBelow
        have hW630 := hW612.later hT37.toBelow
        have hW631 := hW613.later hT37.toBelow
        have hA37 := hp38.apart hS48 (m := 0) rfl
        have hnN24 := hNN24.len
        refine s_callg (wanted_of (j := 14) (b := true) (d := 135) rfl rfl rfl rfl) rfl rfl (vs := [.slice a1 Q.length c1, .slice a37 N24.length c39]) ⟨(.t rfl rfl), (.t rfl rfl), trivial⟩ cb15 (ladd_ok w43 a1 c1 Q hR256 a37 c39 N24 hR255 hNQ hNN24 (by (try simp only [hlM1, hlAA, k1, k2, hlN18, hlN19, hlN20, hlN21, hlN22, hlN23, hlN24, lv_nil, Nat.mul_zero, Nat.add_zero]) <;> (first | assumption | omega))) ?_
        intro v35 w44 hp39
        obtain ⟨N25, hp39, ⟨hNN25, hlN25⟩⟩ := hp39
        obtain ⟨a38, c40, rfl, hR264, -, hT38⟩ := id hp39
        have hW632 := Ow.from_ hS49 hp39
        have hS50 := hS49.keep hT38
        have hR265 := hR256.below hT38.toBelow (Nat.le_refl _)
        have hR266 := hR257.below hT38.toBelow (Nat.le_refl _)
        have hR267 := hR258.below hT38.toBelow (Nat.le_refl _)
        have hR268 := hR259.below hT38.toBelow (Nat.le_refl _)
        have hR269 := hR260.below hT38.toBelow (Nat.le_refl _)
        have hR270 := hR261.below hT38.toBelow (Nat.le_refl _)
        have hR271 := hR262.below hT38.toBelow (Nat.le_refl _)
        have hR272 := hR263.below hT38.toBelow (Nat.le_refl _)
        have hR273 := hR255.below hT38.toBelow (Nat.le_refl _)
        have hW633 := hW615.later hT38.toBelow
        have hW634 := hW616.later hT38.toBelow
        have hW635 := hW617.later hT38.toBelow
        have hW636 := hW618.later hT38.toBelow
        have hW637 := hW619.later hT38.toBelow
        have hW638 := hW620.later hT38.toBelow
        have hW639 := hW621.later hT38.toBelow
        have hW640 := hW622.later hT38.toBelow
        have hW641 := hW623.later hT38.toBelow
        have hW642 := hW624.later hT38.toBelow
        have hW643 := hW625.later hT38.toBelow
        have hW644 := hW626.later hT38.toBelow
        have hW645 := hW627.later hT38.toBelow
        have hW646 := hW628.later hT38.toBelow
        have hW647 := hW629.later hT38.toBelow
        have hW648 := hW630.later hT38.toBelow
        have hW649 := hW631.later hT38.toBelow
        have hW650 := hW614.later hT38.toBelow
        have hA38 := hp39.apart hS49 (m := 0) rfl
        have hnN25 := hNN25.len
        refine s_callg (wanted_of (j := 14) (b := true) (d := 135) rfl rfl rfl rfl) rfl rfl (vs := [.slice a32 Y3.length c34, .slice a38 N25.length c40]) ⟨(.t rfl rfl), (.t rfl rfl), trivial⟩ cb28 (Cmp_ok w44 a32 c34 Y3 hR268 a38 c40 N25 hR264 hNY3 hNN25) ?_
        rintro _ w45 ⟨hp40, hB13⟩
        have hS51 := hS50.keep hB13
        replace hB13 := hB13.toBelow
        have hR274 := hR265.below hB13 (Nat.le_refl _)
        have hR275 := hR266.below hB13 (Nat.le_refl _)
        have hR276 := hR267.below hB13 (Nat.le_refl _)
        have hR277 := hR268.below hB13 (Nat.le_refl _)
        have hR278 := hR269.below hB13 (Nat.le_refl _)
        have hR279 := hR270.below hB13 (Nat.le_refl _)
        have hR280 := hR271.below hB13 (Nat.le_refl _)
        have hR281 := hR272.below hB13 (Nat.le_refl _)
        have hR282 := hR273.below hB13 (Nat.le_refl _)
        have hR283 := hR264.below hB13 (Nat.le_refl _)
        have hW651 := hW633.later hB13
        have hW652 := hW634.later hB13
        have hW653 := hW635.later hB13
        have hW654 := hW636.later hB13
        have hW655 := hW637.later hB13
        have hW656 := hW638.later hB13
        have hW657 := hW639.later hB13
        have hW658 := hW640.later hB13
        have hW659 := hW641.later hB13
        have hW660 := hW642.later hB13
        have hW661 := hW643.later hB13
        have hW662 := hW644.later hB13
        have hW663 := hW645.later hB13
        have hW664 := hW646.later hB13
        have hW665 := hW647.later hB13
        have hW666 := hW648.later hB13
        have hW667 := hW649.later hB13
        have hW668 := hW650.later hB13
        have hW669 := hW632.later hB13
        rcases hp40 with ⟨hc9, rfl⟩ | ⟨hc9, rfl⟩ | ⟨hc9, rfl⟩
        · refine s_valg hS51 (wanted_of (j := 14) (b := true) (d := 135) rfl rfl rfl rfl) rfl (r_cmp_t rfl rfl (.t rfl rfl) .c (show (-1) < 0 from by omega)) ?_
          refine s_val hS51 rfl rfl (r_pick rfl (.t rfl rfl) (.t rfl rfl)) ?_
          refine s_val hS51 rfl rfl (r_move rfl (.t rfl rfl)) ?_
          refine s_callg (wanted_of (j := 22) (b := true) (d := 143) rfl rfl rfl rfl) rfl rfl (vs := []) trivial cb16 (wakes_ok w45 ) ?_
          intro v36 w46 hp41
          obtain ⟨hp41, hB14⟩ := hp41
          have hS52 := hS51.keep hB14
          replace hB14 := hB14.toBelow
          have hR284 := hR274.below hB14 (Nat.le_refl _)
          have hR285 := hR275.below hB14 (Nat.le_refl _)
          have hR286 := hR276.below hB14 (Nat.le_refl _)
          have hR287 := hR277.below hB14 (Nat.le_refl _)
          have hR288 := hR278.below hB14 (Nat.le_refl _)
          have hR289 := hR279.below hB14 (Nat.le_refl _)
          have hR290 := hR280.below hB14 (Nat.le_refl _)
          have hR291 := hR281.below hB14 (Nat.le_refl _)
          have hR292 := hR282.below hB14 (Nat.le_refl _)
          have hR293 := hR283.below hB14 (Nat.le_refl _)
          have hW670 := hW651.later hB14
          have hW671 := hW652.later hB14
          have hW672 := hW653.later hB14
          have hW673 := hW654.later hB14
          have hW674 := hW655.later hB14
          have hW675 := hW656.later hB14
          have hW676 := hW657.later hB14
          have hW677 := hW658.later hB14
          have hW678 := hW659.later hB14
          have hW679 := hW660.later hB14
          have hW680 := hW661.later hB14
          have hW681 := hW662.later hB14
          have hW682 := hW663.later hB14
          have hW683 := hW664.later hB14
          have hW684 := hW665.later hB14
          have hW685 := hW666.later hB14
          have hW686 := hW667.later hB14
          have hW687 := hW668.later hB14
          have hW688 := hW669.later hB14
          obtain rfl := hp41
          refine s_val hS52 rfl rfl (r_pick rfl (.t rfl rfl) (.t rfl rfl)) ?_
          refine s_val hS52 rfl rfl (r_assign rfl (.t rfl rfl)) ?_
          refine wpList_nil ?_
          refine x_tn ?_
          refine k_reb [(2, .bool true)] ⟨rfl, trivial⟩ fun G24 => ?_
          refine wp_ret ?_
          refine k_ret1 Try.results6 rfl rfl ?_
          refine ⟨_, rfl, ?_⟩
          exact ⟨rfl, hS52.none⟩
        · exfalso; (try simp only [hlM1, hlAA, k1, k2, hlN18, hlN19, hlN20, hlN21, hlN22, hlN23, hlN24, hlN25] at hc9); omega
        · exfalso; (try simp only [hlM1, hlAA, k1, k2, hlN18, hlN19, hlN20, hlN21, hlN22, hlN23, hlN24, hlN25] at hc9); omega
    · exfalso; omega
    · exfalso; omega

end Go.Proofs.Ytnbklceenfjojaa

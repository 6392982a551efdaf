/- Contracts of functions of the program, each walked once. -/
import Derived.Test.YtnbklceenfjojaaDoorFnI
namespace Go.Proofs.YtnbklceenfjojaaDoor
open Go Go.RowKit K
namespace FJ
theorem mixed : Tryd.prog.follows .mixedOrders = true := by kernel_rfl
theorem cb15 : callable Tryd.prog 15 = true := by kernel_rfl
theorem cb24 : callable Tryd.prog 24 = true := by kernel_rfl
theorem cb36 : callable Tryd.prog 36 = true := by kernel_rfl
theorem cb42 : callable Tryd.prog 42 = true := by kernel_rfl
theorem cb8 : callable Tryd.prog 8 = true := by kernel_rfl

end FJ
open FJ
attribute [local irreducible] Go.wpList Go.wpQuiet Go.wpStill Go.wpAny Go.Code.wp
set_option maxRecDepth 10000
set_option maxHeartbeats 8000000
set_option linter.unusedVariables false
set_option linter.unusedSimpArgs false
theorem wakes_ok (w0 : World) :
    Calls Tryd.prog 16 #[] w0 (Ret fun v w' => v = .bool true ∧ St w0 [] [] w') := by
  refine k_enter (vs := []) Tryd.func16 rfl Tryd.ntmps16 rfl ?_
  have hS := St.init w0
  refine wp_seq ?_
  refine k_reg ?_
  refine s_val hS rfl rfl (r_assign rfl .c) ?_
  refine wpList_nil ?_
  refine x_tn ?_
  refine wp_seq ?_
  refine k_reg ?_
  refine s_call rfl rfl rfl (vs := [.int .u64 18446744073709551615]) ⟨.c, trivial⟩ cb24 (from_ok w0 18446744073709551615 (by omega)) ?_
  intro v1 w1 hp1
  obtain ⟨X1, hp1, ⟨hNX1, hlX1⟩⟩ := hp1
  obtain ⟨a1, c1, rfl, hR1, -, hT1⟩ := id hp1
  have hW1 := Ow.from_ hS hp1
  have hS1 := hS.keep hT1
  have hnX1 := hNX1.len
  refine s_call rfl rfl rfl (vs := [.int .u64 18446744073709551615]) ⟨.c, trivial⟩ cb24 (from_ok w1 18446744073709551615 (by omega)) ?_
  intro v2 w2 hp2
  obtain ⟨X2, hp2, ⟨hNX2, hlX2⟩⟩ := hp2
  obtain ⟨a2, c2, rfl, hR2, -, hT2⟩ := id hp2
  have hW2 := Ow.from_ hS1 hp2
  have hS2 := hS1.keep hT2
  have hR3 := hR1.below hT2.toBelow (Nat.le_refl _)
  have hW3 := hW1.later hT2.toBelow
  have hnX2 := hNX2.len
  refine s_call rfl rfl rfl (vs := [.slice a1 X1.length c1, .slice a2 X2.length c2]) ⟨(.t rfl rfl), (.t rfl rfl), trivial⟩ cb36 (Mul_ok w2 a1 c1 X1 hR3 a2 c2 X2 hR2 hNX1 hNX2) ?_
  rintro v3 w3 hp3
  obtain ⟨htP1, P1, _, rfl, hp3, hNP1, hlP1⟩ := hp3.fits (by rw [hlX1, hlX2]; exact wake_fit)
  obtain ⟨a3, c3, rfl, hR4, -, hT4⟩ := id hp3
  have hW4 := Ow.from_ hS2 hp3
  have hS4 := hS2.keep hT4
  have hR5 := hR3.below hT4.toBelow (Nat.le_refl _)
  have hR6 := hR2.below hT4.toBelow (Nat.le_refl _)
  have hW5 := hW3.later hT4.toBelow
  have hW6 := hW2.later hT4.toBelow
  have hnP1 := hNP1.len
  refine s_val hS4 rfl rfl (r_move rfl (.t rfl rfl)) ?_
  refine s_val hS4 rfl rfl (r_extract rfl (.t rfl rfl) rfl) ?_
  refine s_val hS4 rfl rfl (r_extract rfl (.t rfl rfl) rfl) ?_
  refine s_val hS4 rfl rfl (r_assign rfl (.t rfl rfl)) ?_
  refine s_val hS4 rfl rfl (r_assign rfl (.t rfl rfl)) ?_
  refine wpList_nil ?_
  refine x_tn ?_
  refine k_reb [(0, .bool false), (1, .slice a3 P1.length c3), (2, .int .i64 0)] ⟨rfl, rfl, rfl, trivial⟩ fun G1 => ?_
  refine wp_seq ?_
  refine k_reg ?_
  refine s_val hS4 rfl rfl (r_move rfl (.t rfl rfl)) ?_
  refine s_call rfl rfl rfl (vs := [.int .u64 10]) ⟨.c, trivial⟩ cb24 (from_ok w3 10 (by omega)) ?_
  intro v4 w4 hp4
  obtain ⟨TEN, hp4, ⟨hNTEN, hlTEN⟩⟩ := hp4
  obtain ⟨a4, c4, rfl, hR7, -, hT5⟩ := id hp4
  have hW7 := Ow.from_ hS4 hp4
  have hS5 := hS4.keep hT5
  have hR8 := hR4.below hT5.toBelow (Nat.le_refl _)
  have hW8 := hW5.later hT5.toBelow
  have hW9 := hW6.later hT5.toBelow
  have hW10 := hW4.later hT5.toBelow
  have hnTEN := hNTEN.len
  refine s_call rfl rfl rfl (vs := [.slice a3 P1.length c3, .slice a4 TEN.length c4]) ⟨(.t rfl rfl), (.t rfl rfl), trivial⟩ cb15 (DivMod_ok w4 a3 c3 P1 hR8 a4 c4 TEN hR7 hNP1 hNTEN (by omega)) ?_
  rintro v5 w5 ⟨Q1, R1, _, _, rfl, hp5, hq1, hNQ1, hNR1, hlQ1, hlR1⟩
  obtain ⟨a5, c5, rfl, hR9, -, hT6⟩ := id hp5
  have hW11 := Ow.from_ hS5 hp5
  have hS6 := hS5.keep hT6
  have hR10 := hR8.below hT6.toBelow (Nat.le_refl _)
  have hR11 := hR7.below hT6.toBelow (Nat.le_refl _)
  have hW12 := hW8.later hT6.toBelow
  have hW13 := hW9.later hT6.toBelow
  have hW14 := hW10.later hT6.toBelow
  have hW15 := hW7.later hT6.toBelow
  obtain ⟨a6, c6, rfl, hR12, -, hT7⟩ := id hq1
  have hW16 := Ow.from_ hS5 hq1
  have hnQ1 := hNQ1.len
  have hnR1 := hNR1.len
  refine s_val hS6 rfl rfl (r_move rfl (.t rfl rfl)) ?_
  refine s_val hS6 rfl rfl (r_extract rfl (.t rfl rfl) rfl) ?_
  refine s_val hS6 rfl rfl (r_extract rfl (.t rfl rfl) rfl) ?_
  refine s_val hS6 rfl rfl (r_extract rfl (.t rfl rfl) rfl) ?_
  refine s_val hS6 rfl rfl (r_assign rfl (.t rfl rfl)) ?_
  refine s_val hS6 rfl rfl (r_assign rfl (.t rfl rfl)) ?_
  refine s_val hS6 rfl rfl (r_assign rfl (.t rfl rfl)) ?_
  refine wpList_nil ?_
  refine x_tn ?_
  refine k_reb [(0, .bool false), (2, .int .i64 0), (3, .slice a5 Q1.length c5), (4, .slice a6 R1.length c6), (5, .int .i64 0)] ⟨rfl, rfl, rfl, rfl, rfl, trivial⟩ fun G2 => ?_
  refine wp_seq ?_
  refine k_reg ?_
  refine s_val hS6 rfl rfl (r_move rfl (.t rfl rfl)) ?_
  refine s_call rfl rfl rfl (vs := [.int .i64 0]) ⟨(.t rfl rfl), trivial⟩ cb8 (num_ok w5 0) ?_
  rintro _ w5 ⟨rfl, rfl⟩
  refine s_val hS6 rfl rfl (r_cmp_t rfl rfl (.t rfl rfl) .c (show 0 = 0 from by omega)) ?_
  refine s_val hS6 rfl rfl (r_move rfl (.t rfl rfl)) ?_
  refine s_valg hS6 (wanted_of (j := 3) (b := true) (d := 22) rfl rfl rfl rfl) rfl (r_move rfl (.t rfl rfl)) ?_
  refine s_callg (wanted_of (j := 3) (b := true) (d := 22) rfl rfl rfl rfl) rfl rfl (vs := [.int .i64 0]) ⟨(.t rfl rfl), trivial⟩ cb8 (num_ok w5 0) ?_
  rintro _ w5 ⟨rfl, rfl⟩
  refine s_valg hS6 (wanted_of (j := 3) (b := true) (d := 22) rfl rfl rfl rfl) rfl (r_cmp_t rfl rfl (.t rfl rfl) .c (show 0 = 0 from by omega)) ?_
  refine s_val hS6 rfl rfl (r_pick rfl (.t rfl rfl) (.t rfl rfl)) ?_
  refine s_val hS6 rfl rfl (r_move rfl (.t rfl rfl)) ?_
  refine s_valg hS6 (wanted_of (j := 8) (b := true) (d := 27) rfl rfl rfl rfl) rfl (r_move rfl (.t rfl rfl)) ?_
  refine s_callg (wanted_of (j := 8) (b := true) (d := 27) rfl rfl rfl rfl) rfl rfl (vs := [.slice a5 Q1.length c5]) ⟨(.t rfl rfl), trivial⟩ cb42 (Text_ok w5 a5 c5 Q1 hR9 hNQ1) ?_
  intro v6 w6 hp6
  obtain ⟨hp6, hB1⟩ := hp6
  have hS8 := hS6.keep hB1
  replace hB1 := hB1.toBelow
  have hR13 := hR9.below hB1 (Nat.le_refl _)
  have hR14 := hR12.below hB1 (Nat.le_refl _)
  have hW17 := hW12.later hB1
  have hW18 := hW13.later hB1
  have hW19 := hW14.later hB1
  have hW20 := hW15.later hB1
  have hW21 := hW11.later hB1
  have hW22 := hW16.later hB1
  obtain rfl := hp6
  refine s_valg hS8 (wanted_of (j := 8) (b := true) (d := 27) rfl rfl rfl rfl) rfl (r_eqstr rfl (.t rfl rfl) .c (r := true) (str_same (by rw [hlQ1, hlP1, hlX1, hlX2, hlTEN]; exact wake_text))) ?_
  refine s_val hS8 rfl rfl (r_pick rfl (.t rfl rfl) (.t rfl rfl)) ?_
  refine s_val hS8 rfl rfl (r_move rfl (.t rfl rfl)) ?_
  refine s_valg hS8 (wanted_of (j := 13) (b := true) (d := 32) rfl rfl rfl rfl) rfl (r_move rfl (.t rfl rfl)) ?_
  refine s_callg (wanted_of (j := 13) (b := true) (d := 32) rfl rfl rfl rfl) rfl rfl (vs := [.slice a6 R1.length c6]) ⟨(.t rfl rfl), trivial⟩ cb42 (Text_ok w6 a6 c6 R1 hR14 hNR1) ?_
  intro v7 w7 hp7
  obtain ⟨hp7, hB2⟩ := hp7
  have hS9 := hS8.keep hB2
  replace hB2 := hB2.toBelow
  have hR15 := hR13.below hB2 (Nat.le_refl _)
  have hR16 := hR14.below hB2 (Nat.le_refl _)
  have hW23 := hW17.later hB2
  have hW24 := hW18.later hB2
  have hW25 := hW19.later hB2
  have hW26 := hW20.later hB2
  have hW27 := hW21.later hB2
  have hW28 := hW22.later hB2
  obtain rfl := hp7
  refine s_valg hS9 (wanted_of (j := 13) (b := true) (d := 32) rfl rfl rfl rfl) rfl (r_eqstr rfl (.t rfl rfl) .c (r := true) (str_same (by rw [hlR1, hlP1, hlX1, hlX2, hlTEN]; exact wake_five))) ?_
  refine s_val hS9 rfl rfl (r_pick rfl (.t rfl rfl) (.t rfl rfl)) ?_
  refine s_val hS9 rfl rfl (r_assign rfl (.t rfl rfl)) ?_
  refine wpList_nil ?_
  refine x_tn ?_
  refine k_reb [(0, .bool true)] ⟨rfl, trivial⟩ fun G3 => ?_
  refine wp_ret ?_
  refine k_ret1 Tryd.results16 rfl rfl ?_
  refine ⟨_, rfl, ?_⟩
  exact ⟨rfl, hS9.none⟩

end Go.Proofs.YtnbklceenfjojaaDoor

/- Contracts of functions of the program, each walked once. -/
import Derived.Test.YtnbklceenfjojaaFnJ
import Derived.Test.YtnbklceenfjojaaKFits
namespace Go.Proofs.Ytnbklceenfjojaa
open Go Go.RowKit K
namespace FK
theorem mixed : Try.prog.follows .mixedOrders = true := by kernel_rfl
theorem agg25 : (match Try.prog.underlying 25 with | some (.struct _) | some (.array ..) => true | _ => false) = true := by kernel_rfl
theorem cb11 : callable Try.prog 11 = true := by kernel_rfl
theorem cb14 : callable Try.prog 14 = true := by kernel_rfl
theorem cb15 : callable Try.prog 15 = true := by kernel_rfl
theorem cb16 : callable Try.prog 16 = true := by kernel_rfl
theorem cb18 : callable Try.prog 18 = true := by kernel_rfl
theorem cb19 : callable Try.prog 19 = true := by kernel_rfl
theorem cb27 : callable Try.prog 27 = true := by kernel_rfl
theorem cb28 : callable Try.prog 28 = true := by kernel_rfl
theorem ti25 : (Try.prog.info? 25).map (fun i => (i.zero, i.size, i.bytes)) = some (some (.agg #[.slice none 0 0, .slice none 0 0]), 2, 48) := by kernel_rfl

end FK
open FK
attribute [local irreducible] Go.wpList Go.wpQuiet Go.wpStill Go.wpAny Go.Code.wp
set_option maxRecDepth 10000
set_option maxHeartbeats 8000000
set_option linter.unusedVariables false
set_option linter.unusedSimpArgs false
theorem LimbRing_ok (w0 : World) (aL : Option Addr) (cL : Nat) (LL : List (Option Addr × Nat × List Nat)) (hL : RdS w0 aL LL) (vN : Value) :
    Calls Try.prog 5 #[.agg #[.slice aL LL.length cL, vN]] w0 (Ret fun v w' => v = .bool true ∧ St w0 [] [] w') := by
  refine k_enter (vs := [.agg #[.slice aL LL.length cL, vN]]) Try.func5 rfl Try.ntmps5 rfl ?_
  have hS := St.init w0
  have mL := hL.most
  refine wp_seq ?_
  refine k_reg ?_
  refine s_box rfl rfl rfl (.t rfl rfl) (cs := #[.slice aL LL.length cL, vN]) rfl hS fun blk1 w1 hb1 hB1 hS1 => ?_
  refine s_val hS1 rfl rfl (r_assign rfl .c) ?_
  refine wpList_nil ?_
  refine x_tn ?_
  refine k_reb [(1, .pointer (some ⟨blk1, 0, none⟩)), (2, .bool false)] ⟨rfl, rfl, trivial⟩ fun G1 => ?_
  refine wp_seq ?_
  refine k_reg ?_
  refine s_val hS1 rfl rfl (r_loadA rfl agg25 ti25 rfl (.t rfl rfl) (St.block (m := 0) rfl)) ?_
  refine s_call rfl rfl rfl (vs := [.agg #[.slice aL LL.length cL, vN], .int .i64 300]) ⟨(.t rfl rfl), .c, trivial⟩ cb11 (three_ok w1 aL cL LL (RdS.st hS1 hL (by intro x hx; cases hx)) vN 300 (by omega)) ?_
  rintro v1 w2 ⟨A, B, C, _, _, _, rfl, hp1, hp2, hp3, hNA, hNB, hNC, hmA, hmB, hmC⟩
  obtain ⟨a1, c1, rfl, hR1, -, hT1⟩ := id hp1
  have hW1 := Ow.from_ hS1 hp1
  have hS2 := hS1.keep hT1
  have hA1 := hp1.apart hS1 (m := 0) rfl
  obtain ⟨a2, c2, rfl, hR2, -, hT2⟩ := id hp2
  have hW2 := Ow.from_ hS1 hp2
  have hA2 := hp2.apart hS1 (m := 0) rfl
  obtain ⟨a3, c3, rfl, hR3, -, hT3⟩ := id hp3
  have hW3 := Ow.from_ hS1 hp3
  have hA3 := hp3.apart hS1 (m := 0) rfl
  have hnA := hNA.len
  have hbA := nm_bound hNA hmA
  have hnB := hNB.len
  have hbB := nm_bound hNB hmB
  have hnC := hNC.len
  have hbC := nm_bound hNC hmC
  obtain ⟨f1, f2, f3, f4, f5, f6, f7, f8, f9, f10, f11, f12, f13, f14, f15⟩ := ring_fits hbA hbB hbC
  refine s_val hS2 rfl rfl (r_move rfl (.t rfl rfl)) ?_
  refine s_val hS2 rfl rfl (r_extract rfl (.t rfl rfl) rfl) ?_
  refine s_val hS2 rfl rfl (r_extract rfl (.t rfl rfl) rfl) ?_
  refine s_val hS2 rfl rfl (r_extract rfl (.t rfl rfl) rfl) ?_
  refine s_val hS2 rfl rfl (r_assign rfl (.t rfl rfl)) ?_
  refine s_val hS2 rfl rfl (r_assign rfl (.t rfl rfl)) ?_
  refine s_val hS2 rfl rfl (r_assign rfl (.t rfl rfl)) ?_
  refine wpList_nil ?_
  refine x_tn ?_
  refine k_reb [(2, .bool false), (3, .slice a1 A.length c1), (4, .slice a2 B.length c2), (5, .slice a3 C.length c3)] ⟨rfl, rfl, rfl, rfl, trivial⟩ fun G2 => ?_
  refine wp_seq ?_
  refine wp_seq ?_
  refine k_reg ?_
  refine s_val hS2 rfl rfl (r_move rfl (.t rfl rfl)) ?_
  refine s_val hS2 rfl rfl (r_move rfl (.t rfl rfl)) ?_
  refine s_call rfl rfl rfl (vs := [.slice a1 A.length c1, .slice a2 B.length c2]) ⟨(.t rfl rfl), (.t rfl rfl), trivial⟩ cb15 (ladd_ok w2 a1 c1 A hR1 a2 c2 B hR2 hNA hNB (by (try simp only [lv_nil, Nat.mul_zero, Nat.add_zero]) <;> (first | assumption | omega))) ?_
  intro v2 w3 hp4
  obtain ⟨N1, hp4, ⟨hNN1, hlN1⟩⟩ := hp4
  obtain ⟨a4, c4, rfl, hR4, -, hT4⟩ := id hp4
  have hW4 := Ow.from_ hS2 hp4
  have hS5 := hS2.keep hT4
  have hR5 := hR1.below hT4.toBelow (Nat.le_refl _)
  have hR6 := hR2.below hT4.toBelow (Nat.le_refl _)
  have hR7 := hR3.below hT4.toBelow (Nat.le_refl _)
  have hW5 := hW1.later hT4.toBelow
  have hW6 := hW2.later hT4.toBelow
  have hW7 := hW3.later hT4.toBelow
  have hA4 := hp4.apart hS2 (m := 0) rfl
  have hnN1 := hNN1.len
  refine s_val hS5 rfl rfl (r_move rfl (.t rfl rfl)) ?_
  refine s_val hS5 rfl rfl (r_move rfl (.t rfl rfl)) ?_
  refine s_call rfl rfl rfl (vs := [.slice a2 B.length c2, .slice a1 A.length c1]) ⟨(.t rfl rfl), (.t rfl rfl), trivial⟩ cb15 (ladd_ok w3 a2 c2 B hR6 a1 c1 A hR5 hNB hNA (by (try simp only [hlN1, lv_nil, Nat.mul_zero, Nat.add_zero]) <;> (first | assumption | omega))) ?_
  intro v3 w4 hp5
  obtain ⟨N2, hp5, ⟨hNN2, hlN2⟩⟩ := hp5
  obtain ⟨a5, c5, rfl, hR8, -, hT5⟩ := id hp5
  have hW8 := Ow.from_ hS5 hp5
  have hS6 := hS5.keep hT5
  have hR9 := hR5.below hT5.toBelow (Nat.le_refl _)
  have hR10 := hR6.below hT5.toBelow (Nat.le_refl _)
  have hR11 := hR7.below hT5.toBelow (Nat.le_refl _)
  have hR12 := hR4.below hT5.toBelow (Nat.le_refl _)
  have hW9 := hW5.later hT5.toBelow
  have hW10 := hW6.later hT5.toBelow
  have hW11 := hW7.later hT5.toBelow
  have hW12 := hW4.later hT5.toBelow
  have hA5 := hp5.apart hS5 (m := 0) rfl
  have hnN2 := hNN2.len
  refine s_call rfl rfl rfl (vs := [.slice a4 N1.length c4, .slice a5 N2.length c5]) ⟨(.t rfl rfl), (.t rfl rfl), trivial⟩ cb14 (eq_ok w4 a4 c4 N1 hR12 a5 c5 N2 hR8 hNN1 hNN2) ?_
  rintro _ w5 ⟨⟨hc1, rfl⟩ | ⟨hc1, rfl⟩, hB2⟩
  rotate_left
  · exact absurd ((by (try simp only [hlN1, hlN2, lv_nil, Nat.mul_zero, Nat.add_zero]) <;> (first | rfl | omega | grind))) hc1
  have hS7 := hS6.keep hB2
  replace hB2 := hB2.toBelow
  have hR13 := hR9.below hB2 (Nat.le_refl _)
  have hR14 := hR10.below hB2 (Nat.le_refl _)
  have hR15 := hR11.below hB2 (Nat.le_refl _)
  have hR16 := hR12.below hB2 (Nat.le_refl _)
  have hR17 := hR8.below hB2 (Nat.le_refl _)
  have hW13 := hW9.later hB2
  have hW14 := hW10.later hB2
  have hW15 := hW11.later hB2
  have hW16 := hW12.later hB2
  have hW17 := hW8.later hB2
  refine s_val hS7 rfl rfl (r_lnot rfl (.t rfl rfl)) ?_
  refine s_val hS7 rfl rfl (r_move rfl (.t rfl rfl)) ?_
  refine s_valg hS7 (wanted_of (j := 8) (b := false) (d := 21) rfl rfl rfl rfl) rfl (r_move rfl (.t rfl rfl)) ?_
  refine s_valg hS7 (wanted_of (j := 8) (b := false) (d := 21) rfl rfl rfl rfl) rfl (r_move rfl (.t rfl rfl)) ?_
  refine s_callg (wanted_of (j := 8) (b := false) (d := 21) rfl rfl rfl rfl) rfl rfl (vs := [.slice a1 A.length c1, .slice a2 B.length c2]) ⟨(.t rfl rfl), (.t rfl rfl), trivial⟩ cb15 (ladd_ok w5 a1 c1 A hR13 a2 c2 B hR14 hNA hNB (by (try simp only [hlN1, hlN2, lv_nil, Nat.mul_zero, Nat.add_zero]) <;> (first | assumption | omega))) ?_
  intro v4 w6 hp6
  obtain ⟨N3, hp6, ⟨hNN3, hlN3⟩⟩ := hp6
  obtain ⟨a6, c6, rfl, hR18, -, hT6⟩ := id hp6
  have hW18 := Ow.from_ hS7 hp6
  have hS8 := hS7.keep hT6
  have hR19 := hR13.below hT6.toBelow (Nat.le_refl _)
  have hR20 := hR14.below hT6.toBelow (Nat.le_refl _)
  have hR21 := hR15.below hT6.toBelow (Nat.le_refl _)
  have hR22 := hR16.below hT6.toBelow (Nat.le_refl _)
  have hR23 := hR17.below hT6.toBelow (Nat.le_refl _)
  have hW19 := hW13.later hT6.toBelow
  have hW20 := hW14.later hT6.toBelow
  have hW21 := hW15.later hT6.toBelow
  have hW22 := hW16.later hT6.toBelow
  have hW23 := hW17.later hT6.toBelow
  have hA6 := hp6.apart hS7 (m := 0) rfl
  have hnN3 := hNN3.len
  refine s_valg hS8 (wanted_of (j := 8) (b := false) (d := 21) rfl rfl rfl rfl) rfl (r_move rfl (.t rfl rfl)) ?_
  refine s_callg (wanted_of (j := 8) (b := false) (d := 21) rfl rfl rfl rfl) rfl rfl (vs := [.slice a6 N3.length c6, .slice a3 C.length c3]) ⟨(.t rfl rfl), (.t rfl rfl), trivial⟩ cb15 (ladd_ok w6 a6 c6 N3 hR18 a3 c3 C hR21 hNN3 hNC (by (try simp only [hlN1, hlN2, hlN3, lv_nil, Nat.mul_zero, Nat.add_zero]) <;> (first | assumption | omega))) ?_
  intro v5 w7 hp7
  obtain ⟨N4, hp7, ⟨hNN4, hlN4⟩⟩ := hp7
  obtain ⟨a7, c7, rfl, hR24, -, hT7⟩ := id hp7
  have hW24 := Ow.from_ hS8 hp7
  have hS9 := hS8.keep hT7
  have hR25 := hR19.below hT7.toBelow (Nat.le_refl _)
  have hR26 := hR20.below hT7.toBelow (Nat.le_refl _)
  have hR27 := hR21.below hT7.toBelow (Nat.le_refl _)
  have hR28 := hR22.below hT7.toBelow (Nat.le_refl _)
  have hR29 := hR23.below hT7.toBelow (Nat.le_refl _)
  have hR30 := hR18.below hT7.toBelow (Nat.le_refl _)
  have hW25 := hW19.later hT7.toBelow
  have hW26 := hW20.later hT7.toBelow
  have hW27 := hW21.later hT7.toBelow
  have hW28 := hW22.later hT7.toBelow
  have hW29 := hW23.later hT7.toBelow
  have hW30 := hW18.later hT7.toBelow
  have hA7 := hp7.apart hS8 (m := 0) rfl
  have hnN4 := hNN4.len
  refine s_valg hS9 (wanted_of (j := 8) (b := false) (d := 21) rfl rfl rfl rfl) rfl (r_move rfl (.t rfl rfl)) ?_
  refine s_valg hS9 (wanted_of (j := 8) (b := false) (d := 21) rfl rfl rfl rfl) rfl (r_move rfl (.t rfl rfl)) ?_
  refine s_valg hS9 (wanted_of (j := 8) (b := false) (d := 21) rfl rfl rfl rfl) rfl (r_move rfl (.t rfl rfl)) ?_
  refine s_callg (wanted_of (j := 8) (b := false) (d := 21) rfl rfl rfl rfl) rfl rfl (vs := [.slice a2 B.length c2, .slice a3 C.length c3]) ⟨(.t rfl rfl), (.t rfl rfl), trivial⟩ cb15 (ladd_ok w7 a2 c2 B hR26 a3 c3 C hR27 hNB hNC (by (try simp only [hlN1, hlN2, hlN3, hlN4, lv_nil, Nat.mul_zero, Nat.add_zero]) <;> (first | assumption | omega))) ?_
  intro v6 w8 hp8
  obtain ⟨N5, hp8, ⟨hNN5, hlN5⟩⟩ := hp8
  obtain ⟨a8, c8, rfl, hR31, -, hT8⟩ := id hp8
  have hW31 := Ow.from_ hS9 hp8
  have hS10 := hS9.keep hT8
  have hR32 := hR25.below hT8.toBelow (Nat.le_refl _)
  have hR33 := hR26.below hT8.toBelow (Nat.le_refl _)
  have hR34 := hR27.below hT8.toBelow (Nat.le_refl _)
  have hR35 := hR28.below hT8.toBelow (Nat.le_refl _)
  have hR36 := hR29.below hT8.toBelow (Nat.le_refl _)
  have hR37 := hR30.below hT8.toBelow (Nat.le_refl _)
  have hR38 := hR24.below hT8.toBelow (Nat.le_refl _)
  have hW32 := hW25.later hT8.toBelow
  have hW33 := hW26.later hT8.toBelow
  have hW34 := hW27.later hT8.toBelow
  have hW35 := hW28.later hT8.toBelow
  have hW36 := hW29.later hT8.toBelow
  have hW37 := hW30.later hT8.toBelow
  have hW38 := hW24.later hT8.toBelow
  have hA8 := hp8.apart hS9 (m := 0) rfl
  have hnN5 := hNN5.len
  refine s_callg (wanted_of (j := 8) (b := false) (d := 21) rfl rfl rfl rfl) rfl rfl (vs := [.slice a1 A.length c1, .slice a8 N5.length c8]) ⟨(.t rfl rfl), (.t rfl rfl), trivial⟩ cb15 (ladd_ok w8 a1 c1 A hR32 a8 c8 N5 hR31 hNA hNN5 (by (try simp only [hlN1, hlN2, hlN3, hlN4, hlN5, lv_nil, Nat.mul_zero, Nat.add_zero]) <;> (first | assumption | omega))) ?_
  intro v7 w9 hp9
  obtain ⟨N6, hp9, ⟨hNN6, hlN6⟩⟩ := hp9
  obtain ⟨a9, c9, rfl, hR39, -, hT9⟩ := id hp9
  have hW39 := Ow.from_ hS10 hp9
  have hS11 := hS10.keep hT9
  have hR40 := hR32.below hT9.toBelow (Nat.le_refl _)
  have hR41 := hR33.below hT9.toBelow (Nat.le_refl _)
  have hR42 := hR34.below hT9.toBelow (Nat.le_refl _)
  have hR43 := hR35.below hT9.toBelow (Nat.le_refl _)
  have hR44 := hR36.below hT9.toBelow (Nat.le_refl _)
  have hR45 := hR37.below hT9.toBelow (Nat.le_refl _)
  have hR46 := hR38.below hT9.toBelow (Nat.le_refl _)
  have hR47 := hR31.below hT9.toBelow (Nat.le_refl _)
  have hW40 := hW32.later hT9.toBelow
  have hW41 := hW33.later hT9.toBelow
  have hW42 := hW34.later hT9.toBelow
  have hW43 := hW35.later hT9.toBelow
  have hW44 := hW36.later hT9.toBelow
  have hW45 := hW37.later hT9.toBelow
  have hW46 := hW38.later hT9.toBelow
  have hW47 := hW31.later hT9.toBelow
  have hA9 := hp9.apart hS10 (m := 0) rfl
  have hnN6 := hNN6.len
  refine s_callg (wanted_of (j := 8) (b := false) (d := 21) rfl rfl rfl rfl) rfl rfl (vs := [.slice a7 N4.length c7, .slice a9 N6.length c9]) ⟨(.t rfl rfl), (.t rfl rfl), trivial⟩ cb14 (eq_ok w9 a7 c7 N4 hR46 a9 c9 N6 hR39 hNN4 hNN6) ?_
  rintro _ w10 ⟨⟨hc2, rfl⟩ | ⟨hc2, rfl⟩, hB3⟩
  rotate_left
  · exact absurd ((by (try simp only [hlN1, hlN2, hlN3, hlN4, hlN5, hlN6, lv_nil, Nat.mul_zero, Nat.add_zero]) <;> (first | rfl | omega | grind))) hc2
  have hS12 := hS11.keep hB3
  replace hB3 := hB3.toBelow
  have hR48 := hR40.below hB3 (Nat.le_refl _)
  have hR49 := hR41.below hB3 (Nat.le_refl _)
  have hR50 := hR42.below hB3 (Nat.le_refl _)
  have hR51 := hR43.below hB3 (Nat.le_refl _)
  have hR52 := hR44.below hB3 (Nat.le_refl _)
  have hR53 := hR45.below hB3 (Nat.le_refl _)
  have hR54 := hR46.below hB3 (Nat.le_refl _)
  have hR55 := hR47.below hB3 (Nat.le_refl _)
  have hR56 := hR39.below hB3 (Nat.le_refl _)
  have hW48 := hW40.later hB3
  have hW49 := hW41.later hB3
  have hW50 := hW42.later hB3
  have hW51 := hW43.later hB3
  have hW52 := hW44.later hB3
  have hW53 := hW45.later hB3
  have hW54 := hW46.later hB3
  have hW55 := hW47.later hB3
  have hW56 := hW39.later hB3
  refine s_valg hS12 (wanted_of (j := 8) (b := false) (d := 21) rfl rfl rfl rfl) rfl (r_lnot rfl (.t rfl rfl)) ?_
  refine s_val hS12 rfl rfl (r_pick rfl (.t rfl rfl) (.t rfl rfl)) ?_
  refine s_val hS12 rfl rfl (r_move rfl (.t rfl rfl)) ?_
  refine s_valg hS12 (wanted_of (j := 22) (b := false) (d := 35) rfl rfl rfl rfl) rfl (r_move rfl (.t rfl rfl)) ?_
  refine s_valg hS12 (wanted_of (j := 22) (b := false) (d := 35) rfl rfl rfl rfl) rfl (r_move rfl (.t rfl rfl)) ?_
  refine s_callg (wanted_of (j := 22) (b := false) (d := 35) rfl rfl rfl rfl) rfl rfl (vs := [.slice a1 A.length c1, .slice a2 B.length c2]) ⟨(.t rfl rfl), (.t rfl rfl), trivial⟩ cb15 (ladd_ok w10 a1 c1 A hR48 a2 c2 B hR49 hNA hNB (by (try simp only [hlN1, hlN2, hlN3, hlN4, hlN5, hlN6, lv_nil, Nat.mul_zero, Nat.add_zero]) <;> (first | assumption | omega))) ?_
  intro v8 w11 hp10
  obtain ⟨N7, hp10, ⟨hNN7, hlN7⟩⟩ := hp10
  obtain ⟨a10, c10, rfl, hR57, -, hT10⟩ := id hp10
  have hW57 := Ow.from_ hS12 hp10
  have hS13 := hS12.keep hT10
  have hR58 := hR48.below hT10.toBelow (Nat.le_refl _)
  have hR59 := hR49.below hT10.toBelow (Nat.le_refl _)
  have hR60 := hR50.below hT10.toBelow (Nat.le_refl _)
  have hR61 := hR51.below hT10.toBelow (Nat.le_refl _)
  have hR62 := hR52.below hT10.toBelow (Nat.le_refl _)
  have hR63 := hR53.below hT10.toBelow (Nat.le_refl _)
  have hR64 := hR54.below hT10.toBelow (Nat.le_refl _)
  have hR65 := hR55.below hT10.toBelow (Nat.le_refl _)
  have hR66 := hR56.below hT10.toBelow (Nat.le_refl _)
  have hW58 := hW48.later hT10.toBelow
  have hW59 := hW49.later hT10.toBelow
  have hW60 := hW50.later hT10.toBelow
  have hW61 := hW51.later hT10.toBelow
  have hW62 := hW52.later hT10.toBelow
  have hW63 := hW53.later hT10.toBelow
  have hW64 := hW54.later hT10.toBelow
  have hW65 := hW55.later hT10.toBelow
  have hW66 := hW56.later hT10.toBelow
  have hA10 := hp10.apart hS12 (m := 0) rfl
  have hnN7 := hNN7.len
  refine s_valg hS13 (wanted_of (j := 22) (b := false) (d := 35) rfl rfl rfl rfl) rfl (r_move rfl (.t rfl rfl)) ?_
  refine s_callg (wanted_of (j := 22) (b := false) (d := 35) rfl rfl rfl rfl) rfl rfl (vs := [.slice a10 N7.length c10, .slice a2 B.length c2]) ⟨(.t rfl rfl), (.t rfl rfl), trivial⟩ cb27 (lsub_ok w11 a10 c10 N7 hR57 a2 c2 B hR59 hNN7 hNB (by (try simp only [hlN1, hlN2, hlN3, hlN4, hlN5, hlN6, hlN7, lv_nil, Nat.mul_zero, Nat.add_zero]) <;> (first | assumption | omega))) ?_
  intro v9 w12 hp11
  obtain ⟨N8, hp11, ⟨hNN8, hlN8⟩⟩ := hp11
  obtain ⟨a11, c11, rfl, hR67, -, hT11⟩ := id hp11
  have hW67 := Ow.from_ hS13 hp11
  have hS14 := hS13.keep hT11
  have hR68 := hR58.below hT11.toBelow (Nat.le_refl _)
  have hR69 := hR59.below hT11.toBelow (Nat.le_refl _)
  have hR70 := hR60.below hT11.toBelow (Nat.le_refl _)
  have hR71 := hR61.below hT11.toBelow (Nat.le_refl _)
  have hR72 := hR62.below hT11.toBelow (Nat.le_refl _)
  have hR73 := hR63.below hT11.toBelow (Nat.le_refl _)
  have hR74 := hR64.below hT11.toBelow (Nat.le_refl _)
  have hR75 := hR65.below hT11.toBelow (Nat.le_refl _)
  have hR76 := hR66.below hT11.toBelow (Nat.le_refl _)
  have hR77 := hR57.below hT11.toBelow (Nat.le_refl _)
  have hW68 := hW58.later hT11.toBelow
  have hW69 := hW59.later hT11.toBelow
  have hW70 := hW60.later hT11.toBelow
  have hW71 := hW61.later hT11.toBelow
  have hW72 := hW62.later hT11.toBelow
  have hW73 := hW63.later hT11.toBelow
  have hW74 := hW64.later hT11.toBelow
  have hW75 := hW65.later hT11.toBelow
  have hW76 := hW66.later hT11.toBelow
  have hW77 := hW57.later hT11.toBelow
  have hA11 := hp11.apart hS13 (m := 0) rfl
  have hnN8 := hNN8.len
  refine s_valg hS14 (wanted_of (j := 22) (b := false) (d := 35) rfl rfl rfl rfl) rfl (r_move rfl (.t rfl rfl)) ?_
  refine s_callg (wanted_of (j := 22) (b := false) (d := 35) rfl rfl rfl rfl) rfl rfl (vs := [.slice a11 N8.length c11, .slice a1 A.length c1]) ⟨(.t rfl rfl), (.t rfl rfl), trivial⟩ cb14 (eq_ok w12 a11 c11 N8 hR67 a1 c1 A hR68 hNN8 hNA) ?_
  rintro _ w13 ⟨⟨hc3, rfl⟩ | ⟨hc3, rfl⟩, hB4⟩
  rotate_left
  · exact absurd ((by (try simp only [hlN1, hlN2, hlN3, hlN4, hlN5, hlN6, hlN7, hlN8, lv_nil, Nat.mul_zero, Nat.add_zero]) <;> (first | rfl | omega | grind))) hc3
  have hS15 := hS14.keep hB4
  replace hB4 := hB4.toBelow
  have hR78 := hR68.below hB4 (Nat.le_refl _)
  have hR79 := hR69.below hB4 (Nat.le_refl _)
  have hR80 := hR70.below hB4 (Nat.le_refl _)
  have hR81 := hR71.below hB4 (Nat.le_refl _)
  have hR82 := hR72.below hB4 (Nat.le_refl _)
  have hR83 := hR73.below hB4 (Nat.le_refl _)
  have hR84 := hR74.below hB4 (Nat.le_refl _)
  have hR85 := hR75.below hB4 (Nat.le_refl _)
  have hR86 := hR76.below hB4 (Nat.le_refl _)
  have hR87 := hR77.below hB4 (Nat.le_refl _)
  have hR88 := hR67.below hB4 (Nat.le_refl _)
  have hW78 := hW68.later hB4
  have hW79 := hW69.later hB4
  have hW80 := hW70.later hB4
  have hW81 := hW71.later hB4
  have hW82 := hW72.later hB4
  have hW83 := hW73.later hB4
  have hW84 := hW74.later hB4
  have hW85 := hW75.later hB4
  have hW86 := hW76.later hB4
  have hW87 := hW77.later hB4
  have hW88 := hW67.later hB4
  refine s_valg hS15 (wanted_of (j := 22) (b := false) (d := 35) rfl rfl rfl rfl) rfl (r_lnot rfl (.t rfl rfl)) ?_
  refine s_val hS15 rfl rfl (r_pick rfl (.t rfl rfl) (.t rfl rfl)) ?_
  refine s_val hS15 rfl rfl (r_move rfl (.t rfl rfl)) ?_
  refine s_valg hS15 (wanted_of (j := 32) (b := false) (d := 45) rfl rfl rfl rfl) rfl (r_move rfl (.t rfl rfl)) ?_
  refine s_callg (wanted_of (j := 32) (b := false) (d := 45) rfl rfl rfl rfl) rfl rfl (vs := [.slice a1 A.length c1, .slice none 0 0]) ⟨(.t rfl rfl), .c, trivial⟩ cb15 (ladd_ok w13 a1 c1 A hR78 none 0 ([]) Rd.nil hNA nm_nil (by (try simp only [hlN1, hlN2, hlN3, hlN4, hlN5, hlN6, hlN7, hlN8, lv_nil, Nat.mul_zero, Nat.add_zero]) <;> (first | assumption | omega))) ?_
  intro v10 w14 hp12
  obtain ⟨N9, hp12, ⟨hNN9, hlN9⟩⟩ := hp12
  obtain ⟨a12, c12, rfl, hR89, -, hT12⟩ := id hp12
  have hW89 := Ow.from_ hS15 hp12
  have hS16 := hS15.keep hT12
  have hR90 := hR78.below hT12.toBelow (Nat.le_refl _)
  have hR91 := hR79.below hT12.toBelow (Nat.le_refl _)
  have hR92 := hR80.below hT12.toBelow (Nat.le_refl _)
  have hR93 := hR81.below hT12.toBelow (Nat.le_refl _)
  have hR94 := hR82.below hT12.toBelow (Nat.le_refl _)
  have hR95 := hR83.below hT12.toBelow (Nat.le_refl _)
  have hR96 := hR84.below hT12.toBelow (Nat.le_refl _)
  have hR97 := hR85.below hT12.toBelow (Nat.le_refl _)
  have hR98 := hR86.below hT12.toBelow (Nat.le_refl _)
  have hR99 := hR87.below hT12.toBelow (Nat.le_refl _)
  have hR100 := hR88.below hT12.toBelow (Nat.le_refl _)
  have hW90 := hW78.later hT12.toBelow
  have hW91 := hW79.later hT12.toBelow
  have hW92 := hW80.later hT12.toBelow
  have hW93 := hW81.later hT12.toBelow
  have hW94 := hW82.later hT12.toBelow
  have hW95 := hW83.later hT12.toBelow
  have hW96 := hW84.later hT12.toBelow
  have hW97 := hW85.later hT12.toBelow
  have hW98 := hW86.later hT12.toBelow
  have hW99 := hW87.later hT12.toBelow
  have hW100 := hW88.later hT12.toBelow
  have hA12 := hp12.apart hS15 (m := 0) rfl
  have hnN9 := hNN9.len
  refine s_valg hS16 (wanted_of (j := 32) (b := false) (d := 45) rfl rfl rfl rfl) rfl (r_move rfl (.t rfl rfl)) ?_
  refine s_callg (wanted_of (j := 32) (b := false) (d := 45) rfl rfl rfl rfl) rfl rfl (vs := [.slice a12 N9.length c12, .slice a1 A.length c1]) ⟨(.t rfl rfl), (.t rfl rfl), trivial⟩ cb14 (eq_ok w14 a12 c12 N9 hR89 a1 c1 A hR90 hNN9 hNA) ?_
  rintro _ w15 ⟨⟨hc4, rfl⟩ | ⟨hc4, rfl⟩, hB5⟩
  rotate_left
  · exact absurd ((by (try simp only [hlN1, hlN2, hlN3, hlN4, hlN5, hlN6, hlN7, hlN8, hlN9, lv_nil, Nat.mul_zero, Nat.add_zero]) <;> (first | rfl | omega | grind))) hc4
  have hS17 := hS16.keep hB5
  replace hB5 := hB5.toBelow
  have hR101 := hR90.below hB5 (Nat.le_refl _)
  have hR102 := hR91.below hB5 (Nat.le_refl _)
  have hR103 := hR92.below hB5 (Nat.le_refl _)
  have hR104 := hR93.below hB5 (Nat.le_refl _)
  have hR105 := hR94.below hB5 (Nat.le_refl _)
  have hR106 := hR95.below hB5 (Nat.le_refl _)
  have hR107 := hR96.below hB5 (Nat.le_refl _)
  have hR108 := hR97.below hB5 (Nat.le_refl _)
  have hR109 := hR98.below hB5 (Nat.le_refl _)
  have hR110 := hR99.below hB5 (Nat.le_refl _)
  have hR111 := hR100.below hB5 (Nat.le_refl _)
  have hR112 := hR89.below hB5 (Nat.le_refl _)
  have hW101 := hW90.later hB5
  have hW102 := hW91.later hB5
  have hW103 := hW92.later hB5
  have hW104 := hW93.later hB5
  have hW105 := hW94.later hB5
  have hW106 := hW95.later hB5
  have hW107 := hW96.later hB5
  have hW108 := hW97.later hB5
  have hW109 := hW98.later hB5
  have hW110 := hW99.later hB5
  have hW111 := hW100.later hB5
  have hW112 := hW89.later hB5
  refine s_valg hS17 (wanted_of (j := 32) (b := false) (d := 45) rfl rfl rfl rfl) rfl (r_lnot rfl (.t rfl rfl)) ?_
  refine s_val hS17 rfl rfl (r_pick rfl (.t rfl rfl) (.t rfl rfl)) ?_
  refine wpList_nil ?_
  refine x_tn ?_
  refine k_reb [(2, .bool false), (3, .slice a1 A.length c1), (4, .slice a2 B.length c2), (5, .slice a3 C.length c3), (51, .bool false)] ⟨rfl, rfl, rfl, rfl, rfl, trivial⟩ fun G3 => ?_
  refine k_f (.t rfl rfl) ?_
  refine wp_skip ?_
  refine x_tn ?_
  refine k_reb [(2, .bool false), (3, .slice a1 A.length c1), (4, .slice a2 B.length c2), (5, .slice a3 C.length c3)] ⟨rfl, rfl, rfl, rfl, trivial⟩ fun G4 => ?_
  refine wp_seq ?_
  refine wp_seq ?_
  refine k_reg ?_
  refine s_val hS17 rfl rfl (r_move rfl (.t rfl rfl)) ?_
  refine s_val hS17 rfl rfl (r_move rfl (.t rfl rfl)) ?_
  refine s_call rfl rfl rfl (vs := [.slice a1 A.length c1, .slice a2 B.length c2]) ⟨(.t rfl rfl), (.t rfl rfl), trivial⟩ cb19 (lmul_ok w15 a1 c1 A hR101 a2 c2 B hR102 hNA hNB (by (try simp only [hlN1, hlN2, hlN3, hlN4, hlN5, hlN6, hlN7, hlN8, hlN9, lv_nil, Nat.mul_zero, Nat.add_zero]) <;> (first | assumption | omega))) ?_
  intro v11 w16 hp13
  obtain ⟨N10, hp13, ⟨hNN10, hlN10⟩⟩ := hp13
  obtain ⟨a13, c13, rfl, hR113, -, hT13⟩ := id hp13
  have hW113 := Ow.from_ hS17 hp13
  have hS18 := hS17.keep hT13
  have hR114 := hR101.below hT13.toBelow (Nat.le_refl _)
  have hR115 := hR102.below hT13.toBelow (Nat.le_refl _)
  have hR116 := hR103.below hT13.toBelow (Nat.le_refl _)
  have hW114 := hW101.later hT13.toBelow
  have hW115 := hW102.later hT13.toBelow
  have hW116 := hW103.later hT13.toBelow
  have hW117 := hW104.later hT13.toBelow
  have hW118 := hW105.later hT13.toBelow
  have hW119 := hW106.later hT13.toBelow
  have hW120 := hW107.later hT13.toBelow
  have hW121 := hW108.later hT13.toBelow
  have hW122 := hW109.later hT13.toBelow
  have hW123 := hW110.later hT13.toBelow
  have hW124 := hW111.later hT13.toBelow
  have hW125 := hW112.later hT13.toBelow
  have hA13 := hp13.apart hS17 (m := 0) rfl
  have hnN10 := hNN10.len
  refine s_val hS18 rfl rfl (r_move rfl (.t rfl rfl)) ?_
  refine s_val hS18 rfl rfl (r_move rfl (.t rfl rfl)) ?_
  refine s_call rfl rfl rfl (vs := [.slice a2 B.length c2, .slice a1 A.length c1]) ⟨(.t rfl rfl), (.t rfl rfl), trivial⟩ cb19 (lmul_ok w16 a2 c2 B hR115 a1 c1 A hR114 hNB hNA (by (try simp only [hlN1, hlN2, hlN3, hlN4, hlN5, hlN6, hlN7, hlN8, hlN9, hlN10, lv_nil, Nat.mul_zero, Nat.add_zero]) <;> (first | assumption | omega))) ?_
  intro v12 w17 hp14
  obtain ⟨N11, hp14, ⟨hNN11, hlN11⟩⟩ := hp14
  obtain ⟨a14, c14, rfl, hR117, -, hT14⟩ := id hp14
  have hW126 := Ow.from_ hS18 hp14
  have hS19 := hS18.keep hT14
  have hR118 := hR114.below hT14.toBelow (Nat.le_refl _)
  have hR119 := hR115.below hT14.toBelow (Nat.le_refl _)
  have hR120 := hR116.below hT14.toBelow (Nat.le_refl _)
  have hR121 := hR113.below hT14.toBelow (Nat.le_refl _)
  have hW127 := hW114.later hT14.toBelow
  have hW128 := hW115.later hT14.toBelow
  have hW129 := hW116.later hT14.toBelow
  have hW130 := hW117.later hT14.toBelow
  have hW131 := hW118.later hT14.toBelow
  have hW132 := hW119.later hT14.toBelow
  have hW133 := hW120.later hT14.toBelow
  have hW134 := hW121.later hT14.toBelow
  have hW135 := hW122.later hT14.toBelow
  have hW136 := hW123.later hT14.toBelow
  have hW137 := hW124.later hT14.toBelow
  have hW138 := hW125.later hT14.toBelow
  have hW139 := hW113.later hT14.toBelow
  have hA14 := hp14.apart hS18 (m := 0) rfl
  have hnN11 := hNN11.len
  refine s_call rfl rfl rfl (vs := [.slice a13 N10.length c13, .slice a14 N11.length c14]) ⟨(.t rfl rfl), (.t rfl rfl), trivial⟩ cb14 (eq_ok w17 a13 c13 N10 hR121 a14 c14 N11 hR117 hNN10 hNN11) ?_
  rintro _ w18 ⟨⟨hc5, rfl⟩ | ⟨hc5, rfl⟩, hB6⟩
  rotate_left
  · exact absurd ((by (try simp only [hlN1, hlN2, hlN3, hlN4, hlN5, hlN6, hlN7, hlN8, hlN9, hlN10, hlN11, lv_nil, Nat.mul_zero, Nat.add_zero]) <;> (first | rfl | omega | grind))) hc5
  have hS20 := hS19.keep hB6
  replace hB6 := hB6.toBelow
  have hR122 := hR118.below hB6 (Nat.le_refl _)
  have hR123 := hR119.below hB6 (Nat.le_refl _)
  have hR124 := hR120.below hB6 (Nat.le_refl _)
  have hR125 := hR121.below hB6 (Nat.le_refl _)
  have hR126 := hR117.below hB6 (Nat.le_refl _)
  have hW140 := hW127.later hB6
  have hW141 := hW128.later hB6
  have hW142 := hW129.later hB6
  have hW143 := hW130.later hB6
  have hW144 := hW131.later hB6
  have hW145 := hW132.later hB6
  have hW146 := hW133.later hB6
  have hW147 := hW134.later hB6
  have hW148 := hW135.later hB6
  have hW149 := hW136.later hB6
  have hW150 := hW137.later hB6
  have hW151 := hW138.later hB6
  have hW152 := hW139.later hB6
  have hW153 := hW126.later hB6
  refine s_val hS20 rfl rfl (r_lnot rfl (.t rfl rfl)) ?_
  refine s_val hS20 rfl rfl (r_move rfl (.t rfl rfl)) ?_
  refine s_valg hS20 (wanted_of (j := 8) (b := false) (d := 60) rfl rfl rfl rfl) rfl (r_move rfl (.t rfl rfl)) ?_
  refine s_valg hS20 (wanted_of (j := 8) (b := false) (d := 60) rfl rfl rfl rfl) rfl (r_move rfl (.t rfl rfl)) ?_
  refine s_callg (wanted_of (j := 8) (b := false) (d := 60) rfl rfl rfl rfl) rfl rfl (vs := [.slice a1 A.length c1, .slice a2 B.length c2]) ⟨(.t rfl rfl), (.t rfl rfl), trivial⟩ cb19 (lmul_ok w18 a1 c1 A hR122 a2 c2 B hR123 hNA hNB (by (try simp only [hlN1, hlN2, hlN3, hlN4, hlN5, hlN6, hlN7, hlN8, hlN9, hlN10, hlN11, lv_nil, Nat.mul_zero, Nat.add_zero]) <;> (first | assumption | omega))) ?_
  intro v13 w19 hp15
  obtain ⟨N12, hp15, ⟨hNN12, hlN12⟩⟩ := hp15
  obtain ⟨a15, c15, rfl, hR127, -, hT15⟩ := id hp15
  have hW154 := Ow.from_ hS20 hp15
  have hS21 := hS20.keep hT15
  have hR128 := hR122.below hT15.toBelow (Nat.le_refl _)
  have hR129 := hR123.below hT15.toBelow (Nat.le_refl _)
  have hR130 := hR124.below hT15.toBelow (Nat.le_refl _)
  have hR131 := hR125.below hT15.toBelow (Nat.le_refl _)
  have hR132 := hR126.below hT15.toBelow (Nat.le_refl _)
  have hW155 := hW140.later hT15.toBelow
  have hW156 := hW141.later hT15.toBelow
  have hW157 := hW142.later hT15.toBelow
  have hW158 := hW143.later hT15.toBelow
  have hW159 := hW144.later hT15.toBelow
  have hW160 := hW145.later hT15.toBelow
  have hW161 := hW146.later hT15.toBelow
  have hW162 := hW147.later hT15.toBelow
  have hW163 := hW148.later hT15.toBelow
  have hW164 := hW149.later hT15.toBelow
  have hW165 := hW150.later hT15.toBelow
  have hW166 := hW151.later hT15.toBelow
  have hW167 := hW152.later hT15.toBelow
  have hW168 := hW153.later hT15.toBelow
  have hA15 := hp15.apart hS20 (m := 0) rfl
  have hnN12 := hNN12.len
  refine s_valg hS21 (wanted_of (j := 8) (b := false) (d := 60) rfl rfl rfl rfl) rfl (r_move rfl (.t rfl rfl)) ?_
  refine s_callg (wanted_of (j := 8) (b := false) (d := 60) rfl rfl rfl rfl) rfl rfl (vs := [.slice a15 N12.length c15, .slice a3 C.length c3]) ⟨(.t rfl rfl), (.t rfl rfl), trivial⟩ cb19 (lmul_ok w19 a15 c15 N12 hR127 a3 c3 C hR130 hNN12 hNC (by (try simp only [hlN1, hlN2, hlN3, hlN4, hlN5, hlN6, hlN7, hlN8, hlN9, hlN10, hlN11, hlN12, lv_nil, Nat.mul_zero, Nat.add_zero]) <;> (first | assumption | omega))) ?_
  intro v14 w20 hp16
  obtain ⟨N13, hp16, ⟨hNN13, hlN13⟩⟩ := hp16
  obtain ⟨a16, c16, rfl, hR133, -, hT16⟩ := id hp16
  have hW169 := Ow.from_ hS21 hp16
  have hS22 := hS21.keep hT16
  have hR134 := hR128.below hT16.toBelow (Nat.le_refl _)
  have hR135 := hR129.below hT16.toBelow (Nat.le_refl _)
  have hR136 := hR130.below hT16.toBelow (Nat.le_refl _)
  have hR137 := hR131.below hT16.toBelow (Nat.le_refl _)
  have hR138 := hR132.below hT16.toBelow (Nat.le_refl _)
  have hR139 := hR127.below hT16.toBelow (Nat.le_refl _)
  have hW170 := hW155.later hT16.toBelow
  have hW171 := hW156.later hT16.toBelow
  have hW172 := hW157.later hT16.toBelow
  have hW173 := hW158.later hT16.toBelow
  have hW174 := hW159.later hT16.toBelow
  have hW175 := hW160.later hT16.toBelow
  have hW176 := hW161.later hT16.toBelow
  have hW177 := hW162.later hT16.toBelow
  have hW178 := hW163.later hT16.toBelow
  have hW179 := hW164.later hT16.toBelow
  have hW180 := hW165.later hT16.toBelow
  have hW181 := hW166.later hT16.toBelow
  have hW182 := hW167.later hT16.toBelow
  have hW183 := hW168.later hT16.toBelow
  have hW184 := hW154.later hT16.toBelow
  have hA16 := hp16.apart hS21 (m := 0) rfl
  have hnN13 := hNN13.len
  refine s_valg hS22 (wanted_of (j := 8) (b := false) (d := 60) rfl rfl rfl rfl) rfl (r_move rfl (.t rfl rfl)) ?_
  refine s_valg hS22 (wanted_of (j := 8) (b := false) (d := 60) rfl rfl rfl rfl) rfl (r_move rfl (.t rfl rfl)) ?_
  refine s_valg hS22 (wanted_of (j := 8) (b := false) (d := 60) rfl rfl rfl rfl) rfl (r_move rfl (.t rfl rfl)) ?_
  refine s_callg (wanted_of (j := 8) (b := false) (d := 60) rfl rfl rfl rfl) rfl rfl (vs := [.slice a2 B.length c2, .slice a3 C.length c3]) ⟨(.t rfl rfl), (.t rfl rfl), trivial⟩ cb19 (lmul_ok w20 a2 c2 B hR135 a3 c3 C hR136 hNB hNC (by (try simp only [hlN1, hlN2, hlN3, hlN4, hlN5, hlN6, hlN7, hlN8, hlN9, hlN10, hlN11, hlN12, hlN13, lv_nil, Nat.mul_zero, Nat.add_zero]) <;> (first | assumption | omega))) ?_
  intro v15 w21 hp17
  obtain ⟨N14, hp17, ⟨hNN14, hlN14⟩⟩ := hp17
  obtain ⟨a17, c17, rfl, hR140, -, hT17⟩ := id hp17
  have hW185 := Ow.from_ hS22 hp17
  have hS23 := hS22.keep hT17
  have hR141 := hR134.below hT17.toBelow (Nat.le_refl _)
  have hR142 := hR135.below hT17.toBelow (Nat.le_refl _)
  have hR143 := hR136.below hT17.toBelow (Nat.le_refl _)
  have hR144 := hR137.below hT17.toBelow (Nat.le_refl _)
  have hR145 := hR138.below hT17.toBelow (Nat.le_refl _)
  have hR146 := hR139.below hT17.toBelow (Nat.le_refl _)
  have hR147 := hR133.below hT17.toBelow (Nat.le_refl _)
  have hW186 := hW170.later hT17.toBelow
  have hW187 := hW171.later hT17.toBelow
  have hW188 := hW172.later hT17.toBelow
  have hW189 := hW173.later hT17.toBelow
  have hW190 := hW174.later hT17.toBelow
  have hW191 := hW175.later hT17.toBelow
  have hW192 := hW176.later hT17.toBelow
  have hW193 := hW177.later hT17.toBelow
  have hW194 := hW178.later hT17.toBelow
  have hW195 := hW179.later hT17.toBelow
  have hW196 := hW180.later hT17.toBelow
  have hW197 := hW181.later hT17.toBelow
  have hW198 := hW182.later hT17.toBelow
  have hW199 := hW183.later hT17.toBelow
  have hW200 := hW184.later hT17.toBelow
  have hW201 := hW169.later hT17.toBelow
  have hA17 := hp17.apart hS22 (m := 0) rfl
  have hnN14 := hNN14.len
  refine s_callg (wanted_of (j := 8) (b := false) (d := 60) rfl rfl rfl rfl) rfl rfl (vs := [.slice a1 A.length c1, .slice a17 N14.length c17]) ⟨(.t rfl rfl), (.t rfl rfl), trivial⟩ cb19 (lmul_ok w21 a1 c1 A hR141 a17 c17 N14 hR140 hNA hNN14 (by (try simp only [hlN1, hlN2, hlN3, hlN4, hlN5, hlN6, hlN7, hlN8, hlN9, hlN10, hlN11, hlN12, hlN13, hlN14, lv_nil, Nat.mul_zero, Nat.add_zero]) <;> (first | assumption | omega))) ?_
  intro v16 w22 hp18
  obtain ⟨N15, hp18, ⟨hNN15, hlN15⟩⟩ := hp18
  obtain ⟨a18, c18, rfl, hR148, -, hT18⟩ := id hp18
  have hW202 := Ow.from_ hS23 hp18
  have hS24 := hS23.keep hT18
  have hR149 := hR141.below hT18.toBelow (Nat.le_refl _)
  have hR150 := hR142.below hT18.toBelow (Nat.le_refl _)
  have hR151 := hR143.below hT18.toBelow (Nat.le_refl _)
  have hR152 := hR144.below hT18.toBelow (Nat.le_refl _)
  have hR153 := hR145.below hT18.toBelow (Nat.le_refl _)
  have hR154 := hR146.below hT18.toBelow (Nat.le_refl _)
  have hR155 := hR147.below hT18.toBelow (Nat.le_refl _)
  have hR156 := hR140.below hT18.toBelow (Nat.le_refl _)
  have hW203 := hW186.later hT18.toBelow
  have hW204 := hW187.later hT18.toBelow
  have hW205 := hW188.later hT18.toBelow
  have hW206 := hW189.later hT18.toBelow
  have hW207 := hW190.later hT18.toBelow
  have hW208 := hW191.later hT18.toBelow
  have hW209 := hW192.later hT18.toBelow
  have hW210 := hW193.later hT18.toBelow
  have hW211 := hW194.later hT18.toBelow
  have hW212 := hW195.later hT18.toBelow
  have hW213 := hW196.later hT18.toBelow
  have hW214 := hW197.later hT18.toBelow
  have hW215 := hW198.later hT18.toBelow
  have hW216 := hW199.later hT18.toBelow
  have hW217 := hW200.later hT18.toBelow
  have hW218 := hW201.later hT18.toBelow
  have hW219 := hW185.later hT18.toBelow
  have hA18 := hp18.apart hS23 (m := 0) rfl
  have hnN15 := hNN15.len
  refine s_callg (wanted_of (j := 8) (b := false) (d := 60) rfl rfl rfl rfl) rfl rfl (vs := [.slice a16 N13.length c16, .slice a18 N15.length c18]) ⟨(.t rfl rfl), (.t rfl rfl), trivial⟩ cb14 (eq_ok w22 a16 c16 N13 hR155 a18 c18 N15 hR148 hNN13 hNN15) ?_
  rintro _ w23 ⟨⟨hc6, rfl⟩ | ⟨hc6, rfl⟩, hB7⟩
  rotate_left
  · exact absurd ((by (try simp only [hlN1, hlN2, hlN3, hlN4, hlN5, hlN6, hlN7, hlN8, hlN9, hlN10, hlN11, hlN12, hlN13, hlN14, hlN15, lv_nil, Nat.mul_zero, Nat.add_zero]) <;> (first | rfl | omega | grind))) hc6
  have hS25 := hS24.keep hB7
  replace hB7 := hB7.toBelow
  have hR157 := hR149.below hB7 (Nat.le_refl _)
  have hR158 := hR150.below hB7 (Nat.le_refl _)
  have hR159 := hR151.below hB7 (Nat.le_refl _)
  have hR160 := hR152.below hB7 (Nat.le_refl _)
  have hR161 := hR153.below hB7 (Nat.le_refl _)
  have hR162 := hR154.below hB7 (Nat.le_refl _)
  have hR163 := hR155.below hB7 (Nat.le_refl _)
  have hR164 := hR156.below hB7 (Nat.le_refl _)
  have hR165 := hR148.below hB7 (Nat.le_refl _)
  have hW220 := hW203.later hB7
  have hW221 := hW204.later hB7
  have hW222 := hW205.later hB7
  have hW223 := hW206.later hB7
  have hW224 := hW207.later hB7
  have hW225 := hW208.later hB7
  have hW226 := hW209.later hB7
  have hW227 := hW210.later hB7
  have hW228 := hW211.later hB7
  have hW229 := hW212.later hB7
  have hW230 := hW213.later hB7
  have hW231 := hW214.later hB7
  have hW232 := hW215.later hB7
  have hW233 := hW216.later hB7
  have hW234 := hW217.later hB7
  have hW235 := hW218.later hB7
  have hW236 := hW219.later hB7
  have hW237 := hW202.later hB7
  refine s_valg hS25 (wanted_of (j := 8) (b := false) (d := 60) rfl rfl rfl rfl) rfl (r_lnot rfl (.t rfl rfl)) ?_
  refine s_val hS25 rfl rfl (r_pick rfl (.t rfl rfl) (.t rfl rfl)) ?_
  refine s_val hS25 rfl rfl (r_move rfl (.t rfl rfl)) ?_
  refine s_valg hS25 (wanted_of (j := 22) (b := false) (d := 74) rfl rfl rfl rfl) rfl (r_move rfl (.t rfl rfl)) ?_
  refine s_valg hS25 (wanted_of (j := 22) (b := false) (d := 74) rfl rfl rfl rfl) rfl (r_move rfl (.t rfl rfl)) ?_
  refine s_valg hS25 (wanted_of (j := 22) (b := false) (d := 74) rfl rfl rfl rfl) rfl (r_move rfl (.t rfl rfl)) ?_
  refine s_callg (wanted_of (j := 22) (b := false) (d := 74) rfl rfl rfl rfl) rfl rfl (vs := [.slice a2 B.length c2, .slice a3 C.length c3]) ⟨(.t rfl rfl), (.t rfl rfl), trivial⟩ cb15 (ladd_ok w23 a2 c2 B hR158 a3 c3 C hR159 hNB hNC (by (try simp only [hlN1, hlN2, hlN3, hlN4, hlN5, hlN6, hlN7, hlN8, hlN9, hlN10, hlN11, hlN12, hlN13, hlN14, hlN15, lv_nil, Nat.mul_zero, Nat.add_zero]) <;> (first | assumption | omega))) ?_
  intro v17 w24 hp19
  obtain ⟨N16, hp19, ⟨hNN16, hlN16⟩⟩ := hp19
  obtain ⟨a19, c19, rfl, hR166, -, hT19⟩ := id hp19
  have hW238 := Ow.from_ hS25 hp19
  have hS26 := hS25.keep hT19
  have hR167 := hR157.below hT19.toBelow (Nat.le_refl _)
  have hR168 := hR158.below hT19.toBelow (Nat.le_refl _)
  have hR169 := hR159.below hT19.toBelow (Nat.le_refl _)
  have hR170 := hR160.below hT19.toBelow (Nat.le_refl _)
  have hR171 := hR161.below hT19.toBelow (Nat.le_refl _)
  have hR172 := hR162.below hT19.toBelow (Nat.le_refl _)
  have hR173 := hR163.below hT19.toBelow (Nat.le_refl _)
  have hR174 := hR164.below hT19.toBelow (Nat.le_refl _)
  have hR175 := hR165.below hT19.toBelow (Nat.le_refl _)
  have hW239 := hW220.later hT19.toBelow
  have hW240 := hW221.later hT19.toBelow
  have hW241 := hW222.later hT19.toBelow
  have hW242 := hW223.later hT19.toBelow
  have hW243 := hW224.later hT19.toBelow
  have hW244 := hW225.later hT19.toBelow
  have hW245 := hW226.later hT19.toBelow
  have hW246 := hW227.later hT19.toBelow
  have hW247 := hW228.later hT19.toBelow
  have hW248 := hW229.later hT19.toBelow
  have hW249 := hW230.later hT19.toBelow
  have hW250 := hW231.later hT19.toBelow
  have hW251 := hW232.later hT19.toBelow
  have hW252 := hW233.later hT19.toBelow
  have hW253 := hW234.later hT19.toBelow
  have hW254 := hW235.later hT19.toBelow
  have hW255 := hW236.later hT19.toBelow
  have hW256 := hW237.later hT19.toBelow
  have hA19 := hp19.apart hS25 (m := 0) rfl
  have hnN16 := hNN16.len
  refine s_callg (wanted_of (j := 22) (b := false) (d := 74) rfl rfl rfl rfl) rfl rfl (vs := [.slice a1 A.length c1, .slice a19 N16.length c19]) ⟨(.t rfl rfl), (.t rfl rfl), trivial⟩ cb19 (lmul_ok w24 a1 c1 A hR167 a19 c19 N16 hR166 hNA hNN16 (by (try simp only [hlN1, hlN2, hlN3, hlN4, hlN5, hlN6, hlN7, hlN8, hlN9, hlN10, hlN11, hlN12, hlN13, hlN14, hlN15, hlN16, lv_nil, Nat.mul_zero, Nat.add_zero]) <;> (first | assumption | omega))) ?_
  intro v18 w25 hp20
  obtain ⟨N17, hp20, ⟨hNN17, hlN17⟩⟩ := hp20
  obtain ⟨a20, c20, rfl, hR176, -, hT20⟩ := id hp20
  have hW257 := Ow.from_ hS26 hp20
  have hS27 := hS26.keep hT20
  have hR177 := hR167.below hT20.toBelow (Nat.le_refl _)
  have hR178 := hR168.below hT20.toBelow (Nat.le_refl _)
  have hR179 := hR169.below hT20.toBelow (Nat.le_refl _)
  have hR180 := hR170.below hT20.toBelow (Nat.le_refl _)
  have hR181 := hR171.below hT20.toBelow (Nat.le_refl _)
  have hR182 := hR172.below hT20.toBelow (Nat.le_refl _)
  have hR183 := hR173.below hT20.toBelow (Nat.le_refl _)
  have hR184 := hR174.below hT20.toBelow (Nat.le_refl _)
  have hR185 := hR175.below hT20.toBelow (Nat.le_refl _)
  have hR186 := hR166.below hT20.toBelow (Nat.le_refl _)
  have hW258 := hW239.later hT20.toBelow
  have hW259 := hW240.later hT20.toBelow
  have hW260 := hW241.later hT20.toBelow
  have hW261 := hW242.later hT20.toBelow
  have hW262 := hW243.later hT20.toBelow
  have hW263 := hW244.later hT20.toBelow
  have hW264 := hW245.later hT20.toBelow
  have hW265 := hW246.later hT20.toBelow
  have hW266 := hW247.later hT20.toBelow
  have hW267 := hW248.later hT20.toBelow
  have hW268 := hW249.later hT20.toBelow
  have hW269 := hW250.later hT20.toBelow
  have hW270 := hW251.later hT20.toBelow
  have hW271 := hW252.later hT20.toBelow
  have hW272 := hW253.later hT20.toBelow
  have hW273 := hW254.later hT20.toBelow
  have hW274 := hW255.later hT20.toBelow
  have hW275 := hW256.later hT20.toBelow
  have hW276 := hW238.later hT20.toBelow
  have hA20 := hp20.apart hS26 (m := 0) rfl
  have hnN17 := hNN17.len
  refine s_valg hS27 (wanted_of (j := 22) (b := false) (d := 74) rfl rfl rfl rfl) rfl (r_move rfl (.t rfl rfl)) ?_
  refine s_valg hS27 (wanted_of (j := 22) (b := false) (d := 74) rfl rfl rfl rfl) rfl (r_move rfl (.t rfl rfl)) ?_
  refine s_callg (wanted_of (j := 22) (b := false) (d := 74) rfl rfl rfl rfl) rfl rfl (vs := [.slice a1 A.length c1, .slice a2 B.length c2]) ⟨(.t rfl rfl), (.t rfl rfl), trivial⟩ cb19 (lmul_ok w25 a1 c1 A hR177 a2 c2 B hR178 hNA hNB (by (try simp only [hlN1, hlN2, hlN3, hlN4, hlN5, hlN6, hlN7, hlN8, hlN9, hlN10, hlN11, hlN12, hlN13, hlN14, hlN15, hlN16, hlN17, lv_nil, Nat.mul_zero, Nat.add_zero]) <;> (first | assumption | omega))) ?_
  intro v19 w26 hp21
  obtain ⟨N18, hp21, ⟨hNN18, hlN18⟩⟩ := hp21
  obtain ⟨a21, c21, rfl, hR187, -, hT21⟩ := id hp21
  have hW277 := Ow.from_ hS27 hp21
  have hS28 := hS27.keep hT21
  have hR188 := hR177.below hT21.toBelow (Nat.le_refl _)
  have hR189 := hR178.below hT21.toBelow (Nat.le_refl _)
  have hR190 := hR179.below hT21.toBelow (Nat.le_refl _)
  have hR191 := hR180.below hT21.toBelow (Nat.le_refl _)
  have hR192 := hR181.below hT21.toBelow (Nat.le_refl _)
  have hR193 := hR182.below hT21.toBelow (Nat.le_refl _)
  have hR194 := hR183.below hT21.toBelow (Nat.le_refl _)
  have hR195 := hR184.below hT21.toBelow (Nat.le_refl _)
  have hR196 := hR185.below hT21.toBelow (Nat.le_refl _)
  have hR197 := hR186.below hT21.toBelow (Nat.le_refl _)
  have hR198 := hR176.below hT21.toBelow (Nat.le_refl _)
  have hW278 := hW258.later hT21.toBelow
  have hW279 := hW259.later hT21.toBelow
  have hW280 := hW260.later hT21.toBelow
  have hW281 := hW261.later hT21.toBelow
  have hW282 := hW262.later hT21.toBelow
  have hW283 := hW263.later hT21.toBelow
  have hW284 := hW264.later hT21.toBelow
  have hW285 := hW265.later hT21.toBelow
  have hW286 := hW266.later hT21.toBelow
  have hW287 := hW267.later hT21.toBelow
  have hW288 := hW268.later hT21.toBelow
  have hW289 := hW269.later hT21.toBelow
  have hW290 := hW270.later hT21.toBelow
  have hW291 := hW271.later hT21.toBelow
  have hW292 := hW272.later hT21.toBelow
  have hW293 := hW273.later hT21.toBelow
  have hW294 := hW274.later hT21.toBelow
  have hW295 := hW275.later hT21.toBelow
  have hW296 := hW276.later hT21.toBelow
  have hW297 := hW257.later hT21.toBelow
  have hA21 := hp21.apart hS27 (m := 0) rfl
  have hnN18 := hNN18.len
  refine s_valg hS28 (wanted_of (j := 22) (b := false) (d := 74) rfl rfl rfl rfl) rfl (r_move rfl (.t rfl rfl)) ?_
  refine s_valg hS28 (wanted_of (j := 22) (b := false) (d := 74) rfl rfl rfl rfl) rfl (r_move rfl (.t rfl rfl)) ?_
  refine s_callg (wanted_of (j := 22) (b := false) (d := 74) rfl rfl rfl rfl) rfl rfl (vs := [.slice a1 A.length c1, .slice a3 C.length c3]) ⟨(.t rfl rfl), (.t rfl rfl), trivial⟩ cb19 (lmul_ok w26 a1 c1 A hR188 a3 c3 C hR190 hNA hNC (by (try simp only [hlN1, hlN2, hlN3, hlN4, hlN5, hlN6, hlN7, hlN8, hlN9, hlN10, hlN11, hlN12, hlN13, hlN14, hlN15, hlN16, hlN17, hlN18, lv_nil, Nat.mul_zero, Nat.add_zero]) <;> (first | assumption | omega))) ?_
  intro v20 w27 hp22
  obtain ⟨N19, hp22, ⟨hNN19, hlN19⟩⟩ := hp22
  obtain ⟨a22, c22, rfl, hR199, -, hT22⟩ := id hp22
  have hW298 := Ow.from_ hS28 hp22
  have hS29 := hS28.keep hT22
  have hR200 := hR188.below hT22.toBelow (Nat.le_refl _)
  have hR201 := hR189.below hT22.toBelow (Nat.le_refl _)
  have hR202 := hR190.below hT22.toBelow (Nat.le_refl _)
  have hR203 := hR191.below hT22.toBelow (Nat.le_refl _)
  have hR204 := hR192.below hT22.toBelow (Nat.le_refl _)
  have hR205 := hR193.below hT22.toBelow (Nat.le_refl _)
  have hR206 := hR194.below hT22.toBelow (Nat.le_refl _)
  have hR207 := hR195.below hT22.toBelow (Nat.le_refl _)
  have hR208 := hR196.below hT22.toBelow (Nat.le_refl _)
  have hR209 := hR197.below hT22.toBelow (Nat.le_refl _)
  have hR210 := hR198.below hT22.toBelow (Nat.le_refl _)
  have hR211 := hR187.below hT22.toBelow (Nat.le_refl _)
  have hW299 := hW278.later hT22.toBelow
  have hW300 := hW279.later hT22.toBelow
  have hW301 := hW280.later hT22.toBelow
  have hW302 := hW281.later hT22.toBelow
  have hW303 := hW282.later hT22.toBelow
  have hW304 := hW283.later hT22.toBelow
  have hW305 := hW284.later hT22.toBelow
  have hW306 := hW285.later hT22.toBelow
  have hW307 := hW286.later hT22.toBelow
  have hW308 := hW287.later hT22.toBelow
  have hW309 := hW288.later hT22.toBelow
  have hW310 := hW289.later hT22.toBelow
  have hW311 := hW290.later hT22.toBelow
  have hW312 := hW291.later hT22.toBelow
  have hW313 := hW292.later hT22.toBelow
  have hW314 := hW293.later hT22.toBelow
  have hW315 := hW294.later hT22.toBelow
  have hW316 := hW295.later hT22.toBelow
  have hW317 := hW296.later hT22.toBelow
  have hW318 := hW297.later hT22.toBelow
  have hW319 := hW277.later hT22.toBelow
  have hA22 := hp22.apart hS28 (m := 0) rfl
  have hnN19 := hNN19.len
  refine s_callg (wanted_of (j := 22) (b := false) (d := 74) rfl rfl rfl rfl) rfl rfl (vs := [.slice a21 N18.length c21, .slice a22 N19.length c22]) ⟨(.t rfl rfl), (.t rfl rfl), trivial⟩ cb15 (ladd_ok w27 a21 c21 N18 hR211 a22 c22 N19 hR199 hNN18 hNN19 (by (try simp only [hlN1, hlN2, hlN3, hlN4, hlN5, hlN6, hlN7, hlN8, hlN9, hlN10, hlN11, hlN12, hlN13, hlN14, hlN15, hlN16, hlN17, hlN18, hlN19, lv_nil, Nat.mul_zero, Nat.add_zero]) <;> (first | assumption | omega))) ?_
  intro v21 w28 hp23
  obtain ⟨N20, hp23, ⟨hNN20, hlN20⟩⟩ := hp23
  obtain ⟨a23, c23, rfl, hR212, -, hT23⟩ := id hp23
  have hW320 := Ow.from_ hS29 hp23
  have hS30 := hS29.keep hT23
  have hR213 := hR200.below hT23.toBelow (Nat.le_refl _)
  have hR214 := hR201.below hT23.toBelow (Nat.le_refl _)
  have hR215 := hR202.below hT23.toBelow (Nat.le_refl _)
  have hR216 := hR203.below hT23.toBelow (Nat.le_refl _)
  have hR217 := hR204.below hT23.toBelow (Nat.le_refl _)
  have hR218 := hR205.below hT23.toBelow (Nat.le_refl _)
  have hR219 := hR206.below hT23.toBelow (Nat.le_refl _)
  have hR220 := hR207.below hT23.toBelow (Nat.le_refl _)
  have hR221 := hR208.below hT23.toBelow (Nat.le_refl _)
  have hR222 := hR209.below hT23.toBelow (Nat.le_refl _)
  have hR223 := hR210.below hT23.toBelow (Nat.le_refl _)
  have hR224 := hR211.below hT23.toBelow (Nat.le_refl _)
  have hR225 := hR199.below hT23.toBelow (Nat.le_refl _)
  have hW321 := hW299.later hT23.toBelow
  have hW322 := hW300.later hT23.toBelow
  have hW323 := hW301.later hT23.toBelow
  have hW324 := hW302.later hT23.toBelow
  have hW325 := hW303.later hT23.toBelow
  have hW326 := hW304.later hT23.toBelow
  have hW327 := hW305.later hT23.toBelow
  have hW328 := hW306.later hT23.toBelow
  have hW329 := hW307.later hT23.toBelow
  have hW330 := hW308.later hT23.toBelow
  have hW331 := hW309.later hT23.toBelow
  have hW332 := hW310.later hT23.toBelow
  have hW333 := hW311.later hT23.toBelow
  have hW334 := hW312.later hT23.toBelow
  have hW335 := hW313.later hT23.toBelow
  have hW336 := hW314.later hT23.toBelow
  have hW337 := hW315.later hT23.toBelow
  have hW338 := hW316.later hT23.toBelow
  have hW339 := hW317.later hT23.toBelow
  have hW340 := hW318.later hT23.toBelow
  have hW341 := hW319.later hT23.toBelow
  have hW342 := hW298.later hT23.toBelow
  have hA23 := hp23.apart hS29 (m := 0) rfl
  have hnN20 := hNN20.len
  refine s_callg (wanted_of (j := 22) (b := false) (d := 74) rfl rfl rfl rfl) rfl rfl (vs := [.slice a20 N17.length c20, .slice a23 N20.length c23]) ⟨(.t rfl rfl), (.t rfl rfl), trivial⟩ cb14 (eq_ok w28 a20 c20 N17 hR223 a23 c23 N20 hR212 hNN17 hNN20) ?_
  rintro _ w29 ⟨⟨hc7, rfl⟩ | ⟨hc7, rfl⟩, hB8⟩
  rotate_left
  · exact absurd ((by (try simp only [hlN1, hlN2, hlN3, hlN4, hlN5, hlN6, hlN7, hlN8, hlN9, hlN10, hlN11, hlN12, hlN13, hlN14, hlN15, hlN16, hlN17, hlN18, hlN19, hlN20, lv_nil, Nat.mul_zero, Nat.add_zero]) <;> (first | rfl | omega | grind))) hc7
  have hS31 := hS30.keep hB8
  replace hB8 := hB8.toBelow
  have hR226 := hR213.below hB8 (Nat.le_refl _)
  have hR227 := hR214.below hB8 (Nat.le_refl _)
  have hR228 := hR215.below hB8 (Nat.le_refl _)
  have hR229 := hR216.below hB8 (Nat.le_refl _)
  have hR230 := hR217.below hB8 (Nat.le_refl _)
  have hR231 := hR218.below hB8 (Nat.le_refl _)
  have hR232 := hR219.below hB8 (Nat.le_refl _)
  have hR233 := hR220.below hB8 (Nat.le_refl _)
  have hR234 := hR221.below hB8 (Nat.le_refl _)
  have hR235 := hR222.below hB8 (Nat.le_refl _)
  have hR236 := hR223.below hB8 (Nat.le_refl _)
  have hR237 := hR224.below hB8 (Nat.le_refl _)
  have hR238 := hR225.below hB8 (Nat.le_refl _)
  have hR239 := hR212.below hB8 (Nat.le_refl _)
  have hW343 := hW321.later hB8
  have hW344 := hW322.later hB8
  have hW345 := hW323.later hB8
  have hW346 := hW324.later hB8
  have hW347 := hW325.later hB8
  have hW348 := hW326.later hB8
  have hW349 := hW327.later hB8
  have hW350 := hW328.later hB8
  have hW351 := hW329.later hB8
  have hW352 := hW330.later hB8
  have hW353 := hW331.later hB8
  have hW354 := hW332.later hB8
  have hW355 := hW333.later hB8
  have hW356 := hW334.later hB8
  have hW357 := hW335.later hB8
  have hW358 := hW336.later hB8
  have hW359 := hW337.later hB8
  have hW360 := hW338.later hB8
  have hW361 := hW339.later hB8
  have hW362 := hW340.later hB8
  have hW363 := hW341.later hB8
  have hW364 := hW342.later hB8
  have hW365 := hW320.later hB8
  refine s_valg hS31 (wanted_of (j := 22) (b := false) (d := 74) rfl rfl rfl rfl) rfl (r_lnot rfl (.t rfl rfl)) ?_
  refine s_val hS31 rfl rfl (r_pick rfl (.t rfl rfl) (.t rfl rfl)) ?_
  refine s_val hS31 rfl rfl (r_move rfl (.t rfl rfl)) ?_
  refine s_valg hS31 (wanted_of (j := 38) (b := false) (d := 90) rfl rfl rfl rfl) rfl (r_move rfl (.t rfl rfl)) ?_
  refine s_callg (wanted_of (j := 38) (b := false) (d := 90) rfl rfl rfl rfl) rfl rfl (vs := [.int .u64 1]) ⟨.c, trivial⟩ cb18 (from_ok w29 1 (by omega)) ?_
  intro v22 w30 hp24
  obtain ⟨N21, hp24, ⟨hNN21, hlN21⟩⟩ := hp24
  obtain ⟨a24, c24, rfl, hR240, -, hT24⟩ := id hp24
  have hW366 := Ow.from_ hS31 hp24
  have hS32 := hS31.keep hT24
  have hR241 := hR226.below hT24.toBelow (Nat.le_refl _)
  have hR242 := hR227.below hT24.toBelow (Nat.le_refl _)
  have hR243 := hR228.below hT24.toBelow (Nat.le_refl _)
  have hR244 := hR229.below hT24.toBelow (Nat.le_refl _)
  have hR245 := hR230.below hT24.toBelow (Nat.le_refl _)
  have hR246 := hR231.below hT24.toBelow (Nat.le_refl _)
  have hR247 := hR232.below hT24.toBelow (Nat.le_refl _)
  have hR248 := hR233.below hT24.toBelow (Nat.le_refl _)
  have hR249 := hR234.below hT24.toBelow (Nat.le_refl _)
  have hR250 := hR235.below hT24.toBelow (Nat.le_refl _)
  have hR251 := hR236.below hT24.toBelow (Nat.le_refl _)
  have hR252 := hR237.below hT24.toBelow (Nat.le_refl _)
  have hR253 := hR238.below hT24.toBelow (Nat.le_refl _)
  have hR254 := hR239.below hT24.toBelow (Nat.le_refl _)
  have hW367 := hW343.later hT24.toBelow
  have hW368 := hW344.later hT24.toBelow
  have hW369 := hW345.later hT24.toBelow
  have hW370 := hW346.later hT24.toBelow
  have hW371 := hW347.later hT24.toBelow
  have hW372 := hW348.later hT24.toBelow
  have hW373 := hW349.later hT24.toBelow
  have hW374 := hW350.later hT24.toBelow
  have hW375 := hW351.later hT24.toBelow
  have hW376 := hW352.later hT24.toBelow
  have hW377 := hW353.later hT24.toBelow
  have hW378 := hW354.later hT24.toBelow
  have hW379 := hW355.later hT24.toBelow
  have hW380 := hW356.later hT24.toBelow
  have hW381 := hW357.later hT24.toBelow
  have hW382 := hW358.later hT24.toBelow
  have hW383 := hW359.later hT24.toBelow
  have hW384 := hW360.later hT24.toBelow
  have hW385 := hW361.later hT24.toBelow
  have hW386 := hW362.later hT24.toBelow
  have hW387 := hW363.later hT24.toBelow
  have hW388 := hW364.later hT24.toBelow
  have hW389 := hW365.later hT24.toBelow
  have hA24 := hp24.apart hS31 (m := 0) rfl
  have hnN21 := hNN21.len
  refine s_callg (wanted_of (j := 38) (b := false) (d := 90) rfl rfl rfl rfl) rfl rfl (vs := [.slice a1 A.length c1, .slice a24 N21.length c24]) ⟨(.t rfl rfl), (.t rfl rfl), trivial⟩ cb19 (lmul_ok w30 a1 c1 A hR241 a24 c24 N21 hR240 hNA hNN21 (by (try simp only [hlN1, hlN2, hlN3, hlN4, hlN5, hlN6, hlN7, hlN8, hlN9, hlN10, hlN11, hlN12, hlN13, hlN14, hlN15, hlN16, hlN17, hlN18, hlN19, hlN20, hlN21, lv_nil, Nat.mul_zero, Nat.add_zero]) <;> (first | assumption | omega))) ?_
  intro v23 w31 hp25
  obtain ⟨N22, hp25, ⟨hNN22, hlN22⟩⟩ := hp25
  obtain ⟨a25, c25, rfl, hR255, -, hT25⟩ := id hp25
  have hW390 := Ow.from_ hS32 hp25
  have hS33 := hS32.keep hT25
  have hR256 := hR241.below hT25.toBelow (Nat.le_refl _)
  have hR257 := hR242.below hT25.toBelow (Nat.le_refl _)
  have hR258 := hR243.below hT25.toBelow (Nat.le_refl _)
  have hR259 := hR244.below hT25.toBelow (Nat.le_refl _)
  have hR260 := hR245.below hT25.toBelow (Nat.le_refl _)
  have hR261 := hR246.below hT25.toBelow (Nat.le_refl _)
  have hR262 := hR247.below hT25.toBelow (Nat.le_refl _)
  have hR263 := hR248.below hT25.toBelow (Nat.le_refl _)
  have hR264 := hR249.below hT25.toBelow (Nat.le_refl _)
  have hR265 := hR250.below hT25.toBelow (Nat.le_refl _)
  have hR266 := hR251.below hT25.toBelow (Nat.le_refl _)
  have hR267 := hR252.below hT25.toBelow (Nat.le_refl _)
  have hR268 := hR253.below hT25.toBelow (Nat.le_refl _)
  have hR269 := hR254.below hT25.toBelow (Nat.le_refl _)
  have hR270 := hR240.below hT25.toBelow (Nat.le_refl _)
  have hW391 := hW367.later hT25.toBelow
  have hW392 := hW368.later hT25.toBelow
  have hW393 := hW369.later hT25.toBelow
  have hW394 := hW370.later hT25.toBelow
  have hW395 := hW371.later hT25.toBelow
  have hW396 := hW372.later hT25.toBelow
  have hW397 := hW373.later hT25.toBelow
  have hW398 := hW374.later hT25.toBelow
  have hW399 := hW375.later hT25.toBelow
  have hW400 := hW376.later hT25.toBelow
  have hW401 := hW377.later hT25.toBelow
  have hW402 := hW378.later hT25.toBelow
  have hW403 := hW379.later hT25.toBelow
  have hW404 := hW380.later hT25.toBelow
  have hW405 := hW381.later hT25.toBelow
  have hW406 := hW382.later hT25.toBelow
  have hW407 := hW383.later hT25.toBelow
  have hW408 := hW384.later hT25.toBelow
  have hW409 := hW385.later hT25.toBelow
  have hW410 := hW386.later hT25.toBelow
  have hW411 := hW387.later hT25.toBelow
  have hW412 := hW388.later hT25.toBelow
  have hW413 := hW389.later hT25.toBelow
  have hW414 := hW366.later hT25.toBelow
  have hA25 := hp25.apart hS32 (m := 0) rfl
  have hnN22 := hNN22.len
  refine s_valg hS33 (wanted_of (j := 38) (b := false) (d := 90) rfl rfl rfl rfl) rfl (r_move rfl (.t rfl rfl)) ?_
  refine s_callg (wanted_of (j := 38) (b := false) (d := 90) rfl rfl rfl rfl) rfl rfl (vs := [.slice a25 N22.length c25, .slice a1 A.length c1]) ⟨(.t rfl rfl), (.t rfl rfl), trivial⟩ cb14 (eq_ok w31 a25 c25 N22 hR255 a1 c1 A hR256 hNN22 hNA) ?_
  rintro _ w32 ⟨⟨hc8, rfl⟩ | ⟨hc8, rfl⟩, hB9⟩
  rotate_left
  · exact absurd ((by (try simp only [hlN1, hlN2, hlN3, hlN4, hlN5, hlN6, hlN7, hlN8, hlN9, hlN10, hlN11, hlN12, hlN13, hlN14, hlN15, hlN16, hlN17, hlN18, hlN19, hlN20, hlN21, hlN22, lv_nil, Nat.mul_zero, Nat.add_zero]) <;> (first | rfl | omega | grind))) hc8
  have hS34 := hS33.keep hB9
  replace hB9 := hB9.toBelow
  have hR271 := hR256.below hB9 (Nat.le_refl _)
  have hR272 := hR257.below hB9 (Nat.le_refl _)
  have hR273 := hR258.below hB9 (Nat.le_refl _)
  have hR274 := hR259.below hB9 (Nat.le_refl _)
  have hR275 := hR260.below hB9 (Nat.le_refl _)
  have hR276 := hR261.below hB9 (Nat.le_refl _)
  have hR277 := hR262.below hB9 (Nat.le_refl _)
  have hR278 := hR263.below hB9 (Nat.le_refl _)
  have hR279 := hR264.below hB9 (Nat.le_refl _)
  have hR280 := hR265.below hB9 (Nat.le_refl _)
  have hR281 := hR266.below hB9 (Nat.le_refl _)
  have hR282 := hR267.below hB9 (Nat.le_refl _)
  have hR283 := hR268.below hB9 (Nat.le_refl _)
  have hR284 := hR269.below hB9 (Nat.le_refl _)
  have hR285 := hR270.below hB9 (Nat.le_refl _)
  have hR286 := hR255.below hB9 (Nat.le_refl _)
  have hW415 := hW391.later hB9
  have hW416 := hW392.later hB9
  have hW417 := hW393.later hB9
  have hW418 := hW394.later hB9
  have hW419 := hW395.later hB9
  have hW420 := hW396.later hB9
  have hW421 := hW397.later hB9
  have hW422 := hW398.later hB9
  have hW423 := hW399.later hB9
  have hW424 := hW400.later hB9
  have hW425 := hW401.later hB9
  have hW426 := hW402.later hB9
  have hW427 := hW403.later hB9
  have hW428 := hW404.later hB9
  have hW429 := hW405.later hB9
  have hW430 := hW406.later hB9
  have hW431 := hW407.later hB9
  have hW432 := hW408.later hB9
  have hW433 := hW409.later hB9
  have hW434 := hW410.later hB9
  have hW435 := hW411.later hB9
  have hW436 := hW412.later hB9
  have hW437 := hW413.later hB9
  have hW438 := hW414.later hB9
  have hW439 := hW390.later hB9
  refine s_valg hS34 (wanted_of (j := 38) (b := false) (d := 90) rfl rfl rfl rfl) rfl (r_lnot rfl (.t rfl rfl)) ?_
  refine s_val hS34 rfl rfl (r_pick rfl (.t rfl rfl) (.t rfl rfl)) ?_
  refine s_val hS34 rfl rfl (r_move rfl (.t rfl rfl)) ?_
  refine s_valg hS34 (wanted_of (j := 46) (b := false) (d := 98) rfl rfl rfl rfl) rfl (r_move rfl (.t rfl rfl)) ?_
  refine s_callg (wanted_of (j := 46) (b := false) (d := 98) rfl rfl rfl rfl) rfl rfl (vs := [.slice a1 A.length c1, .slice none 0 0]) ⟨(.t rfl rfl), .c, trivial⟩ cb19 (lmul_ok w32 a1 c1 A hR271 none 0 ([]) Rd.nil hNA nm_nil (by (try simp only [hlN1, hlN2, hlN3, hlN4, hlN5, hlN6, hlN7, hlN8, hlN9, hlN10, hlN11, hlN12, hlN13, hlN14, hlN15, hlN16, hlN17, hlN18, hlN19, hlN20, hlN21, hlN22, lv_nil, Nat.mul_zero, Nat.add_zero]) <;> (first | assumption | omega))) ?_
  intro v24 w33 hp26
  obtain ⟨Z0, hp26, ⟨hNZ0, hlZ0⟩⟩ := hp26
  obtain ⟨a26, c26, rfl, hR287, -, hT26⟩ := id hp26
  have hW440 := Ow.from_ hS34 hp26
  have hS35 := hS34.keep hT26
  have hR288 := hR271.below hT26.toBelow (Nat.le_refl _)
  have hR289 := hR272.below hT26.toBelow (Nat.le_refl _)
  have hR290 := hR273.below hT26.toBelow (Nat.le_refl _)
  have hR291 := hR274.below hT26.toBelow (Nat.le_refl _)
  have hR292 := hR275.below hT26.toBelow (Nat.le_refl _)
  have hR293 := hR276.below hT26.toBelow (Nat.le_refl _)
  have hR294 := hR277.below hT26.toBelow (Nat.le_refl _)
  have hR295 := hR278.below hT26.toBelow (Nat.le_refl _)
  have hR296 := hR279.below hT26.toBelow (Nat.le_refl _)
  have hR297 := hR280.below hT26.toBelow (Nat.le_refl _)
  have hR298 := hR281.below hT26.toBelow (Nat.le_refl _)
  have hR299 := hR282.below hT26.toBelow (Nat.le_refl _)
  have hR300 := hR283.below hT26.toBelow (Nat.le_refl _)
  have hR301 := hR284.below hT26.toBelow (Nat.le_refl _)
  have hR302 := hR285.below hT26.toBelow (Nat.le_refl _)
  have hR303 := hR286.below hT26.toBelow (Nat.le_refl _)
  have hW441 := hW415.later hT26.toBelow
  have hW442 := hW416.later hT26.toBelow
  have hW443 := hW417.later hT26.toBelow
  have hW444 := hW418.later hT26.toBelow
  have hW445 := hW419.later hT26.toBelow
  have hW446 := hW420.later hT26.toBelow
  have hW447 := hW421.later hT26.toBelow
  have hW448 := hW422.later hT26.toBelow
  have hW449 := hW423.later hT26.toBelow
  have hW450 := hW424.later hT26.toBelow
  have hW451 := hW425.later hT26.toBelow
  have hW452 := hW426.later hT26.toBelow
  have hW453 := hW427.later hT26.toBelow
  have hW454 := hW428.later hT26.toBelow
  have hW455 := hW429.later hT26.toBelow
  have hW456 := hW430.later hT26.toBelow
  have hW457 := hW431.later hT26.toBelow
  have hW458 := hW432.later hT26.toBelow
  have hW459 := hW433.later hT26.toBelow
  have hW460 := hW434.later hT26.toBelow
  have hW461 := hW435.later hT26.toBelow
  have hW462 := hW436.later hT26.toBelow
  have hW463 := hW437.later hT26.toBelow
  have hW464 := hW438.later hT26.toBelow
  have hW465 := hW439.later hT26.toBelow
  have hA26 := hp26.apart hS34 (m := 0) rfl
  have hnZ0 := hNZ0.len
  refine s_valg hS35 (wanted_of (j := 46) (b := false) (d := 98) rfl rfl rfl rfl) rfl (r_len rfl rfl Try.underlying27 (.t rfl rfl)) ?_
  refine s_valg hS35 (wanted_of (j := 46) (b := false) (d := 98) rfl rfl rfl rfl) rfl (r_cmp_f rfl rfl (.t rfl rfl) .c (show ¬ (¬ ((Z0.length : Nat) : Int) = 0) from (by rw [lv_zero hNZ0.nz (by rw [hlZ0]; simp [lv])]; simp))) ?_
  refine s_val hS35 rfl rfl (r_pick rfl (.t rfl rfl) (.t rfl rfl)) ?_
  refine wpList_nil ?_
  refine x_tn ?_
  refine k_reb [(2, .bool false), (3, .slice a1 A.length c1), (4, .slice a2 B.length c2), (103, .bool false)] ⟨rfl, rfl, rfl, rfl, trivial⟩ fun G5 => ?_
  refine k_f (.t rfl rfl) ?_
  refine wp_skip ?_
  refine x_tn ?_
  refine k_reb [(2, .bool false), (3, .slice a1 A.length c1), (4, .slice a2 B.length c2)] ⟨rfl, rfl, rfl, trivial⟩ fun G6 => ?_
  refine wp_seq ?_
  refine k_reg ?_
  refine s_val hS35 rfl rfl (r_move rfl (.t rfl rfl)) ?_
  refine s_val hS35 rfl rfl (r_move rfl (.t rfl rfl)) ?_
  refine s_call rfl rfl rfl (vs := [.slice a1 A.length c1, .slice a2 B.length c2]) ⟨(.t rfl rfl), (.t rfl rfl), trivial⟩ cb15 (ladd_ok w33 a1 c1 A hR288 a2 c2 B hR289 hNA hNB (by (try simp only [hlN1, hlN2, hlN3, hlN4, hlN5, hlN6, hlN7, hlN8, hlN9, hlN10, hlN11, hlN12, hlN13, hlN14, hlN15, hlN16, hlN17, hlN18, hlN19, hlN20, hlN21, hlN22, hlZ0, lv_nil, Nat.mul_zero, Nat.add_zero]) <;> (first | assumption | omega))) ?_
  intro v25 w34 hp27
  obtain ⟨SS, hp27, ⟨hNSS, hlSS⟩⟩ := hp27
  obtain ⟨a27, c27, rfl, hR304, -, hT27⟩ := id hp27
  have hW466 := Ow.from_ hS35 hp27
  have hS36 := hS35.keep hT27
  have hR305 := hR288.below hT27.toBelow (Nat.le_refl _)
  have hR306 := hR289.below hT27.toBelow (Nat.le_refl _)
  have hW467 := hW441.later hT27.toBelow
  have hW468 := hW442.later hT27.toBelow
  have hW469 := hW443.later hT27.toBelow
  have hW470 := hW444.later hT27.toBelow
  have hW471 := hW445.later hT27.toBelow
  have hW472 := hW446.later hT27.toBelow
  have hW473 := hW447.later hT27.toBelow
  have hW474 := hW448.later hT27.toBelow
  have hW475 := hW449.later hT27.toBelow
  have hW476 := hW450.later hT27.toBelow
  have hW477 := hW451.later hT27.toBelow
  have hW478 := hW452.later hT27.toBelow
  have hW479 := hW453.later hT27.toBelow
  have hW480 := hW454.later hT27.toBelow
  have hW481 := hW455.later hT27.toBelow
  have hW482 := hW456.later hT27.toBelow
  have hW483 := hW457.later hT27.toBelow
  have hW484 := hW458.later hT27.toBelow
  have hW485 := hW459.later hT27.toBelow
  have hW486 := hW460.later hT27.toBelow
  have hW487 := hW461.later hT27.toBelow
  have hW488 := hW462.later hT27.toBelow
  have hW489 := hW463.later hT27.toBelow
  have hW490 := hW464.later hT27.toBelow
  have hW491 := hW465.later hT27.toBelow
  have hW492 := hW440.later hT27.toBelow
  have hA27 := hp27.apart hS35 (m := 0) rfl
  have hnSS := hNSS.len
  refine s_val hS36 rfl rfl (r_assign rfl (.t rfl rfl)) ?_
  refine wpList_nil ?_
  refine x_tn ?_
  refine k_reb [(2, .bool false), (3, .slice a1 A.length c1), (4, .slice a2 B.length c2), (6, .slice a27 SS.length c27)] ⟨rfl, rfl, rfl, rfl, trivial⟩ fun G7 => ?_
  refine wp_seq ?_
  refine k_reg ?_
  refine s_val hS36 rfl rfl (r_move rfl (.t rfl rfl)) ?_
  refine s_val hS36 rfl rfl (r_move rfl (.t rfl rfl)) ?_
  refine s_call rfl rfl rfl (vs := [.slice a27 SS.length c27, .slice a1 A.length c1]) ⟨(.t rfl rfl), (.t rfl rfl), trivial⟩ cb28 (Cmp_ok w34 a27 c27 SS hR304 a1 c1 A hR305 hNSS hNA) ?_
  rintro _ w35 ⟨hp28, hB10⟩
  have hS37 := hS36.keep hB10
  replace hB10 := hB10.toBelow
  have hR307 := hR305.below hB10 (Nat.le_refl _)
  have hR308 := hR306.below hB10 (Nat.le_refl _)
  have hR309 := hR304.below hB10 (Nat.le_refl _)
  have hW493 := hW467.later hB10
  have hW494 := hW468.later hB10
  have hW495 := hW469.later hB10
  have hW496 := hW470.later hB10
  have hW497 := hW471.later hB10
  have hW498 := hW472.later hB10
  have hW499 := hW473.later hB10
  have hW500 := hW474.later hB10
  have hW501 := hW475.later hB10
  have hW502 := hW476.later hB10
  have hW503 := hW477.later hB10
  have hW504 := hW478.later hB10
  have hW505 := hW479.later hB10
  have hW506 := hW480.later hB10
  have hW507 := hW481.later hB10
  have hW508 := hW482.later hB10
  have hW509 := hW483.later hB10
  have hW510 := hW484.later hB10
  have hW511 := hW485.later hB10
  have hW512 := hW486.later hB10
  have hW513 := hW487.later hB10
  have hW514 := hW488.later hB10
  have hW515 := hW489.later hB10
  have hW516 := hW490.later hB10
  have hW517 := hW491.later hB10
  have hW518 := hW492.later hB10
  have hW519 := hW466.later hB10
  rcases hp28 with ⟨hc9, rfl⟩ | ⟨hc9, rfl⟩ | ⟨hc9, rfl⟩
  · exfalso; (try simp only [hlN1, hlN2, hlN3, hlN4, hlN5, hlN6, hlN7, hlN8, hlN9, hlN10, hlN11, hlN12, hlN13, hlN14, hlN15, hlN16, hlN17, hlN18, hlN19, hlN20, hlN21, hlN22, hlZ0, hlSS] at hc9); omega
  · refine s_val hS37 rfl rfl (r_cmp_t rfl rfl (.t rfl rfl) .c (show 0 ≥ 0 from by omega)) ?_
    refine s_val hS37 rfl rfl (r_move rfl (.t rfl rfl)) ?_
    refine s_valg hS37 (wanted_of (j := 4) (b := true) (d := 111) rfl rfl rfl rfl) rfl (r_move rfl (.t rfl rfl)) ?_
    refine s_valg hS37 (wanted_of (j := 4) (b := true) (d := 111) rfl rfl rfl rfl) rfl (r_move rfl (.t rfl rfl)) ?_
    refine s_callg (wanted_of (j := 4) (b := true) (d := 111) rfl rfl rfl rfl) rfl rfl (vs := [.slice a27 SS.length c27, .slice a1 A.length c1]) ⟨(.t rfl rfl), (.t rfl rfl), trivial⟩ cb28 (Cmp_ok w35 a27 c27 SS hR309 a1 c1 A hR307 hNSS hNA) ?_
    rintro _ w36 ⟨hp29, hB11⟩
    have hS38 := hS37.keep hB11
    replace hB11 := hB11.toBelow
    have hR310 := hR307.below hB11 (Nat.le_refl _)
    have hR311 := hR308.below hB11 (Nat.le_refl _)
    have hR312 := hR309.below hB11 (Nat.le_refl _)
    have hW520 := hW493.later hB11
    have hW521 := hW494.later hB11
    have hW522 := hW495.later hB11
    have hW523 := hW496.later hB11
    have hW524 := hW497.later hB11
    have hW525 := hW498.later hB11
    have hW526 := hW499.later hB11
    have hW527 := hW500.later hB11
    have hW528 := hW501.later hB11
    have hW529 := hW502.later hB11
    have hW530 := hW503.later hB11
    have hW531 := hW504.later hB11
    have hW532 := hW505.later hB11
    have hW533 := hW506.later hB11
    have hW534 := hW507.later hB11
    have hW535 := hW508.later hB11
    have hW536 := hW509.later hB11
    have hW537 := hW510.later hB11
    have hW538 := hW511.later hB11
    have hW539 := hW512.later hB11
    have hW540 := hW513.later hB11
    have hW541 := hW514.later hB11
    have hW542 := hW515.later hB11
    have hW543 := hW516.later hB11
    have hW544 := hW517.later hB11
    have hW545 := hW518.later hB11
    have hW546 := hW519.later hB11
    rcases hp29 with ⟨hc10, rfl⟩ | ⟨hc10, rfl⟩ | ⟨hc10, rfl⟩
    · exfalso; (try simp only [hlN1, hlN2, hlN3, hlN4, hlN5, hlN6, hlN7, hlN8, hlN9, hlN10, hlN11, hlN12, hlN13, hlN14, hlN15, hlN16, hlN17, hlN18, hlN19, hlN20, hlN21, hlN22, hlZ0, hlSS] at hc10); omega
    · refine s_valg hS38 (wanted_of (j := 4) (b := true) (d := 111) rfl rfl rfl rfl) rfl (r_cmp_f rfl rfl (.t rfl rfl) .c (show ¬ (0 > 0) from by omega)) ?_
      refine s_valg hS38 (wanted_of (j := 4) (b := true) (d := 111) rfl rfl rfl rfl) rfl (r_move rfl (.t rfl rfl)) ?_
      refine s_valg hS38 (wanted_of (j := 4) (b := true) (d := 111) rfl rfl rfl rfl) rfl (r_len rfl rfl Try.underlying27 (.t rfl rfl)) ?_
      refine s_valg hS38 (wanted_of (j := 4) (b := true) (d := 111) rfl rfl rfl rfl) rfl (r_cmp_f rfl rfl (.t rfl rfl) .c (show ¬ (((B.length : Nat) : Int) > 0) from (by rw [lv_zero hNB.nz (by simp only [hlSS] at hc10; omega)]; simp))) ?_
      refine s_valg hS38 (wanted_of (j := 4) (b := true) (d := 111) rfl rfl rfl rfl) rfl (r_eqb rfl Try.underlying4 (.t rfl rfl) (.t rfl rfl)) ?_
      refine s_val hS38 rfl rfl (r_pick rfl (.t rfl rfl) (.t rfl rfl)) ?_
      refine s_val hS38 rfl rfl (r_move rfl (.t rfl rfl)) ?_
      refine s_valg hS38 (wanted_of (j := 14) (b := true) (d := 121) rfl rfl rfl rfl) rfl (r_move rfl (.t rfl rfl)) ?_
      refine s_valg hS38 (wanted_of (j := 14) (b := true) (d := 121) rfl rfl rfl rfl) rfl (r_move rfl (.t rfl rfl)) ?_
      refine s_callg (wanted_of (j := 14) (b := true) (d := 121) rfl rfl rfl rfl) rfl rfl (vs := [.slice a1 A.length c1, .slice a27 SS.length c27]) ⟨(.t rfl rfl), (.t rfl rfl), trivial⟩ cb28 (Cmp_ok w36 a1 c1 A hR310 a27 c27 SS hR312 hNA hNSS) ?_
      rintro _ w37 ⟨hp30, hB12⟩
      have hS39 := hS38.keep hB12
      replace hB12 := hB12.toBelow
      have hR313 := hR310.below hB12 (Nat.le_refl _)
      have hR314 := hR311.below hB12 (Nat.le_refl _)
      have hR315 := hR312.below hB12 (Nat.le_refl _)
      have hW547 := hW520.later hB12
      have hW548 := hW521.later hB12
      have hW549 := hW522.later hB12
      have hW550 := hW523.later hB12
      have hW551 := hW524.later hB12
      have hW552 := hW525.later hB12
      have hW553 := hW526.later hB12
      have hW554 := hW527.later hB12
      have hW555 := hW528.later hB12
      have hW556 := hW529.later hB12
      have hW557 := hW530.later hB12
      have hW558 := hW531.later hB12
      have hW559 := hW532.later hB12
      have hW560 := hW533.later hB12
      have hW561 := hW534.later hB12
      have hW562 := hW535.later hB12
      have hW563 := hW536.later hB12
      have hW564 := hW537.later hB12
      have hW565 := hW538.later hB12
      have hW566 := hW539.later hB12
      have hW567 := hW540.later hB12
      have hW568 := hW541.later hB12
      have hW569 := hW542.later hB12
      have hW570 := hW543.later hB12
      have hW571 := hW544.later hB12
      have hW572 := hW545.later hB12
      have hW573 := hW546.later hB12
      rcases hp30 with ⟨hc11, rfl⟩ | ⟨hc11, rfl⟩ | ⟨hc11, rfl⟩
      · exfalso; (try simp only [hlN1, hlN2, hlN3, hlN4, hlN5, hlN6, hlN7, hlN8, hlN9, hlN10, hlN11, hlN12, hlN13, hlN14, hlN15, hlN16, hlN17, hlN18, hlN19, hlN20, hlN21, hlN22, hlZ0, hlSS] at hc11); omega
      · refine s_valg hS39 (wanted_of (j := 14) (b := true) (d := 121) rfl rfl rfl rfl) rfl (r_move rfl (.t rfl rfl)) ?_
        refine s_valg hS39 (wanted_of (j := 14) (b := true) (d := 121) rfl rfl rfl rfl) rfl (r_move rfl (.t rfl rfl)) ?_
        refine s_callg (wanted_of (j := 14) (b := true) (d := 121) rfl rfl rfl rfl) rfl rfl (vs := [.slice a27 SS.length c27, .slice a1 A.length c1]) ⟨(.t rfl rfl), (.t rfl rfl), trivial⟩ cb28 (Cmp_ok w37 a27 c27 SS hR315 a1 c1 A hR313 hNSS hNA) ?_
        rintro _ w38 ⟨hp31, hB13⟩
        have hS40 := hS39.keep hB13
        replace hB13 := hB13.toBelow
        have hR316 := hR313.below hB13 (Nat.le_refl _)
        have hR317 := hR314.below hB13 (Nat.le_refl _)
        have hR318 := hR315.below hB13 (Nat.le_refl _)
        have hW574 := hW547.later hB13
        have hW575 := hW548.later hB13
        have hW576 := hW549.later hB13
        have hW577 := hW550.later hB13
        have hW578 := hW551.later hB13
        have hW579 := hW552.later hB13
        have hW580 := hW553.later hB13
        have hW581 := hW554.later hB13
        have hW582 := hW555.later hB13
        have hW583 := hW556.later hB13
        have hW584 := hW557.later hB13
        have hW585 := hW558.later hB13
        have hW586 := hW559.later hB13
        have hW587 := hW560.later hB13
        have hW588 := hW561.later hB13
        have hW589 := hW562.later hB13
        have hW590 := hW563.later hB13
        have hW591 := hW564.later hB13
        have hW592 := hW565.later hB13
        have hW593 := hW566.later hB13
        have hW594 := hW567.later hB13
        have hW595 := hW568.later hB13
        have hW596 := hW569.later hB13
        have hW597 := hW570.later hB13
        have hW598 := hW571.later hB13
        have hW599 := hW572.later hB13
        have hW600 := hW573.later hB13
        rcases hp31 with ⟨hc12, rfl⟩ | ⟨hc12, rfl⟩ | ⟨hc12, rfl⟩
        · exfalso; (try simp only [hlN1, hlN2, hlN3, hlN4, hlN5, hlN6, hlN7, hlN8, hlN9, hlN10, hlN11, hlN12, hlN13, hlN14, hlN15, hlN16, hlN17, hlN18, hlN19, hlN20, hlN21, hlN22, hlZ0, hlSS] at hc12); omega
        · refine s_valg hS40 (wanted_of (j := 14) (b := true) (d := 121) rfl rfl rfl rfl) rfl (r_neg rfl (.t rfl rfl) (c := 0) (w_i64 (by omega) (by omega) (by omega))) ?_
          refine s_valg hS40 (wanted_of (j := 14) (b := true) (d := 121) rfl rfl rfl rfl) rfl (r_cmp_t rfl rfl (.t rfl rfl) (.t rfl rfl) (show 0 = 0 from by omega)) ?_
          refine s_val hS40 rfl rfl (r_pick rfl (.t rfl rfl) (.t rfl rfl)) ?_
          refine s_val hS40 rfl rfl (r_move rfl (.t rfl rfl)) ?_
          refine s_callg (wanted_of (j := 24) (b := true) (d := 131) rfl rfl rfl rfl) rfl rfl (vs := []) trivial cb16 (wakes_ok w38 ) ?_
          intro v26 w39 hp32
          obtain ⟨hp32, hB14⟩ := hp32
          have hS41 := hS40.keep hB14
          replace hB14 := hB14.toBelow
          have hR319 := hR316.below hB14 (Nat.le_refl _)
          have hR320 := hR317.below hB14 (Nat.le_refl _)
          have hR321 := hR318.below hB14 (Nat.le_refl _)
          have hW601 := hW574.later hB14
          have hW602 := hW575.later hB14
          have hW603 := hW576.later hB14
          have hW604 := hW577.later hB14
          have hW605 := hW578.later hB14
          have hW606 := hW579.later hB14
          have hW607 := hW580.later hB14
          have hW608 := hW581.later hB14
          have hW609 := hW582.later hB14
          have hW610 := hW583.later hB14
          have hW611 := hW584.later hB14
          have hW612 := hW585.later hB14
          have hW613 := hW586.later hB14
          have hW614 := hW587.later hB14
          have hW615 := hW588.later hB14
          have hW616 := hW589.later hB14
          have hW617 := hW590.later hB14
          have hW618 := hW591.later hB14
          have hW619 := hW592.later hB14
          have hW620 := hW593.later hB14
          have hW621 := hW594.later hB14
          have hW622 := hW595.later hB14
          have hW623 := hW596.later hB14
          have hW624 := hW597.later hB14
          have hW625 := hW598.later hB14
          have hW626 := hW599.later hB14
          have hW627 := hW600.later hB14
          obtain rfl := hp32
          refine s_val hS41 rfl rfl (r_pick rfl (.t rfl rfl) (.t rfl rfl)) ?_
          refine s_val hS41 rfl rfl (r_assign rfl (.t rfl rfl)) ?_
          refine wpList_nil ?_
          refine x_tn ?_
          refine k_reb [(2, .bool true)] ⟨rfl, trivial⟩ fun G8 => ?_
          refine wp_ret ?_
          refine k_ret1 Try.results5 rfl rfl ?_
          refine ⟨_, rfl, ?_⟩
          exact ⟨rfl, hS41.none⟩
        · exfalso; (try simp only [hlN1, hlN2, hlN3, hlN4, hlN5, hlN6, hlN7, hlN8, hlN9, hlN10, hlN11, hlN12, hlN13, hlN14, hlN15, hlN16, hlN17, hlN18, hlN19, hlN20, hlN21, hlN22, hlZ0, hlSS] at hc12); omega
      · exfalso; (try simp only [hlN1, hlN2, hlN3, hlN4, hlN5, hlN6, hlN7, hlN8, hlN9, hlN10, hlN11, hlN12, hlN13, hlN14, hlN15, hlN16, hlN17, hlN18, hlN19, hlN20, hlN21, hlN22, hlZ0, hlSS] at hc11); omega
    · exfalso; (try simp only [hlN1, hlN2, hlN3, hlN4, hlN5, hlN6, hlN7, hlN8, hlN9, hlN10, hlN11, hlN12, hlN13, hlN14, hlN15, hlN16, hlN17, hlN18, hlN19, hlN20, hlN21, hlN22, hlZ0, hlSS] at hc10); omega
  · refine s_val hS37 rfl rfl (r_cmp_t rfl rfl (.t rfl rfl) .c (show 1 ≥ 0 from by omega)) ?_
    refine s_val hS37 rfl rfl (r_move rfl (.t rfl rfl)) ?_
    refine s_valg hS37 (wanted_of (j := 4) (b := true) (d := 111) rfl rfl rfl rfl) rfl (r_move rfl (.t rfl rfl)) ?_
    refine s_valg hS37 (wanted_of (j := 4) (b := true) (d := 111) rfl rfl rfl rfl) rfl (r_move rfl (.t rfl rfl)) ?_
    refine s_callg (wanted_of (j := 4) (b := true) (d := 111) rfl rfl rfl rfl) rfl rfl (vs := [.slice a27 SS.length c27, .slice a1 A.length c1]) ⟨(.t rfl rfl), (.t rfl rfl), trivial⟩ cb28 (Cmp_ok w35 a27 c27 SS hR309 a1 c1 A hR307 hNSS hNA) ?_
    rintro _ w40 ⟨hp33, hB15⟩
    have hS42 := hS37.keep hB15
    replace hB15 := hB15.toBelow
    have hR322 := hR307.below hB15 (Nat.le_refl _)
    have hR323 := hR308.below hB15 (Nat.le_refl _)
    have hR324 := hR309.below hB15 (Nat.le_refl _)
    have hW628 := hW493.later hB15
    have hW629 := hW494.later hB15
    have hW630 := hW495.later hB15
    have hW631 := hW496.later hB15
    have hW632 := hW497.later hB15
    have hW633 := hW498.later hB15
    have hW634 := hW499.later hB15
    have hW635 := hW500.later hB15
    have hW636 := hW501.later hB15
    have hW637 := hW502.later hB15
    have hW638 := hW503.later hB15
    have hW639 := hW504.later hB15
    have hW640 := hW505.later hB15
    have hW641 := hW506.later hB15
    have hW642 := hW507.later hB15
    have hW643 := hW508.later hB15
    have hW644 := hW509.later hB15
    have hW645 := hW510.later hB15
    have hW646 := hW511.later hB15
    have hW647 := hW512.later hB15
    have hW648 := hW513.later hB15
    have hW649 := hW514.later hB15
    have hW650 := hW515.later hB15
    have hW651 := hW516.later hB15
    have hW652 := hW517.later hB15
    have hW653 := hW518.later hB15
    have hW654 := hW519.later hB15
    rcases hp33 with ⟨hc13, rfl⟩ | ⟨hc13, rfl⟩ | ⟨hc13, rfl⟩
    · exfalso; (try simp only [hlN1, hlN2, hlN3, hlN4, hlN5, hlN6, hlN7, hlN8, hlN9, hlN10, hlN11, hlN12, hlN13, hlN14, hlN15, hlN16, hlN17, hlN18, hlN19, hlN20, hlN21, hlN22, hlZ0, hlSS] at hc13); omega
    · exfalso; (try simp only [hlN1, hlN2, hlN3, hlN4, hlN5, hlN6, hlN7, hlN8, hlN9, hlN10, hlN11, hlN12, hlN13, hlN14, hlN15, hlN16, hlN17, hlN18, hlN19, hlN20, hlN21, hlN22, hlZ0, hlSS] at hc13); omega
    · refine s_valg hS42 (wanted_of (j := 4) (b := true) (d := 111) rfl rfl rfl rfl) rfl (r_cmp_t rfl rfl (.t rfl rfl) .c (show 1 > 0 from by omega)) ?_
      refine s_valg hS42 (wanted_of (j := 4) (b := true) (d := 111) rfl rfl rfl rfl) rfl (r_move rfl (.t rfl rfl)) ?_
      refine s_valg hS42 (wanted_of (j := 4) (b := true) (d := 111) rfl rfl rfl rfl) rfl (r_len rfl rfl Try.underlying27 (.t rfl rfl)) ?_
      refine s_valg hS42 (wanted_of (j := 4) (b := true) (d := 111) rfl rfl rfl rfl) rfl (r_cmp_t rfl rfl (.t rfl rfl) .c (show ((B.length : Nat) : Int) > 0 from (by have h9 := len_pos (A := B) (by simp only [hlSS] at hc13; omega); omega))) ?_
      refine s_valg hS42 (wanted_of (j := 4) (b := true) (d := 111) rfl rfl rfl rfl) rfl (r_eqb rfl Try.underlying4 (.t rfl rfl) (.t rfl rfl)) ?_
      refine s_val hS42 rfl rfl (r_pick rfl (.t rfl rfl) (.t rfl rfl)) ?_
      refine s_val hS42 rfl rfl (r_move rfl (.t rfl rfl)) ?_
      refine s_valg hS42 (wanted_of (j := 14) (b := true) (d := 121) rfl rfl rfl rfl) rfl (r_move rfl (.t rfl rfl)) ?_
      refine s_valg hS42 (wanted_of (j := 14) (b := true) (d := 121) rfl rfl rfl rfl) rfl (r_move rfl (.t rfl rfl)) ?_
      refine s_callg (wanted_of (j := 14) (b := true) (d := 121) rfl rfl rfl rfl) rfl rfl (vs := [.slice a1 A.length c1, .slice a27 SS.length c27]) ⟨(.t rfl rfl), (.t rfl rfl), trivial⟩ cb28 (Cmp_ok w40 a1 c1 A hR322 a27 c27 SS hR324 hNA hNSS) ?_
      rintro _ w41 ⟨hp34, hB16⟩
      have hS43 := hS42.keep hB16
      replace hB16 := hB16.toBelow
      have hR325 := hR322.below hB16 (Nat.le_refl _)
      have hR326 := hR323.below hB16 (Nat.le_refl _)
      have hR327 := hR324.below hB16 (Nat.le_refl _)
      have hW655 := hW628.later hB16
      have hW656 := hW629.later hB16
      have hW657 := hW630.later hB16
      have hW658 := hW631.later hB16
      have hW659 := hW632.later hB16
      have hW660 := hW633.later hB16
      have hW661 := hW634.later hB16
      have hW662 := hW635.later hB16
      have hW663 := hW636.later hB16
      have hW664 := hW637.later hB16
      have hW665 := hW638.later hB16
      have hW666 := hW639.later hB16
      have hW667 := hW640.later hB16
      have hW668 := hW641.later hB16
      have hW669 := hW642.later hB16
      have hW670 := hW643.later hB16
      have hW671 := hW644.later hB16
      have hW672 := hW645.later hB16
      have hW673 := hW646.later hB16
      have hW674 := hW647.later hB16
      have hW675 := hW648.later hB16
      have hW676 := hW649.later hB16
      have hW677 := hW650.later hB16
      have hW678 := hW651.later hB16
      have hW679 := hW652.later hB16
      have hW680 := hW653.later hB16
      have hW681 := hW654.later hB16
      rcases hp34 with ⟨hc14, rfl⟩ | ⟨hc14, rfl⟩ | ⟨hc14, rfl⟩
      · refine s_valg hS43 (wanted_of (j := 14) (b := true) (d := 121) rfl rfl rfl rfl) rfl (r_move rfl (.t rfl rfl)) ?_
        refine s_valg hS43 (wanted_of (j := 14) (b := true) (d := 121) rfl rfl rfl rfl) rfl (r_move rfl (.t rfl rfl)) ?_
        refine s_callg (wanted_of (j := 14) (b := true) (d := 121) rfl rfl rfl rfl) rfl rfl (vs := [.slice a27 SS.length c27, .slice a1 A.length c1]) ⟨(.t rfl rfl), (.t rfl rfl), trivial⟩ cb28 (Cmp_ok w41 a27 c27 SS hR327 a1 c1 A hR325 hNSS hNA) ?_
        rintro _ w42 ⟨hp35, hB17⟩
        have hS44 := hS43.keep hB17
        replace hB17 := hB17.toBelow
        have hR328 := hR325.below hB17 (Nat.le_refl _)
        have hR329 := hR326.below hB17 (Nat.le_refl _)
        have hR330 := hR327.below hB17 (Nat.le_refl _)
        have hW682 := hW655.later hB17
        have hW683 := hW656.later hB17
        have hW684 := hW657.later hB17
        have hW685 := hW658.later hB17
        have hW686 := hW659.later hB17
        have hW687 := hW660.later hB17
        have hW688 := hW661.later hB17
        have hW689 := hW662.later hB17
        have hW690 := hW663.later hB17
        have hW691 := hW664.later hB17
        have hW692 := hW665.later hB17
        have hW693 := hW666.later hB17
        have hW694 := hW667.later hB17
        have hW695 := hW668.later hB17
        have hW696 := hW669.later hB17
        have hW697 := hW670.later hB17
        have hW698 := hW671.later hB17
        have hW699 := hW672.later hB17
        have hW700 := hW673.later hB17
        have hW701 := hW674.later hB17
        have hW702 := hW675.later hB17
        have hW703 := hW676.later hB17
        have hW704 := hW677.later hB17
        have hW705 := hW678.later hB17
        have hW706 := hW679.later hB17
        have hW707 := hW680.later hB17
        have hW708 := hW681.later hB17
        rcases hp35 with ⟨hc15, rfl⟩ | ⟨hc15, rfl⟩ | ⟨hc15, rfl⟩
        · exfalso; (try simp only [hlN1, hlN2, hlN3, hlN4, hlN5, hlN6, hlN7, hlN8, hlN9, hlN10, hlN11, hlN12, hlN13, hlN14, hlN15, hlN16, hlN17, hlN18, hlN19, hlN20, hlN21, hlN22, hlZ0, hlSS] at hc15); omega
        · exfalso; (try simp only [hlN1, hlN2, hlN3, hlN4, hlN5, hlN6, hlN7, hlN8, hlN9, hlN10, hlN11, hlN12, hlN13, hlN14, hlN15, hlN16, hlN17, hlN18, hlN19, hlN20, hlN21, hlN22, hlZ0, hlSS] at hc15); omega
        · refine s_valg hS44 (wanted_of (j := 14) (b := true) (d := 121) rfl rfl rfl rfl) rfl (r_neg rfl (.t rfl rfl) (c := -1) (w_i64 (by omega) (by omega) (by omega))) ?_
          refine s_valg hS44 (wanted_of (j := 14) (b := true) (d := 121) rfl rfl rfl rfl) rfl (r_cmp_t rfl rfl (.t rfl rfl) (.t rfl rfl) (show (-1) = (-1) from by omega)) ?_
          refine s_val hS44 rfl rfl (r_pick rfl (.t rfl rfl) (.t rfl rfl)) ?_
          refine s_val hS44 rfl rfl (r_move rfl (.t rfl rfl)) ?_
          refine s_callg (wanted_of (j := 24) (b := true) (d := 131) rfl rfl rfl rfl) rfl rfl (vs := []) trivial cb16 (wakes_ok w42 ) ?_
          intro v27 w43 hp36
          obtain ⟨hp36, hB18⟩ := hp36
          have hS45 := hS44.keep hB18
          replace hB18 := hB18.toBelow
          have hR331 := hR328.below hB18 (Nat.le_refl _)
          have hR332 := hR329.below hB18 (Nat.le_refl _)
          have hR333 := hR330.below hB18 (Nat.le_refl _)
          have hW709 := hW682.later hB18
          have hW710 := hW683.later hB18
          have hW711 := hW684.later hB18
          have hW712 := hW685.later hB18
          have hW713 := hW686.later hB18
          have hW714 := hW687.later hB18
          have hW715 := hW688.later hB18
          have hW716 := hW689.later hB18
          have hW717 := hW690.later hB18
          have hW718 := hW691.later hB18
          have hW719 := hW692.later hB18
          have hW720 := hW693.later hB18
          have hW721 := hW694.later hB18
          have hW722 := hW695.later hB18
          have hW723 := hW696.later hB18
          have hW724 := hW697.later hB18
          have hW725 := hW698.later hB18
          have hW726 := hW699.later hB18
          have hW727 := hW700.later hB18
          have hW728 := hW701.later hB18
          have hW729 := hW702.later hB18
          have hW730 := hW703.later hB18
          have hW731 := hW704.later hB18
          have hW732 := hW705.later hB18
          have hW733 := hW706.later hB18
          have hW734 := hW707.later hB18
          have hW735 := hW708.later hB18
          obtain rfl := hp36
          refine s_val hS45 rfl rfl (r_pick rfl (.t rfl rfl) (.t rfl rfl)) ?_
          refine s_val hS45 rfl rfl (r_assign rfl (.t rfl rfl)) ?_
          refine wpList_nil ?_
          refine x_tn ?_
          refine k_reb [(2, .bool true)] ⟨rfl, trivial⟩ fun G9 => ?_
          refine wp_ret ?_
          refine k_ret1 Try.results5 rfl rfl ?_
          refine ⟨_, rfl, ?_⟩
          exact ⟨rfl, hS45.none⟩
      · exfalso; (try simp only [hlN1, hlN2, hlN3, hlN4, hlN5, hlN6, hlN7, hlN8, hlN9, hlN10, hlN11, hlN12, hlN13, hlN14, hlN15, hlN16, hlN17, hlN18, hlN19, hlN20, hlN21, hlN22, hlZ0, hlSS] at hc14); omega
      · exfalso; (try simp only [hlN1, hlN2, hlN3, hlN4, hlN5, hlN6, hlN7, hlN8, hlN9, hlN10, hlN11, hlN12, hlN13, hlN14, hlN15, hlN16, hlN17, hlN18, hlN19, hlN20, hlN21, hlN22, hlZ0, hlSS] at hc14); omega

end Go.Proofs.Ytnbklceenfjojaa

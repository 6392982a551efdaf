/- Contracts of functions of the program, each walked once. -/
import Derived.Test.YtnbklceenfjojaaFnJ
import Derived.Test.YtnbklceenfjojaaKFits
namespace Go.Proofs.Ytnbklceenfjojaa
open Go Go.RowKit K
namespace FK
theorem mixed : Try.prog.follows .mixedOrders = true := by kernel_rfl
theorem agg25 : (match Try.prog.underlying 25 with | some (.struct _) | some (.array ..) => true | _ => false) = true := by kernel_rfl
theorem cb11 : callable Try.prog 11 = true := by kernel_rfl
theorem cb12 : callable Try.prog 12 = true := by kernel_rfl
theorem cb13 : callable Try.prog 13 = true := by kernel_rfl
theorem cb14 : callable Try.prog 14 = true := by kernel_rfl
theorem cb15 : callable Try.prog 15 = true := by kernel_rfl
theorem cb16 : callable Try.prog 16 = true := by kernel_rfl
theorem cb17 : callable Try.prog 17 = true := by kernel_rfl
theorem cb18 : callable Try.prog 18 = true := by kernel_rfl
theorem cb19 : callable Try.prog 19 = true := by kernel_rfl
theorem ti25 : (Try.prog.info? 25).map (fun i => (i.zero, i.size, i.bytes)) = some (some (.agg #[.slice none 0 0, .slice none 0 0]), 2, 48) := by kernel_rfl

end FK
open FK
attribute [local irreducible] Go.wpList Go.wpQuiet Go.wpStill Go.wpAny Go.Code.wp
set_option maxRecDepth 10000
set_option maxHeartbeats 8000000
set_option linter.unusedVariables false
set_option linter.unusedSimpArgs false
theorem LimbGcds_ok (w0 : World) (aL : Option Addr) (cL : Nat) (LL : List (Option Addr × Nat × List Nat)) (hL : RdS w0 aL LL) (vN : Value) :
    Calls Try.prog 3 #[.agg #[.slice aL LL.length cL, vN]] w0 (Ret fun v w' => v = .bool true ∧ St w0 [] [] w') := by
  refine k_enter (vs := [.agg #[.slice aL LL.length cL, vN]]) Try.func3 rfl Try.ntmps3 rfl ?_
  have hS := St.init w0
  have mL := hL.most
  refine wp_seq ?_
  refine k_reg ?_
  refine s_box rfl rfl rfl (.t rfl rfl) (cs := #[.slice aL LL.length cL, vN]) rfl hS fun blk1 w1 hb1 hB1 hS1 => ?_
  refine s_val hS1 rfl rfl (r_assign rfl .c) ?_
  refine wpList_nil ?_
  refine x_tn ?_
  refine k_reb [(1, .pointer (some ⟨blk1, 0, none⟩)), (2, .bool false)] ⟨rfl, rfl, trivial⟩ fun G1 => ?_
  refine wp_seq ?_
  refine k_reg ?_
  refine s_val hS1 rfl rfl (r_loadA rfl agg25 ti25 rfl (.t rfl rfl) (St.block (m := 0) rfl)) ?_
  refine s_call rfl rfl rfl (vs := [.agg #[.slice aL LL.length cL, vN], .int .i64 25]) ⟨(.t rfl rfl), .c, trivial⟩ cb11 (three_ok w1 aL cL LL (RdS.st hS1 hL (by intro x hx; cases hx)) vN 25 (by omega)) ?_
  rintro v1 w2 ⟨A, B, C, _, _, _, rfl, hp1, hp2, hp3, hNA, hNB, hNC, hmA, hmB, hmC⟩
  obtain ⟨a1, c1, rfl, hR1, -, hT1⟩ := id hp1
  have hW1 := Ow.from_ hS1 hp1
  have hS2 := hS1.keep hT1
  have hA1 := hp1.apart hS1 (m := 0) rfl
  obtain ⟨a2, c2, rfl, hR2, -, hT2⟩ := id hp2
  have hW2 := Ow.from_ hS1 hp2
  have hA2 := hp2.apart hS1 (m := 0) rfl
  obtain ⟨a3, c3, rfl, hR3, -, hT3⟩ := id hp3
  have hW3 := Ow.from_ hS1 hp3
  have hA3 := hp3.apart hS1 (m := 0) rfl
  have hnA := hNA.len
  have hbA := nm_bound hNA hmA
  have hnB := hNB.len
  have hbB := nm_bound hNB hmB
  have hnC := hNC.len
  have hbC := nm_bound hNC hmC
  obtain ⟨f1, f2, f3, f4, f5⟩ := gcd_fits hbA hbB hbC
  refine s_val hS2 rfl rfl (r_move rfl (.t rfl rfl)) ?_
  refine s_val hS2 rfl rfl (r_extract rfl (.t rfl rfl) rfl) ?_
  refine s_val hS2 rfl rfl (r_extract rfl (.t rfl rfl) rfl) ?_
  refine s_val hS2 rfl rfl (r_extract rfl (.t rfl rfl) rfl) ?_
  refine s_val hS2 rfl rfl (r_assign rfl (.t rfl rfl)) ?_
  refine s_val hS2 rfl rfl (r_assign rfl (.t rfl rfl)) ?_
  refine s_val hS2 rfl rfl (r_assign rfl (.t rfl rfl)) ?_
  refine wpList_nil ?_
  refine x_tn ?_
  refine k_reb [(2, .bool false), (3, .slice a1 A.length c1), (4, .slice a2 B.length c2), (5, .slice a3 C.length c3)] ⟨rfl, rfl, rfl, rfl, trivial⟩ fun G2 => ?_
  refine wp_seq ?_
  refine k_reg ?_
  refine s_val hS2 rfl rfl (r_move rfl (.t rfl rfl)) ?_
  refine s_val hS2 rfl rfl (r_move rfl (.t rfl rfl)) ?_
  refine s_call rfl rfl rfl (vs := [.slice a1 A.length c1, .slice a2 B.length c2]) ⟨(.t rfl rfl), (.t rfl rfl), trivial⟩ cb12 (Gcd_ok w2 a1 c1 A hR1 a2 c2 B hR2 hNA hNB) ?_
  rintro v2 w3 ⟨G, _, rfl, hp4, hNG, hlG⟩
  obtain ⟨a4, c4, rfl, hR4, -, hT4⟩ := id hp4
  have hW4 := Ow.from_ hS2 hp4
  have hS5 := hS2.keep hT4
  have hR5 := hR1.below hT4.toBelow (Nat.le_refl _)
  have hR6 := hR2.below hT4.toBelow (Nat.le_refl _)
  have hR7 := hR3.below hT4.toBelow (Nat.le_refl _)
  have hW5 := hW1.later hT4.toBelow
  have hW6 := hW2.later hT4.toBelow
  have hW7 := hW3.later hT4.toBelow
  have hA4 := hp4.apart hS2 (m := 0) rfl
  have hnG := hNG.len
  refine s_val hS5 rfl rfl (r_move rfl (.t rfl rfl)) ?_
  refine s_val hS5 rfl rfl (r_extract rfl (.t rfl rfl) rfl) ?_
  refine s_val hS5 rfl rfl (r_extract rfl (.t rfl rfl) rfl) ?_
  refine s_val hS5 rfl rfl (r_assign rfl (.t rfl rfl)) ?_
  refine s_val hS5 rfl rfl (r_assign rfl (.t rfl rfl)) ?_
  refine wpList_nil ?_
  refine x_tn ?_
  refine k_reb [(2, .bool false), (3, .slice a1 A.length c1), (4, .slice a2 B.length c2), (5, .slice a3 C.length c3), (6, .slice a4 G.length c4), (7, .int .i64 0)] ⟨rfl, rfl, rfl, rfl, rfl, rfl, trivial⟩ fun G3 => ?_
  refine wp_seq ?_
  refine k_reg ?_
  refine s_val hS5 rfl rfl (r_move rfl (.t rfl rfl)) ?_
  refine s_val hS5 rfl rfl (r_move rfl (.t rfl rfl)) ?_
  refine s_call rfl rfl rfl (vs := [.slice a2 B.length c2, .slice a1 A.length c1]) ⟨(.t rfl rfl), (.t rfl rfl), trivial⟩ cb12 (Gcd_ok w3 a2 c2 B hR6 a1 c1 A hR5 hNB hNA) ?_
  rintro v3 w4 ⟨HH, _, rfl, hp5, hNHH, hlHH⟩
  obtain ⟨a5, c5, rfl, hR8, -, hT5⟩ := id hp5
  have hW8 := Ow.from_ hS5 hp5
  have hS6 := hS5.keep hT5
  have hR9 := hR5.below hT5.toBelow (Nat.le_refl _)
  have hR10 := hR6.below hT5.toBelow (Nat.le_refl _)
  have hR11 := hR7.below hT5.toBelow (Nat.le_refl _)
  have hR12 := hR4.below hT5.toBelow (Nat.le_refl _)
  have hW9 := hW5.later hT5.toBelow
  have hW10 := hW6.later hT5.toBelow
  have hW11 := hW7.later hT5.toBelow
  have hW12 := hW4.later hT5.toBelow
  have hA5 := hp5.apart hS5 (m := 0) rfl
  have hnHH := hNHH.len
  refine s_val hS6 rfl rfl (r_move rfl (.t rfl rfl)) ?_
  refine s_val hS6 rfl rfl (r_extract rfl (.t rfl rfl) rfl) ?_
  refine s_val hS6 rfl rfl (r_extract rfl (.t rfl rfl) rfl) ?_
  refine s_val hS6 rfl rfl (r_assign rfl (.t rfl rfl)) ?_
  refine s_val hS6 rfl rfl (r_assign rfl (.t rfl rfl)) ?_
  refine wpList_nil ?_
  refine x_tn ?_
  refine k_reb [(2, .bool false), (3, .slice a1 A.length c1), (4, .slice a2 B.length c2), (5, .slice a3 C.length c3), (6, .slice a4 G.length c4), (7, .int .i64 0), (8, .slice a5 HH.length c5), (9, .int .i64 0)] ⟨rfl, rfl, rfl, rfl, rfl, rfl, rfl, rfl, trivial⟩ fun G4 => ?_
  refine wp_seq ?_
  refine wp_seq ?_
  refine k_reg ?_
  refine s_val hS6 rfl rfl (r_move rfl (.t rfl rfl)) ?_
  refine s_call rfl rfl rfl (vs := [.int .i64 0]) ⟨(.t rfl rfl), trivial⟩ cb13 (num_ok w4 0) ?_
  rintro _ w4 ⟨rfl, rfl⟩
  refine s_val hS6 rfl rfl (r_cmp_f rfl rfl (.t rfl rfl) .c (show ¬ (¬ 0 = 0) from by omega)) ?_
  refine s_val hS6 rfl rfl (r_move rfl (.t rfl rfl)) ?_
  refine s_valg hS6 (wanted_of (j := 3) (b := false) (d := 35) rfl rfl rfl rfl) rfl (r_move rfl (.t rfl rfl)) ?_
  refine s_callg (wanted_of (j := 3) (b := false) (d := 35) rfl rfl rfl rfl) rfl rfl (vs := [.int .i64 0]) ⟨(.t rfl rfl), trivial⟩ cb13 (num_ok w4 0) ?_
  rintro _ w4 ⟨rfl, rfl⟩
  refine s_valg hS6 (wanted_of (j := 3) (b := false) (d := 35) rfl rfl rfl rfl) rfl (r_cmp_f rfl rfl (.t rfl rfl) .c (show ¬ (¬ 0 = 0) from by omega)) ?_
  refine s_val hS6 rfl rfl (r_pick rfl (.t rfl rfl) (.t rfl rfl)) ?_
  refine s_val hS6 rfl rfl (r_move rfl (.t rfl rfl)) ?_
  refine s_valg hS6 (wanted_of (j := 8) (b := false) (d := 40) rfl rfl rfl rfl) rfl (r_move rfl (.t rfl rfl)) ?_
  refine s_valg hS6 (wanted_of (j := 8) (b := false) (d := 40) rfl rfl rfl rfl) rfl (r_move rfl (.t rfl rfl)) ?_
  refine s_callg (wanted_of (j := 8) (b := false) (d := 40) rfl rfl rfl rfl) rfl rfl (vs := [.slice a4 G.length c4, .slice a5 HH.length c5]) ⟨(.t rfl rfl), (.t rfl rfl), trivial⟩ cb14 (eq_ok w4 a4 c4 G hR12 a5 c5 HH hR8 hNG hNHH) ?_
  rintro _ w5 ⟨⟨hc1, rfl⟩ | ⟨hc1, rfl⟩, hB2⟩
  rotate_left
  · exact absurd ((by rw [hlG, hlHH]; exact Nat.gcd_comm _ _)) hc1
  have hS7 := hS6.keep hB2
  replace hB2 := hB2.toBelow
  have hR13 := hR9.below hB2 (Nat.le_refl _)
  have hR14 := hR10.below hB2 (Nat.le_refl _)
  have hR15 := hR11.below hB2 (Nat.le_refl _)
  have hR16 := hR12.below hB2 (Nat.le_refl _)
  have hR17 := hR8.below hB2 (Nat.le_refl _)
  have hW13 := hW9.later hB2
  have hW14 := hW10.later hB2
  have hW15 := hW11.later hB2
  have hW16 := hW12.later hB2
  have hW17 := hW8.later hB2
  refine s_valg hS7 (wanted_of (j := 8) (b := false) (d := 40) rfl rfl rfl rfl) rfl (r_lnot rfl (.t rfl rfl)) ?_
  refine s_val hS7 rfl rfl (r_pick rfl (.t rfl rfl) (.t rfl rfl)) ?_
  refine wpList_nil ?_
  refine x_tn ?_
  refine k_reb [(2, .bool false), (3, .slice a1 A.length c1), (4, .slice a2 B.length c2), (5, .slice a3 C.length c3), (6, .slice a4 G.length c4), (7, .int .i64 0), (8, .slice a5 HH.length c5), (9, .int .i64 0), (45, .bool false)] ⟨rfl, rfl, rfl, rfl, rfl, rfl, rfl, rfl, rfl, trivial⟩ fun G5 => ?_
  refine k_f (.t rfl rfl) ?_
  refine wp_skip ?_
  refine x_tn ?_
  refine k_reb [(2, .bool false), (3, .slice a1 A.length c1), (4, .slice a2 B.length c2), (5, .slice a3 C.length c3), (6, .slice a4 G.length c4), (7, .int .i64 0), (8, .slice a5 HH.length c5), (9, .int .i64 0)] ⟨rfl, rfl, rfl, rfl, rfl, rfl, rfl, rfl, trivial⟩ fun G6 => ?_
  refine wp_seq ?_
  refine wp_seq ?_
  refine k_reg ?_
  refine s_val hS7 rfl rfl (r_move rfl (.t rfl rfl)) ?_
  refine s_val hS7 rfl rfl (r_len rfl rfl Try.underlying27 (.t rfl rfl)) ?_
  by_cases c6 : A.length = 0
  · have hA0 : lv A = 0 := by rw [List.eq_nil_of_length_eq_zero (by omega : A.length = 0)]; rfl
    refine s_val hS7 rfl rfl (r_cmp_t rfl rfl (.t rfl rfl) .c (show ((A.length : Nat) : Int) = 0 from by omega)) ?_
    refine s_val hS7 rfl rfl (r_move rfl (.t rfl rfl)) ?_
    refine s_skip (unwanted_of (j := 3) (b := false) (b' := true) (d := 49) rfl rfl rfl rfl rfl) rfl ?_
    refine s_skip (unwanted_of (j := 3) (b := false) (b' := true) (d := 49) rfl rfl rfl rfl rfl) rfl ?_
    refine s_skip (unwanted_of (j := 3) (b := false) (b' := true) (d := 49) rfl rfl rfl rfl rfl) rfl ?_
    refine s_val hS7 rfl rfl (r_pick rfl (.t rfl rfl) .c) ?_
    refine wpList_nil ?_
    refine x_tn ?_
    refine k_reb [(2, .bool false), (3, .slice a1 A.length c1), (4, .slice a2 B.length c2), (5, .slice a3 C.length c3), (6, .slice a4 G.length c4), (7, .int .i64 0), (8, .slice a5 HH.length c5), (9, .int .i64 0), (53, .bool true)] ⟨rfl, rfl, rfl, rfl, rfl, rfl, rfl, rfl, rfl, trivial⟩ fun G7 => ?_
    refine k_t (.t rfl rfl) ?_
    refine wp_seq ?_
    refine k_reg ?_
    refine s_val hS7 rfl rfl (r_move rfl (.t rfl rfl)) ?_
    refine s_val hS7 rfl rfl (r_move rfl (.t rfl rfl)) ?_
    refine s_val hS7 rfl rfl (r_move rfl (.t rfl rfl)) ?_
    refine s_call rfl rfl rfl (vs := [.slice a1 A.length c1, .slice a2 B.length c2]) ⟨(.t rfl rfl), (.t rfl rfl), trivial⟩ cb15 (ladd_ok w5 a1 c1 A hR13 a2 c2 B hR14 hNA hNB (by (try simp only [hlG, hlHH, lv_nil, Nat.mul_zero, Nat.add_zero]) <;> (first | assumption | omega))) ?_
    intro v4 w6 hp6
    obtain ⟨N1, hp6, ⟨hNN1, hlN1⟩⟩ := hp6
    obtain ⟨a6, c7, rfl, hR18, -, hT6⟩ := id hp6
    have hW18 := Ow.from_ hS7 hp6
    have hS8 := hS7.keep hT6
    have hR19 := hR13.below hT6.toBelow (Nat.le_refl _)
    have hR20 := hR14.below hT6.toBelow (Nat.le_refl _)
    have hR21 := hR15.below hT6.toBelow (Nat.le_refl _)
    have hR22 := hR16.below hT6.toBelow (Nat.le_refl _)
    have hR23 := hR17.below hT6.toBelow (Nat.le_refl _)
    have hW19 := hW13.later hT6.toBelow
    have hW20 := hW14.later hT6.toBelow
    have hW21 := hW15.later hT6.toBelow
    have hW22 := hW16.later hT6.toBelow
    have hW23 := hW17.later hT6.toBelow
    have hA6 := hp6.apart hS7 (m := 0) rfl
    have hnN1 := hNN1.len
    refine s_call rfl rfl rfl (vs := [.slice a4 G.length c4, .slice a6 N1.length c7]) ⟨(.t rfl rfl), (.t rfl rfl), trivial⟩ cb14 (eq_ok w6 a4 c4 G hR22 a6 c7 N1 hR18 hNG hNN1) ?_
    rintro _ w7 ⟨⟨hc2, rfl⟩ | ⟨hc2, rfl⟩, hB3⟩
    rotate_left
    · exact absurd ((by rw [hlG, hA0]; simp only [hA0, hlG, hlHH, hlN1]; simp)) hc2
    have hS9 := hS8.keep hB3
    replace hB3 := hB3.toBelow
    have hR24 := hR19.below hB3 (Nat.le_refl _)
    have hR25 := hR20.below hB3 (Nat.le_refl _)
    have hR26 := hR21.below hB3 (Nat.le_refl _)
    have hR27 := hR22.below hB3 (Nat.le_refl _)
    have hR28 := hR23.below hB3 (Nat.le_refl _)
    have hR29 := hR18.below hB3 (Nat.le_refl _)
    have hW24 := hW19.later hB3
    have hW25 := hW20.later hB3
    have hW26 := hW21.later hB3
    have hW27 := hW22.later hB3
    have hW28 := hW23.later hB3
    have hW29 := hW18.later hB3
    refine s_val hS9 rfl rfl (r_move rfl (.t rfl rfl)) ?_
    refine s_callg (wanted_of (j := 5) (b := true) (d := 59) rfl rfl rfl rfl) rfl rfl (vs := []) trivial cb16 (wakes_ok w7 ) ?_
    intro v5 w8 hp7
    obtain ⟨hp7, hB4⟩ := hp7
    have hS10 := hS9.keep hB4
    replace hB4 := hB4.toBelow
    have hR30 := hR24.below hB4 (Nat.le_refl _)
    have hR31 := hR25.below hB4 (Nat.le_refl _)
    have hR32 := hR26.below hB4 (Nat.le_refl _)
    have hR33 := hR27.below hB4 (Nat.le_refl _)
    have hR34 := hR28.below hB4 (Nat.le_refl _)
    have hR35 := hR29.below hB4 (Nat.le_refl _)
    have hW30 := hW24.later hB4
    have hW31 := hW25.later hB4
    have hW32 := hW26.later hB4
    have hW33 := hW27.later hB4
    have hW34 := hW28.later hB4
    have hW35 := hW29.later hB4
    obtain rfl := hp7
    refine s_val hS10 rfl rfl (r_pick rfl (.t rfl rfl) (.t rfl rfl)) ?_
    refine s_val hS10 rfl rfl (r_assign rfl (.t rfl rfl)) ?_
    refine wpList_nil ?_
    refine x_tn ?_
    refine k_reb [(2, .bool true), (3, .slice a1 A.length c1), (4, .slice a2 B.length c2), (5, .slice a3 C.length c3), (6, .slice a4 G.length c4), (7, .int .i64 0), (8, .slice a5 HH.length c5), (9, .int .i64 0)] ⟨rfl, rfl, rfl, rfl, rfl, rfl, rfl, rfl, trivial⟩ fun G8 => ?_
    refine wp_ret ?_
    refine x_tr ?_
    refine k_ret1 Try.results3 rfl rfl ?_
    refine ⟨_, rfl, ?_⟩
    exact ⟨rfl, hS10.none⟩
  · refine s_val hS7 rfl rfl (r_cmp_f rfl rfl (.t rfl rfl) .c (show ¬ (((A.length : Nat) : Int) = 0) from by omega)) ?_
    refine s_val hS7 rfl rfl (r_move rfl (.t rfl rfl)) ?_
    refine s_valg hS7 (wanted_of (j := 3) (b := false) (d := 49) rfl rfl rfl rfl) rfl (r_move rfl (.t rfl rfl)) ?_
    refine s_valg hS7 (wanted_of (j := 3) (b := false) (d := 49) rfl rfl rfl rfl) rfl (r_len rfl rfl Try.underlying27 (.t rfl rfl)) ?_
    by_cases c8 : B.length = 0
    · have hA0 : lv B = 0 := by rw [List.eq_nil_of_length_eq_zero (by omega : B.length = 0)]; rfl
      refine s_valg hS7 (wanted_of (j := 3) (b := false) (d := 49) rfl rfl rfl rfl) rfl (r_cmp_t rfl rfl (.t rfl rfl) .c (show ((B.length : Nat) : Int) = 0 from by omega)) ?_
      refine s_val hS7 rfl rfl (r_pick rfl (.t rfl rfl) (.t rfl rfl)) ?_
      refine wpList_nil ?_
      refine x_tn ?_
      refine k_reb [(2, .bool false), (3, .slice a1 A.length c1), (4, .slice a2 B.length c2), (5, .slice a3 C.length c3), (6, .slice a4 G.length c4), (7, .int .i64 0), (8, .slice a5 HH.length c5), (9, .int .i64 0), (53, .bool true)] ⟨rfl, rfl, rfl, rfl, rfl, rfl, rfl, rfl, rfl, trivial⟩ fun G9 => ?_
      refine k_t (.t rfl rfl) ?_
      refine wp_seq ?_
      refine k_reg ?_
      refine s_val hS7 rfl rfl (r_move rfl (.t rfl rfl)) ?_
      refine s_val hS7 rfl rfl (r_move rfl (.t rfl rfl)) ?_
      refine s_val hS7 rfl rfl (r_move rfl (.t rfl rfl)) ?_
      refine s_call rfl rfl rfl (vs := [.slice a1 A.length c1, .slice a2 B.length c2]) ⟨(.t rfl rfl), (.t rfl rfl), trivial⟩ cb15 (ladd_ok w5 a1 c1 A hR13 a2 c2 B hR14 hNA hNB (by (try simp only [hlG, hlHH, lv_nil, Nat.mul_zero, Nat.add_zero]) <;> (first | assumption | omega))) ?_
      intro v6 w9 hp8
      obtain ⟨N2, hp8, ⟨hNN2, hlN2⟩⟩ := hp8
      obtain ⟨a7, c9, rfl, hR36, -, hT7⟩ := id hp8
      have hW36 := Ow.from_ hS7 hp8
      have hS11 := hS7.keep hT7
      have hR37 := hR13.below hT7.toBelow (Nat.le_refl _)
      have hR38 := hR14.below hT7.toBelow (Nat.le_refl _)
      have hR39 := hR15.below hT7.toBelow (Nat.le_refl _)
      have hR40 := hR16.below hT7.toBelow (Nat.le_refl _)
      have hR41 := hR17.below hT7.toBelow (Nat.le_refl _)
      have hW37 := hW13.later hT7.toBelow
      have hW38 := hW14.later hT7.toBelow
      have hW39 := hW15.later hT7.toBelow
      have hW40 := hW16.later hT7.toBelow
      have hW41 := hW17.later hT7.toBelow
      have hA7 := hp8.apart hS7 (m := 0) rfl
      have hnN2 := hNN2.len
      refine s_call rfl rfl rfl (vs := [.slice a4 G.length c4, .slice a7 N2.length c9]) ⟨(.t rfl rfl), (.t rfl rfl), trivial⟩ cb14 (eq_ok w9 a4 c4 G hR40 a7 c9 N2 hR36 hNG hNN2) ?_
      rintro _ w10 ⟨⟨hc3, rfl⟩ | ⟨hc3, rfl⟩, hB5⟩
      rotate_left
      · exact absurd ((by rw [hlG, hA0]; simp only [hA0, hlG, hlHH, hlN2]; simp)) hc3
      have hS12 := hS11.keep hB5
      replace hB5 := hB5.toBelow
      have hR42 := hR37.below hB5 (Nat.le_refl _)
      have hR43 := hR38.below hB5 (Nat.le_refl _)
      have hR44 := hR39.below hB5 (Nat.le_refl _)
      have hR45 := hR40.below hB5 (Nat.le_refl _)
      have hR46 := hR41.below hB5 (Nat.le_refl _)
      have hR47 := hR36.below hB5 (Nat.le_refl _)
      have hW42 := hW37.later hB5
      have hW43 := hW38.later hB5
      have hW44 := hW39.later hB5
      have hW45 := hW40.later hB5
      have hW46 := hW41.later hB5
      have hW47 := hW36.later hB5
      refine s_val hS12 rfl rfl (r_move rfl (.t rfl rfl)) ?_
      refine s_callg (wanted_of (j := 5) (b := true) (d := 59) rfl rfl rfl rfl) rfl rfl (vs := []) trivial cb16 (wakes_ok w10 ) ?_
      intro v7 w11 hp9
      obtain ⟨hp9, hB6⟩ := hp9
      have hS13 := hS12.keep hB6
      replace hB6 := hB6.toBelow
      have hR48 := hR42.below hB6 (Nat.le_refl _)
      have hR49 := hR43.below hB6 (Nat.le_refl _)
      have hR50 := hR44.below hB6 (Nat.le_refl _)
      have hR51 := hR45.below hB6 (Nat.le_refl _)
      have hR52 := hR46.below hB6 (Nat.le_refl _)
      have hR53 := hR47.below hB6 (Nat.le_refl _)
      have hW48 := hW42.later hB6
      have hW49 := hW43.later hB6
      have hW50 := hW44.later hB6
      have hW51 := hW45.later hB6
      have hW52 := hW46.later hB6
      have hW53 := hW47.later hB6
      obtain rfl := hp9
      refine s_val hS13 rfl rfl (r_pick rfl (.t rfl rfl) (.t rfl rfl)) ?_
      refine s_val hS13 rfl rfl (r_assign rfl (.t rfl rfl)) ?_
      refine wpList_nil ?_
      refine x_tn ?_
      refine k_reb [(2, .bool true), (3, .slice a1 A.length c1), (4, .slice a2 B.length c2), (5, .slice a3 C.length c3), (6, .slice a4 G.length c4), (7, .int .i64 0), (8, .slice a5 HH.length c5), (9, .int .i64 0)] ⟨rfl, rfl, rfl, rfl, rfl, rfl, rfl, rfl, trivial⟩ fun G10 => ?_
      refine wp_ret ?_
      refine x_tr ?_
      refine k_ret1 Try.results3 rfl rfl ?_
      refine ⟨_, rfl, ?_⟩
      exact ⟨rfl, hS13.none⟩
    · have hA1 := lv_pos hNA.nz (by omega)
      have hB1 := lv_pos hNB.nz (by omega)
      have hG0 : 0 < lv G := by rw [hlG]; exact Nat.gcd_pos_of_pos_left _ hA1
      refine s_valg hS7 (wanted_of (j := 3) (b := false) (d := 49) rfl rfl rfl rfl) rfl (r_cmp_f rfl rfl (.t rfl rfl) .c (show ¬ (((B.length : Nat) : Int) = 0) from by omega)) ?_
      refine s_val hS7 rfl rfl (r_pick rfl (.t rfl rfl) (.t rfl rfl)) ?_
      refine wpList_nil ?_
      refine x_tn ?_
      refine k_reb [(2, .bool false), (3, .slice a1 A.length c1), (4, .slice a2 B.length c2), (5, .slice a3 C.length c3), (6, .slice a4 G.length c4), (7, .int .i64 0), (8, .slice a5 HH.length c5), (9, .int .i64 0), (53, .bool false)] ⟨rfl, rfl, rfl, rfl, rfl, rfl, rfl, rfl, rfl, trivial⟩ fun G11 => ?_
      refine k_f (.t rfl rfl) ?_
      refine wp_skip ?_
      refine x_tn ?_
      refine k_reb [(2, .bool false), (3, .slice a1 A.length c1), (4, .slice a2 B.length c2), (5, .slice a3 C.length c3), (6, .slice a4 G.length c4), (7, .int .i64 0), (8, .slice a5 HH.length c5), (9, .int .i64 0)] ⟨rfl, rfl, rfl, rfl, rfl, rfl, rfl, rfl, trivial⟩ fun G12 => ?_
      refine wp_seq ?_
      refine k_reg ?_
      refine s_val hS7 rfl rfl (r_move rfl (.t rfl rfl)) ?_
      refine s_val hS7 rfl rfl (r_move rfl (.t rfl rfl)) ?_
      refine s_call rfl rfl rfl (vs := [.slice a1 A.length c1, .slice a4 G.length c4]) ⟨(.t rfl rfl), (.t rfl rfl), trivial⟩ cb17 (DivMod_ok w5 a1 c1 A hR13 a4 c4 G hR16 hNA hNG hG0) ?_
      rintro v8 w12 ⟨X1, Y1, _, _, rfl, hp10, hq1, hNX1, hNY1, hlX1, hlY1⟩
      obtain ⟨a8, c10, rfl, hR54, -, hT8⟩ := id hp10
      have hW54 := Ow.from_ hS7 hp10
      have hS14 := hS7.keep hT8
      have hR55 := hR13.below hT8.toBelow (Nat.le_refl _)
      have hR56 := hR14.below hT8.toBelow (Nat.le_refl _)
      have hR57 := hR15.below hT8.toBelow (Nat.le_refl _)
      have hR58 := hR16.below hT8.toBelow (Nat.le_refl _)
      have hR59 := hR17.below hT8.toBelow (Nat.le_refl _)
      have hW55 := hW13.later hT8.toBelow
      have hW56 := hW14.later hT8.toBelow
      have hW57 := hW15.later hT8.toBelow
      have hW58 := hW16.later hT8.toBelow
      have hW59 := hW17.later hT8.toBelow
      have hA8 := hp10.apart hS7 (m := 0) rfl
      obtain ⟨a9, c11, rfl, hR60, -, hT9⟩ := id hq1
      have hW60 := Ow.from_ hS7 hq1
      have hA9 := hq1.apart hS7 (m := 0) rfl
      have hnX1 := hNX1.len
      have hnY1 := hNY1.len
      refine s_val hS14 rfl rfl (r_move rfl (.t rfl rfl)) ?_
      refine s_val hS14 rfl rfl (r_extract rfl (.t rfl rfl) rfl) ?_
      refine s_val hS14 rfl rfl (r_extract rfl (.t rfl rfl) rfl) ?_
      refine s_val hS14 rfl rfl (r_extract rfl (.t rfl rfl) rfl) ?_
      refine s_val hS14 rfl rfl (r_assign rfl (.t rfl rfl)) ?_
      refine s_val hS14 rfl rfl (r_assign rfl (.t rfl rfl)) ?_
      refine s_val hS14 rfl rfl (r_assign rfl (.t rfl rfl)) ?_
      refine wpList_nil ?_
      refine x_tn ?_
      refine k_reb [(2, .bool false), (3, .slice a1 A.length c1), (4, .slice a2 B.length c2), (5, .slice a3 C.length c3), (6, .slice a4 G.length c4), (7, .int .i64 0), (8, .slice a5 HH.length c5), (9, .int .i64 0), (10, .slice a8 X1.length c10), (11, .slice a9 Y1.length c11)] ⟨rfl, rfl, rfl, rfl, rfl, rfl, rfl, rfl, rfl, rfl, trivial⟩ fun G13 => ?_
      refine wp_seq ?_
      refine k_reg ?_
      refine s_val hS14 rfl rfl (r_move rfl (.t rfl rfl)) ?_
      refine s_val hS14 rfl rfl (r_move rfl (.t rfl rfl)) ?_
      refine s_call rfl rfl rfl (vs := [.slice a2 B.length c2, .slice a4 G.length c4]) ⟨(.t rfl rfl), (.t rfl rfl), trivial⟩ cb17 (DivMod_ok w12 a2 c2 B hR56 a4 c4 G hR58 hNB hNG hG0) ?_
      rintro v9 w13 ⟨X2, Y2, _, _, rfl, hp11, hq2, hNX2, hNY2, hlX2, hlY2⟩
      obtain ⟨a10, c12, rfl, hR61, -, hT10⟩ := id hp11
      have hW61 := Ow.from_ hS14 hp11
      have hS16 := hS14.keep hT10
      have hR62 := hR55.below hT10.toBelow (Nat.le_refl _)
      have hR63 := hR56.below hT10.toBelow (Nat.le_refl _)
      have hR64 := hR57.below hT10.toBelow (Nat.le_refl _)
      have hR65 := hR58.below hT10.toBelow (Nat.le_refl _)
      have hR66 := hR59.below hT10.toBelow (Nat.le_refl _)
      have hR67 := hR54.below hT10.toBelow (Nat.le_refl _)
      have hR68 := hR60.below hT10.toBelow (Nat.le_refl _)
      have hW62 := hW55.later hT10.toBelow
      have hW63 := hW56.later hT10.toBelow
      have hW64 := hW57.later hT10.toBelow
      have hW65 := hW58.later hT10.toBelow
      have hW66 := hW59.later hT10.toBelow
      have hW67 := hW54.later hT10.toBelow
      have hW68 := hW60.later hT10.toBelow
      have hA10 := hp11.apart hS14 (m := 0) rfl
      obtain ⟨a11, c13, rfl, hR69, -, hT11⟩ := id hq2
      have hW69 := Ow.from_ hS14 hq2
      have hA11 := hq2.apart hS14 (m := 0) rfl
      have hnX2 := hNX2.len
      have hnY2 := hNY2.len
      refine s_val hS16 rfl rfl (r_move rfl (.t rfl rfl)) ?_
      refine s_val hS16 rfl rfl (r_extract rfl (.t rfl rfl) rfl) ?_
      refine s_val hS16 rfl rfl (r_extract rfl (.t rfl rfl) rfl) ?_
      refine s_val hS16 rfl rfl (r_extract rfl (.t rfl rfl) rfl) ?_
      refine s_val hS16 rfl rfl (r_assign rfl (.t rfl rfl)) ?_
      refine s_val hS16 rfl rfl (r_assign rfl (.t rfl rfl)) ?_
      refine s_val hS16 rfl rfl (r_assign rfl (.t rfl rfl)) ?_
      refine wpList_nil ?_
      refine x_tn ?_
      refine k_reb [(2, .bool false), (3, .slice a1 A.length c1), (4, .slice a2 B.length c2), (5, .slice a3 C.length c3), (6, .slice a4 G.length c4), (7, .int .i64 0), (8, .slice a5 HH.length c5), (9, .int .i64 0), (10, .slice a8 X1.length c10), (11, .slice a9 Y1.length c11), (12, .slice a10 X2.length c12), (13, .slice a11 Y2.length c13)] ⟨rfl, rfl, rfl, rfl, rfl, rfl, rfl, rfl, rfl, rfl, rfl, rfl, trivial⟩ fun G14 => ?_
      refine wp_seq ?_
      refine wp_seq ?_
      refine k_reg ?_
      refine s_val hS16 rfl rfl (r_move rfl (.t rfl rfl)) ?_
      refine s_call rfl rfl rfl (vs := [.int .i64 0]) ⟨(.t rfl rfl), trivial⟩ cb13 (num_ok w13 0) ?_
      rintro _ w13 ⟨rfl, rfl⟩
      refine s_val hS16 rfl rfl (r_cmp_f rfl rfl (.t rfl rfl) .c (show ¬ (¬ 0 = 0) from by omega)) ?_
      refine s_val hS16 rfl rfl (r_move rfl (.t rfl rfl)) ?_
      refine s_valg hS16 (wanted_of (j := 3) (b := false) (d := 79) rfl rfl rfl rfl) rfl (r_move rfl (.t rfl rfl)) ?_
      refine s_callg (wanted_of (j := 3) (b := false) (d := 79) rfl rfl rfl rfl) rfl rfl (vs := [.int .i64 0]) ⟨(.t rfl rfl), trivial⟩ cb13 (num_ok w13 0) ?_
      rintro _ w13 ⟨rfl, rfl⟩
      refine s_valg hS16 (wanted_of (j := 3) (b := false) (d := 79) rfl rfl rfl rfl) rfl (r_cmp_f rfl rfl (.t rfl rfl) .c (show ¬ (¬ 0 = 0) from by omega)) ?_
      refine s_val hS16 rfl rfl (r_pick rfl (.t rfl rfl) (.t rfl rfl)) ?_
      refine s_val hS16 rfl rfl (r_move rfl (.t rfl rfl)) ?_
      refine s_valg hS16 (wanted_of (j := 8) (b := false) (d := 84) rfl rfl rfl rfl) rfl (r_move rfl (.t rfl rfl)) ?_
      refine s_valg hS16 (wanted_of (j := 8) (b := false) (d := 84) rfl rfl rfl rfl) rfl (r_len rfl rfl Try.underlying27 (.t rfl rfl)) ?_
      refine s_valg hS16 (wanted_of (j := 8) (b := false) (d := 84) rfl rfl rfl rfl) rfl (r_cmp_f rfl rfl (.t rfl rfl) .c (show ¬ (((Y1.length : Nat) : Int) > 0) from (by rw [lv_zero hNY1.nz (by rw [hlY1, hlG]; exact Nat.mod_eq_zero_of_dvd (Nat.gcd_dvd_left _ _))]; simp))) ?_
      refine s_val hS16 rfl rfl (r_pick rfl (.t rfl rfl) (.t rfl rfl)) ?_
      refine s_val hS16 rfl rfl (r_move rfl (.t rfl rfl)) ?_
      refine s_valg hS16 (wanted_of (j := 13) (b := false) (d := 89) rfl rfl rfl rfl) rfl (r_move rfl (.t rfl rfl)) ?_
      refine s_valg hS16 (wanted_of (j := 13) (b := false) (d := 89) rfl rfl rfl rfl) rfl (r_len rfl rfl Try.underlying27 (.t rfl rfl)) ?_
      refine s_valg hS16 (wanted_of (j := 13) (b := false) (d := 89) rfl rfl rfl rfl) rfl (r_cmp_f rfl rfl (.t rfl rfl) .c (show ¬ (((Y2.length : Nat) : Int) > 0) from (by rw [lv_zero hNY2.nz (by rw [hlY2, hlG]; exact Nat.mod_eq_zero_of_dvd (Nat.gcd_dvd_right _ _))]; simp))) ?_
      refine s_val hS16 rfl rfl (r_pick rfl (.t rfl rfl) (.t rfl rfl)) ?_
      refine wpList_nil ?_
      refine x_tn ?_
      refine k_reb [(2, .bool false), (3, .slice a1 A.length c1), (4, .slice a2 B.length c2), (5, .slice a3 C.length c3), (6, .slice a4 G.length c4), (7, .int .i64 0), (8, .slice a5 HH.length c5), (10, .slice a8 X1.length c10), (12, .slice a10 X2.length c12), (93, .bool false)] ⟨rfl, rfl, rfl, rfl, rfl, rfl, rfl, rfl, rfl, rfl, trivial⟩ fun G15 => ?_
      refine k_f (.t rfl rfl) ?_
      refine wp_skip ?_
      refine x_tn ?_
      refine k_reb [(2, .bool false), (3, .slice a1 A.length c1), (4, .slice a2 B.length c2), (5, .slice a3 C.length c3), (6, .slice a4 G.length c4), (7, .int .i64 0), (8, .slice a5 HH.length c5), (10, .slice a8 X1.length c10), (12, .slice a10 X2.length c12)] ⟨rfl, rfl, rfl, rfl, rfl, rfl, rfl, rfl, rfl, trivial⟩ fun G16 => ?_
      refine wp_seq ?_
      refine k_reg ?_
      refine s_val hS16 rfl rfl (r_move rfl (.t rfl rfl)) ?_
      refine s_val hS16 rfl rfl (r_move rfl (.t rfl rfl)) ?_
      refine s_call rfl rfl rfl (vs := [.slice a8 X1.length c10, .slice a10 X2.length c12]) ⟨(.t rfl rfl), (.t rfl rfl), trivial⟩ cb12 (Gcd_ok w13 a8 c10 X1 hR67 a10 c12 X2 hR61 hNX1 hNX2) ?_
      rintro v10 w14 ⟨G2, _, rfl, hp12, hNG2, hlG2⟩
      obtain ⟨a12, c14, rfl, hR70, -, hT12⟩ := id hp12
      have hW70 := Ow.from_ hS16 hp12
      have hS18 := hS16.keep hT12
      have hR71 := hR62.below hT12.toBelow (Nat.le_refl _)
      have hR72 := hR63.below hT12.toBelow (Nat.le_refl _)
      have hR73 := hR64.below hT12.toBelow (Nat.le_refl _)
      have hR74 := hR65.below hT12.toBelow (Nat.le_refl _)
      have hR75 := hR66.below hT12.toBelow (Nat.le_refl _)
      have hR76 := hR67.below hT12.toBelow (Nat.le_refl _)
      have hR77 := hR61.below hT12.toBelow (Nat.le_refl _)
      have hW71 := hW62.later hT12.toBelow
      have hW72 := hW63.later hT12.toBelow
      have hW73 := hW64.later hT12.toBelow
      have hW74 := hW65.later hT12.toBelow
      have hW75 := hW66.later hT12.toBelow
      have hW76 := hW67.later hT12.toBelow
      have hW77 := hW68.later hT12.toBelow
      have hW78 := hW61.later hT12.toBelow
      have hW79 := hW69.later hT12.toBelow
      have hA12 := hp12.apart hS16 (m := 0) rfl
      have hnG2 := hNG2.len
      refine s_val hS18 rfl rfl (r_move rfl (.t rfl rfl)) ?_
      refine s_val hS18 rfl rfl (r_extract rfl (.t rfl rfl) rfl) ?_
      refine s_val hS18 rfl rfl (r_extract rfl (.t rfl rfl) rfl) ?_
      refine s_val hS18 rfl rfl (r_assign rfl (.t rfl rfl)) ?_
      refine s_val hS18 rfl rfl (r_assign rfl (.t rfl rfl)) ?_
      refine wpList_nil ?_
      refine x_tn ?_
      refine k_reb [(2, .bool false), (3, .slice a1 A.length c1), (4, .slice a2 B.length c2), (5, .slice a3 C.length c3), (6, .slice a4 G.length c4), (7, .int .i64 0), (8, .slice a12 G2.length c14)] ⟨rfl, rfl, rfl, rfl, rfl, rfl, rfl, trivial⟩ fun G17 => ?_
      refine wp_seq ?_
      refine wp_seq ?_
      refine k_reg ?_
      refine s_val hS18 rfl rfl (r_move rfl (.t rfl rfl)) ?_
      refine s_call rfl rfl rfl (vs := [.int .i64 0]) ⟨(.t rfl rfl), trivial⟩ cb13 (num_ok w14 0) ?_
      rintro _ w14 ⟨rfl, rfl⟩
      refine s_val hS18 rfl rfl (r_cmp_f rfl rfl (.t rfl rfl) .c (show ¬ (¬ 0 = 0) from by omega)) ?_
      refine s_val hS18 rfl rfl (r_move rfl (.t rfl rfl)) ?_
      refine s_valg hS18 (wanted_of (j := 3) (b := false) (d := 103) rfl rfl rfl rfl) rfl (r_move rfl (.t rfl rfl)) ?_
      refine s_callg (wanted_of (j := 3) (b := false) (d := 103) rfl rfl rfl rfl) rfl rfl (vs := [.int .u64 1]) ⟨.c, trivial⟩ cb18 (from_ok w14 1 (by omega)) ?_
      intro v11 w15 hp13
      obtain ⟨N3, hp13, ⟨hNN3, hlN3⟩⟩ := hp13
      obtain ⟨a13, c15, rfl, hR78, -, hT13⟩ := id hp13
      have hW80 := Ow.from_ hS18 hp13
      have hS19 := hS18.keep hT13
      have hR79 := hR71.below hT13.toBelow (Nat.le_refl _)
      have hR80 := hR72.below hT13.toBelow (Nat.le_refl _)
      have hR81 := hR73.below hT13.toBelow (Nat.le_refl _)
      have hR82 := hR74.below hT13.toBelow (Nat.le_refl _)
      have hR83 := hR70.below hT13.toBelow (Nat.le_refl _)
      have hW81 := hW71.later hT13.toBelow
      have hW82 := hW72.later hT13.toBelow
      have hW83 := hW73.later hT13.toBelow
      have hW84 := hW74.later hT13.toBelow
      have hW85 := hW75.later hT13.toBelow
      have hW86 := hW76.later hT13.toBelow
      have hW87 := hW77.later hT13.toBelow
      have hW88 := hW78.later hT13.toBelow
      have hW89 := hW79.later hT13.toBelow
      have hW90 := hW70.later hT13.toBelow
      have hA13 := hp13.apart hS18 (m := 0) rfl
      have hnN3 := hNN3.len
      refine s_callg (wanted_of (j := 3) (b := false) (d := 103) rfl rfl rfl rfl) rfl rfl (vs := [.slice a12 G2.length c14, .slice a13 N3.length c15]) ⟨(.t rfl rfl), (.t rfl rfl), trivial⟩ cb14 (eq_ok w15 a12 c14 G2 hR83 a13 c15 N3 hR78 hNG2 hNN3) ?_
      rintro _ w16 ⟨⟨hc4, rfl⟩ | ⟨hc4, rfl⟩, hB7⟩
      rotate_left
      · exact absurd ((by rw [hlG2, hlX1, hlX2, hlG]; simp only [hlG, hlHH, hlG2, hlN3]; exact Nat.gcd_div_gcd_div_gcd_of_pos_left hA1)) hc4
      have hS20 := hS19.keep hB7
      replace hB7 := hB7.toBelow
      have hR84 := hR79.below hB7 (Nat.le_refl _)
      have hR85 := hR80.below hB7 (Nat.le_refl _)
      have hR86 := hR81.below hB7 (Nat.le_refl _)
      have hR87 := hR82.below hB7 (Nat.le_refl _)
      have hR88 := hR83.below hB7 (Nat.le_refl _)
      have hR89 := hR78.below hB7 (Nat.le_refl _)
      have hW91 := hW81.later hB7
      have hW92 := hW82.later hB7
      have hW93 := hW83.later hB7
      have hW94 := hW84.later hB7
      have hW95 := hW85.later hB7
      have hW96 := hW86.later hB7
      have hW97 := hW87.later hB7
      have hW98 := hW88.later hB7
      have hW99 := hW89.later hB7
      have hW100 := hW90.later hB7
      have hW101 := hW80.later hB7
      refine s_valg hS20 (wanted_of (j := 3) (b := false) (d := 103) rfl rfl rfl rfl) rfl (r_lnot rfl (.t rfl rfl)) ?_
      refine s_val hS20 rfl rfl (r_pick rfl (.t rfl rfl) (.t rfl rfl)) ?_
      refine wpList_nil ?_
      refine x_tn ?_
      refine k_reb [(2, .bool false), (3, .slice a1 A.length c1), (4, .slice a2 B.length c2), (5, .slice a3 C.length c3), (6, .slice a4 G.length c4), (7, .int .i64 0), (8, .slice a12 G2.length c14), (108, .bool false)] ⟨rfl, rfl, rfl, rfl, rfl, rfl, rfl, rfl, trivial⟩ fun G18 => ?_
      refine k_f (.t rfl rfl) ?_
      refine wp_skip ?_
      refine x_tn ?_
      refine k_reb [(2, .bool false), (3, .slice a1 A.length c1), (4, .slice a2 B.length c2), (5, .slice a3 C.length c3), (6, .slice a4 G.length c4), (7, .int .i64 0), (8, .slice a12 G2.length c14)] ⟨rfl, rfl, rfl, rfl, rfl, rfl, rfl, trivial⟩ fun G19 => ?_
      refine wp_seq ?_
      refine k_reg ?_
      refine s_val hS20 rfl rfl (r_move rfl (.t rfl rfl)) ?_
      refine s_val hS20 rfl rfl (r_move rfl (.t rfl rfl)) ?_
      refine s_call rfl rfl rfl (vs := [.slice a1 A.length c1, .slice a3 C.length c3]) ⟨(.t rfl rfl), (.t rfl rfl), trivial⟩ cb19 (lmul_ok w16 a1 c1 A hR84 a3 c3 C hR86 hNA hNC (by (try simp only [hlG, hlHH, hlG2, hlN3, lv_nil, Nat.mul_zero, Nat.add_zero]) <;> (first | assumption | omega))) ?_
      intro v12 w17 hp14
      obtain ⟨AC, hp14, ⟨hNAC, hlAC⟩⟩ := hp14
      obtain ⟨a14, c16, rfl, hR90, -, hT14⟩ := id hp14
      have hW102 := Ow.from_ hS20 hp14
      have hS21 := hS20.keep hT14
      have hR91 := hR84.below hT14.toBelow (Nat.le_refl _)
      have hR92 := hR85.below hT14.toBelow (Nat.le_refl _)
      have hR93 := hR86.below hT14.toBelow (Nat.le_refl _)
      have hR94 := hR87.below hT14.toBelow (Nat.le_refl _)
      have hR95 := hR88.below hT14.toBelow (Nat.le_refl _)
      have hW103 := hW91.later hT14.toBelow
      have hW104 := hW92.later hT14.toBelow
      have hW105 := hW93.later hT14.toBelow
      have hW106 := hW94.later hT14.toBelow
      have hW107 := hW95.later hT14.toBelow
      have hW108 := hW96.later hT14.toBelow
      have hW109 := hW97.later hT14.toBelow
      have hW110 := hW98.later hT14.toBelow
      have hW111 := hW99.later hT14.toBelow
      have hW112 := hW100.later hT14.toBelow
      have hW113 := hW101.later hT14.toBelow
      have hA14 := hp14.apart hS20 (m := 0) rfl
      have hnAC := hNAC.len
      refine s_val hS21 rfl rfl (r_move rfl (.t rfl rfl)) ?_
      refine s_val hS21 rfl rfl (r_move rfl (.t rfl rfl)) ?_
      refine s_call rfl rfl rfl (vs := [.slice a2 B.length c2, .slice a3 C.length c3]) ⟨(.t rfl rfl), (.t rfl rfl), trivial⟩ cb19 (lmul_ok w17 a2 c2 B hR92 a3 c3 C hR93 hNB hNC (by (try simp only [hlG, hlHH, hlG2, hlN3, hlAC, lv_nil, Nat.mul_zero, Nat.add_zero]) <;> (first | assumption | omega))) ?_
      intro v13 w18 hp15
      obtain ⟨BC, hp15, ⟨hNBC, hlBC⟩⟩ := hp15
      obtain ⟨a15, c17, rfl, hR96, -, hT15⟩ := id hp15
      have hW114 := Ow.from_ hS21 hp15
      have hS22 := hS21.keep hT15
      have hR97 := hR91.below hT15.toBelow (Nat.le_refl _)
      have hR98 := hR92.below hT15.toBelow (Nat.le_refl _)
      have hR99 := hR93.below hT15.toBelow (Nat.le_refl _)
      have hR100 := hR94.below hT15.toBelow (Nat.le_refl _)
      have hR101 := hR95.below hT15.toBelow (Nat.le_refl _)
      have hR102 := hR90.below hT15.toBelow (Nat.le_refl _)
      have hW115 := hW103.later hT15.toBelow
      have hW116 := hW104.later hT15.toBelow
      have hW117 := hW105.later hT15.toBelow
      have hW118 := hW106.later hT15.toBelow
      have hW119 := hW107.later hT15.toBelow
      have hW120 := hW108.later hT15.toBelow
      have hW121 := hW109.later hT15.toBelow
      have hW122 := hW110.later hT15.toBelow
      have hW123 := hW111.later hT15.toBelow
      have hW124 := hW112.later hT15.toBelow
      have hW125 := hW113.later hT15.toBelow
      have hW126 := hW102.later hT15.toBelow
      have hA15 := hp15.apart hS21 (m := 0) rfl
      have hnBC := hNBC.len
      refine s_call rfl rfl rfl (vs := [.slice a14 AC.length c16, .slice a15 BC.length c17]) ⟨(.t rfl rfl), (.t rfl rfl), trivial⟩ cb12 (Gcd_ok w18 a14 c16 AC hR102 a15 c17 BC hR96 hNAC hNBC) ?_
      rintro v14 w19 ⟨G3, _, rfl, hp16, hNG3, hlG3⟩
      obtain ⟨a16, c18, rfl, hR103, -, hT16⟩ := id hp16
      have hW127 := Ow.from_ hS22 hp16
      have hS23 := hS22.keep hT16
      have hR104 := hR97.below hT16.toBelow (Nat.le_refl _)
      have hR105 := hR98.below hT16.toBelow (Nat.le_refl _)
      have hR106 := hR99.below hT16.toBelow (Nat.le_refl _)
      have hR107 := hR100.below hT16.toBelow (Nat.le_refl _)
      have hR108 := hR101.below hT16.toBelow (Nat.le_refl _)
      have hR109 := hR102.below hT16.toBelow (Nat.le_refl _)
      have hR110 := hR96.below hT16.toBelow (Nat.le_refl _)
      have hW128 := hW115.later hT16.toBelow
      have hW129 := hW116.later hT16.toBelow
      have hW130 := hW117.later hT16.toBelow
      have hW131 := hW118.later hT16.toBelow
      have hW132 := hW119.later hT16.toBelow
      have hW133 := hW120.later hT16.toBelow
      have hW134 := hW121.later hT16.toBelow
      have hW135 := hW122.later hT16.toBelow
      have hW136 := hW123.later hT16.toBelow
      have hW137 := hW124.later hT16.toBelow
      have hW138 := hW125.later hT16.toBelow
      have hW139 := hW126.later hT16.toBelow
      have hW140 := hW114.later hT16.toBelow
      have hA16 := hp16.apart hS22 (m := 0) rfl
      have hnG3 := hNG3.len
      refine s_val hS23 rfl rfl (r_move rfl (.t rfl rfl)) ?_
      refine s_val hS23 rfl rfl (r_extract rfl (.t rfl rfl) rfl) ?_
      refine s_val hS23 rfl rfl (r_extract rfl (.t rfl rfl) rfl) ?_
      refine s_val hS23 rfl rfl (r_assign rfl (.t rfl rfl)) ?_
      refine s_val hS23 rfl rfl (r_assign rfl (.t rfl rfl)) ?_
      refine wpList_nil ?_
      refine x_tn ?_
      refine k_reb [(2, .bool false), (5, .slice a3 C.length c3), (6, .slice a4 G.length c4), (7, .int .i64 0), (8, .slice a16 G3.length c18)] ⟨rfl, rfl, rfl, rfl, rfl, trivial⟩ fun G20 => ?_
      refine wp_seq ?_
      refine k_reg ?_
      refine s_val hS23 rfl rfl (r_move rfl (.t rfl rfl)) ?_
      refine s_call rfl rfl rfl (vs := [.int .i64 0]) ⟨(.t rfl rfl), trivial⟩ cb13 (num_ok w19 0) ?_
      rintro _ w19 ⟨rfl, rfl⟩
      refine s_val hS23 rfl rfl (r_cmp_t rfl rfl (.t rfl rfl) .c (show 0 = 0 from by omega)) ?_
      refine s_val hS23 rfl rfl (r_move rfl (.t rfl rfl)) ?_
      refine s_valg hS23 (wanted_of (j := 3) (b := true) (d := 122) rfl rfl rfl rfl) rfl (r_move rfl (.t rfl rfl)) ?_
      refine s_valg hS23 (wanted_of (j := 3) (b := true) (d := 122) rfl rfl rfl rfl) rfl (r_move rfl (.t rfl rfl)) ?_
      refine s_valg hS23 (wanted_of (j := 3) (b := true) (d := 122) rfl rfl rfl rfl) rfl (r_move rfl (.t rfl rfl)) ?_
      refine s_callg (wanted_of (j := 3) (b := true) (d := 122) rfl rfl rfl rfl) rfl rfl (vs := [.slice a4 G.length c4, .slice a3 C.length c3]) ⟨(.t rfl rfl), (.t rfl rfl), trivial⟩ cb19 (lmul_ok w19 a4 c4 G hR107 a3 c3 C hR106 hNG hNC (by (try simp only [hlG, hlHH, hlG2, hlN3, hlAC, hlBC, hlG3, lv_nil, Nat.mul_zero, Nat.add_zero]) <;> (first | assumption | omega))) ?_
      intro v15 w20 hp17
      obtain ⟨GC, hp17, ⟨hNGC, hlGC⟩⟩ := hp17
      obtain ⟨a17, c19, rfl, hR111, -, hT17⟩ := id hp17
      have hW141 := Ow.from_ hS23 hp17
      have hS24 := hS23.keep hT17
      have hR112 := hR106.below hT17.toBelow (Nat.le_refl _)
      have hR113 := hR107.below hT17.toBelow (Nat.le_refl _)
      have hR114 := hR103.below hT17.toBelow (Nat.le_refl _)
      have hW142 := hW128.later hT17.toBelow
      have hW143 := hW129.later hT17.toBelow
      have hW144 := hW130.later hT17.toBelow
      have hW145 := hW131.later hT17.toBelow
      have hW146 := hW132.later hT17.toBelow
      have hW147 := hW133.later hT17.toBelow
      have hW148 := hW134.later hT17.toBelow
      have hW149 := hW135.later hT17.toBelow
      have hW150 := hW136.later hT17.toBelow
      have hW151 := hW137.later hT17.toBelow
      have hW152 := hW138.later hT17.toBelow
      have hW153 := hW139.later hT17.toBelow
      have hW154 := hW140.later hT17.toBelow
      have hW155 := hW127.later hT17.toBelow
      have hA17 := hp17.apart hS23 (m := 0) rfl
      have hnGC := hNGC.len
      refine s_callg (wanted_of (j := 3) (b := true) (d := 122) rfl rfl rfl rfl) rfl rfl (vs := [.slice a16 G3.length c18, .slice a17 GC.length c19]) ⟨(.t rfl rfl), (.t rfl rfl), trivial⟩ cb14 (eq_ok w20 a16 c18 G3 hR114 a17 c19 GC hR111 hNG3 hNGC) ?_
      rintro _ w21 ⟨⟨hc5, rfl⟩ | ⟨hc5, rfl⟩, hB8⟩
      rotate_left
      · exact absurd ((by rw [hlG3, hlAC, hlBC, hlGC, hlG]; exact Nat.gcd_mul_right _ _ _)) hc5
      have hS25 := hS24.keep hB8
      replace hB8 := hB8.toBelow
      have hR115 := hR112.below hB8 (Nat.le_refl _)
      have hR116 := hR113.below hB8 (Nat.le_refl _)
      have hR117 := hR114.below hB8 (Nat.le_refl _)
      have hR118 := hR111.below hB8 (Nat.le_refl _)
      have hW156 := hW142.later hB8
      have hW157 := hW143.later hB8
      have hW158 := hW144.later hB8
      have hW159 := hW145.later hB8
      have hW160 := hW146.later hB8
      have hW161 := hW147.later hB8
      have hW162 := hW148.later hB8
      have hW163 := hW149.later hB8
      have hW164 := hW150.later hB8
      have hW165 := hW151.later hB8
      have hW166 := hW152.later hB8
      have hW167 := hW153.later hB8
      have hW168 := hW154.later hB8
      have hW169 := hW155.later hB8
      have hW170 := hW141.later hB8
      refine s_val hS25 rfl rfl (r_pick rfl (.t rfl rfl) (.t rfl rfl)) ?_
      refine s_val hS25 rfl rfl (r_move rfl (.t rfl rfl)) ?_
      refine s_callg (wanted_of (j := 10) (b := true) (d := 129) rfl rfl rfl rfl) rfl rfl (vs := []) trivial cb16 (wakes_ok w21 ) ?_
      intro v16 w22 hp18
      obtain ⟨hp18, hB9⟩ := hp18
      have hS26 := hS25.keep hB9
      replace hB9 := hB9.toBelow
      have hR119 := hR115.below hB9 (Nat.le_refl _)
      have hR120 := hR116.below hB9 (Nat.le_refl _)
      have hR121 := hR117.below hB9 (Nat.le_refl _)
      have hR122 := hR118.below hB9 (Nat.le_refl _)
      have hW171 := hW156.later hB9
      have hW172 := hW157.later hB9
      have hW173 := hW158.later hB9
      have hW174 := hW159.later hB9
      have hW175 := hW160.later hB9
      have hW176 := hW161.later hB9
      have hW177 := hW162.later hB9
      have hW178 := hW163.later hB9
      have hW179 := hW164.later hB9
      have hW180 := hW165.later hB9
      have hW181 := hW166.later hB9
      have hW182 := hW167.later hB9
      have hW183 := hW168.later hB9
      have hW184 := hW169.later hB9
      have hW185 := hW170.later hB9
      obtain rfl := hp18
      refine s_val hS26 rfl rfl (r_pick rfl (.t rfl rfl) (.t rfl rfl)) ?_
      refine s_val hS26 rfl rfl (r_assign rfl (.t rfl rfl)) ?_
      refine wpList_nil ?_
      refine x_tn ?_
      refine k_reb [(2, .bool true)] ⟨rfl, trivial⟩ fun G21 => ?_
      refine wp_ret ?_
      refine k_ret1 Try.results3 rfl rfl ?_
      refine ⟨_, rfl, ?_⟩
      exact ⟨rfl, hS26.none⟩

end Go.Proofs.Ytnbklceenfjojaa

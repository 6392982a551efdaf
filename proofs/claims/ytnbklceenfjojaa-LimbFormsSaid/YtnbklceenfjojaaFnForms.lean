/- Contracts of functions of the program, each walked once. -/
import Derived.Test.YtnbklceenfjojaaFnO
namespace Go.Proofs.Ytnbklceenfjojaa
open Go Go.RowKit K
namespace FP
theorem mixed : Try.prog.follows .mixedOrders = true := by kernel_rfl
theorem agg25 : (match Try.prog.underlying 25 with | some (.struct _) | some (.array ..) => true | _ => false) = true := by kernel_rfl
theorem cb11 : callable Try.prog 11 = true := by kernel_rfl
theorem cb13 : callable Try.prog 13 = true := by kernel_rfl
theorem cb14 : callable Try.prog 14 = true := by kernel_rfl
theorem cb16 : callable Try.prog 16 = true := by kernel_rfl
theorem cb17 : callable Try.prog 17 = true := by kernel_rfl
theorem cb18 : callable Try.prog 18 = true := by kernel_rfl
theorem cb21 : callable Try.prog 21 = true := by kernel_rfl
theorem cb25 : callable Try.prog 25 = true := by kernel_rfl
theorem cb28 : callable Try.prog 28 = true := by kernel_rfl
theorem cb30 : callable Try.prog 30 = true := by kernel_rfl
theorem cb32 : callable Try.prog 32 = true := by kernel_rfl
theorem cb33 : callable Try.prog 33 = true := by kernel_rfl
theorem cb34 : callable Try.prog 34 = true := by kernel_rfl
theorem ti25 : (Try.prog.info? 25).map (fun i => (i.zero, i.size, i.bytes)) = some (some (.agg #[.slice none 0 0, .slice none 0 0]), 2, 48) := by kernel_rfl

end FP
open FP
attribute [local irreducible] Go.wpList Go.wpQuiet Go.wpStill Go.wpAny Go.Code.wp
set_option maxRecDepth 10000
set_option maxHeartbeats 8000000
set_option linter.unusedVariables false
set_option linter.unusedSimpArgs false
theorem LimbForms_ok (w0 : World) (aL : Option Addr) (cL : Nat) (LL : List (Option Addr × Nat × List Nat)) (hL : RdS w0 aL LL) (vN : Value) :
    Calls Try.prog 9 #[.agg #[.slice aL LL.length cL, vN]] w0 (Ret fun v w' => v = .bool true ∧ St w0 [] [] w') := by
  refine k_enter (vs := [.agg #[.slice aL LL.length cL, vN]]) Try.func9 rfl Try.ntmps9 rfl ?_
  have hS := St.init w0
  have mL := hL.most
  refine wp_seq ?_
  refine k_reg ?_
  refine s_box rfl rfl rfl (.t rfl rfl) (cs := #[.slice aL LL.length cL, vN]) rfl hS fun blk1 w1 hb1 hB1 hS1 => ?_
  refine s_val hS1 rfl rfl (r_assign rfl .c) ?_
  refine wpList_nil ?_
  refine x_tn ?_
  refine k_reb [(1, .pointer (some ⟨blk1, 0, none⟩)), (2, .bool false)] ⟨rfl, rfl, trivial⟩ fun G1 => ?_
  refine wp_seq ?_
  refine k_reg ?_
  refine s_val hS1 rfl rfl (r_loadA rfl agg25 ti25 rfl (.t rfl rfl) (St.block (m := 0) rfl)) ?_
  refine s_call rfl rfl rfl (vs := [.agg #[.slice aL LL.length cL, vN], .int .i64 150]) ⟨(.t rfl rfl), .c, trivial⟩ cb11 (three_ok w1 aL cL LL (RdS.st hS1 hL (by intro x hx; cases hx)) vN 150 (by omega)) ?_
  rintro v1 w2 ⟨A, B, C, _, _, _, rfl, hp1, hp2, hp3, hNA, hNB, hNC, hmA, hmB, hmC⟩
  obtain ⟨a1, c1, rfl, hR1, -, hT1⟩ := id hp1
  have hW1 := Ow.from_ hS1 hp1
  have hS2 := hS1.keep hT1
  have hA1 := hp1.apart hS1 (m := 0) rfl
  obtain ⟨a2, c2, rfl, hR2, -, hT2⟩ := id hp2
  have hW2 := Ow.from_ hS1 hp2
  have hA2 := hp2.apart hS1 (m := 0) rfl
  obtain ⟨a3, c3, rfl, hR3, -, hT3⟩ := id hp3
  have hW3 := Ow.from_ hS1 hp3
  have hA3 := hp3.apart hS1 (m := 0) rfl
  have hnA := hNA.len
  have hbA := nm_bound hNA hmA
  have hnB := hNB.len
  have hbB := nm_bound hNB hmB
  have hnC := hNC.len
  have hbC := nm_bound hNC hmC
  have hTA := nm_lt hNA
  have hbT := bl_top hTA
  refine s_val hS2 rfl rfl (r_move rfl (.t rfl rfl)) ?_
  refine s_val hS2 rfl rfl (r_extract rfl (.t rfl rfl) rfl) ?_
  refine s_val hS2 rfl rfl (r_extract rfl (.t rfl rfl) rfl) ?_
  refine s_val hS2 rfl rfl (r_extract rfl (.t rfl rfl) rfl) ?_
  refine s_val hS2 rfl rfl (r_assign rfl (.t rfl rfl)) ?_
  refine s_val hS2 rfl rfl (r_assign rfl (.t rfl rfl)) ?_
  refine s_val hS2 rfl rfl (r_assign rfl (.t rfl rfl)) ?_
  refine wpList_nil ?_
  refine x_tn ?_
  refine k_reb [(2, .bool false), (3, .slice a1 A.length c1), (4, .slice a2 B.length c2)] ⟨rfl, rfl, rfl, trivial⟩ fun G2 => ?_
  refine wp_seq ?_
  refine k_reg ?_
  refine s_val hS2 rfl rfl (r_move rfl (.t rfl rfl)) ?_
  refine s_call rfl rfl rfl (vs := [.slice a1 A.length c1]) ⟨(.t rfl rfl), trivial⟩ cb32 (Bytes_ok w2 a1 c1 A hR1 hNA) ?_
  rintro v2 w3 ⟨BA, hp4, hBA⟩
  obtain ⟨a4, c4, rfl, hR4, -, hT4⟩ := id hp4
  have hW4 := Ow.from_ hS2 hp4
  have hS5 := hS2.keep hT4
  have hR5 := hR1.below hT4.toBelow (Nat.le_refl _)
  have hR6 := hR2.below hT4.toBelow (Nat.le_refl _)
  have hW5 := hW1.later hT4.toBelow
  have hW6 := hW2.later hT4.toBelow
  have hW7 := hW3.later hT4.toBelow
  have hA4 := hp4.apart hS2 (m := 0) rfl
  refine s_call rfl rfl rfl (vs := [.slice a4 BA.length c4]) ⟨(.t rfl rfl), trivial⟩ cb21 (OfBytes_ok w3 a4 c4 BA hR4) ?_
  rintro v3 w4 (⟨hk1, hk2, _, _⟩ | ⟨_, hk2, _, _⟩ | ⟨_, _, X1, _, rfl, hp5, hNX1, hlX1⟩)
  · exfalso; exact bytes_ok1 hNA hBA hk1 hk2
  · exfalso; have := bytes_ok2 hNA hBA; omega
  obtain ⟨a5, c5, rfl, hR7, -, hT5⟩ := id hp5
  have hW8 := Ow.from_ hS5 hp5
  have hS6 := hS5.keep hT5
  have hR8 := hR5.below hT5.toBelow (Nat.le_refl _)
  have hR9 := hR6.below hT5.toBelow (Nat.le_refl _)
  have hR10 := hR4.below hT5.toBelow (Nat.le_refl _)
  have hW9 := hW5.later hT5.toBelow
  have hW10 := hW6.later hT5.toBelow
  have hW11 := hW7.later hT5.toBelow
  have hW12 := hW4.later hT5.toBelow
  have hA5 := hp5.apart hS5 (m := 0) rfl
  have hnX1 := hNX1.len
  refine s_val hS6 rfl rfl (r_move rfl (.t rfl rfl)) ?_
  refine s_val hS6 rfl rfl (r_extract rfl (.t rfl rfl) rfl) ?_
  refine s_val hS6 rfl rfl (r_extract rfl (.t rfl rfl) rfl) ?_
  refine s_val hS6 rfl rfl (r_assign rfl (.t rfl rfl)) ?_
  refine s_val hS6 rfl rfl (r_assign rfl (.t rfl rfl)) ?_
  refine wpList_nil ?_
  refine x_tn ?_
  refine k_reb [(2, .bool false), (3, .slice a1 A.length c1), (4, .slice a2 B.length c2), (6, .slice a5 X1.length c5), (7, .int .i64 0)] ⟨rfl, rfl, rfl, rfl, rfl, trivial⟩ fun G3 => ?_
  refine wp_seq ?_
  refine k_reg ?_
  refine s_val hS6 rfl rfl (r_move rfl (.t rfl rfl)) ?_
  refine s_call rfl rfl rfl (vs := [.slice a1 A.length c1]) ⟨(.t rfl rfl), trivial⟩ cb30 (Text_ok w4 a1 c1 A hR8 hNA) ?_
  intro v4 w5 hp6
  obtain ⟨hp6, hB2⟩ := hp6
  have hS7 := hS6.keep hB2
  replace hB2 := hB2.toBelow
  have hR11 := hR8.below hB2 (Nat.le_refl _)
  have hR12 := hR9.below hB2 (Nat.le_refl _)
  have hR13 := hR7.below hB2 (Nat.le_refl _)
  have hW13 := hW9.later hB2
  have hW14 := hW10.later hB2
  have hW15 := hW11.later hB2
  have hW16 := hW12.later hB2
  have hW17 := hW8.later hB2
  obtain rfl := hp6
  refine s_call rfl rfl rfl (vs := [.string (decB (lv A))]) ⟨(.t rfl rfl), trivial⟩ cb25 (OfText_ok w5 (decB (lv A)) (by rw [decB_size]; have := dl_short hTA; omega)) ?_
  rintro v5 w6 (⟨hk1, _, _⟩ | ⟨_, hk2, _, _⟩ | ⟨_, _, hk3⟩)
  · exact absurd (dec_ok _) hk1
  · exfalso; rw [decB_size] at hk2; have := dl_short hTA; omega
  obtain ⟨_, Y1, _, rfl, hp7, hNY1, hlY1⟩ := hk3.fits (by rw [dv_dec]; exact hTA)
  obtain ⟨a6, c6, rfl, hR14, -, hT6⟩ := id hp7
  have hW18 := Ow.from_ hS7 hp7
  have hS8 := hS7.keep hT6
  have hR15 := hR11.below hT6.toBelow (Nat.le_refl _)
  have hR16 := hR12.below hT6.toBelow (Nat.le_refl _)
  have hR17 := hR13.below hT6.toBelow (Nat.le_refl _)
  have hW19 := hW13.later hT6.toBelow
  have hW20 := hW14.later hT6.toBelow
  have hW21 := hW15.later hT6.toBelow
  have hW22 := hW16.later hT6.toBelow
  have hW23 := hW17.later hT6.toBelow
  have hA6 := hp7.apart hS7 (m := 0) rfl
  have hnY1 := hNY1.len
  refine s_val hS8 rfl rfl (r_move rfl (.t rfl rfl)) ?_
  refine s_val hS8 rfl rfl (r_extract rfl (.t rfl rfl) rfl) ?_
  refine s_val hS8 rfl rfl (r_extract rfl (.t rfl rfl) rfl) ?_
  refine s_val hS8 rfl rfl (r_assign rfl (.t rfl rfl)) ?_
  refine s_val hS8 rfl rfl (r_assign rfl (.t rfl rfl)) ?_
  refine wpList_nil ?_
  refine x_tn ?_
  refine k_reb [(2, .bool false), (3, .slice a1 A.length c1), (4, .slice a2 B.length c2), (6, .slice a5 X1.length c5), (7, .int .i64 0), (8, .slice a6 Y1.length c6), (9, .int .i64 0)] ⟨rfl, rfl, rfl, rfl, rfl, rfl, rfl, trivial⟩ fun G4 => ?_
  refine wp_seq ?_
  refine wp_seq ?_
  refine k_reg ?_
  refine s_val hS8 rfl rfl (r_move rfl (.t rfl rfl)) ?_
  refine s_call rfl rfl rfl (vs := [.int .i64 0]) ⟨(.t rfl rfl), trivial⟩ cb13 (num_ok w6 0) ?_
  rintro _ w6 ⟨rfl, rfl⟩
  refine s_val hS8 rfl rfl (r_cmp_f rfl rfl (.t rfl rfl) .c (show ¬ (¬ 0 = 0) from by omega)) ?_
  refine s_val hS8 rfl rfl (r_move rfl (.t rfl rfl)) ?_
  refine s_valg hS8 (wanted_of (j := 3) (b := false) (d := 38) rfl rfl rfl rfl) rfl (r_move rfl (.t rfl rfl)) ?_
  refine s_callg (wanted_of (j := 3) (b := false) (d := 38) rfl rfl rfl rfl) rfl rfl (vs := [.int .i64 0]) ⟨(.t rfl rfl), trivial⟩ cb13 (num_ok w6 0) ?_
  rintro _ w6 ⟨rfl, rfl⟩
  refine s_valg hS8 (wanted_of (j := 3) (b := false) (d := 38) rfl rfl rfl rfl) rfl (r_cmp_f rfl rfl (.t rfl rfl) .c (show ¬ (¬ 0 = 0) from by omega)) ?_
  refine s_val hS8 rfl rfl (r_pick rfl (.t rfl rfl) (.t rfl rfl)) ?_
  refine s_val hS8 rfl rfl (r_move rfl (.t rfl rfl)) ?_
  refine s_valg hS8 (wanted_of (j := 8) (b := false) (d := 43) rfl rfl rfl rfl) rfl (r_move rfl (.t rfl rfl)) ?_
  refine s_valg hS8 (wanted_of (j := 8) (b := false) (d := 43) rfl rfl rfl rfl) rfl (r_move rfl (.t rfl rfl)) ?_
  refine s_callg (wanted_of (j := 8) (b := false) (d := 43) rfl rfl rfl rfl) rfl rfl (vs := [.slice a5 X1.length c5, .slice a1 A.length c1]) ⟨(.t rfl rfl), (.t rfl rfl), trivial⟩ cb14 (eq_ok w6 a5 c5 X1 hR17 a1 c1 A hR15 hNX1 hNA) ?_
  rintro _ w7 ⟨⟨hc1, rfl⟩ | ⟨hc1, rfl⟩, hB3⟩
  rotate_left
  · exact absurd ((by rw [hlX1]; exact bytes_lev hBA)) hc1
  have hS9 := hS8.keep hB3
  replace hB3 := hB3.toBelow
  have hR18 := hR15.below hB3 (Nat.le_refl _)
  have hR19 := hR16.below hB3 (Nat.le_refl _)
  have hR20 := hR17.below hB3 (Nat.le_refl _)
  have hR21 := hR14.below hB3 (Nat.le_refl _)
  have hW24 := hW19.later hB3
  have hW25 := hW20.later hB3
  have hW26 := hW21.later hB3
  have hW27 := hW22.later hB3
  have hW28 := hW23.later hB3
  have hW29 := hW18.later hB3
  refine s_valg hS9 (wanted_of (j := 8) (b := false) (d := 43) rfl rfl rfl rfl) rfl (r_lnot rfl (.t rfl rfl)) ?_
  refine s_val hS9 rfl rfl (r_pick rfl (.t rfl rfl) (.t rfl rfl)) ?_
  refine s_val hS9 rfl rfl (r_move rfl (.t rfl rfl)) ?_
  refine s_valg hS9 (wanted_of (j := 14) (b := false) (d := 49) rfl rfl rfl rfl) rfl (r_move rfl (.t rfl rfl)) ?_
  refine s_valg hS9 (wanted_of (j := 14) (b := false) (d := 49) rfl rfl rfl rfl) rfl (r_move rfl (.t rfl rfl)) ?_
  refine s_callg (wanted_of (j := 14) (b := false) (d := 49) rfl rfl rfl rfl) rfl rfl (vs := [.slice a6 Y1.length c6, .slice a1 A.length c1]) ⟨(.t rfl rfl), (.t rfl rfl), trivial⟩ cb14 (eq_ok w7 a6 c6 Y1 hR21 a1 c1 A hR18 hNY1 hNA) ?_
  rintro _ w8 ⟨⟨hc2, rfl⟩ | ⟨hc2, rfl⟩, hB4⟩
  rotate_left
  · exact absurd ((by rw [hlY1]; exact dv_dec _)) hc2
  have hS10 := hS9.keep hB4
  replace hB4 := hB4.toBelow
  have hR22 := hR18.below hB4 (Nat.le_refl _)
  have hR23 := hR19.below hB4 (Nat.le_refl _)
  have hR24 := hR20.below hB4 (Nat.le_refl _)
  have hR25 := hR21.below hB4 (Nat.le_refl _)
  have hW30 := hW24.later hB4
  have hW31 := hW25.later hB4
  have hW32 := hW26.later hB4
  have hW33 := hW27.later hB4
  have hW34 := hW28.later hB4
  have hW35 := hW29.later hB4
  refine s_valg hS10 (wanted_of (j := 14) (b := false) (d := 49) rfl rfl rfl rfl) rfl (r_lnot rfl (.t rfl rfl)) ?_
  refine s_val hS10 rfl rfl (r_pick rfl (.t rfl rfl) (.t rfl rfl)) ?_
  refine s_val hS10 rfl rfl (r_move rfl (.t rfl rfl)) ?_
  refine s_valg hS10 (wanted_of (j := 20) (b := false) (d := 55) rfl rfl rfl rfl) rfl (r_move rfl (.t rfl rfl)) ?_
  refine s_callg (wanted_of (j := 20) (b := false) (d := 55) rfl rfl rfl rfl) rfl rfl (vs := [.slice a1 A.length c1]) ⟨(.t rfl rfl), trivial⟩ cb32 (Bytes_ok w8 a1 c1 A hR22 hNA) ?_
  rintro v6 w9 ⟨BB, hp8, hBB⟩
  obtain ⟨a7, c7, rfl, hR26, -, hT7⟩ := id hp8
  have hW36 := Ow.from_ hS10 hp8
  have hS11 := hS10.keep hT7
  have hR27 := hR22.below hT7.toBelow (Nat.le_refl _)
  have hR28 := hR23.below hT7.toBelow (Nat.le_refl _)
  have hR29 := hR24.below hT7.toBelow (Nat.le_refl _)
  have hR30 := hR25.below hT7.toBelow (Nat.le_refl _)
  have hW37 := hW30.later hT7.toBelow
  have hW38 := hW31.later hT7.toBelow
  have hW39 := hW32.later hT7.toBelow
  have hW40 := hW33.later hT7.toBelow
  have hW41 := hW34.later hT7.toBelow
  have hW42 := hW35.later hT7.toBelow
  have hA7 := hp8.apart hS10 (m := 0) rfl
  refine s_valg hS11 (wanted_of (j := 20) (b := false) (d := 55) rfl rfl rfl rfl) rfl (r_len rfl rfl Try.underlying43 (.t rfl rfl)) ?_
  refine s_valg hS11 (wanted_of (j := 20) (b := false) (d := 55) rfl rfl rfl rfl) rfl (r_move rfl (.t rfl rfl)) ?_
  refine s_callg (wanted_of (j := 20) (b := false) (d := 55) rfl rfl rfl rfl) rfl rfl (vs := [.slice a1 A.length c1]) ⟨(.t rfl rfl), trivial⟩ cb33 (Len_ok w9 a1 c1 A hR27 hNA) ?_
  intro v7 w10 hp9
  obtain ⟨hp9, hB5⟩ := hp9
  have hS12 := hS11.keep hB5
  replace hB5 := hB5.toBelow
  have hR31 := hR27.below hB5 (Nat.le_refl _)
  have hR32 := hR28.below hB5 (Nat.le_refl _)
  have hR33 := hR29.below hB5 (Nat.le_refl _)
  have hR34 := hR30.below hB5 (Nat.le_refl _)
  have hR35 := hR26.below hB5 (Nat.le_refl _)
  have hW43 := hW37.later hB5
  have hW44 := hW38.later hB5
  have hW45 := hW39.later hB5
  have hW46 := hW40.later hB5
  have hW47 := hW41.later hB5
  have hW48 := hW42.later hB5
  have hW49 := hW36.later hB5
  obtain rfl := hp9
  refine s_valg hS12 (wanted_of (j := 20) (b := false) (d := 55) rfl rfl rfl rfl) rfl (r_arith rfl rfl (.t rfl rfl) .c (c := (((bl (lv A)) + 7 : Nat) : Int)) (wn_i64 (by show (((bl (lv A) : Nat) : Int) : Int) + 7 = _; omega) (by omega))) ?_
  refine s_valg hS12 (wanted_of (j := 20) (b := false) (d := 55) rfl rfl rfl rfl) rfl (r_quo (b := ((8 : Nat) : Int)) rfl (.t rfl rfl) .c (nz_nat (by omega)) (wn_i64 (c := ((bl (lv A)) + 7) / 8) tdiv_nat (Nat.le_trans (Nat.div_le_self _ _) (by omega)))) ?_
  refine s_valg hS12 (wanted_of (j := 20) (b := false) (d := 55) rfl rfl rfl rfl) rfl (r_cmp_f rfl rfl (.t rfl rfl) (.t rfl rfl) (show ¬ (¬ ((BB.length : Nat) : Int) = ((((bl (lv A)) + 7) / 8 : Nat) : Int)) from (by rw [hBB, List.length_reverse, byts_len]; omega))) ?_
  refine s_val hS12 rfl rfl (r_pick rfl (.t rfl rfl) (.t rfl rfl)) ?_
  refine wpList_nil ?_
  refine x_tn ?_
  refine k_reb [(2, .bool false), (3, .slice a1 A.length c1), (4, .slice a2 B.length c2), (7, .int .i64 0), (64, .bool false)] ⟨rfl, rfl, rfl, rfl, rfl, trivial⟩ fun G5 => ?_
  refine k_f (.t rfl rfl) ?_
  refine wp_skip ?_
  refine x_tn ?_
  refine k_reb [(2, .bool false), (3, .slice a1 A.length c1), (4, .slice a2 B.length c2), (7, .int .i64 0)] ⟨rfl, rfl, rfl, rfl, trivial⟩ fun G6 => ?_
  refine wp_seq ?_
  refine k_reg ?_
  refine s_val hS12 rfl rfl (r_move rfl (.t rfl rfl)) ?_
  refine s_call rfl rfl rfl (vs := [.slice a1 A.length c1]) ⟨(.t rfl rfl), trivial⟩ cb30 (Text_ok w10 a1 c1 A hR31 hNA) ?_
  intro v8 w11 hp10
  obtain ⟨hp10, hB6⟩ := hp10
  have hS13 := hS12.keep hB6
  replace hB6 := hB6.toBelow
  have hR36 := hR31.below hB6 (Nat.le_refl _)
  have hR37 := hR32.below hB6 (Nat.le_refl _)
  have hW50 := hW43.later hB6
  have hW51 := hW44.later hB6
  have hW52 := hW45.later hB6
  have hW53 := hW46.later hB6
  have hW54 := hW47.later hB6
  have hW55 := hW48.later hB6
  have hW56 := hW49.later hB6
  obtain rfl := hp10
  refine s_val hS13 rfl rfl (r_assign rfl (.t rfl rfl)) ?_
  refine wpList_nil ?_
  refine x_tn ?_
  refine k_reb [(2, .bool false), (3, .slice a1 A.length c1), (4, .slice a2 B.length c2), (7, .int .i64 0), (10, .string (decB (lv A)))] ⟨rfl, rfl, rfl, rfl, rfl, trivial⟩ fun G7 => ?_
  refine wp_seq ?_
  refine k_reg ?_
  refine s_val hS13 rfl rfl (r_move rfl (.t rfl rfl)) ?_
  refine s_call rfl rfl rfl (vs := [.slice a2 B.length c2]) ⟨(.t rfl rfl), trivial⟩ cb30 (Text_ok w11 a2 c2 B hR37 hNB) ?_
  intro v9 w12 hp11
  obtain ⟨hp11, hB7⟩ := hp11
  have hS14 := hS13.keep hB7
  replace hB7 := hB7.toBelow
  have hR38 := hR36.below hB7 (Nat.le_refl _)
  have hR39 := hR37.below hB7 (Nat.le_refl _)
  have hW57 := hW50.later hB7
  have hW58 := hW51.later hB7
  have hW59 := hW52.later hB7
  have hW60 := hW53.later hB7
  have hW61 := hW54.later hB7
  have hW62 := hW55.later hB7
  have hW63 := hW56.later hB7
  obtain rfl := hp11
  refine s_val hS14 rfl rfl (r_assign rfl (.t rfl rfl)) ?_
  refine wpList_nil ?_
  refine x_tn ?_
  refine k_reb [(2, .bool false), (3, .slice a1 A.length c1), (4, .slice a2 B.length c2), (7, .int .i64 0), (10, .string (decB (lv A))), (11, .string (decB (lv B)))] ⟨rfl, rfl, rfl, rfl, rfl, rfl, trivial⟩ fun G8 => ?_
  refine wp_seq ?_
  refine k_reg ?_
  refine s_val hS14 rfl rfl (r_assign rfl .c) ?_
  refine wpList_nil ?_
  refine x_tn ?_
  refine wp_seq ?_
  refine wp_seq ?_
  refine k_reg ?_
  refine s_val hS14 rfl rfl (r_move rfl (.t rfl rfl)) ?_
  refine s_val hS14 rfl rfl (r_lens rfl rfl Try.underlying9 (.t rfl rfl)) ?_
  refine s_val hS14 rfl rfl (r_move rfl (.t rfl rfl)) ?_
  refine s_val hS14 rfl rfl (r_lens rfl rfl Try.underlying9 (.t rfl rfl)) ?_
  have hsA : (decB (lv A)).size = (dl (lv A)).length := decB_size _
  have hsB : (decB (lv B)).size = (dl (lv B)).length := decB_size _
  have hsA1 := dl_ne (lv A)
  by_cases c8 : (decB (lv A)).size ≠ (decB (lv B)).size
  · refine s_val hS14 rfl rfl (r_cmp_t rfl rfl (.t rfl rfl) (.t rfl rfl) (show ¬ (((decB (lv A)).size : Nat) : Int) = (((decB (lv B)).size : Nat) : Int) from by omega)) ?_
    refine s_val hS14 rfl rfl (r_move rfl (.t rfl rfl)) ?_
    refine s_valg hS14 (wanted_of (j := 5) (b := true) (d := 74) rfl rfl rfl rfl) rfl (r_move rfl (.t rfl rfl)) ?_
    refine s_valg hS14 (wanted_of (j := 5) (b := true) (d := 74) rfl rfl rfl rfl) rfl (r_lens rfl rfl Try.underlying9 (.t rfl rfl)) ?_
    refine s_valg hS14 (wanted_of (j := 5) (b := true) (d := 74) rfl rfl rfl rfl) rfl (r_move rfl (.t rfl rfl)) ?_
    refine s_valg hS14 (wanted_of (j := 5) (b := true) (d := 74) rfl rfl rfl rfl) rfl (r_lens rfl rfl Try.underlying9 (.t rfl rfl)) ?_
    by_cases c9 : (decB (lv A)).size < (decB (lv B)).size
    · have hlt : lv A < lv B := dl_lt (by omega)
      refine s_valg hS14 (wanted_of (j := 5) (b := true) (d := 74) rfl rfl rfl rfl) rfl (r_cmp_t rfl rfl (.t rfl rfl) (.t rfl rfl) (show (((decB (lv A)).size : Nat) : Int) < (((decB (lv B)).size : Nat) : Int) from by omega)) ?_
      refine s_val hS14 rfl rfl (r_pick rfl (.t rfl rfl) (.t rfl rfl)) ?_
      refine s_val hS14 rfl rfl (r_move rfl (.t rfl rfl)) ?_
      refine s_skip (unwanted_of (j := 12) (b := false) (b' := true) (d := 81) rfl rfl rfl rfl rfl) rfl ?_
      refine s_skip (unwanted_of (j := 12) (b := false) (b' := true) (d := 81) rfl rfl rfl rfl rfl) rfl ?_
      refine s_skip (unwanted_of (j := 12) (b := false) (b' := true) (d := 81) rfl rfl rfl rfl rfl) rfl ?_
      refine s_skip (unwanted_of (j := 12) (b := false) (b' := true) (d := 81) rfl rfl rfl rfl rfl) rfl ?_
      refine s_skip (unwanted_of (j := 12) (b := false) (b' := true) (d := 81) rfl rfl rfl rfl rfl) rfl ?_
      refine s_skip (unwanted_of (j := 12) (b := false) (b' := true) (d := 81) rfl rfl rfl rfl rfl) rfl ?_
      refine s_skip (unwanted_undef (j := 18) (b := true) (d := 87) rfl rfl rfl rfl) rfl ?_
      refine s_skip (unwanted_undef (j := 18) (b := true) (d := 87) rfl rfl rfl rfl) rfl ?_
      refine s_skip (unwanted_undef (j := 18) (b := true) (d := 87) rfl rfl rfl rfl) rfl ?_
      refine s_skip (unwanted_of (j := 12) (b := false) (b' := true) (d := 81) rfl rfl rfl rfl rfl) rfl ?_
      refine s_val hS14 rfl rfl (r_pick rfl (.t rfl rfl) .c) ?_
      refine wpList_nil ?_
      refine x_tn ?_
      refine k_reb [(2, .bool false), (3, .slice a1 A.length c1), (4, .slice a2 B.length c2), (7, .int .i64 0), (10, .string (decB (lv A))), (11, .string (decB (lv B))), (12, .int .i64 0), (92, .bool true)] ⟨rfl, rfl, rfl, rfl, rfl, rfl, rfl, rfl, trivial⟩ fun G9 => ?_
      refine k_t (.t rfl rfl) ?_
      refine k_reg ?_
      refine s_val hS14 rfl rfl (r_assign rfl .c) ?_
      refine wpList_nil ?_
      refine x_tn ?_
      refine k_reb [(2, .bool false), (3, .slice a1 A.length c1), (4, .slice a2 B.length c2), (7, .int .i64 0), (10, .string (decB (lv A))), (12, .int .i64 ((-1)))] ⟨rfl, rfl, rfl, rfl, rfl, rfl, trivial⟩ fun G10 => ?_
      refine wp_seq ?_
      refine k_reg ?_
      refine s_val hS14 rfl rfl (r_move rfl (.t rfl rfl)) ?_
      refine s_call rfl rfl rfl (vs := [.int .u64 10]) ⟨.c, trivial⟩ cb18 (from_ok w12 10 (by omega)) ?_
      intro v10 w13 hp12
      obtain ⟨TEN, hp12, ⟨hNTEN, hlTEN⟩⟩ := hp12
      obtain ⟨a8, c10, rfl, hR40, -, hT8⟩ := id hp12
      have hW64 := Ow.from_ hS14 hp12
      have hS15 := hS14.keep hT8
      have hR41 := hR38.below hT8.toBelow (Nat.le_refl _)
      have hR42 := hR39.below hT8.toBelow (Nat.le_refl _)
      have hW65 := hW57.later hT8.toBelow
      have hW66 := hW58.later hT8.toBelow
      have hW67 := hW59.later hT8.toBelow
      have hW68 := hW60.later hT8.toBelow
      have hW69 := hW61.later hT8.toBelow
      have hW70 := hW62.later hT8.toBelow
      have hW71 := hW63.later hT8.toBelow
      have hA8 := hp12.apart hS14 (m := 0) rfl
      have hnTEN := hNTEN.len
      refine s_call rfl rfl rfl (vs := [.slice a1 A.length c1, .slice a8 TEN.length c10]) ⟨(.t rfl rfl), (.t rfl rfl), trivial⟩ cb17 (DivMod_ok w13 a1 c1 A hR41 a8 c10 TEN hR40 hNA hNTEN (by omega)) ?_
      rintro v11 w14 ⟨Q1, R1, _, _, rfl, hp13, hq1, hNQ1, hNR1, hlQ1, hlR1⟩
      obtain ⟨a9, c11, rfl, hR43, -, hT9⟩ := id hp13
      have hW72 := Ow.from_ hS15 hp13
      have hS16 := hS15.keep hT9
      have hR44 := hR41.below hT9.toBelow (Nat.le_refl _)
      have hR45 := hR42.below hT9.toBelow (Nat.le_refl _)
      have hR46 := hR40.below hT9.toBelow (Nat.le_refl _)
      have hW73 := hW65.later hT9.toBelow
      have hW74 := hW66.later hT9.toBelow
      have hW75 := hW67.later hT9.toBelow
      have hW76 := hW68.later hT9.toBelow
      have hW77 := hW69.later hT9.toBelow
      have hW78 := hW70.later hT9.toBelow
      have hW79 := hW71.later hT9.toBelow
      have hW80 := hW64.later hT9.toBelow
      have hA9 := hp13.apart hS15 (m := 0) rfl
      obtain ⟨a10, c12, rfl, hR47, -, hT10⟩ := id hq1
      have hW81 := Ow.from_ hS15 hq1
      have hA10 := hq1.apart hS15 (m := 0) rfl
      have hnQ1 := hNQ1.len
      have hnR1 := hNR1.len
      have hq : lv Q1 = lv A / 10 := by rw [hlQ1, hlTEN]
      have hr : lv R1 = lv A % 10 := by rw [hlR1, hlTEN]
      refine s_val hS16 rfl rfl (r_move rfl (.t rfl rfl)) ?_
      refine s_val hS16 rfl rfl (r_extract rfl (.t rfl rfl) rfl) ?_
      refine s_val hS16 rfl rfl (r_extract rfl (.t rfl rfl) rfl) ?_
      refine s_val hS16 rfl rfl (r_extract rfl (.t rfl rfl) rfl) ?_
      refine s_val hS16 rfl rfl (r_assign rfl (.t rfl rfl)) ?_
      refine s_val hS16 rfl rfl (r_assign rfl (.t rfl rfl)) ?_
      refine s_val hS16 rfl rfl (r_assign rfl (.t rfl rfl)) ?_
      refine wpList_nil ?_
      refine x_tn ?_
      refine k_reb [(2, .bool false), (3, .slice a1 A.length c1), (4, .slice a2 B.length c2), (7, .int .i64 0), (10, .string (decB (lv A))), (12, .int .i64 ((-1))), (13, .slice a9 Q1.length c11), (14, .slice a10 R1.length c12)] ⟨rfl, rfl, rfl, rfl, rfl, rfl, rfl, rfl, trivial⟩ fun G11 => ?_
      refine wp_seq ?_
      refine k_reg ?_
      refine s_val hS16 rfl rfl (r_move rfl (.t rfl rfl)) ?_
      refine s_call rfl rfl rfl (vs := [.slice a10 R1.length c12]) ⟨(.t rfl rfl), trivial⟩ cb34 (Small_ok w14 a10 c12 R1 hR47 hNR1 (by have := len_of_lt (k := 1) hNR1.nz (by rw [hr]; have := Nat.mod_lt (lv A) (show 0 < 10 by omega); show _ < 4294967296 ^ 1; omega); omega)) ?_
      intro v12 w15 hp14
      obtain ⟨hp14, hB8⟩ := hp14
      have hS18 := hS16.keep hB8
      replace hB8 := hB8.toBelow
      have hR48 := hR44.below hB8 (Nat.le_refl _)
      have hR49 := hR45.below hB8 (Nat.le_refl _)
      have hR50 := hR43.below hB8 (Nat.le_refl _)
      have hR51 := hR47.below hB8 (Nat.le_refl _)
      have hW82 := hW73.later hB8
      have hW83 := hW74.later hB8
      have hW84 := hW75.later hB8
      have hW85 := hW76.later hB8
      have hW86 := hW77.later hB8
      have hW87 := hW78.later hB8
      have hW88 := hW79.later hB8
      have hW89 := hW80.later hB8
      have hW90 := hW72.later hB8
      have hW91 := hW81.later hB8
      obtain rfl := hp14
      refine s_val hS18 rfl rfl (r_move rfl (.t rfl rfl)) ?_
      refine s_val hS18 rfl rfl (r_extract rfl (.t rfl rfl) rfl) ?_
      refine s_val hS18 rfl rfl (r_extract rfl (.t rfl rfl) rfl) ?_
      refine s_val hS18 rfl rfl (r_assign rfl (.t rfl rfl)) ?_
      refine s_val hS18 rfl rfl (r_assign rfl (.t rfl rfl)) ?_
      refine wpList_nil ?_
      refine x_tn ?_
      refine k_reb [(2, .bool false), (3, .slice a1 A.length c1), (4, .slice a2 B.length c2), (7, .int .i64 0), (10, .string (decB (lv A))), (12, .int .i64 ((-1))), (13, .slice a9 Q1.length c11), (15, .int .u64 (((lv R1 : Nat) : Int))), (16, .bool true)] ⟨rfl, rfl, rfl, rfl, rfl, rfl, rfl, rfl, rfl, trivial⟩ fun G12 => ?_
      refine wp_seq ?_
      refine wp_seq ?_
      refine k_reg ?_
      refine s_val hS18 rfl rfl (r_move rfl (.t rfl rfl)) ?_
      refine s_call rfl rfl rfl (vs := [.int .i64 0]) ⟨(.t rfl rfl), trivial⟩ cb13 (num_ok w15 0) ?_
      rintro _ w15 ⟨rfl, rfl⟩
      refine s_val hS18 rfl rfl (r_cmp_f rfl rfl (.t rfl rfl) .c (show ¬ (¬ 0 = 0) from by omega)) ?_
      refine s_val hS18 rfl rfl (r_move rfl (.t rfl rfl)) ?_
      refine s_valg hS18 (wanted_of (j := 3) (b := false) (d := 111) rfl rfl rfl rfl) rfl (r_move rfl (.t rfl rfl)) ?_
      refine s_valg hS18 (wanted_of (j := 3) (b := false) (d := 111) rfl rfl rfl rfl) rfl (r_move rfl (.t rfl rfl)) ?_
      refine s_valg hS18 (wanted_of (j := 3) (b := false) (d := 111) rfl rfl rfl rfl) rfl (r_move rfl (.t rfl rfl)) ?_
      refine s_callg (wanted_of (j := 3) (b := false) (d := 111) rfl rfl rfl rfl) rfl rfl (vs := [.slice a1 A.length c1, .slice a2 B.length c2]) ⟨(.t rfl rfl), (.t rfl rfl), trivial⟩ cb28 (Cmp_ok w15 a1 c1 A hR48 a2 c2 B hR49 hNA hNB) ?_
      rintro _ w16 ⟨hp15, hB9⟩
      have hS19 := hS18.keep hB9
      replace hB9 := hB9.toBelow
      have hR52 := hR48.below hB9 (Nat.le_refl _)
      have hR53 := hR49.below hB9 (Nat.le_refl _)
      have hR54 := hR50.below hB9 (Nat.le_refl _)
      have hW92 := hW82.later hB9
      have hW93 := hW83.later hB9
      have hW94 := hW84.later hB9
      have hW95 := hW85.later hB9
      have hW96 := hW86.later hB9
      have hW97 := hW87.later hB9
      have hW98 := hW88.later hB9
      have hW99 := hW89.later hB9
      have hW100 := hW90.later hB9
      have hW101 := hW91.later hB9
      rcases hp15 with ⟨hc3, rfl⟩ | ⟨hc3, rfl⟩ | ⟨hc3, rfl⟩
      · refine s_valg hS19 (wanted_of (j := 3) (b := false) (d := 111) rfl rfl rfl rfl) rfl (r_cmp_f rfl rfl (.t rfl rfl) (.t rfl rfl) (show ¬ (¬ (-1) = (-1)) from by omega)) ?_
        refine s_val hS19 rfl rfl (r_pick rfl (.t rfl rfl) (.t rfl rfl)) ?_
        refine s_val hS19 rfl rfl (r_move rfl (.t rfl rfl)) ?_
        refine s_valg hS19 (wanted_of (j := 10) (b := false) (d := 118) rfl rfl rfl rfl) rfl (r_move rfl (.t rfl rfl)) ?_
        refine s_valg hS19 (wanted_of (j := 10) (b := false) (d := 118) rfl rfl rfl rfl) rfl (r_lnot rfl (.t rfl rfl)) ?_
        refine s_val hS19 rfl rfl (r_pick rfl (.t rfl rfl) (.t rfl rfl)) ?_
        refine s_val hS19 rfl rfl (r_move rfl (.t rfl rfl)) ?_
        refine s_valg hS19 (wanted_of (j := 14) (b := false) (d := 122) rfl rfl rfl rfl) rfl (r_move rfl (.t rfl rfl)) ?_
        refine s_valg hS19 (wanted_of (j := 14) (b := false) (d := 122) rfl rfl rfl rfl) rfl (r_cmp_f rfl rfl (.t rfl rfl) .c (show ¬ (((lv R1 : Nat) : Int) > 9) from (by omega))) ?_
        refine s_val hS19 rfl rfl (r_pick rfl (.t rfl rfl) (.t rfl rfl)) ?_
        refine s_val hS19 rfl rfl (r_move rfl (.t rfl rfl)) ?_
        refine s_valg hS19 (wanted_of (j := 18) (b := false) (d := 126) rfl rfl rfl rfl) rfl (r_move rfl (.t rfl rfl)) ?_
        refine s_valg hS19 (wanted_of (j := 18) (b := false) (d := 126) rfl rfl rfl rfl) rfl (r_move rfl (.t rfl rfl)) ?_
        refine s_valg hS19 (wanted_of (j := 18) (b := false) (d := 126) rfl rfl rfl rfl) rfl (r_lens rfl rfl Try.underlying9 (.t rfl rfl)) ?_
        refine s_valg hS19 (wanted_of (j := 18) (b := false) (d := 126) rfl rfl rfl rfl) rfl (r_arith rfl rfl (.t rfl rfl) .c (c := ((((decB (lv A)).size) - 1 : Nat) : Int)) (wn_i64 (by show ((((decB (lv A)).size : Nat) : Int) : Int) - 1 = _; omega) (by omega))) ?_
        refine s_valg hS19 (wanted_of (j := 18) (b := false) (d := 126) rfl rfl rfl rfl) rfl (r_idxs (j := ((decB (lv A)).size) - 1) (c := ((decB (lv A)).data.toList.getD (((decB (lv A)).size) - 1) 0).toNat) rfl Try.underlying9 (.t rfl rfl) (.t rfl rfl) rfl (byte_at (by omega)) (byte_lt _)) ?_
        refine s_valg hS19 (wanted_of (j := 18) (b := false) (d := 126) rfl rfl rfl rfl) rfl (r_move rfl (.t rfl rfl)) ?_
        refine s_valg hS19 (wanted_of (j := 18) (b := false) (d := 126) rfl rfl rfl rfl) rfl (r_arith rfl rfl .c (.t rfl rfl) (c := ((48 + (lv R1) : Nat) : Int)) (wn_u64 (by show (48 : Int) + ((lv R1 : Nat) : Int) = _; omega) (by omega))) ?_
        refine s_valg hS19 (wanted_of (j := 18) (b := false) (d := 126) rfl rfl rfl rfl) rfl (r_conv rfl Try.underlying40 Try.underlying5 (.t rfl rfl) (c := ((48 + (lv R1) : Nat) : Int)) (wn_u8 rfl (by omega))) ?_
        refine s_valg hS19 (wanted_of (j := 18) (b := false) (d := 126) rfl rfl rfl rfl) rfl (r_cmp_f rfl rfl (.t rfl rfl) (.t rfl rfl) (show ¬ (¬ ((((decB (lv A)).data.toList.getD (((decB (lv A)).size) - 1) 0).toNat : Nat) : Int) = ((48 + (lv R1) : Nat) : Int)) from (by rw [decB_last, hr]; omega))) ?_
        refine s_val hS19 rfl rfl (r_pick rfl (.t rfl rfl) (.t rfl rfl)) ?_
        refine wpList_nil ?_
        refine x_tn ?_
        refine k_reb [(2, .bool false), (10, .string (decB (lv A))), (13, .slice a9 Q1.length c11), (136, .bool false)] ⟨rfl, rfl, rfl, rfl, trivial⟩ fun G13 => ?_
        refine k_f (.t rfl rfl) ?_
        refine wp_skip ?_
        refine x_tn ?_
        refine k_reb [(2, .bool false), (10, .string (decB (lv A))), (13, .slice a9 Q1.length c11)] ⟨rfl, rfl, rfl, trivial⟩ fun G14 => ?_
        refine wp_seq ?_
        refine a_start mixed hS19 (L := [false, false, false, false, false, false, false, false, false, false, false, false, false, false, false, false, false, false, false, false, false, false]) rfl fun w17 hS20 hB10 => ?_
        have hR55 := hR54.below hB10 (Nat.le_refl _)
        have hW102 := hW92.later hB10
        have hW103 := hW93.later hB10
        have hW104 := hW94.later hB10
        have hW105 := hW95.later hB10
        have hW106 := hW96.later hB10
        have hW107 := hW97.later hB10
        have hW108 := hW98.later hB10
        have hW109 := hW99.later hB10
        have hW110 := hW100.later hB10
        have hW111 := hW101.later hB10
        refine a_take (i := 0) (NoP.then NoP.body) rfl rfl rfl (by kernel_rfl) (L' := [true, false, false, false, false, false, false, false, false, false, false, false, false, false, false, false, false, false, false, false, false, false]) rfl (r_move rfl (.t rfl rfl)) ?_
        refine a_take (i := 1) (NoP.then NoP.body) rfl rfl rfl (by kernel_rfl) (L' := [true, true, false, false, false, false, false, false, false, false, false, false, false, false, false, false, false, false, false, false, false, false]) rfl (r_len rfl rfl Try.underlying27 (.t rfl rfl)) ?_
        by_cases c13 : Q1.length = 0
        · have hq0 : lv Q1 = 0 := by rw [List.eq_nil_of_length_eq_zero (by omega : Q1.length = 0)]; rfl
          have hsm : lv A < 10 := by rw [hq] at hq0; omega
          refine a_take (i := 2) (NoP.then NoP.body) rfl rfl rfl (by kernel_rfl) (L' := [true, true, true, false, false, false, false, false, false, false, false, false, false, false, false, false, false, false, false, false, false, false]) rfl (r_cmp_t rfl rfl (.t rfl rfl) .c (show ((Q1.length : Nat) : Int) = 0 from by omega)) ?_
          refine a_take (i := 3) (NoP.then NoP.body) rfl rfl rfl (by kernel_rfl) (L' := [true, true, true, true, false, false, false, false, false, false, false, false, false, false, false, false, false, false, false, false, false, false]) rfl (r_move rfl (.t rfl rfl)) ?_
          refine a_takeg (i := 4) (NoP.then NoP.body) rfl (wanted_of (j := 3) (b := true) (d := 140) rfl rfl rfl rfl) rfl (by kernel_rfl) (L' := [true, true, true, true, true, false, false, false, false, false, false, false, false, false, false, false, false, false, false, false, false, false]) rfl (r_move rfl (.t rfl rfl)) ?_
          refine a_takeg (i := 5) (NoP.then NoP.body) rfl (wanted_of (j := 3) (b := true) (d := 140) rfl rfl rfl rfl) rfl (by kernel_rfl) (L' := [true, true, true, true, true, true, false, false, false, false, false, false, false, false, false, false, false, false, false, false, false, false]) rfl (r_lens rfl rfl Try.underlying9 (.t rfl rfl)) ?_
          refine a_takeg (i := 6) (NoP.then NoP.body) rfl (wanted_of (j := 3) (b := true) (d := 140) rfl rfl rfl rfl) rfl (by kernel_rfl) (L' := [true, true, true, true, true, true, true, false, false, false, false, false, false, false, false, false, false, false, false, false, false, false]) rfl (r_cmp_t rfl rfl (.t rfl rfl) .c (show (((decB (lv A)).size : Nat) : Int) = 1 from (by rw [decB_size, dl_small hsm]; simp))) ?_
          refine a_take (i := 7) (NoP.then NoP.body) rfl rfl rfl (by kernel_rfl) (L' := [true, true, true, true, true, true, true, true, false, false, false, false, false, false, false, false, false, false, false, false, false, false]) rfl (r_pick rfl (.t rfl rfl) (.t rfl rfl)) ?_
          refine a_take (i := 8) (NoP.then NoP.body) rfl rfl rfl (by kernel_rfl) (L' := [true, true, true, true, true, true, true, true, true, false, false, false, false, false, false, false, false, false, false, false, false, false]) rfl (r_move rfl (.t rfl rfl)) ?_
          refine a_skip (i := 9) (NoP.then NoP.body) rfl (unwanted_of (j := 8) (b := false) (b' := true) (d := 145) rfl rfl rfl rfl rfl) rfl (by kernel_rfl) (L' := [true, true, true, true, true, true, true, true, true, true, false, false, false, false, false, false, false, false, false, false, false, false]) rfl ?_
          refine a_skip (i := 10) (NoP.then NoP.body) rfl (unwanted_of (j := 8) (b := false) (b' := true) (d := 145) rfl rfl rfl rfl rfl) rfl (by kernel_rfl) (L' := [true, true, true, true, true, true, true, true, true, true, true, false, false, false, false, false, false, false, false, false, false, false]) rfl ?_
          refine a_skip (i := 11) (NoP.then NoP.body) rfl (unwanted_of (j := 8) (b := false) (b' := true) (d := 145) rfl rfl rfl rfl rfl) rfl (by kernel_rfl) (L' := [true, true, true, true, true, true, true, true, true, true, true, true, false, false, false, false, false, false, false, false, false, false]) rfl ?_
          refine a_skip (i := 12) (NoP.then NoP.body) rfl (unwanted_of (j := 8) (b := false) (b' := true) (d := 145) rfl rfl rfl rfl rfl) rfl (by kernel_rfl) (L' := [true, true, true, true, true, true, true, true, true, true, true, true, true, false, false, false, false, false, false, false, false, false]) rfl ?_
          refine a_skip (i := 13) (NoP.then NoP.body) rfl (unwanted_of (j := 8) (b := false) (b' := true) (d := 145) rfl rfl rfl rfl rfl) rfl (by kernel_rfl) (L' := [true, true, true, true, true, true, true, true, true, true, true, true, true, true, false, false, false, false, false, false, false, false]) rfl ?_
          refine a_skip (i := 14) (NoP.then NoP.body) rfl (unwanted_of (j := 8) (b := false) (b' := true) (d := 145) rfl rfl rfl rfl rfl) rfl (by kernel_rfl) (L' := [true, true, true, true, true, true, true, true, true, true, true, true, true, true, true, false, false, false, false, false, false, false]) rfl ?_
          refine a_skip (i := 15) (NoP.then NoP.body) rfl (unwanted_of (j := 8) (b := false) (b' := true) (d := 145) rfl rfl rfl rfl rfl) rfl (by kernel_rfl) (L' := [true, true, true, true, true, true, true, true, true, true, true, true, true, true, true, true, false, false, false, false, false, false]) rfl ?_
          refine a_skip (i := 16) (NoP.then NoP.body) rfl (unwanted_of (j := 8) (b := false) (b' := true) (d := 145) rfl rfl rfl rfl rfl) rfl (by kernel_rfl) (L' := [true, true, true, true, true, true, true, true, true, true, true, true, true, true, true, true, true, false, false, false, false, false]) rfl ?_
          refine a_take (i := 17) (NoP.then NoP.body) rfl rfl rfl (by kernel_rfl) (L' := [true, true, true, true, true, true, true, true, true, true, true, true, true, true, true, true, true, true, false, false, false, false]) rfl (r_pick rfl (.t rfl rfl) .c) ?_
          refine a_take (i := 18) (NoP.then NoP.body) rfl rfl rfl (by kernel_rfl) (L' := [true, true, true, true, true, true, true, true, true, true, true, true, true, true, true, true, true, true, true, false, false, false]) rfl (r_move rfl (.t rfl rfl)) ?_
          refine a_oneg (i := 19) (by kernel_rfl) rfl (wanted_of (j := 18) (b := true) (d := 155) rfl rfl rfl rfl) (L' := [true, true, true, true, true, true, true, true, true, true, true, true, true, true, true, true, true, true, true, true, false, false]) rfl ?_
          refine s_callg (wanted_of (j := 18) (b := true) (d := 155) rfl rfl rfl rfl) rfl rfl (vs := []) trivial cb16 (wakes_ok w17 ) ?_
          intro v13 w18 hp16
          obtain ⟨hp16, hB11⟩ := hp16
          have hS21 := hS20.keep hB11
          replace hB11 := hB11.toBelow
          have hR56 := hR55.below hB11 (Nat.le_refl _)
          have hW112 := hW102.later hB11
          have hW113 := hW103.later hB11
          have hW114 := hW104.later hB11
          have hW115 := hW105.later hB11
          have hW116 := hW106.later hB11
          have hW117 := hW107.later hB11
          have hW118 := hW108.later hB11
          have hW119 := hW109.later hB11
          have hW120 := hW110.later hB11
          have hW121 := hW111.later hB11
          obtain rfl := hp16
          refine wpList_nil ?_
          refine x_tn ?_
          refine a_take (i := 20) (NoP.then NoP.body) rfl rfl rfl (by kernel_rfl) (L' := [true, true, true, true, true, true, true, true, true, true, true, true, true, true, true, true, true, true, true, true, true, false]) rfl (r_pick rfl (.t rfl rfl) (.t rfl rfl)) ?_
          refine a_take (i := 21) (NoP.then NoP.body) rfl rfl rfl (by kernel_rfl) (L' := [true, true, true, true, true, true, true, true, true, true, true, true, true, true, true, true, true, true, true, true, true, true]) rfl (r_assign rfl (.t rfl rfl)) ?_
          refine a_done (by kernel_rfl) ?_
          refine x_tn ?_
          refine k_reb [(2, .bool true)] ⟨rfl, trivial⟩ fun G15 => ?_
          refine wp_ret ?_
          refine k_ret1 Try.results9 rfl rfl ?_
          refine ⟨_, rfl, ?_⟩
          exact ⟨rfl, hS21.none⟩
        · have hq0 := lv_pos hNQ1.nz (by omega)
          have h10 : 10 ≤ lv A := by rw [hq] at hq0; omega
          refine a_take (i := 2) (NoP.then NoP.body) rfl rfl rfl (by kernel_rfl) (L' := [true, true, true, false, false, false, false, false, false, false, false, false, false, false, false, false, false, false, false, false, false, false]) rfl (r_cmp_f rfl rfl (.t rfl rfl) .c (show ¬ (((Q1.length : Nat) : Int) = 0) from by omega)) ?_
          refine a_take (i := 3) (NoP.then NoP.body) rfl rfl rfl (by kernel_rfl) (L' := [true, true, true, true, false, false, false, false, false, false, false, false, false, false, false, false, false, false, false, false, false, false]) rfl (r_move rfl (.t rfl rfl)) ?_
          refine a_skip (i := 4) (NoP.then NoP.body) rfl (unwanted_of (j := 3) (b := true) (b' := false) (d := 140) rfl rfl rfl rfl rfl) rfl (by kernel_rfl) (L' := [true, true, true, true, true, false, false, false, false, false, false, false, false, false, false, false, false, false, false, false, false, false]) rfl ?_
          refine a_skip (i := 5) (NoP.then NoP.body) rfl (unwanted_of (j := 3) (b := true) (b' := false) (d := 140) rfl rfl rfl rfl rfl) rfl (by kernel_rfl) (L' := [true, true, true, true, true, true, false, false, false, false, false, false, false, false, false, false, false, false, false, false, false, false]) rfl ?_
          refine a_skip (i := 6) (NoP.then NoP.body) rfl (unwanted_of (j := 3) (b := true) (b' := false) (d := 140) rfl rfl rfl rfl rfl) rfl (by kernel_rfl) (L' := [true, true, true, true, true, true, true, false, false, false, false, false, false, false, false, false, false, false, false, false, false, false]) rfl ?_
          refine a_take (i := 7) (NoP.then NoP.body) rfl rfl rfl (by kernel_rfl) (L' := [true, true, true, true, true, true, true, true, false, false, false, false, false, false, false, false, false, false, false, false, false, false]) rfl (r_pick rfl (.t rfl rfl) .c) ?_
          refine a_take (i := 8) (NoP.then NoP.body) rfl rfl rfl (by kernel_rfl) (L' := [true, true, true, true, true, true, true, true, true, false, false, false, false, false, false, false, false, false, false, false, false, false]) rfl (r_move rfl (.t rfl rfl)) ?_
          refine a_takeg (i := 9) (NoP.then NoP.body) rfl (wanted_of (j := 8) (b := false) (d := 145) rfl rfl rfl rfl) rfl (by kernel_rfl) (L' := [true, true, true, true, true, true, true, true, true, true, false, false, false, false, false, false, false, false, false, false, false, false]) rfl (r_move rfl (.t rfl rfl)) ?_
          refine a_takeg (i := 11) (NoP.then NoP.body) rfl (wanted_of (j := 8) (b := false) (d := 145) rfl rfl rfl rfl) rfl (by kernel_rfl) (L' := [true, true, true, true, true, true, true, true, true, true, false, true, false, false, false, false, false, false, false, false, false, false]) rfl (r_move rfl (.t rfl rfl)) ?_
          refine a_takeg (i := 12) (NoP.then NoP.body) rfl (wanted_of (j := 8) (b := false) (d := 145) rfl rfl rfl rfl) rfl (by kernel_rfl) (L' := [true, true, true, true, true, true, true, true, true, true, false, true, true, false, false, false, false, false, false, false, false, false]) rfl (r_move rfl (.t rfl rfl)) ?_
          refine a_takeg (i := 13) (NoP.then NoP.body) rfl (wanted_of (j := 8) (b := false) (d := 145) rfl rfl rfl rfl) rfl (by kernel_rfl) (L' := [true, true, true, true, true, true, true, true, true, true, false, true, true, true, false, false, false, false, false, false, false, false]) rfl (r_lens rfl rfl Try.underlying9 (.t rfl rfl)) ?_
          refine a_takeg (i := 14) (NoP.then NoP.body) rfl (wanted_of (j := 8) (b := false) (d := 145) rfl rfl rfl rfl) rfl (by kernel_rfl) (L' := [true, true, true, true, true, true, true, true, true, true, false, true, true, true, true, false, false, false, false, false, false, false]) rfl (r_arith rfl rfl (.t rfl rfl) .c (c := ((((decB (lv A)).size) - 1 : Nat) : Int)) (wn_i64 (by show ((((decB (lv A)).size : Nat) : Int) : Int) - 1 = _; omega) (by omega))) ?_
          refine a_takeg (i := 15) (NoP.then NoP.body) rfl (wanted_of (j := 8) (b := false) (d := 145) rfl rfl rfl rfl) rfl (by kernel_rfl) (L' := [true, true, true, true, true, true, true, true, true, true, false, true, true, true, true, true, false, false, false, false, false, false]) rfl (r_cutstr (hh := ((decB (lv A)).size) - 1) rfl Try.underlying9 (.t rfl rfl) (.s (.t rfl rfl)) (by omega) (decB_front h10)) ?_
          refine a_oneg (i := 10) (by kernel_rfl) rfl (wanted_of (j := 8) (b := false) (d := 145) rfl rfl rfl rfl) (L' := [true, true, true, true, true, true, true, true, true, true, true, true, true, true, true, true, false, false, false, false, false, false]) rfl ?_
          refine s_callg (wanted_of (j := 8) (b := false) (d := 145) rfl rfl rfl rfl) rfl rfl (vs := [.slice a9 Q1.length c11]) ⟨(.t rfl rfl), trivial⟩ cb30 (Text_ok w17 a9 c11 Q1 hR55 hNQ1) ?_
          intro v14 w19 hp17
          obtain ⟨hp17, hB12⟩ := hp17
          have hS22 := hS20.keep hB12
          replace hB12 := hB12.toBelow
          have hR57 := hR55.below hB12 (Nat.le_refl _)
          have hW122 := hW102.later hB12
          have hW123 := hW103.later hB12
          have hW124 := hW104.later hB12
          have hW125 := hW105.later hB12
          have hW126 := hW106.later hB12
          have hW127 := hW107.later hB12
          have hW128 := hW108.later hB12
          have hW129 := hW109.later hB12
          have hW130 := hW110.later hB12
          have hW131 := hW111.later hB12
          obtain rfl := hp17
          refine wpList_nil ?_
          refine x_tn ?_
          refine a_takeg (i := 16) (NoP.then NoP.body) rfl (wanted_of (j := 8) (b := false) (d := 145) rfl rfl rfl rfl) rfl (by kernel_rfl) (L' := [true, true, true, true, true, true, true, true, true, true, true, true, true, true, true, true, true, false, false, false, false, false]) rfl (r_eqstr rfl (.t rfl rfl) (.t rfl rfl) (r := true) (str_same (by rw [hq]))) ?_
          refine a_take (i := 17) (NoP.then NoP.body) rfl rfl rfl (by kernel_rfl) (L' := [true, true, true, true, true, true, true, true, true, true, true, true, true, true, true, true, true, true, false, false, false, false]) rfl (r_pick rfl (.t rfl rfl) (.t rfl rfl)) ?_
          refine a_take (i := 18) (NoP.then NoP.body) rfl rfl rfl (by kernel_rfl) (L' := [true, true, true, true, true, true, true, true, true, true, true, true, true, true, true, true, true, true, true, false, false, false]) rfl (r_move rfl (.t rfl rfl)) ?_
          refine a_oneg (i := 19) (by kernel_rfl) rfl (wanted_of (j := 18) (b := true) (d := 155) rfl rfl rfl rfl) (L' := [true, true, true, true, true, true, true, true, true, true, true, true, true, true, true, true, true, true, true, true, false, false]) rfl ?_
          refine s_callg (wanted_of (j := 18) (b := true) (d := 155) rfl rfl rfl rfl) rfl rfl (vs := []) trivial cb16 (wakes_ok w19 ) ?_
          intro v15 w20 hp18
          obtain ⟨hp18, hB13⟩ := hp18
          have hS23 := hS22.keep hB13
          replace hB13 := hB13.toBelow
          have hR58 := hR57.below hB13 (Nat.le_refl _)
          have hW132 := hW122.later hB13
          have hW133 := hW123.later hB13
          have hW134 := hW124.later hB13
          have hW135 := hW125.later hB13
          have hW136 := hW126.later hB13
          have hW137 := hW127.later hB13
          have hW138 := hW128.later hB13
          have hW139 := hW129.later hB13
          have hW140 := hW130.later hB13
          have hW141 := hW131.later hB13
          obtain rfl := hp18
          refine wpList_nil ?_
          refine x_tn ?_
          refine a_take (i := 20) (NoP.then NoP.body) rfl rfl rfl (by kernel_rfl) (L' := [true, true, true, true, true, true, true, true, true, true, true, true, true, true, true, true, true, true, true, true, true, false]) rfl (r_pick rfl (.t rfl rfl) (.t rfl rfl)) ?_
          refine a_take (i := 21) (NoP.then NoP.body) rfl rfl rfl (by kernel_rfl) (L' := [true, true, true, true, true, true, true, true, true, true, true, true, true, true, true, true, true, true, true, true, true, true]) rfl (r_assign rfl (.t rfl rfl)) ?_
          refine a_done (by kernel_rfl) ?_
          refine x_tn ?_
          refine k_reb [(2, .bool true)] ⟨rfl, trivial⟩ fun G16 => ?_
          refine wp_ret ?_
          refine k_ret1 Try.results9 rfl rfl ?_
          refine ⟨_, rfl, ?_⟩
          exact ⟨rfl, hS23.none⟩
      · exfalso; (try simp only [hlTEN] at hc3); omega
      · exfalso; (try simp only [hlTEN] at hc3); omega
    · have hgt : lv B < lv A := dl_lt (by omega)
      refine s_valg hS14 (wanted_of (j := 5) (b := true) (d := 74) rfl rfl rfl rfl) rfl (r_cmp_f rfl rfl (.t rfl rfl) (.t rfl rfl) (show ¬ ((((decB (lv A)).size : Nat) : Int) < (((decB (lv B)).size : Nat) : Int)) from by omega)) ?_
      refine s_val hS14 rfl rfl (r_pick rfl (.t rfl rfl) (.t rfl rfl)) ?_
      refine s_val hS14 rfl rfl (r_move rfl (.t rfl rfl)) ?_
      refine s_valg hS14 (wanted_of (j := 12) (b := false) (d := 81) rfl rfl rfl rfl) rfl (r_move rfl (.t rfl rfl)) ?_
      refine s_valg hS14 (wanted_of (j := 12) (b := false) (d := 81) rfl rfl rfl rfl) rfl (r_lens rfl rfl Try.underlying9 (.t rfl rfl)) ?_
      refine s_valg hS14 (wanted_of (j := 12) (b := false) (d := 81) rfl rfl rfl rfl) rfl (r_move rfl (.t rfl rfl)) ?_
      refine s_valg hS14 (wanted_of (j := 12) (b := false) (d := 81) rfl rfl rfl rfl) rfl (r_lens rfl rfl Try.underlying9 (.t rfl rfl)) ?_
      refine s_valg hS14 (wanted_of (j := 12) (b := false) (d := 81) rfl rfl rfl rfl) rfl (r_cmp_f rfl rfl (.t rfl rfl) (.t rfl rfl) (show ¬ ((((decB (lv A)).size : Nat) : Int) = (((decB (lv B)).size : Nat) : Int)) from (by omega))) ?_
      refine s_valg hS14 (wanted_of (j := 12) (b := false) (d := 81) rfl rfl rfl rfl) rfl (r_move rfl (.t rfl rfl)) ?_
      refine s_skip (unwanted_of (j := 18) (b := true) (b' := false) (d := 87) rfl rfl rfl rfl rfl) rfl ?_
      refine s_skip (unwanted_of (j := 18) (b := true) (b' := false) (d := 87) rfl rfl rfl rfl rfl) rfl ?_
      refine s_skip (unwanted_of (j := 18) (b := true) (b' := false) (d := 87) rfl rfl rfl rfl rfl) rfl ?_
      refine s_valg hS14 (wanted_of (j := 12) (b := false) (d := 81) rfl rfl rfl rfl) rfl (r_pick rfl (.t rfl rfl) .c) ?_
      refine s_val hS14 rfl rfl (r_pick rfl (.t rfl rfl) (.t rfl rfl)) ?_
      refine wpList_nil ?_
      refine x_tn ?_
      refine k_reb [(2, .bool false), (3, .slice a1 A.length c1), (4, .slice a2 B.length c2), (7, .int .i64 0), (10, .string (decB (lv A))), (11, .string (decB (lv B))), (12, .int .i64 0), (92, .bool false)] ⟨rfl, rfl, rfl, rfl, rfl, rfl, rfl, rfl, trivial⟩ fun G17 => ?_
      refine k_f (.t rfl rfl) ?_
      refine wp_seq ?_
      refine k_reg ?_
      refine s_val hS14 rfl rfl (r_move rfl (.t rfl rfl)) ?_
      refine s_val hS14 rfl rfl (r_move rfl (.t rfl rfl)) ?_
      refine s_val hS14 rfl rfl (r_nestr rfl (.t rfl rfl) (.t rfl rfl) (r := true) (by rw [beq_eq_false_iff_ne.2 (fun h => absurd (decB_eq.1 h) (by omega))]; rfl)) ?_
      refine wpList_nil ?_
      refine x_tn ?_
      refine k_reb [(2, .bool false), (3, .slice a1 A.length c1), (4, .slice a2 B.length c2), (7, .int .i64 0), (10, .string (decB (lv A))), (12, .int .i64 0), (95, .bool true)] ⟨rfl, rfl, rfl, rfl, rfl, rfl, rfl, trivial⟩ fun G18 => ?_
      refine k_t (.t rfl rfl) ?_
      refine k_reg ?_
      refine s_val hS14 rfl rfl (r_assign rfl .c) ?_
      refine wpList_nil ?_
      refine x_tn ?_
      refine k_reb [(2, .bool false), (3, .slice a1 A.length c1), (4, .slice a2 B.length c2), (7, .int .i64 0), (10, .string (decB (lv A))), (12, .int .i64 1)] ⟨rfl, rfl, rfl, rfl, rfl, rfl, trivial⟩ fun G19 => ?_
      refine wp_seq ?_
      refine k_reg ?_
      refine s_val hS14 rfl rfl (r_move rfl (.t rfl rfl)) ?_
      refine s_call rfl rfl rfl (vs := [.int .u64 10]) ⟨.c, trivial⟩ cb18 (from_ok w12 10 (by omega)) ?_
      intro v16 w21 hp19
      obtain ⟨TEN, hp19, ⟨hNTEN, hlTEN⟩⟩ := hp19
      obtain ⟨a11, c14, rfl, hR59, -, hT11⟩ := id hp19
      have hW142 := Ow.from_ hS14 hp19
      have hS24 := hS14.keep hT11
      have hR60 := hR38.below hT11.toBelow (Nat.le_refl _)
      have hR61 := hR39.below hT11.toBelow (Nat.le_refl _)
      have hW143 := hW57.later hT11.toBelow
      have hW144 := hW58.later hT11.toBelow
      have hW145 := hW59.later hT11.toBelow
      have hW146 := hW60.later hT11.toBelow
      have hW147 := hW61.later hT11.toBelow
      have hW148 := hW62.later hT11.toBelow
      have hW149 := hW63.later hT11.toBelow
      have hA11 := hp19.apart hS14 (m := 0) rfl
      have hnTEN := hNTEN.len
      refine s_call rfl rfl rfl (vs := [.slice a1 A.length c1, .slice a11 TEN.length c14]) ⟨(.t rfl rfl), (.t rfl rfl), trivial⟩ cb17 (DivMod_ok w21 a1 c1 A hR60 a11 c14 TEN hR59 hNA hNTEN (by omega)) ?_
      rintro v17 w22 ⟨Q1, R1, _, _, rfl, hp20, hq2, hNQ1, hNR1, hlQ1, hlR1⟩
      obtain ⟨a12, c15, rfl, hR62, -, hT12⟩ := id hp20
      have hW150 := Ow.from_ hS24 hp20
      have hS25 := hS24.keep hT12
      have hR63 := hR60.below hT12.toBelow (Nat.le_refl _)
      have hR64 := hR61.below hT12.toBelow (Nat.le_refl _)
      have hR65 := hR59.below hT12.toBelow (Nat.le_refl _)
      have hW151 := hW143.later hT12.toBelow
      have hW152 := hW144.later hT12.toBelow
      have hW153 := hW145.later hT12.toBelow
      have hW154 := hW146.later hT12.toBelow
      have hW155 := hW147.later hT12.toBelow
      have hW156 := hW148.later hT12.toBelow
      have hW157 := hW149.later hT12.toBelow
      have hW158 := hW142.later hT12.toBelow
      have hA12 := hp20.apart hS24 (m := 0) rfl
      obtain ⟨a13, c16, rfl, hR66, -, hT13⟩ := id hq2
      have hW159 := Ow.from_ hS24 hq2
      have hA13 := hq2.apart hS24 (m := 0) rfl
      have hnQ1 := hNQ1.len
      have hnR1 := hNR1.len
      have hq : lv Q1 = lv A / 10 := by rw [hlQ1, hlTEN]
      have hr : lv R1 = lv A % 10 := by rw [hlR1, hlTEN]
      refine s_val hS25 rfl rfl (r_move rfl (.t rfl rfl)) ?_
      refine s_val hS25 rfl rfl (r_extract rfl (.t rfl rfl) rfl) ?_
      refine s_val hS25 rfl rfl (r_extract rfl (.t rfl rfl) rfl) ?_
      refine s_val hS25 rfl rfl (r_extract rfl (.t rfl rfl) rfl) ?_
      refine s_val hS25 rfl rfl (r_assign rfl (.t rfl rfl)) ?_
      refine s_val hS25 rfl rfl (r_assign rfl (.t rfl rfl)) ?_
      refine s_val hS25 rfl rfl (r_assign rfl (.t rfl rfl)) ?_
      refine wpList_nil ?_
      refine x_tn ?_
      refine k_reb [(2, .bool false), (3, .slice a1 A.length c1), (4, .slice a2 B.length c2), (7, .int .i64 0), (10, .string (decB (lv A))), (12, .int .i64 1), (13, .slice a12 Q1.length c15), (14, .slice a13 R1.length c16)] ⟨rfl, rfl, rfl, rfl, rfl, rfl, rfl, rfl, trivial⟩ fun G20 => ?_
      refine wp_seq ?_
      refine k_reg ?_
      refine s_val hS25 rfl rfl (r_move rfl (.t rfl rfl)) ?_
      refine s_call rfl rfl rfl (vs := [.slice a13 R1.length c16]) ⟨(.t rfl rfl), trivial⟩ cb34 (Small_ok w22 a13 c16 R1 hR66 hNR1 (by have := len_of_lt (k := 1) hNR1.nz (by rw [hr]; have := Nat.mod_lt (lv A) (show 0 < 10 by omega); show _ < 4294967296 ^ 1; omega); omega)) ?_
      intro v18 w23 hp21
      obtain ⟨hp21, hB14⟩ := hp21
      have hS27 := hS25.keep hB14
      replace hB14 := hB14.toBelow
      have hR67 := hR63.below hB14 (Nat.le_refl _)
      have hR68 := hR64.below hB14 (Nat.le_refl _)
      have hR69 := hR62.below hB14 (Nat.le_refl _)
      have hR70 := hR66.below hB14 (Nat.le_refl _)
      have hW160 := hW151.later hB14
      have hW161 := hW152.later hB14
      have hW162 := hW153.later hB14
      have hW163 := hW154.later hB14
      have hW164 := hW155.later hB14
      have hW165 := hW156.later hB14
      have hW166 := hW157.later hB14
      have hW167 := hW158.later hB14
      have hW168 := hW150.later hB14
      have hW169 := hW159.later hB14
      obtain rfl := hp21
      refine s_val hS27 rfl rfl (r_move rfl (.t rfl rfl)) ?_
      refine s_val hS27 rfl rfl (r_extract rfl (.t rfl rfl) rfl) ?_
      refine s_val hS27 rfl rfl (r_extract rfl (.t rfl rfl) rfl) ?_
      refine s_val hS27 rfl rfl (r_assign rfl (.t rfl rfl)) ?_
      refine s_val hS27 rfl rfl (r_assign rfl (.t rfl rfl)) ?_
      refine wpList_nil ?_
      refine x_tn ?_
      refine k_reb [(2, .bool false), (3, .slice a1 A.length c1), (4, .slice a2 B.length c2), (7, .int .i64 0), (10, .string (decB (lv A))), (12, .int .i64 1), (13, .slice a12 Q1.length c15), (15, .int .u64 (((lv R1 : Nat) : Int))), (16, .bool true)] ⟨rfl, rfl, rfl, rfl, rfl, rfl, rfl, rfl, rfl, trivial⟩ fun G21 => ?_
      refine wp_seq ?_
      refine wp_seq ?_
      refine k_reg ?_
      refine s_val hS27 rfl rfl (r_move rfl (.t rfl rfl)) ?_
      refine s_call rfl rfl rfl (vs := [.int .i64 0]) ⟨(.t rfl rfl), trivial⟩ cb13 (num_ok w23 0) ?_
      rintro _ w23 ⟨rfl, rfl⟩
      refine s_val hS27 rfl rfl (r_cmp_f rfl rfl (.t rfl rfl) .c (show ¬ (¬ 0 = 0) from by omega)) ?_
      refine s_val hS27 rfl rfl (r_move rfl (.t rfl rfl)) ?_
      refine s_valg hS27 (wanted_of (j := 3) (b := false) (d := 111) rfl rfl rfl rfl) rfl (r_move rfl (.t rfl rfl)) ?_
      refine s_valg hS27 (wanted_of (j := 3) (b := false) (d := 111) rfl rfl rfl rfl) rfl (r_move rfl (.t rfl rfl)) ?_
      refine s_valg hS27 (wanted_of (j := 3) (b := false) (d := 111) rfl rfl rfl rfl) rfl (r_move rfl (.t rfl rfl)) ?_
      refine s_callg (wanted_of (j := 3) (b := false) (d := 111) rfl rfl rfl rfl) rfl rfl (vs := [.slice a1 A.length c1, .slice a2 B.length c2]) ⟨(.t rfl rfl), (.t rfl rfl), trivial⟩ cb28 (Cmp_ok w23 a1 c1 A hR67 a2 c2 B hR68 hNA hNB) ?_
      rintro _ w24 ⟨hp22, hB15⟩
      have hS28 := hS27.keep hB15
      replace hB15 := hB15.toBelow
      have hR71 := hR67.below hB15 (Nat.le_refl _)
      have hR72 := hR68.below hB15 (Nat.le_refl _)
      have hR73 := hR69.below hB15 (Nat.le_refl _)
      have hW170 := hW160.later hB15
      have hW171 := hW161.later hB15
      have hW172 := hW162.later hB15
      have hW173 := hW163.later hB15
      have hW174 := hW164.later hB15
      have hW175 := hW165.later hB15
      have hW176 := hW166.later hB15
      have hW177 := hW167.later hB15
      have hW178 := hW168.later hB15
      have hW179 := hW169.later hB15
      rcases hp22 with ⟨hc4, rfl⟩ | ⟨hc4, rfl⟩ | ⟨hc4, rfl⟩
      · exfalso; (try simp only [hlTEN] at hc4); omega
      · exfalso; (try simp only [hlTEN] at hc4); omega
      · refine s_valg hS28 (wanted_of (j := 3) (b := false) (d := 111) rfl rfl rfl rfl) rfl (r_cmp_f rfl rfl (.t rfl rfl) (.t rfl rfl) (show ¬ (¬ 1 = 1) from by omega)) ?_
        refine s_val hS28 rfl rfl (r_pick rfl (.t rfl rfl) (.t rfl rfl)) ?_
        refine s_val hS28 rfl rfl (r_move rfl (.t rfl rfl)) ?_
        refine s_valg hS28 (wanted_of (j := 10) (b := false) (d := 118) rfl rfl rfl rfl) rfl (r_move rfl (.t rfl rfl)) ?_
        refine s_valg hS28 (wanted_of (j := 10) (b := false) (d := 118) rfl rfl rfl rfl) rfl (r_lnot rfl (.t rfl rfl)) ?_
        refine s_val hS28 rfl rfl (r_pick rfl (.t rfl rfl) (.t rfl rfl)) ?_
        refine s_val hS28 rfl rfl (r_move rfl (.t rfl rfl)) ?_
        refine s_valg hS28 (wanted_of (j := 14) (b := false) (d := 122) rfl rfl rfl rfl) rfl (r_move rfl (.t rfl rfl)) ?_
        refine s_valg hS28 (wanted_of (j := 14) (b := false) (d := 122) rfl rfl rfl rfl) rfl (r_cmp_f rfl rfl (.t rfl rfl) .c (show ¬ (((lv R1 : Nat) : Int) > 9) from (by omega))) ?_
        refine s_val hS28 rfl rfl (r_pick rfl (.t rfl rfl) (.t rfl rfl)) ?_
        refine s_val hS28 rfl rfl (r_move rfl (.t rfl rfl)) ?_
        refine s_valg hS28 (wanted_of (j := 18) (b := false) (d := 126) rfl rfl rfl rfl) rfl (r_move rfl (.t rfl rfl)) ?_
        refine s_valg hS28 (wanted_of (j := 18) (b := false) (d := 126) rfl rfl rfl rfl) rfl (r_move rfl (.t rfl rfl)) ?_
        refine s_valg hS28 (wanted_of (j := 18) (b := false) (d := 126) rfl rfl rfl rfl) rfl (r_lens rfl rfl Try.underlying9 (.t rfl rfl)) ?_
        refine s_valg hS28 (wanted_of (j := 18) (b := false) (d := 126) rfl rfl rfl rfl) rfl (r_arith rfl rfl (.t rfl rfl) .c (c := ((((decB (lv A)).size) - 1 : Nat) : Int)) (wn_i64 (by show ((((decB (lv A)).size : Nat) : Int) : Int) - 1 = _; omega) (by omega))) ?_
        refine s_valg hS28 (wanted_of (j := 18) (b := false) (d := 126) rfl rfl rfl rfl) rfl (r_idxs (j := ((decB (lv A)).size) - 1) (c := ((decB (lv A)).data.toList.getD (((decB (lv A)).size) - 1) 0).toNat) rfl Try.underlying9 (.t rfl rfl) (.t rfl rfl) rfl (byte_at (by omega)) (byte_lt _)) ?_
        refine s_valg hS28 (wanted_of (j := 18) (b := false) (d := 126) rfl rfl rfl rfl) rfl (r_move rfl (.t rfl rfl)) ?_
        refine s_valg hS28 (wanted_of (j := 18) (b := false) (d := 126) rfl rfl rfl rfl) rfl (r_arith rfl rfl .c (.t rfl rfl) (c := ((48 + (lv R1) : Nat) : Int)) (wn_u64 (by show (48 : Int) + ((lv R1 : Nat) : Int) = _; omega) (by omega))) ?_
        refine s_valg hS28 (wanted_of (j := 18) (b := false) (d := 126) rfl rfl rfl rfl) rfl (r_conv rfl Try.underlying40 Try.underlying5 (.t rfl rfl) (c := ((48 + (lv R1) : Nat) : Int)) (wn_u8 rfl (by omega))) ?_
        refine s_valg hS28 (wanted_of (j := 18) (b := false) (d := 126) rfl rfl rfl rfl) rfl (r_cmp_f rfl rfl (.t rfl rfl) (.t rfl rfl) (show ¬ (¬ ((((decB (lv A)).data.toList.getD (((decB (lv A)).size) - 1) 0).toNat : Nat) : Int) = ((48 + (lv R1) : Nat) : Int)) from (by rw [decB_last, hr]; omega))) ?_
        refine s_val hS28 rfl rfl (r_pick rfl (.t rfl rfl) (.t rfl rfl)) ?_
        refine wpList_nil ?_
        refine x_tn ?_
        refine k_reb [(2, .bool false), (10, .string (decB (lv A))), (13, .slice a12 Q1.length c15), (136, .bool false)] ⟨rfl, rfl, rfl, rfl, trivial⟩ fun G22 => ?_
        refine k_f (.t rfl rfl) ?_
        refine wp_skip ?_
        refine x_tn ?_
        refine k_reb [(2, .bool false), (10, .string (decB (lv A))), (13, .slice a12 Q1.length c15)] ⟨rfl, rfl, rfl, trivial⟩ fun G23 => ?_
        refine wp_seq ?_
        refine a_start mixed hS28 (L := [false, false, false, false, false, false, false, false, false, false, false, false, false, false, false, false, false, false, false, false, false, false]) rfl fun w25 hS29 hB16 => ?_
        have hR74 := hR73.below hB16 (Nat.le_refl _)
        have hW180 := hW170.later hB16
        have hW181 := hW171.later hB16
        have hW182 := hW172.later hB16
        have hW183 := hW173.later hB16
        have hW184 := hW174.later hB16
        have hW185 := hW175.later hB16
        have hW186 := hW176.later hB16
        have hW187 := hW177.later hB16
        have hW188 := hW178.later hB16
        have hW189 := hW179.later hB16
        refine a_take (i := 0) (NoP.then NoP.body) rfl rfl rfl (by kernel_rfl) (L' := [true, false, false, false, false, false, false, false, false, false, false, false, false, false, false, false, false, false, false, false, false, false]) rfl (r_move rfl (.t rfl rfl)) ?_
        refine a_take (i := 1) (NoP.then NoP.body) rfl rfl rfl (by kernel_rfl) (L' := [true, true, false, false, false, false, false, false, false, false, false, false, false, false, false, false, false, false, false, false, false, false]) rfl (r_len rfl rfl Try.underlying27 (.t rfl rfl)) ?_
        by_cases c17 : Q1.length = 0
        · have hq0 : lv Q1 = 0 := by rw [List.eq_nil_of_length_eq_zero (by omega : Q1.length = 0)]; rfl
          have hsm : lv A < 10 := by rw [hq] at hq0; omega
          refine a_take (i := 2) (NoP.then NoP.body) rfl rfl rfl (by kernel_rfl) (L' := [true, true, true, false, false, false, false, false, false, false, false, false, false, false, false, false, false, false, false, false, false, false]) rfl (r_cmp_t rfl rfl (.t rfl rfl) .c (show ((Q1.length : Nat) : Int) = 0 from by omega)) ?_
          refine a_take (i := 3) (NoP.then NoP.body) rfl rfl rfl (by kernel_rfl) (L' := [true, true, true, true, false, false, false, false, false, false, false, false, false, false, false, false, false, false, false, false, false, false]) rfl (r_move rfl (.t rfl rfl)) ?_
          refine a_takeg (i := 4) (NoP.then NoP.body) rfl (wanted_of (j := 3) (b := true) (d := 140) rfl rfl rfl rfl) rfl (by kernel_rfl) (L' := [true, true, true, true, true, false, false, false, false, false, false, false, false, false, false, false, false, false, false, false, false, false]) rfl (r_move rfl (.t rfl rfl)) ?_
          refine a_takeg (i := 5) (NoP.then NoP.body) rfl (wanted_of (j := 3) (b := true) (d := 140) rfl rfl rfl rfl) rfl (by kernel_rfl) (L' := [true, true, true, true, true, true, false, false, false, false, false, false, false, false, false, false, false, false, false, false, false, false]) rfl (r_lens rfl rfl Try.underlying9 (.t rfl rfl)) ?_
          refine a_takeg (i := 6) (NoP.then NoP.body) rfl (wanted_of (j := 3) (b := true) (d := 140) rfl rfl rfl rfl) rfl (by kernel_rfl) (L' := [true, true, true, true, true, true, true, false, false, false, false, false, false, false, false, false, false, false, false, false, false, false]) rfl (r_cmp_t rfl rfl (.t rfl rfl) .c (show (((decB (lv A)).size : Nat) : Int) = 1 from (by rw [decB_size, dl_small hsm]; simp))) ?_
          refine a_take (i := 7) (NoP.then NoP.body) rfl rfl rfl (by kernel_rfl) (L' := [true, true, true, true, true, true, true, true, false, false, false, false, false, false, false, false, false, false, false, false, false, false]) rfl (r_pick rfl (.t rfl rfl) (.t rfl rfl)) ?_
          refine a_take (i := 8) (NoP.then NoP.body) rfl rfl rfl (by kernel_rfl) (L' := [true, true, true, true, true, true, true, true, true, false, false, false, false, false, false, false, false, false, false, false, false, false]) rfl (r_move rfl (.t rfl rfl)) ?_
          refine a_skip (i := 9) (NoP.then NoP.body) rfl (unwanted_of (j := 8) (b := false) (b' := true) (d := 145) rfl rfl rfl rfl rfl) rfl (by kernel_rfl) (L' := [true, true, true, true, true, true, true, true, true, true, false, false, false, false, false, false, false, false, false, false, false, false]) rfl ?_
          refine a_skip (i := 10) (NoP.then NoP.body) rfl (unwanted_of (j := 8) (b := false) (b' := true) (d := 145) rfl rfl rfl rfl rfl) rfl (by kernel_rfl) (L' := [true, true, true, true, true, true, true, true, true, true, true, false, false, false, false, false, false, false, false, false, false, false]) rfl ?_
          refine a_skip (i := 11) (NoP.then NoP.body) rfl (unwanted_of (j := 8) (b := false) (b' := true) (d := 145) rfl rfl rfl rfl rfl) rfl (by kernel_rfl) (L' := [true, true, true, true, true, true, true, true, true, true, true, true, false, false, false, false, false, false, false, false, false, false]) rfl ?_
          refine a_skip (i := 12) (NoP.then NoP.body) rfl (unwanted_of (j := 8) (b := false) (b' := true) (d := 145) rfl rfl rfl rfl rfl) rfl (by kernel_rfl) (L' := [true, true, true, true, true, true, true, true, true, true, true, true, true, false, false, false, false, false, false, false, false, false]) rfl ?_
          refine a_skip (i := 13) (NoP.then NoP.body) rfl (unwanted_of (j := 8) (b := false) (b' := true) (d := 145) rfl rfl rfl rfl rfl) rfl (by kernel_rfl) (L' := [true, true, true, true, true, true, true, true, true, true, true, true, true, true, false, false, false, false, false, false, false, false]) rfl ?_
          refine a_skip (i := 14) (NoP.then NoP.body) rfl (unwanted_of (j := 8) (b := false) (b' := true) (d := 145) rfl rfl rfl rfl rfl) rfl (by kernel_rfl) (L' := [true, true, true, true, true, true, true, true, true, true, true, true, true, true, true, false, false, false, false, false, false, false]) rfl ?_
          refine a_skip (i := 15) (NoP.then NoP.body) rfl (unwanted_of (j := 8) (b := false) (b' := true) (d := 145) rfl rfl rfl rfl rfl) rfl (by kernel_rfl) (L' := [true, true, true, true, true, true, true, true, true, true, true, true, true, true, true, true, false, false, false, false, false, false]) rfl ?_
          refine a_skip (i := 16) (NoP.then NoP.body) rfl (unwanted_of (j := 8) (b := false) (b' := true) (d := 145) rfl rfl rfl rfl rfl) rfl (by kernel_rfl) (L' := [true, true, true, true, true, true, true, true, true, true, true, true, true, true, true, true, true, false, false, false, false, false]) rfl ?_
          refine a_take (i := 17) (NoP.then NoP.body) rfl rfl rfl (by kernel_rfl) (L' := [true, true, true, true, true, true, true, true, true, true, true, true, true, true, true, true, true, true, false, false, false, false]) rfl (r_pick rfl (.t rfl rfl) .c) ?_
          refine a_take (i := 18) (NoP.then NoP.body) rfl rfl rfl (by kernel_rfl) (L' := [true, true, true, true, true, true, true, true, true, true, true, true, true, true, true, true, true, true, true, false, false, false]) rfl (r_move rfl (.t rfl rfl)) ?_
          refine a_oneg (i := 19) (by kernel_rfl) rfl (wanted_of (j := 18) (b := true) (d := 155) rfl rfl rfl rfl) (L' := [true, true, true, true, true, true, true, true, true, true, true, true, true, true, true, true, true, true, true, true, false, false]) rfl ?_
          refine s_callg (wanted_of (j := 18) (b := true) (d := 155) rfl rfl rfl rfl) rfl rfl (vs := []) trivial cb16 (wakes_ok w25 ) ?_
          intro v19 w26 hp23
          obtain ⟨hp23, hB17⟩ := hp23
          have hS30 := hS29.keep hB17
          replace hB17 := hB17.toBelow
          have hR75 := hR74.below hB17 (Nat.le_refl _)
          have hW190 := hW180.later hB17
          have hW191 := hW181.later hB17
          have hW192 := hW182.later hB17
          have hW193 := hW183.later hB17
          have hW194 := hW184.later hB17
          have hW195 := hW185.later hB17
          have hW196 := hW186.later hB17
          have hW197 := hW187.later hB17
          have hW198 := hW188.later hB17
          have hW199 := hW189.later hB17
          obtain rfl := hp23
          refine wpList_nil ?_
          refine x_tn ?_
          refine a_take (i := 20) (NoP.then NoP.body) rfl rfl rfl (by kernel_rfl) (L' := [true, true, true, true, true, true, true, true, true, true, true, true, true, true, true, true, true, true, true, true, true, false]) rfl (r_pick rfl (.t rfl rfl) (.t rfl rfl)) ?_
          refine a_take (i := 21) (NoP.then NoP.body) rfl rfl rfl (by kernel_rfl) (L' := [true, true, true, true, true, true, true, true, true, true, true, true, true, true, true, true, true, true, true, true, true, true]) rfl (r_assign rfl (.t rfl rfl)) ?_
          refine a_done (by kernel_rfl) ?_
          refine x_tn ?_
          refine k_reb [(2, .bool true)] ⟨rfl, trivial⟩ fun G24 => ?_
          refine wp_ret ?_
          refine k_ret1 Try.results9 rfl rfl ?_
          refine ⟨_, rfl, ?_⟩
          exact ⟨rfl, hS30.none⟩
        · have hq0 := lv_pos hNQ1.nz (by omega)
          have h10 : 10 ≤ lv A := by rw [hq] at hq0; omega
          refine a_take (i := 2) (NoP.then NoP.body) rfl rfl rfl (by kernel_rfl) (L' := [true, true, true, false, false, false, false, false, false, false, false, false, false, false, false, false, false, false, false, false, false, false]) rfl (r_cmp_f rfl rfl (.t rfl rfl) .c (show ¬ (((Q1.length : Nat) : Int) = 0) from by omega)) ?_
          refine a_take (i := 3) (NoP.then NoP.body) rfl rfl rfl (by kernel_rfl) (L' := [true, true, true, true, false, false, false, false, false, false, false, false, false, false, false, false, false, false, false, false, false, false]) rfl (r_move rfl (.t rfl rfl)) ?_
          refine a_skip (i := 4) (NoP.then NoP.body) rfl (unwanted_of (j := 3) (b := true) (b' := false) (d := 140) rfl rfl rfl rfl rfl) rfl (by kernel_rfl) (L' := [true, true, true, true, true, false, false, false, false, false, false, false, false, false, false, false, false, false, false, false, false, false]) rfl ?_
          refine a_skip (i := 5) (NoP.then NoP.body) rfl (unwanted_of (j := 3) (b := true) (b' := false) (d := 140) rfl rfl rfl rfl rfl) rfl (by kernel_rfl) (L' := [true, true, true, true, true, true, false, false, false, false, false, false, false, false, false, false, false, false, false, false, false, false]) rfl ?_
          refine a_skip (i := 6) (NoP.then NoP.body) rfl (unwanted_of (j := 3) (b := true) (b' := false) (d := 140) rfl rfl rfl rfl rfl) rfl (by kernel_rfl) (L' := [true, true, true, true, true, true, true, false, false, false, false, false, false, false, false, false, false, false, false, false, false, false]) rfl ?_
          refine a_take (i := 7) (NoP.then NoP.body) rfl rfl rfl (by kernel_rfl) (L' := [true, true, true, true, true, true, true, true, false, false, false, false, false, false, false, false, false, false, false, false, false, false]) rfl (r_pick rfl (.t rfl rfl) .c) ?_
          refine a_take (i := 8) (NoP.then NoP.body) rfl rfl rfl (by kernel_rfl) (L' := [true, true, true, true, true, true, true, true, true, false, false, false, false, false, false, false, false, false, false, false, false, false]) rfl (r_move rfl (.t rfl rfl)) ?_
          refine a_takeg (i := 9) (NoP.then NoP.body) rfl (wanted_of (j := 8) (b := false) (d := 145) rfl rfl rfl rfl) rfl (by kernel_rfl) (L' := [true, true, true, true, true, true, true, true, true, true, false, false, false, false, false, false, false, false, false, false, false, false]) rfl (r_move rfl (.t rfl rfl)) ?_
          refine a_takeg (i := 11) (NoP.then NoP.body) rfl (wanted_of (j := 8) (b := false) (d := 145) rfl rfl rfl rfl) rfl (by kernel_rfl) (L' := [true, true, true, true, true, true, true, true, true, true, false, true, false, false, false, false, false, false, false, false, false, false]) rfl (r_move rfl (.t rfl rfl)) ?_
          refine a_takeg (i := 12) (NoP.then NoP.body) rfl (wanted_of (j := 8) (b := false) (d := 145) rfl rfl rfl rfl) rfl (by kernel_rfl) (L' := [true, true, true, true, true, true, true, true, true, true, false, true, true, false, false, false, false, false, false, false, false, false]) rfl (r_move rfl (.t rfl rfl)) ?_
          refine a_takeg (i := 13) (NoP.then NoP.body) rfl (wanted_of (j := 8) (b := false) (d := 145) rfl rfl rfl rfl) rfl (by kernel_rfl) (L' := [true, true, true, true, true, true, true, true, true, true, false, true, true, true, false, false, false, false, false, false, false, false]) rfl (r_lens rfl rfl Try.underlying9 (.t rfl rfl)) ?_
          refine a_takeg (i := 14) (NoP.then NoP.body) rfl (wanted_of (j := 8) (b := false) (d := 145) rfl rfl rfl rfl) rfl (by kernel_rfl) (L' := [true, true, true, true, true, true, true, true, true, true, false, true, true, true, true, false, false, false, false, false, false, false]) rfl (r_arith rfl rfl (.t rfl rfl) .c (c := ((((decB (lv A)).size) - 1 : Nat) : Int)) (wn_i64 (by show ((((decB (lv A)).size : Nat) : Int) : Int) - 1 = _; omega) (by omega))) ?_
          refine a_takeg (i := 15) (NoP.then NoP.body) rfl (wanted_of (j := 8) (b := false) (d := 145) rfl rfl rfl rfl) rfl (by kernel_rfl) (L' := [true, true, true, true, true, true, true, true, true, true, false, true, true, true, true, true, false, false, false, false, false, false]) rfl (r_cutstr (hh := ((decB (lv A)).size) - 1) rfl Try.underlying9 (.t rfl rfl) (.s (.t rfl rfl)) (by omega) (decB_front h10)) ?_
          refine a_oneg (i := 10) (by kernel_rfl) rfl (wanted_of (j := 8) (b := false) (d := 145) rfl rfl rfl rfl) (L' := [true, true, true, true, true, true, true, true, true, true, true, true, true, true, true, true, false, false, false, false, false, false]) rfl ?_
          refine s_callg (wanted_of (j := 8) (b := false) (d := 145) rfl rfl rfl rfl) rfl rfl (vs := [.slice a12 Q1.length c15]) ⟨(.t rfl rfl), trivial⟩ cb30 (Text_ok w25 a12 c15 Q1 hR74 hNQ1) ?_
          intro v20 w27 hp24
          obtain ⟨hp24, hB18⟩ := hp24
          have hS31 := hS29.keep hB18
          replace hB18 := hB18.toBelow
          have hR76 := hR74.below hB18 (Nat.le_refl _)
          have hW200 := hW180.later hB18
          have hW201 := hW181.later hB18
          have hW202 := hW182.later hB18
          have hW203 := hW183.later hB18
          have hW204 := hW184.later hB18
          have hW205 := hW185.later hB18
          have hW206 := hW186.later hB18
          have hW207 := hW187.later hB18
          have hW208 := hW188.later hB18
          have hW209 := hW189.later hB18
          obtain rfl := hp24
          refine wpList_nil ?_
          refine x_tn ?_
          refine a_takeg (i := 16) (NoP.then NoP.body) rfl (wanted_of (j := 8) (b := false) (d := 145) rfl rfl rfl rfl) rfl (by kernel_rfl) (L' := [true, true, true, true, true, true, true, true, true, true, true, true, true, true, true, true, true, false, false, false, false, false]) rfl (r_eqstr rfl (.t rfl rfl) (.t rfl rfl) (r := true) (str_same (by rw [hq]))) ?_
          refine a_take (i := 17) (NoP.then NoP.body) rfl rfl rfl (by kernel_rfl) (L' := [true, true, true, true, true, true, true, true, true, true, true, true, true, true, true, true, true, true, false, false, false, false]) rfl (r_pick rfl (.t rfl rfl) (.t rfl rfl)) ?_
          refine a_take (i := 18) (NoP.then NoP.body) rfl rfl rfl (by kernel_rfl) (L' := [true, true, true, true, true, true, true, true, true, true, true, true, true, true, true, true, true, true, true, false, false, false]) rfl (r_move rfl (.t rfl rfl)) ?_
          refine a_oneg (i := 19) (by kernel_rfl) rfl (wanted_of (j := 18) (b := true) (d := 155) rfl rfl rfl rfl) (L' := [true, true, true, true, true, true, true, true, true, true, true, true, true, true, true, true, true, true, true, true, false, false]) rfl ?_
          refine s_callg (wanted_of (j := 18) (b := true) (d := 155) rfl rfl rfl rfl) rfl rfl (vs := []) trivial cb16 (wakes_ok w27 ) ?_
          intro v21 w28 hp25
          obtain ⟨hp25, hB19⟩ := hp25
          have hS32 := hS31.keep hB19
          replace hB19 := hB19.toBelow
          have hR77 := hR76.below hB19 (Nat.le_refl _)
          have hW210 := hW200.later hB19
          have hW211 := hW201.later hB19
          have hW212 := hW202.later hB19
          have hW213 := hW203.later hB19
          have hW214 := hW204.later hB19
          have hW215 := hW205.later hB19
          have hW216 := hW206.later hB19
          have hW217 := hW207.later hB19
          have hW218 := hW208.later hB19
          have hW219 := hW209.later hB19
          obtain rfl := hp25
          refine wpList_nil ?_
          refine x_tn ?_
          refine a_take (i := 20) (NoP.then NoP.body) rfl rfl rfl (by kernel_rfl) (L' := [true, true, true, true, true, true, true, true, true, true, true, true, true, true, true, true, true, true, true, true, true, false]) rfl (r_pick rfl (.t rfl rfl) (.t rfl rfl)) ?_
          refine a_take (i := 21) (NoP.then NoP.body) rfl rfl rfl (by kernel_rfl) (L' := [true, true, true, true, true, true, true, true, true, true, true, true, true, true, true, true, true, true, true, true, true, true]) rfl (r_assign rfl (.t rfl rfl)) ?_
          refine a_done (by kernel_rfl) ?_
          refine x_tn ?_
          refine k_reb [(2, .bool true)] ⟨rfl, trivial⟩ fun G25 => ?_
          refine wp_ret ?_
          refine k_ret1 Try.results9 rfl rfl ?_
          refine ⟨_, rfl, ?_⟩
          exact ⟨rfl, hS32.none⟩
  · refine s_val hS14 rfl rfl (r_cmp_f rfl rfl (.t rfl rfl) (.t rfl rfl) (show ¬ (¬ (((decB (lv A)).size : Nat) : Int) = (((decB (lv B)).size : Nat) : Int)) from by omega)) ?_
    refine s_val hS14 rfl rfl (r_move rfl (.t rfl rfl)) ?_
    refine s_skip (unwanted_of (j := 5) (b := true) (b' := false) (d := 74) rfl rfl rfl rfl rfl) rfl ?_
    refine s_skip (unwanted_of (j := 5) (b := true) (b' := false) (d := 74) rfl rfl rfl rfl rfl) rfl ?_
    refine s_skip (unwanted_of (j := 5) (b := true) (b' := false) (d := 74) rfl rfl rfl rfl rfl) rfl ?_
    refine s_skip (unwanted_of (j := 5) (b := true) (b' := false) (d := 74) rfl rfl rfl rfl rfl) rfl ?_
    refine s_skip (unwanted_of (j := 5) (b := true) (b' := false) (d := 74) rfl rfl rfl rfl rfl) rfl ?_
    refine s_val hS14 rfl rfl (r_pick rfl (.t rfl rfl) .c) ?_
    refine s_val hS14 rfl rfl (r_move rfl (.t rfl rfl)) ?_
    refine s_valg hS14 (wanted_of (j := 12) (b := false) (d := 81) rfl rfl rfl rfl) rfl (r_move rfl (.t rfl rfl)) ?_
    refine s_valg hS14 (wanted_of (j := 12) (b := false) (d := 81) rfl rfl rfl rfl) rfl (r_lens rfl rfl Try.underlying9 (.t rfl rfl)) ?_
    refine s_valg hS14 (wanted_of (j := 12) (b := false) (d := 81) rfl rfl rfl rfl) rfl (r_move rfl (.t rfl rfl)) ?_
    refine s_valg hS14 (wanted_of (j := 12) (b := false) (d := 81) rfl rfl rfl rfl) rfl (r_lens rfl rfl Try.underlying9 (.t rfl rfl)) ?_
    refine s_valg hS14 (wanted_of (j := 12) (b := false) (d := 81) rfl rfl rfl rfl) rfl (r_cmp_t rfl rfl (.t rfl rfl) (.t rfl rfl) (show (((decB (lv A)).size : Nat) : Int) = (((decB (lv B)).size : Nat) : Int) from (by omega))) ?_
    refine s_valg hS14 (wanted_of (j := 12) (b := false) (d := 81) rfl rfl rfl rfl) rfl (r_move rfl (.t rfl rfl)) ?_
    refine s_valg hS14 (wanted_of (j := 18) (b := true) (d := 87) rfl rfl rfl rfl) rfl (r_move rfl (.t rfl rfl)) ?_
    refine s_valg hS14 (wanted_of (j := 18) (b := true) (d := 87) rfl rfl rfl rfl) rfl (r_move rfl (.t rfl rfl)) ?_
    have hdl : (dl (lv A)).length = (dl (lv B)).length := by omega
    by_cases c18 : lv A < lv B
    · refine s_valg hS14 (wanted_of (j := 18) (b := true) (d := 87) rfl rfl rfl rfl) rfl (r_ltstr rfl (.t rfl rfl) (.t rfl rfl) (r := true) (by rw [decB_less hdl]; exact decide_eq_true c18)) ?_
      refine s_valg hS14 (wanted_of (j := 12) (b := false) (d := 81) rfl rfl rfl rfl) rfl (r_pick rfl (.t rfl rfl) (.t rfl rfl)) ?_
      refine s_val hS14 rfl rfl (r_pick rfl (.t rfl rfl) (.t rfl rfl)) ?_
      refine wpList_nil ?_
      refine x_tn ?_
      refine k_reb [(2, .bool false), (3, .slice a1 A.length c1), (4, .slice a2 B.length c2), (7, .int .i64 0), (10, .string (decB (lv A))), (11, .string (decB (lv B))), (12, .int .i64 0), (92, .bool true)] ⟨rfl, rfl, rfl, rfl, rfl, rfl, rfl, rfl, trivial⟩ fun G26 => ?_
      refine k_t (.t rfl rfl) ?_
      refine k_reg ?_
      refine s_val hS14 rfl rfl (r_assign rfl .c) ?_
      refine wpList_nil ?_
      refine x_tn ?_
      refine k_reb [(2, .bool false), (3, .slice a1 A.length c1), (4, .slice a2 B.length c2), (7, .int .i64 0), (10, .string (decB (lv A))), (12, .int .i64 ((-1)))] ⟨rfl, rfl, rfl, rfl, rfl, rfl, trivial⟩ fun G27 => ?_
      refine wp_seq ?_
      refine k_reg ?_
      refine s_val hS14 rfl rfl (r_move rfl (.t rfl rfl)) ?_
      refine s_call rfl rfl rfl (vs := [.int .u64 10]) ⟨.c, trivial⟩ cb18 (from_ok w12 10 (by omega)) ?_
      intro v22 w29 hp26
      obtain ⟨TEN, hp26, ⟨hNTEN, hlTEN⟩⟩ := hp26
      obtain ⟨a14, c19, rfl, hR78, -, hT14⟩ := id hp26
      have hW220 := Ow.from_ hS14 hp26
      have hS33 := hS14.keep hT14
      have hR79 := hR38.below hT14.toBelow (Nat.le_refl _)
      have hR80 := hR39.below hT14.toBelow (Nat.le_refl _)
      have hW221 := hW57.later hT14.toBelow
      have hW222 := hW58.later hT14.toBelow
      have hW223 := hW59.later hT14.toBelow
      have hW224 := hW60.later hT14.toBelow
      have hW225 := hW61.later hT14.toBelow
      have hW226 := hW62.later hT14.toBelow
      have hW227 := hW63.later hT14.toBelow
      have hA14 := hp26.apart hS14 (m := 0) rfl
      have hnTEN := hNTEN.len
      refine s_call rfl rfl rfl (vs := [.slice a1 A.length c1, .slice a14 TEN.length c19]) ⟨(.t rfl rfl), (.t rfl rfl), trivial⟩ cb17 (DivMod_ok w29 a1 c1 A hR79 a14 c19 TEN hR78 hNA hNTEN (by omega)) ?_
      rintro v23 w30 ⟨Q1, R1, _, _, rfl, hp27, hq3, hNQ1, hNR1, hlQ1, hlR1⟩
      obtain ⟨a15, c20, rfl, hR81, -, hT15⟩ := id hp27
      have hW228 := Ow.from_ hS33 hp27
      have hS34 := hS33.keep hT15
      have hR82 := hR79.below hT15.toBelow (Nat.le_refl _)
      have hR83 := hR80.below hT15.toBelow (Nat.le_refl _)
      have hR84 := hR78.below hT15.toBelow (Nat.le_refl _)
      have hW229 := hW221.later hT15.toBelow
      have hW230 := hW222.later hT15.toBelow
      have hW231 := hW223.later hT15.toBelow
      have hW232 := hW224.later hT15.toBelow
      have hW233 := hW225.later hT15.toBelow
      have hW234 := hW226.later hT15.toBelow
      have hW235 := hW227.later hT15.toBelow
      have hW236 := hW220.later hT15.toBelow
      have hA15 := hp27.apart hS33 (m := 0) rfl
      obtain ⟨a16, c21, rfl, hR85, -, hT16⟩ := id hq3
      have hW237 := Ow.from_ hS33 hq3
      have hA16 := hq3.apart hS33 (m := 0) rfl
      have hnQ1 := hNQ1.len
      have hnR1 := hNR1.len
      have hq : lv Q1 = lv A / 10 := by rw [hlQ1, hlTEN]
      have hr : lv R1 = lv A % 10 := by rw [hlR1, hlTEN]
      refine s_val hS34 rfl rfl (r_move rfl (.t rfl rfl)) ?_
      refine s_val hS34 rfl rfl (r_extract rfl (.t rfl rfl) rfl) ?_
      refine s_val hS34 rfl rfl (r_extract rfl (.t rfl rfl) rfl) ?_
      refine s_val hS34 rfl rfl (r_extract rfl (.t rfl rfl) rfl) ?_
      refine s_val hS34 rfl rfl (r_assign rfl (.t rfl rfl)) ?_
      refine s_val hS34 rfl rfl (r_assign rfl (.t rfl rfl)) ?_
      refine s_val hS34 rfl rfl (r_assign rfl (.t rfl rfl)) ?_
      refine wpList_nil ?_
      refine x_tn ?_
      refine k_reb [(2, .bool false), (3, .slice a1 A.length c1), (4, .slice a2 B.length c2), (7, .int .i64 0), (10, .string (decB (lv A))), (12, .int .i64 ((-1))), (13, .slice a15 Q1.length c20), (14, .slice a16 R1.length c21)] ⟨rfl, rfl, rfl, rfl, rfl, rfl, rfl, rfl, trivial⟩ fun G28 => ?_
      refine wp_seq ?_
      refine k_reg ?_
      refine s_val hS34 rfl rfl (r_move rfl (.t rfl rfl)) ?_
      refine s_call rfl rfl rfl (vs := [.slice a16 R1.length c21]) ⟨(.t rfl rfl), trivial⟩ cb34 (Small_ok w30 a16 c21 R1 hR85 hNR1 (by have := len_of_lt (k := 1) hNR1.nz (by rw [hr]; have := Nat.mod_lt (lv A) (show 0 < 10 by omega); show _ < 4294967296 ^ 1; omega); omega)) ?_
      intro v24 w31 hp28
      obtain ⟨hp28, hB20⟩ := hp28
      have hS36 := hS34.keep hB20
      replace hB20 := hB20.toBelow
      have hR86 := hR82.below hB20 (Nat.le_refl _)
      have hR87 := hR83.below hB20 (Nat.le_refl _)
      have hR88 := hR81.below hB20 (Nat.le_refl _)
      have hR89 := hR85.below hB20 (Nat.le_refl _)
      have hW238 := hW229.later hB20
      have hW239 := hW230.later hB20
      have hW240 := hW231.later hB20
      have hW241 := hW232.later hB20
      have hW242 := hW233.later hB20
      have hW243 := hW234.later hB20
      have hW244 := hW235.later hB20
      have hW245 := hW236.later hB20
      have hW246 := hW228.later hB20
      have hW247 := hW237.later hB20
      obtain rfl := hp28
      refine s_val hS36 rfl rfl (r_move rfl (.t rfl rfl)) ?_
      refine s_val hS36 rfl rfl (r_extract rfl (.t rfl rfl) rfl) ?_
      refine s_val hS36 rfl rfl (r_extract rfl (.t rfl rfl) rfl) ?_
      refine s_val hS36 rfl rfl (r_assign rfl (.t rfl rfl)) ?_
      refine s_val hS36 rfl rfl (r_assign rfl (.t rfl rfl)) ?_
      refine wpList_nil ?_
      refine x_tn ?_
      refine k_reb [(2, .bool false), (3, .slice a1 A.length c1), (4, .slice a2 B.length c2), (7, .int .i64 0), (10, .string (decB (lv A))), (12, .int .i64 ((-1))), (13, .slice a15 Q1.length c20), (15, .int .u64 (((lv R1 : Nat) : Int))), (16, .bool true)] ⟨rfl, rfl, rfl, rfl, rfl, rfl, rfl, rfl, rfl, trivial⟩ fun G29 => ?_
      refine wp_seq ?_
      refine wp_seq ?_
      refine k_reg ?_
      refine s_val hS36 rfl rfl (r_move rfl (.t rfl rfl)) ?_
      refine s_call rfl rfl rfl (vs := [.int .i64 0]) ⟨(.t rfl rfl), trivial⟩ cb13 (num_ok w31 0) ?_
      rintro _ w31 ⟨rfl, rfl⟩
      refine s_val hS36 rfl rfl (r_cmp_f rfl rfl (.t rfl rfl) .c (show ¬ (¬ 0 = 0) from by omega)) ?_
      refine s_val hS36 rfl rfl (r_move rfl (.t rfl rfl)) ?_
      refine s_valg hS36 (wanted_of (j := 3) (b := false) (d := 111) rfl rfl rfl rfl) rfl (r_move rfl (.t rfl rfl)) ?_
      refine s_valg hS36 (wanted_of (j := 3) (b := false) (d := 111) rfl rfl rfl rfl) rfl (r_move rfl (.t rfl rfl)) ?_
      refine s_valg hS36 (wanted_of (j := 3) (b := false) (d := 111) rfl rfl rfl rfl) rfl (r_move rfl (.t rfl rfl)) ?_
      refine s_callg (wanted_of (j := 3) (b := false) (d := 111) rfl rfl rfl rfl) rfl rfl (vs := [.slice a1 A.length c1, .slice a2 B.length c2]) ⟨(.t rfl rfl), (.t rfl rfl), trivial⟩ cb28 (Cmp_ok w31 a1 c1 A hR86 a2 c2 B hR87 hNA hNB) ?_
      rintro _ w32 ⟨hp29, hB21⟩
      have hS37 := hS36.keep hB21
      replace hB21 := hB21.toBelow
      have hR90 := hR86.below hB21 (Nat.le_refl _)
      have hR91 := hR87.below hB21 (Nat.le_refl _)
      have hR92 := hR88.below hB21 (Nat.le_refl _)
      have hW248 := hW238.later hB21
      have hW249 := hW239.later hB21
      have hW250 := hW240.later hB21
      have hW251 := hW241.later hB21
      have hW252 := hW242.later hB21
      have hW253 := hW243.later hB21
      have hW254 := hW244.later hB21
      have hW255 := hW245.later hB21
      have hW256 := hW246.later hB21
      have hW257 := hW247.later hB21
      rcases hp29 with ⟨hc5, rfl⟩ | ⟨hc5, rfl⟩ | ⟨hc5, rfl⟩
      · refine s_valg hS37 (wanted_of (j := 3) (b := false) (d := 111) rfl rfl rfl rfl) rfl (r_cmp_f rfl rfl (.t rfl rfl) (.t rfl rfl) (show ¬ (¬ (-1) = (-1)) from by omega)) ?_
        refine s_val hS37 rfl rfl (r_pick rfl (.t rfl rfl) (.t rfl rfl)) ?_
        refine s_val hS37 rfl rfl (r_move rfl (.t rfl rfl)) ?_
        refine s_valg hS37 (wanted_of (j := 10) (b := false) (d := 118) rfl rfl rfl rfl) rfl (r_move rfl (.t rfl rfl)) ?_
        refine s_valg hS37 (wanted_of (j := 10) (b := false) (d := 118) rfl rfl rfl rfl) rfl (r_lnot rfl (.t rfl rfl)) ?_
        refine s_val hS37 rfl rfl (r_pick rfl (.t rfl rfl) (.t rfl rfl)) ?_
        refine s_val hS37 rfl rfl (r_move rfl (.t rfl rfl)) ?_
        refine s_valg hS37 (wanted_of (j := 14) (b := false) (d := 122) rfl rfl rfl rfl) rfl (r_move rfl (.t rfl rfl)) ?_
        refine s_valg hS37 (wanted_of (j := 14) (b := false) (d := 122) rfl rfl rfl rfl) rfl (r_cmp_f rfl rfl (.t rfl rfl) .c (show ¬ (((lv R1 : Nat) : Int) > 9) from (by omega))) ?_
        refine s_val hS37 rfl rfl (r_pick rfl (.t rfl rfl) (.t rfl rfl)) ?_
        refine s_val hS37 rfl rfl (r_move rfl (.t rfl rfl)) ?_
        refine s_valg hS37 (wanted_of (j := 18) (b := false) (d := 126) rfl rfl rfl rfl) rfl (r_move rfl (.t rfl rfl)) ?_
        refine s_valg hS37 (wanted_of (j := 18) (b := false) (d := 126) rfl rfl rfl rfl) rfl (r_move rfl (.t rfl rfl)) ?_
        refine s_valg hS37 (wanted_of (j := 18) (b := false) (d := 126) rfl rfl rfl rfl) rfl (r_lens rfl rfl Try.underlying9 (.t rfl rfl)) ?_
        refine s_valg hS37 (wanted_of (j := 18) (b := false) (d := 126) rfl rfl rfl rfl) rfl (r_arith rfl rfl (.t rfl rfl) .c (c := ((((decB (lv A)).size) - 1 : Nat) : Int)) (wn_i64 (by show ((((decB (lv A)).size : Nat) : Int) : Int) - 1 = _; omega) (by omega))) ?_
        refine s_valg hS37 (wanted_of (j := 18) (b := false) (d := 126) rfl rfl rfl rfl) rfl (r_idxs (j := ((decB (lv A)).size) - 1) (c := ((decB (lv A)).data.toList.getD (((decB (lv A)).size) - 1) 0).toNat) rfl Try.underlying9 (.t rfl rfl) (.t rfl rfl) rfl (byte_at (by omega)) (byte_lt _)) ?_
        refine s_valg hS37 (wanted_of (j := 18) (b := false) (d := 126) rfl rfl rfl rfl) rfl (r_move rfl (.t rfl rfl)) ?_
        refine s_valg hS37 (wanted_of (j := 18) (b := false) (d := 126) rfl rfl rfl rfl) rfl (r_arith rfl rfl .c (.t rfl rfl) (c := ((48 + (lv R1) : Nat) : Int)) (wn_u64 (by show (48 : Int) + ((lv R1 : Nat) : Int) = _; omega) (by omega))) ?_
        refine s_valg hS37 (wanted_of (j := 18) (b := false) (d := 126) rfl rfl rfl rfl) rfl (r_conv rfl Try.underlying40 Try.underlying5 (.t rfl rfl) (c := ((48 + (lv R1) : Nat) : Int)) (wn_u8 rfl (by omega))) ?_
        refine s_valg hS37 (wanted_of (j := 18) (b := false) (d := 126) rfl rfl rfl rfl) rfl (r_cmp_f rfl rfl (.t rfl rfl) (.t rfl rfl) (show ¬ (¬ ((((decB (lv A)).data.toList.getD (((decB (lv A)).size) - 1) 0).toNat : Nat) : Int) = ((48 + (lv R1) : Nat) : Int)) from (by rw [decB_last, hr]; omega))) ?_
        refine s_val hS37 rfl rfl (r_pick rfl (.t rfl rfl) (.t rfl rfl)) ?_
        refine wpList_nil ?_
        refine x_tn ?_
        refine k_reb [(2, .bool false), (10, .string (decB (lv A))), (13, .slice a15 Q1.length c20), (136, .bool false)] ⟨rfl, rfl, rfl, rfl, trivial⟩ fun G30 => ?_
        refine k_f (.t rfl rfl) ?_
        refine wp_skip ?_
        refine x_tn ?_
        refine k_reb [(2, .bool false), (10, .string (decB (lv A))), (13, .slice a15 Q1.length c20)] ⟨rfl, rfl, rfl, trivial⟩ fun G31 => ?_
        refine wp_seq ?_
        refine a_start mixed hS37 (L := [false, false, false, false, false, false, false, false, false, false, false, false, false, false, false, false, false, false, false, false, false, false]) rfl fun w33 hS38 hB22 => ?_
        have hR93 := hR92.below hB22 (Nat.le_refl _)
        have hW258 := hW248.later hB22
        have hW259 := hW249.later hB22
        have hW260 := hW250.later hB22
        have hW261 := hW251.later hB22
        have hW262 := hW252.later hB22
        have hW263 := hW253.later hB22
        have hW264 := hW254.later hB22
        have hW265 := hW255.later hB22
        have hW266 := hW256.later hB22
        have hW267 := hW257.later hB22
        refine a_take (i := 0) (NoP.then NoP.body) rfl rfl rfl (by kernel_rfl) (L' := [true, false, false, false, false, false, false, false, false, false, false, false, false, false, false, false, false, false, false, false, false, false]) rfl (r_move rfl (.t rfl rfl)) ?_
        refine a_take (i := 1) (NoP.then NoP.body) rfl rfl rfl (by kernel_rfl) (L' := [true, true, false, false, false, false, false, false, false, false, false, false, false, false, false, false, false, false, false, false, false, false]) rfl (r_len rfl rfl Try.underlying27 (.t rfl rfl)) ?_
        by_cases c22 : Q1.length = 0
        · have hq0 : lv Q1 = 0 := by rw [List.eq_nil_of_length_eq_zero (by omega : Q1.length = 0)]; rfl
          have hsm : lv A < 10 := by rw [hq] at hq0; omega
          refine a_take (i := 2) (NoP.then NoP.body) rfl rfl rfl (by kernel_rfl) (L' := [true, true, true, false, false, false, false, false, false, false, false, false, false, false, false, false, false, false, false, false, false, false]) rfl (r_cmp_t rfl rfl (.t rfl rfl) .c (show ((Q1.length : Nat) : Int) = 0 from by omega)) ?_
          refine a_take (i := 3) (NoP.then NoP.body) rfl rfl rfl (by kernel_rfl) (L' := [true, true, true, true, false, false, false, false, false, false, false, false, false, false, false, false, false, false, false, false, false, false]) rfl (r_move rfl (.t rfl rfl)) ?_
          refine a_takeg (i := 4) (NoP.then NoP.body) rfl (wanted_of (j := 3) (b := true) (d := 140) rfl rfl rfl rfl) rfl (by kernel_rfl) (L' := [true, true, true, true, true, false, false, false, false, false, false, false, false, false, false, false, false, false, false, false, false, false]) rfl (r_move rfl (.t rfl rfl)) ?_
          refine a_takeg (i := 5) (NoP.then NoP.body) rfl (wanted_of (j := 3) (b := true) (d := 140) rfl rfl rfl rfl) rfl (by kernel_rfl) (L' := [true, true, true, true, true, true, false, false, false, false, false, false, false, false, false, false, false, false, false, false, false, false]) rfl (r_lens rfl rfl Try.underlying9 (.t rfl rfl)) ?_
          refine a_takeg (i := 6) (NoP.then NoP.body) rfl (wanted_of (j := 3) (b := true) (d := 140) rfl rfl rfl rfl) rfl (by kernel_rfl) (L' := [true, true, true, true, true, true, true, false, false, false, false, false, false, false, false, false, false, false, false, false, false, false]) rfl (r_cmp_t rfl rfl (.t rfl rfl) .c (show (((decB (lv A)).size : Nat) : Int) = 1 from (by rw [decB_size, dl_small hsm]; simp))) ?_
          refine a_take (i := 7) (NoP.then NoP.body) rfl rfl rfl (by kernel_rfl) (L' := [true, true, true, true, true, true, true, true, false, false, false, false, false, false, false, false, false, false, false, false, false, false]) rfl (r_pick rfl (.t rfl rfl) (.t rfl rfl)) ?_
          refine a_take (i := 8) (NoP.then NoP.body) rfl rfl rfl (by kernel_rfl) (L' := [true, true, true, true, true, true, true, true, true, false, false, false, false, false, false, false, false, false, false, false, false, false]) rfl (r_move rfl (.t rfl rfl)) ?_
          refine a_skip (i := 9) (NoP.then NoP.body) rfl (unwanted_of (j := 8) (b := false) (b' := true) (d := 145) rfl rfl rfl rfl rfl) rfl (by kernel_rfl) (L' := [true, true, true, true, true, true, true, true, true, true, false, false, false, false, false, false, false, false, false, false, false, false]) rfl ?_
          refine a_skip (i := 10) (NoP.then NoP.body) rfl (unwanted_of (j := 8) (b := false) (b' := true) (d := 145) rfl rfl rfl rfl rfl) rfl (by kernel_rfl) (L' := [true, true, true, true, true, true, true, true, true, true, true, false, false, false, false, false, false, false, false, false, false, false]) rfl ?_
          refine a_skip (i := 11) (NoP.then NoP.body) rfl (unwanted_of (j := 8) (b := false) (b' := true) (d := 145) rfl rfl rfl rfl rfl) rfl (by kernel_rfl) (L' := [true, true, true, true, true, true, true, true, true, true, true, true, false, false, false, false, false, false, false, false, false, false]) rfl ?_
          refine a_skip (i := 12) (NoP.then NoP.body) rfl (unwanted_of (j := 8) (b := false) (b' := true) (d := 145) rfl rfl rfl rfl rfl) rfl (by kernel_rfl) (L' := [true, true, true, true, true, true, true, true, true, true, true, true, true, false, false, false, false, false, false, false, false, false]) rfl ?_
          refine a_skip (i := 13) (NoP.then NoP.body) rfl (unwanted_of (j := 8) (b := false) (b' := true) (d := 145) rfl rfl rfl rfl rfl) rfl (by kernel_rfl) (L' := [true, true, true, true, true, true, true, true, true, true, true, true, true, true, false, false, false, false, false, false, false, false]) rfl ?_
          refine a_skip (i := 14) (NoP.then NoP.body) rfl (unwanted_of (j := 8) (b := false) (b' := true) (d := 145) rfl rfl rfl rfl rfl) rfl (by kernel_rfl) (L' := [true, true, true, true, true, true, true, true, true, true, true, true, true, true, true, false, false, false, false, false, false, false]) rfl ?_
          refine a_skip (i := 15) (NoP.then NoP.body) rfl (unwanted_of (j := 8) (b := false) (b' := true) (d := 145) rfl rfl rfl rfl rfl) rfl (by kernel_rfl) (L' := [true, true, true, true, true, true, true, true, true, true, true, true, true, true, true, true, false, false, false, false, false, false]) rfl ?_
          refine a_skip (i := 16) (NoP.then NoP.body) rfl (unwanted_of (j := 8) (b := false) (b' := true) (d := 145) rfl rfl rfl rfl rfl) rfl (by kernel_rfl) (L' := [true, true, true, true, true, true, true, true, true, true, true, true, true, true, true, true, true, false, false, false, false, false]) rfl ?_
          refine a_take (i := 17) (NoP.then NoP.body) rfl rfl rfl (by kernel_rfl) (L' := [true, true, true, true, true, true, true, true, true, true, true, true, true, true, true, true, true, true, false, false, false, false]) rfl (r_pick rfl (.t rfl rfl) .c) ?_
          refine a_take (i := 18) (NoP.then NoP.body) rfl rfl rfl (by kernel_rfl) (L' := [true, true, true, true, true, true, true, true, true, true, true, true, true, true, true, true, true, true, true, false, false, false]) rfl (r_move rfl (.t rfl rfl)) ?_
          refine a_oneg (i := 19) (by kernel_rfl) rfl (wanted_of (j := 18) (b := true) (d := 155) rfl rfl rfl rfl) (L' := [true, true, true, true, true, true, true, true, true, true, true, true, true, true, true, true, true, true, true, true, false, false]) rfl ?_
          refine s_callg (wanted_of (j := 18) (b := true) (d := 155) rfl rfl rfl rfl) rfl rfl (vs := []) trivial cb16 (wakes_ok w33 ) ?_
          intro v25 w34 hp30
          obtain ⟨hp30, hB23⟩ := hp30
          have hS39 := hS38.keep hB23
          replace hB23 := hB23.toBelow
          have hR94 := hR93.below hB23 (Nat.le_refl _)
          have hW268 := hW258.later hB23
          have hW269 := hW259.later hB23
          have hW270 := hW260.later hB23
          have hW271 := hW261.later hB23
          have hW272 := hW262.later hB23
          have hW273 := hW263.later hB23
          have hW274 := hW264.later hB23
          have hW275 := hW265.later hB23
          have hW276 := hW266.later hB23
          have hW277 := hW267.later hB23
          obtain rfl := hp30
          refine wpList_nil ?_
          refine x_tn ?_
          refine a_take (i := 20) (NoP.then NoP.body) rfl rfl rfl (by kernel_rfl) (L' := [true, true, true, true, true, true, true, true, true, true, true, true, true, true, true, true, true, true, true, true, true, false]) rfl (r_pick rfl (.t rfl rfl) (.t rfl rfl)) ?_
          refine a_take (i := 21) (NoP.then NoP.body) rfl rfl rfl (by kernel_rfl) (L' := [true, true, true, true, true, true, true, true, true, true, true, true, true, true, true, true, true, true, true, true, true, true]) rfl (r_assign rfl (.t rfl rfl)) ?_
          refine a_done (by kernel_rfl) ?_
          refine x_tn ?_
          refine k_reb [(2, .bool true)] ⟨rfl, trivial⟩ fun G32 => ?_
          refine wp_ret ?_
          refine k_ret1 Try.results9 rfl rfl ?_
          refine ⟨_, rfl, ?_⟩
          exact ⟨rfl, hS39.none⟩
        · have hq0 := lv_pos hNQ1.nz (by omega)
          have h10 : 10 ≤ lv A := by rw [hq] at hq0; omega
          refine a_take (i := 2) (NoP.then NoP.body) rfl rfl rfl (by kernel_rfl) (L' := [true, true, true, false, false, false, false, false, false, false, false, false, false, false, false, false, false, false, false, false, false, false]) rfl (r_cmp_f rfl rfl (.t rfl rfl) .c (show ¬ (((Q1.length : Nat) : Int) = 0) from by omega)) ?_
          refine a_take (i := 3) (NoP.then NoP.body) rfl rfl rfl (by kernel_rfl) (L' := [true, true, true, true, false, false, false, false, false, false, false, false, false, false, false, false, false, false, false, false, false, false]) rfl (r_move rfl (.t rfl rfl)) ?_
          refine a_skip (i := 4) (NoP.then NoP.body) rfl (unwanted_of (j := 3) (b := true) (b' := false) (d := 140) rfl rfl rfl rfl rfl) rfl (by kernel_rfl) (L' := [true, true, true, true, true, false, false, false, false, false, false, false, false, false, false, false, false, false, false, false, false, false]) rfl ?_
          refine a_skip (i := 5) (NoP.then NoP.body) rfl (unwanted_of (j := 3) (b := true) (b' := false) (d := 140) rfl rfl rfl rfl rfl) rfl (by kernel_rfl) (L' := [true, true, true, true, true, true, false, false, false, false, false, false, false, false, false, false, false, false, false, false, false, false]) rfl ?_
          refine a_skip (i := 6) (NoP.then NoP.body) rfl (unwanted_of (j := 3) (b := true) (b' := false) (d := 140) rfl rfl rfl rfl rfl) rfl (by kernel_rfl) (L' := [true, true, true, true, true, true, true, false, false, false, false, false, false, false, false, false, false, false, false, false, false, false]) rfl ?_
          refine a_take (i := 7) (NoP.then NoP.body) rfl rfl rfl (by kernel_rfl) (L' := [true, true, true, true, true, true, true, true, false, false, false, false, false, false, false, false, false, false, false, false, false, false]) rfl (r_pick rfl (.t rfl rfl) .c) ?_
          refine a_take (i := 8) (NoP.then NoP.body) rfl rfl rfl (by kernel_rfl) (L' := [true, true, true, true, true, true, true, true, true, false, false, false, false, false, false, false, false, false, false, false, false, false]) rfl (r_move rfl (.t rfl rfl)) ?_
          refine a_takeg (i := 9) (NoP.then NoP.body) rfl (wanted_of (j := 8) (b := false) (d := 145) rfl rfl rfl rfl) rfl (by kernel_rfl) (L' := [true, true, true, true, true, true, true, true, true, true, false, false, false, false, false, false, false, false, false, false, false, false]) rfl (r_move rfl (.t rfl rfl)) ?_
          refine a_takeg (i := 11) (NoP.then NoP.body) rfl (wanted_of (j := 8) (b := false) (d := 145) rfl rfl rfl rfl) rfl (by kernel_rfl) (L' := [true, true, true, true, true, true, true, true, true, true, false, true, false, false, false, false, false, false, false, false, false, false]) rfl (r_move rfl (.t rfl rfl)) ?_
          refine a_takeg (i := 12) (NoP.then NoP.body) rfl (wanted_of (j := 8) (b := false) (d := 145) rfl rfl rfl rfl) rfl (by kernel_rfl) (L' := [true, true, true, true, true, true, true, true, true, true, false, true, true, false, false, false, false, false, false, false, false, false]) rfl (r_move rfl (.t rfl rfl)) ?_
          refine a_takeg (i := 13) (NoP.then NoP.body) rfl (wanted_of (j := 8) (b := false) (d := 145) rfl rfl rfl rfl) rfl (by kernel_rfl) (L' := [true, true, true, true, true, true, true, true, true, true, false, true, true, true, false, false, false, false, false, false, false, false]) rfl (r_lens rfl rfl Try.underlying9 (.t rfl rfl)) ?_
          refine a_takeg (i := 14) (NoP.then NoP.body) rfl (wanted_of (j := 8) (b := false) (d := 145) rfl rfl rfl rfl) rfl (by kernel_rfl) (L' := [true, true, true, true, true, true, true, true, true, true, false, true, true, true, true, false, false, false, false, false, false, false]) rfl (r_arith rfl rfl (.t rfl rfl) .c (c := ((((decB (lv A)).size) - 1 : Nat) : Int)) (wn_i64 (by show ((((decB (lv A)).size : Nat) : Int) : Int) - 1 = _; omega) (by omega))) ?_
          refine a_takeg (i := 15) (NoP.then NoP.body) rfl (wanted_of (j := 8) (b := false) (d := 145) rfl rfl rfl rfl) rfl (by kernel_rfl) (L' := [true, true, true, true, true, true, true, true, true, true, false, true, true, true, true, true, false, false, false, false, false, false]) rfl (r_cutstr (hh := ((decB (lv A)).size) - 1) rfl Try.underlying9 (.t rfl rfl) (.s (.t rfl rfl)) (by omega) (decB_front h10)) ?_
          refine a_oneg (i := 10) (by kernel_rfl) rfl (wanted_of (j := 8) (b := false) (d := 145) rfl rfl rfl rfl) (L' := [true, true, true, true, true, true, true, true, true, true, true, true, true, true, true, true, false, false, false, false, false, false]) rfl ?_
          refine s_callg (wanted_of (j := 8) (b := false) (d := 145) rfl rfl rfl rfl) rfl rfl (vs := [.slice a15 Q1.length c20]) ⟨(.t rfl rfl), trivial⟩ cb30 (Text_ok w33 a15 c20 Q1 hR93 hNQ1) ?_
          intro v26 w35 hp31
          obtain ⟨hp31, hB24⟩ := hp31
          have hS40 := hS38.keep hB24
          replace hB24 := hB24.toBelow
          have hR95 := hR93.below hB24 (Nat.le_refl _)
          have hW278 := hW258.later hB24
          have hW279 := hW259.later hB24
          have hW280 := hW260.later hB24
          have hW281 := hW261.later hB24
          have hW282 := hW262.later hB24
          have hW283 := hW263.later hB24
          have hW284 := hW264.later hB24
          have hW285 := hW265.later hB24
          have hW286 := hW266.later hB24
          have hW287 := hW267.later hB24
          obtain rfl := hp31
          refine wpList_nil ?_
          refine x_tn ?_
          refine a_takeg (i := 16) (NoP.then NoP.body) rfl (wanted_of (j := 8) (b := false) (d := 145) rfl rfl rfl rfl) rfl (by kernel_rfl) (L' := [true, true, true, true, true, true, true, true, true, true, true, true, true, true, true, true, true, false, false, false, false, false]) rfl (r_eqstr rfl (.t rfl rfl) (.t rfl rfl) (r := true) (str_same (by rw [hq]))) ?_
          refine a_take (i := 17) (NoP.then NoP.body) rfl rfl rfl (by kernel_rfl) (L' := [true, true, true, true, true, true, true, true, true, true, true, true, true, true, true, true, true, true, false, false, false, false]) rfl (r_pick rfl (.t rfl rfl) (.t rfl rfl)) ?_
          refine a_take (i := 18) (NoP.then NoP.body) rfl rfl rfl (by kernel_rfl) (L' := [true, true, true, true, true, true, true, true, true, true, true, true, true, true, true, true, true, true, true, false, false, false]) rfl (r_move rfl (.t rfl rfl)) ?_
          refine a_oneg (i := 19) (by kernel_rfl) rfl (wanted_of (j := 18) (b := true) (d := 155) rfl rfl rfl rfl) (L' := [true, true, true, true, true, true, true, true, true, true, true, true, true, true, true, true, true, true, true, true, false, false]) rfl ?_
          refine s_callg (wanted_of (j := 18) (b := true) (d := 155) rfl rfl rfl rfl) rfl rfl (vs := []) trivial cb16 (wakes_ok w35 ) ?_
          intro v27 w36 hp32
          obtain ⟨hp32, hB25⟩ := hp32
          have hS41 := hS40.keep hB25
          replace hB25 := hB25.toBelow
          have hR96 := hR95.below hB25 (Nat.le_refl _)
          have hW288 := hW278.later hB25
          have hW289 := hW279.later hB25
          have hW290 := hW280.later hB25
          have hW291 := hW281.later hB25
          have hW292 := hW282.later hB25
          have hW293 := hW283.later hB25
          have hW294 := hW284.later hB25
          have hW295 := hW285.later hB25
          have hW296 := hW286.later hB25
          have hW297 := hW287.later hB25
          obtain rfl := hp32
          refine wpList_nil ?_
          refine x_tn ?_
          refine a_take (i := 20) (NoP.then NoP.body) rfl rfl rfl (by kernel_rfl) (L' := [true, true, true, true, true, true, true, true, true, true, true, true, true, true, true, true, true, true, true, true, true, false]) rfl (r_pick rfl (.t rfl rfl) (.t rfl rfl)) ?_
          refine a_take (i := 21) (NoP.then NoP.body) rfl rfl rfl (by kernel_rfl) (L' := [true, true, true, true, true, true, true, true, true, true, true, true, true, true, true, true, true, true, true, true, true, true]) rfl (r_assign rfl (.t rfl rfl)) ?_
          refine a_done (by kernel_rfl) ?_
          refine x_tn ?_
          refine k_reb [(2, .bool true)] ⟨rfl, trivial⟩ fun G33 => ?_
          refine wp_ret ?_
          refine k_ret1 Try.results9 rfl rfl ?_
          refine ⟨_, rfl, ?_⟩
          exact ⟨rfl, hS41.none⟩
      · exfalso; (try simp only [hlTEN] at hc5); omega
      · exfalso; (try simp only [hlTEN] at hc5); omega
    · refine s_valg hS14 (wanted_of (j := 18) (b := true) (d := 87) rfl rfl rfl rfl) rfl (r_ltstr rfl (.t rfl rfl) (.t rfl rfl) (r := false) (by rw [decB_less hdl]; exact decide_eq_false c18)) ?_
      refine s_valg hS14 (wanted_of (j := 12) (b := false) (d := 81) rfl rfl rfl rfl) rfl (r_pick rfl (.t rfl rfl) (.t rfl rfl)) ?_
      refine s_val hS14 rfl rfl (r_pick rfl (.t rfl rfl) (.t rfl rfl)) ?_
      refine wpList_nil ?_
      refine x_tn ?_
      refine k_reb [(2, .bool false), (3, .slice a1 A.length c1), (4, .slice a2 B.length c2), (7, .int .i64 0), (10, .string (decB (lv A))), (11, .string (decB (lv B))), (12, .int .i64 0), (92, .bool false)] ⟨rfl, rfl, rfl, rfl, rfl, rfl, rfl, rfl, trivial⟩ fun G34 => ?_
      refine k_f (.t rfl rfl) ?_
      refine wp_seq ?_
      refine k_reg ?_
      refine s_val hS14 rfl rfl (r_move rfl (.t rfl rfl)) ?_
      refine s_val hS14 rfl rfl (r_move rfl (.t rfl rfl)) ?_
      by_cases c23 : lv A = lv B
      · refine s_val hS14 rfl rfl (r_nestr rfl (.t rfl rfl) (.t rfl rfl) (r := false) (by rw [c23]; simp)) ?_
        refine wpList_nil ?_
        refine x_tn ?_
        refine k_reb [(2, .bool false), (3, .slice a1 A.length c1), (4, .slice a2 B.length c2), (7, .int .i64 0), (10, .string (decB (lv A))), (12, .int .i64 0), (95, .bool false)] ⟨rfl, rfl, rfl, rfl, rfl, rfl, rfl, trivial⟩ fun G35 => ?_
        refine k_f (.t rfl rfl) ?_
        refine wp_skip ?_
        refine x_tn ?_
        refine k_reb [(2, .bool false), (3, .slice a1 A.length c1), (4, .slice a2 B.length c2), (7, .int .i64 0), (10, .string (decB (lv A))), (12, .int .i64 0)] ⟨rfl, rfl, rfl, rfl, rfl, rfl, trivial⟩ fun G36 => ?_
        refine wp_seq ?_
        refine k_reg ?_
        refine s_val hS14 rfl rfl (r_move rfl (.t rfl rfl)) ?_
        refine s_call rfl rfl rfl (vs := [.int .u64 10]) ⟨.c, trivial⟩ cb18 (from_ok w12 10 (by omega)) ?_
        intro v28 w37 hp33
        obtain ⟨TEN, hp33, ⟨hNTEN, hlTEN⟩⟩ := hp33
        obtain ⟨a17, c24, rfl, hR97, -, hT17⟩ := id hp33
        have hW298 := Ow.from_ hS14 hp33
        have hS42 := hS14.keep hT17
        have hR98 := hR38.below hT17.toBelow (Nat.le_refl _)
        have hR99 := hR39.below hT17.toBelow (Nat.le_refl _)
        have hW299 := hW57.later hT17.toBelow
        have hW300 := hW58.later hT17.toBelow
        have hW301 := hW59.later hT17.toBelow
        have hW302 := hW60.later hT17.toBelow
        have hW303 := hW61.later hT17.toBelow
        have hW304 := hW62.later hT17.toBelow
        have hW305 := hW63.later hT17.toBelow
        have hA17 := hp33.apart hS14 (m := 0) rfl
        have hnTEN := hNTEN.len
        refine s_call rfl rfl rfl (vs := [.slice a1 A.length c1, .slice a17 TEN.length c24]) ⟨(.t rfl rfl), (.t rfl rfl), trivial⟩ cb17 (DivMod_ok w37 a1 c1 A hR98 a17 c24 TEN hR97 hNA hNTEN (by omega)) ?_
        rintro v29 w38 ⟨Q1, R1, _, _, rfl, hp34, hq4, hNQ1, hNR1, hlQ1, hlR1⟩
        obtain ⟨a18, c25, rfl, hR100, -, hT18⟩ := id hp34
        have hW306 := Ow.from_ hS42 hp34
        have hS43 := hS42.keep hT18
        have hR101 := hR98.below hT18.toBelow (Nat.le_refl _)
        have hR102 := hR99.below hT18.toBelow (Nat.le_refl _)
        have hR103 := hR97.below hT18.toBelow (Nat.le_refl _)
        have hW307 := hW299.later hT18.toBelow
        have hW308 := hW300.later hT18.toBelow
        have hW309 := hW301.later hT18.toBelow
        have hW310 := hW302.later hT18.toBelow
        have hW311 := hW303.later hT18.toBelow
        have hW312 := hW304.later hT18.toBelow
        have hW313 := hW305.later hT18.toBelow
        have hW314 := hW298.later hT18.toBelow
        have hA18 := hp34.apart hS42 (m := 0) rfl
        obtain ⟨a19, c26, rfl, hR104, -, hT19⟩ := id hq4
        have hW315 := Ow.from_ hS42 hq4
        have hA19 := hq4.apart hS42 (m := 0) rfl
        have hnQ1 := hNQ1.len
        have hnR1 := hNR1.len
        have hq : lv Q1 = lv A / 10 := by rw [hlQ1, hlTEN]
        have hr : lv R1 = lv A % 10 := by rw [hlR1, hlTEN]
        refine s_val hS43 rfl rfl (r_move rfl (.t rfl rfl)) ?_
        refine s_val hS43 rfl rfl (r_extract rfl (.t rfl rfl) rfl) ?_
        refine s_val hS43 rfl rfl (r_extract rfl (.t rfl rfl) rfl) ?_
        refine s_val hS43 rfl rfl (r_extract rfl (.t rfl rfl) rfl) ?_
        refine s_val hS43 rfl rfl (r_assign rfl (.t rfl rfl)) ?_
        refine s_val hS43 rfl rfl (r_assign rfl (.t rfl rfl)) ?_
        refine s_val hS43 rfl rfl (r_assign rfl (.t rfl rfl)) ?_
        refine wpList_nil ?_
        refine x_tn ?_
        refine k_reb [(2, .bool false), (3, .slice a1 A.length c1), (4, .slice a2 B.length c2), (7, .int .i64 0), (10, .string (decB (lv A))), (12, .int .i64 0), (13, .slice a18 Q1.length c25), (14, .slice a19 R1.length c26)] ⟨rfl, rfl, rfl, rfl, rfl, rfl, rfl, rfl, trivial⟩ fun G37 => ?_
        refine wp_seq ?_
        refine k_reg ?_
        refine s_val hS43 rfl rfl (r_move rfl (.t rfl rfl)) ?_
        refine s_call rfl rfl rfl (vs := [.slice a19 R1.length c26]) ⟨(.t rfl rfl), trivial⟩ cb34 (Small_ok w38 a19 c26 R1 hR104 hNR1 (by have := len_of_lt (k := 1) hNR1.nz (by rw [hr]; have := Nat.mod_lt (lv A) (show 0 < 10 by omega); show _ < 4294967296 ^ 1; omega); omega)) ?_
        intro v30 w39 hp35
        obtain ⟨hp35, hB26⟩ := hp35
        have hS45 := hS43.keep hB26
        replace hB26 := hB26.toBelow
        have hR105 := hR101.below hB26 (Nat.le_refl _)
        have hR106 := hR102.below hB26 (Nat.le_refl _)
        have hR107 := hR100.below hB26 (Nat.le_refl _)
        have hR108 := hR104.below hB26 (Nat.le_refl _)
        have hW316 := hW307.later hB26
        have hW317 := hW308.later hB26
        have hW318 := hW309.later hB26
        have hW319 := hW310.later hB26
        have hW320 := hW311.later hB26
        have hW321 := hW312.later hB26
        have hW322 := hW313.later hB26
        have hW323 := hW314.later hB26
        have hW324 := hW306.later hB26
        have hW325 := hW315.later hB26
        obtain rfl := hp35
        refine s_val hS45 rfl rfl (r_move rfl (.t rfl rfl)) ?_
        refine s_val hS45 rfl rfl (r_extract rfl (.t rfl rfl) rfl) ?_
        refine s_val hS45 rfl rfl (r_extract rfl (.t rfl rfl) rfl) ?_
        refine s_val hS45 rfl rfl (r_assign rfl (.t rfl rfl)) ?_
        refine s_val hS45 rfl rfl (r_assign rfl (.t rfl rfl)) ?_
        refine wpList_nil ?_
        refine x_tn ?_
        refine k_reb [(2, .bool false), (3, .slice a1 A.length c1), (4, .slice a2 B.length c2), (7, .int .i64 0), (10, .string (decB (lv A))), (12, .int .i64 0), (13, .slice a18 Q1.length c25), (15, .int .u64 (((lv R1 : Nat) : Int))), (16, .bool true)] ⟨rfl, rfl, rfl, rfl, rfl, rfl, rfl, rfl, rfl, trivial⟩ fun G38 => ?_
        refine wp_seq ?_
        refine wp_seq ?_
        refine k_reg ?_
        refine s_val hS45 rfl rfl (r_move rfl (.t rfl rfl)) ?_
        refine s_call rfl rfl rfl (vs := [.int .i64 0]) ⟨(.t rfl rfl), trivial⟩ cb13 (num_ok w39 0) ?_
        rintro _ w39 ⟨rfl, rfl⟩
        refine s_val hS45 rfl rfl (r_cmp_f rfl rfl (.t rfl rfl) .c (show ¬ (¬ 0 = 0) from by omega)) ?_
        refine s_val hS45 rfl rfl (r_move rfl (.t rfl rfl)) ?_
        refine s_valg hS45 (wanted_of (j := 3) (b := false) (d := 111) rfl rfl rfl rfl) rfl (r_move rfl (.t rfl rfl)) ?_
        refine s_valg hS45 (wanted_of (j := 3) (b := false) (d := 111) rfl rfl rfl rfl) rfl (r_move rfl (.t rfl rfl)) ?_
        refine s_valg hS45 (wanted_of (j := 3) (b := false) (d := 111) rfl rfl rfl rfl) rfl (r_move rfl (.t rfl rfl)) ?_
        refine s_callg (wanted_of (j := 3) (b := false) (d := 111) rfl rfl rfl rfl) rfl rfl (vs := [.slice a1 A.length c1, .slice a2 B.length c2]) ⟨(.t rfl rfl), (.t rfl rfl), trivial⟩ cb28 (Cmp_ok w39 a1 c1 A hR105 a2 c2 B hR106 hNA hNB) ?_
        rintro _ w40 ⟨hp36, hB27⟩
        have hS46 := hS45.keep hB27
        replace hB27 := hB27.toBelow
        have hR109 := hR105.below hB27 (Nat.le_refl _)
        have hR110 := hR106.below hB27 (Nat.le_refl _)
        have hR111 := hR107.below hB27 (Nat.le_refl _)
        have hW326 := hW316.later hB27
        have hW327 := hW317.later hB27
        have hW328 := hW318.later hB27
        have hW329 := hW319.later hB27
        have hW330 := hW320.later hB27
        have hW331 := hW321.later hB27
        have hW332 := hW322.later hB27
        have hW333 := hW323.later hB27
        have hW334 := hW324.later hB27
        have hW335 := hW325.later hB27
        rcases hp36 with ⟨hc6, rfl⟩ | ⟨hc6, rfl⟩ | ⟨hc6, rfl⟩
        · exfalso; (try simp only [hlTEN] at hc6); omega
        · refine s_valg hS46 (wanted_of (j := 3) (b := false) (d := 111) rfl rfl rfl rfl) rfl (r_cmp_f rfl rfl (.t rfl rfl) (.t rfl rfl) (show ¬ (¬ 0 = 0) from by omega)) ?_
          refine s_val hS46 rfl rfl (r_pick rfl (.t rfl rfl) (.t rfl rfl)) ?_
          refine s_val hS46 rfl rfl (r_move rfl (.t rfl rfl)) ?_
          refine s_valg hS46 (wanted_of (j := 10) (b := false) (d := 118) rfl rfl rfl rfl) rfl (r_move rfl (.t rfl rfl)) ?_
          refine s_valg hS46 (wanted_of (j := 10) (b := false) (d := 118) rfl rfl rfl rfl) rfl (r_lnot rfl (.t rfl rfl)) ?_
          refine s_val hS46 rfl rfl (r_pick rfl (.t rfl rfl) (.t rfl rfl)) ?_
          refine s_val hS46 rfl rfl (r_move rfl (.t rfl rfl)) ?_
          refine s_valg hS46 (wanted_of (j := 14) (b := false) (d := 122) rfl rfl rfl rfl) rfl (r_move rfl (.t rfl rfl)) ?_
          refine s_valg hS46 (wanted_of (j := 14) (b := false) (d := 122) rfl rfl rfl rfl) rfl (r_cmp_f rfl rfl (.t rfl rfl) .c (show ¬ (((lv R1 : Nat) : Int) > 9) from (by omega))) ?_
          refine s_val hS46 rfl rfl (r_pick rfl (.t rfl rfl) (.t rfl rfl)) ?_
          refine s_val hS46 rfl rfl (r_move rfl (.t rfl rfl)) ?_
          refine s_valg hS46 (wanted_of (j := 18) (b := false) (d := 126) rfl rfl rfl rfl) rfl (r_move rfl (.t rfl rfl)) ?_
          refine s_valg hS46 (wanted_of (j := 18) (b := false) (d := 126) rfl rfl rfl rfl) rfl (r_move rfl (.t rfl rfl)) ?_
          refine s_valg hS46 (wanted_of (j := 18) (b := false) (d := 126) rfl rfl rfl rfl) rfl (r_lens rfl rfl Try.underlying9 (.t rfl rfl)) ?_
          refine s_valg hS46 (wanted_of (j := 18) (b := false) (d := 126) rfl rfl rfl rfl) rfl (r_arith rfl rfl (.t rfl rfl) .c (c := ((((decB (lv A)).size) - 1 : Nat) : Int)) (wn_i64 (by show ((((decB (lv A)).size : Nat) : Int) : Int) - 1 = _; omega) (by omega))) ?_
          refine s_valg hS46 (wanted_of (j := 18) (b := false) (d := 126) rfl rfl rfl rfl) rfl (r_idxs (j := ((decB (lv A)).size) - 1) (c := ((decB (lv A)).data.toList.getD (((decB (lv A)).size) - 1) 0).toNat) rfl Try.underlying9 (.t rfl rfl) (.t rfl rfl) rfl (byte_at (by omega)) (byte_lt _)) ?_
          refine s_valg hS46 (wanted_of (j := 18) (b := false) (d := 126) rfl rfl rfl rfl) rfl (r_move rfl (.t rfl rfl)) ?_
          refine s_valg hS46 (wanted_of (j := 18) (b := false) (d := 126) rfl rfl rfl rfl) rfl (r_arith rfl rfl .c (.t rfl rfl) (c := ((48 + (lv R1) : Nat) : Int)) (wn_u64 (by show (48 : Int) + ((lv R1 : Nat) : Int) = _; omega) (by omega))) ?_
          refine s_valg hS46 (wanted_of (j := 18) (b := false) (d := 126) rfl rfl rfl rfl) rfl (r_conv rfl Try.underlying40 Try.underlying5 (.t rfl rfl) (c := ((48 + (lv R1) : Nat) : Int)) (wn_u8 rfl (by omega))) ?_
          refine s_valg hS46 (wanted_of (j := 18) (b := false) (d := 126) rfl rfl rfl rfl) rfl (r_cmp_f rfl rfl (.t rfl rfl) (.t rfl rfl) (show ¬ (¬ ((((decB (lv A)).data.toList.getD (((decB (lv A)).size) - 1) 0).toNat : Nat) : Int) = ((48 + (lv R1) : Nat) : Int)) from (by rw [decB_last, hr]; omega))) ?_
          refine s_val hS46 rfl rfl (r_pick rfl (.t rfl rfl) (.t rfl rfl)) ?_
          refine wpList_nil ?_
          refine x_tn ?_
          refine k_reb [(2, .bool false), (10, .string (decB (lv A))), (13, .slice a18 Q1.length c25), (136, .bool false)] ⟨rfl, rfl, rfl, rfl, trivial⟩ fun G39 => ?_
          refine k_f (.t rfl rfl) ?_
          refine wp_skip ?_
          refine x_tn ?_
          refine k_reb [(2, .bool false), (10, .string (decB (lv A))), (13, .slice a18 Q1.length c25)] ⟨rfl, rfl, rfl, trivial⟩ fun G40 => ?_
          refine wp_seq ?_
          refine a_start mixed hS46 (L := [false, false, false, false, false, false, false, false, false, false, false, false, false, false, false, false, false, false, false, false, false, false]) rfl fun w41 hS47 hB28 => ?_
          have hR112 := hR111.below hB28 (Nat.le_refl _)
          have hW336 := hW326.later hB28
          have hW337 := hW327.later hB28
          have hW338 := hW328.later hB28
          have hW339 := hW329.later hB28
          have hW340 := hW330.later hB28
          have hW341 := hW331.later hB28
          have hW342 := hW332.later hB28
          have hW343 := hW333.later hB28
          have hW344 := hW334.later hB28
          have hW345 := hW335.later hB28
          refine a_take (i := 0) (NoP.then NoP.body) rfl rfl rfl (by kernel_rfl) (L' := [true, false, false, false, false, false, false, false, false, false, false, false, false, false, false, false, false, false, false, false, false, false]) rfl (r_move rfl (.t rfl rfl)) ?_
          refine a_take (i := 1) (NoP.then NoP.body) rfl rfl rfl (by kernel_rfl) (L' := [true, true, false, false, false, false, false, false, false, false, false, false, false, false, false, false, false, false, false, false, false, false]) rfl (r_len rfl rfl Try.underlying27 (.t rfl rfl)) ?_
          by_cases c27 : Q1.length = 0
          · have hq0 : lv Q1 = 0 := by rw [List.eq_nil_of_length_eq_zero (by omega : Q1.length = 0)]; rfl
            have hsm : lv A < 10 := by rw [hq] at hq0; omega
            refine a_take (i := 2) (NoP.then NoP.body) rfl rfl rfl (by kernel_rfl) (L' := [true, true, true, false, false, false, false, false, false, false, false, false, false, false, false, false, false, false, false, false, false, false]) rfl (r_cmp_t rfl rfl (.t rfl rfl) .c (show ((Q1.length : Nat) : Int) = 0 from by omega)) ?_
            refine a_take (i := 3) (NoP.then NoP.body) rfl rfl rfl (by kernel_rfl) (L' := [true, true, true, true, false, false, false, false, false, false, false, false, false, false, false, false, false, false, false, false, false, false]) rfl (r_move rfl (.t rfl rfl)) ?_
            refine a_takeg (i := 4) (NoP.then NoP.body) rfl (wanted_of (j := 3) (b := true) (d := 140) rfl rfl rfl rfl) rfl (by kernel_rfl) (L' := [true, true, true, true, true, false, false, false, false, false, false, false, false, false, false, false, false, false, false, false, false, false]) rfl (r_move rfl (.t rfl rfl)) ?_
            refine a_takeg (i := 5) (NoP.then NoP.body) rfl (wanted_of (j := 3) (b := true) (d := 140) rfl rfl rfl rfl) rfl (by kernel_rfl) (L' := [true, true, true, true, true, true, false, false, false, false, false, false, false, false, false, false, false, false, false, false, false, false]) rfl (r_lens rfl rfl Try.underlying9 (.t rfl rfl)) ?_
            refine a_takeg (i := 6) (NoP.then NoP.body) rfl (wanted_of (j := 3) (b := true) (d := 140) rfl rfl rfl rfl) rfl (by kernel_rfl) (L' := [true, true, true, true, true, true, true, false, false, false, false, false, false, false, false, false, false, false, false, false, false, false]) rfl (r_cmp_t rfl rfl (.t rfl rfl) .c (show (((decB (lv A)).size : Nat) : Int) = 1 from (by rw [decB_size, dl_small hsm]; simp))) ?_
            refine a_take (i := 7) (NoP.then NoP.body) rfl rfl rfl (by kernel_rfl) (L' := [true, true, true, true, true, true, true, true, false, false, false, false, false, false, false, false, false, false, false, false, false, false]) rfl (r_pick rfl (.t rfl rfl) (.t rfl rfl)) ?_
            refine a_take (i := 8) (NoP.then NoP.body) rfl rfl rfl (by kernel_rfl) (L' := [true, true, true, true, true, true, true, true, true, false, false, false, false, false, false, false, false, false, false, false, false, false]) rfl (r_move rfl (.t rfl rfl)) ?_
            refine a_skip (i := 9) (NoP.then NoP.body) rfl (unwanted_of (j := 8) (b := false) (b' := true) (d := 145) rfl rfl rfl rfl rfl) rfl (by kernel_rfl) (L' := [true, true, true, true, true, true, true, true, true, true, false, false, false, false, false, false, false, false, false, false, false, false]) rfl ?_
            refine a_skip (i := 10) (NoP.then NoP.body) rfl (unwanted_of (j := 8) (b := false) (b' := true) (d := 145) rfl rfl rfl rfl rfl) rfl (by kernel_rfl) (L' := [true, true, true, true, true, true, true, true, true, true, true, false, false, false, false, false, false, false, false, false, false, false]) rfl ?_
            refine a_skip (i := 11) (NoP.then NoP.body) rfl (unwanted_of (j := 8) (b := false) (b' := true) (d := 145) rfl rfl rfl rfl rfl) rfl (by kernel_rfl) (L' := [true, true, true, true, true, true, true, true, true, true, true, true, false, false, false, false, false, false, false, false, false, false]) rfl ?_
            refine a_skip (i := 12) (NoP.then NoP.body) rfl (unwanted_of (j := 8) (b := false) (b' := true) (d := 145) rfl rfl rfl rfl rfl) rfl (by kernel_rfl) (L' := [true, true, true, true, true, true, true, true, true, true, true, true, true, false, false, false, false, false, false, false, false, false]) rfl ?_
            refine a_skip (i := 13) (NoP.then NoP.body) rfl (unwanted_of (j := 8) (b := false) (b' := true) (d := 145) rfl rfl rfl rfl rfl) rfl (by kernel_rfl) (L' := [true, true, true, true, true, true, true, true, true, true, true, true, true, true, false, false, false, false, false, false, false, false]) rfl ?_
            refine a_skip (i := 14) (NoP.then NoP.body) rfl (unwanted_of (j := 8) (b := false) (b' := true) (d := 145) rfl rfl rfl rfl rfl) rfl (by kernel_rfl) (L' := [true, true, true, true, true, true, true, true, true, true, true, true, true, true, true, false, false, false, false, false, false, false]) rfl ?_
            refine a_skip (i := 15) (NoP.then NoP.body) rfl (unwanted_of (j := 8) (b := false) (b' := true) (d := 145) rfl rfl rfl rfl rfl) rfl (by kernel_rfl) (L' := [true, true, true, true, true, true, true, true, true, true, true, true, true, true, true, true, false, false, false, false, false, false]) rfl ?_
            refine a_skip (i := 16) (NoP.then NoP.body) rfl (unwanted_of (j := 8) (b := false) (b' := true) (d := 145) rfl rfl rfl rfl rfl) rfl (by kernel_rfl) (L' := [true, true, true, true, true, true, true, true, true, true, true, true, true, true, true, true, true, false, false, false, false, false]) rfl ?_
            refine a_take (i := 17) (NoP.then NoP.body) rfl rfl rfl (by kernel_rfl) (L' := [true, true, true, true, true, true, true, true, true, true, true, true, true, true, true, true, true, true, false, false, false, false]) rfl (r_pick rfl (.t rfl rfl) .c) ?_
            refine a_take (i := 18) (NoP.then NoP.body) rfl rfl rfl (by kernel_rfl) (L' := [true, true, true, true, true, true, true, true, true, true, true, true, true, true, true, true, true, true, true, false, false, false]) rfl (r_move rfl (.t rfl rfl)) ?_
            refine a_oneg (i := 19) (by kernel_rfl) rfl (wanted_of (j := 18) (b := true) (d := 155) rfl rfl rfl rfl) (L' := [true, true, true, true, true, true, true, true, true, true, true, true, true, true, true, true, true, true, true, true, false, false]) rfl ?_
            refine s_callg (wanted_of (j := 18) (b := true) (d := 155) rfl rfl rfl rfl) rfl rfl (vs := []) trivial cb16 (wakes_ok w41 ) ?_
            intro v31 w42 hp37
            obtain ⟨hp37, hB29⟩ := hp37
            have hS48 := hS47.keep hB29
            replace hB29 := hB29.toBelow
            have hR113 := hR112.below hB29 (Nat.le_refl _)
            have hW346 := hW336.later hB29
            have hW347 := hW337.later hB29
            have hW348 := hW338.later hB29
            have hW349 := hW339.later hB29
            have hW350 := hW340.later hB29
            have hW351 := hW341.later hB29
            have hW352 := hW342.later hB29
            have hW353 := hW343.later hB29
            have hW354 := hW344.later hB29
            have hW355 := hW345.later hB29
            obtain rfl := hp37
            refine wpList_nil ?_
            refine x_tn ?_
            refine a_take (i := 20) (NoP.then NoP.body) rfl rfl rfl (by kernel_rfl) (L' := [true, true, true, true, true, true, true, true, true, true, true, true, true, true, true, true, true, true, true, true, true, false]) rfl (r_pick rfl (.t rfl rfl) (.t rfl rfl)) ?_
            refine a_take (i := 21) (NoP.then NoP.body) rfl rfl rfl (by kernel_rfl) (L' := [true, true, true, true, true, true, true, true, true, true, true, true, true, true, true, true, true, true, true, true, true, true]) rfl (r_assign rfl (.t rfl rfl)) ?_
            refine a_done (by kernel_rfl) ?_
            refine x_tn ?_
            refine k_reb [(2, .bool true)] ⟨rfl, trivial⟩ fun G41 => ?_
            refine wp_ret ?_
            refine k_ret1 Try.results9 rfl rfl ?_
            refine ⟨_, rfl, ?_⟩
            exact ⟨rfl, hS48.none⟩
          · have hq0 := lv_pos hNQ1.nz (by omega)
            have h10 : 10 ≤ lv A := by rw [hq] at hq0; omega
            refine a_take (i := 2) (NoP.then NoP.body) rfl rfl rfl (by kernel_rfl) (L' := [true, true, true, false, false, false, false, false, false, false, false, false, false, false, false, false, false, false, false, false, false, false]) rfl (r_cmp_f rfl rfl (.t rfl rfl) .c (show ¬ (((Q1.length : Nat) : Int) = 0) from by omega)) ?_
            refine a_take (i := 3) (NoP.then NoP.body) rfl rfl rfl (by kernel_rfl) (L' := [true, true, true, true, false, false, false, false, false, false, false, false, false, false, false, false, false, false, false, false, false, false]) rfl (r_move rfl (.t rfl rfl)) ?_
            refine a_skip (i := 4) (NoP.then NoP.body) rfl (unwanted_of (j := 3) (b := true) (b' := false) (d := 140) rfl rfl rfl rfl rfl) rfl (by kernel_rfl) (L' := [true, true, true, true, true, false, false, false, false, false, false, false, false, false, false, false, false, false, false, false, false, false]) rfl ?_
            refine a_skip (i := 5) (NoP.then NoP.body) rfl (unwanted_of (j := 3) (b := true) (b' := false) (d := 140) rfl rfl rfl rfl rfl) rfl (by kernel_rfl) (L' := [true, true, true, true, true, true, false, false, false, false, false, false, false, false, false, false, false, false, false, false, false, false]) rfl ?_
            refine a_skip (i := 6) (NoP.then NoP.body) rfl (unwanted_of (j := 3) (b := true) (b' := false) (d := 140) rfl rfl rfl rfl rfl) rfl (by kernel_rfl) (L' := [true, true, true, true, true, true, true, false, false, false, false, false, false, false, false, false, false, false, false, false, false, false]) rfl ?_
            refine a_take (i := 7) (NoP.then NoP.body) rfl rfl rfl (by kernel_rfl) (L' := [true, true, true, true, true, true, true, true, false, false, false, false, false, false, false, false, false, false, false, false, false, false]) rfl (r_pick rfl (.t rfl rfl) .c) ?_
            refine a_take (i := 8) (NoP.then NoP.body) rfl rfl rfl (by kernel_rfl) (L' := [true, true, true, true, true, true, true, true, true, false, false, false, false, false, false, false, false, false, false, false, false, false]) rfl (r_move rfl (.t rfl rfl)) ?_
            refine a_takeg (i := 9) (NoP.then NoP.body) rfl (wanted_of (j := 8) (b := false) (d := 145) rfl rfl rfl rfl) rfl (by kernel_rfl) (L' := [true, true, true, true, true, true, true, true, true, true, false, false, false, false, false, false, false, false, false, false, false, false]) rfl (r_move rfl (.t rfl rfl)) ?_
            refine a_takeg (i := 11) (NoP.then NoP.body) rfl (wanted_of (j := 8) (b := false) (d := 145) rfl rfl rfl rfl) rfl (by kernel_rfl) (L' := [true, true, true, true, true, true, true, true, true, true, false, true, false, false, false, false, false, false, false, false, false, false]) rfl (r_move rfl (.t rfl rfl)) ?_
            refine a_takeg (i := 12) (NoP.then NoP.body) rfl (wanted_of (j := 8) (b := false) (d := 145) rfl rfl rfl rfl) rfl (by kernel_rfl) (L' := [true, true, true, true, true, true, true, true, true, true, false, true, true, false, false, false, false, false, false, false, false, false]) rfl (r_move rfl (.t rfl rfl)) ?_
            refine a_takeg (i := 13) (NoP.then NoP.body) rfl (wanted_of (j := 8) (b := false) (d := 145) rfl rfl rfl rfl) rfl (by kernel_rfl) (L' := [true, true, true, true, true, true, true, true, true, true, false, true, true, true, false, false, false, false, false, false, false, false]) rfl (r_lens rfl rfl Try.underlying9 (.t rfl rfl)) ?_
            refine a_takeg (i := 14) (NoP.then NoP.body) rfl (wanted_of (j := 8) (b := false) (d := 145) rfl rfl rfl rfl) rfl (by kernel_rfl) (L' := [true, true, true, true, true, true, true, true, true, true, false, true, true, true, true, false, false, false, false, false, false, false]) rfl (r_arith rfl rfl (.t rfl rfl) .c (c := ((((decB (lv A)).size) - 1 : Nat) : Int)) (wn_i64 (by show ((((decB (lv A)).size : Nat) : Int) : Int) - 1 = _; omega) (by omega))) ?_
            refine a_takeg (i := 15) (NoP.then NoP.body) rfl (wanted_of (j := 8) (b := false) (d := 145) rfl rfl rfl rfl) rfl (by kernel_rfl) (L' := [true, true, true, true, true, true, true, true, true, true, false, true, true, true, true, true, false, false, false, false, false, false]) rfl (r_cutstr (hh := ((decB (lv A)).size) - 1) rfl Try.underlying9 (.t rfl rfl) (.s (.t rfl rfl)) (by omega) (decB_front h10)) ?_
            refine a_oneg (i := 10) (by kernel_rfl) rfl (wanted_of (j := 8) (b := false) (d := 145) rfl rfl rfl rfl) (L' := [true, true, true, true, true, true, true, true, true, true, true, true, true, true, true, true, false, false, false, false, false, false]) rfl ?_
            refine s_callg (wanted_of (j := 8) (b := false) (d := 145) rfl rfl rfl rfl) rfl rfl (vs := [.slice a18 Q1.length c25]) ⟨(.t rfl rfl), trivial⟩ cb30 (Text_ok w41 a18 c25 Q1 hR112 hNQ1) ?_
            intro v32 w43 hp38
            obtain ⟨hp38, hB30⟩ := hp38
            have hS49 := hS47.keep hB30
            replace hB30 := hB30.toBelow
            have hR114 := hR112.below hB30 (Nat.le_refl _)
            have hW356 := hW336.later hB30
            have hW357 := hW337.later hB30
            have hW358 := hW338.later hB30
            have hW359 := hW339.later hB30
            have hW360 := hW340.later hB30
            have hW361 := hW341.later hB30
            have hW362 := hW342.later hB30
            have hW363 := hW343.later hB30
            have hW364 := hW344.later hB30
            have hW365 := hW345.later hB30
            obtain rfl := hp38
            refine wpList_nil ?_
            refine x_tn ?_
            refine a_takeg (i := 16) (NoP.then NoP.body) rfl (wanted_of (j := 8) (b := false) (d := 145) rfl rfl rfl rfl) rfl (by kernel_rfl) (L' := [true, true, true, true, true, true, true, true, true, true, true, true, true, true, true, true, true, false, false, false, false, false]) rfl (r_eqstr rfl (.t rfl rfl) (.t rfl rfl) (r := true) (str_same (by rw [hq]))) ?_
            refine a_take (i := 17) (NoP.then NoP.body) rfl rfl rfl (by kernel_rfl) (L' := [true, true, true, true, true, true, true, true, true, true, true, true, true, true, true, true, true, true, false, false, false, false]) rfl (r_pick rfl (.t rfl rfl) (.t rfl rfl)) ?_
            refine a_take (i := 18) (NoP.then NoP.body) rfl rfl rfl (by kernel_rfl) (L' := [true, true, true, true, true, true, true, true, true, true, true, true, true, true, true, true, true, true, true, false, false, false]) rfl (r_move rfl (.t rfl rfl)) ?_
            refine a_oneg (i := 19) (by kernel_rfl) rfl (wanted_of (j := 18) (b := true) (d := 155) rfl rfl rfl rfl) (L' := [true, true, true, true, true, true, true, true, true, true, true, true, true, true, true, true, true, true, true, true, false, false]) rfl ?_
            refine s_callg (wanted_of (j := 18) (b := true) (d := 155) rfl rfl rfl rfl) rfl rfl (vs := []) trivial cb16 (wakes_ok w43 ) ?_
            intro v33 w44 hp39
            obtain ⟨hp39, hB31⟩ := hp39
            have hS50 := hS49.keep hB31
            replace hB31 := hB31.toBelow
            have hR115 := hR114.below hB31 (Nat.le_refl _)
            have hW366 := hW356.later hB31
            have hW367 := hW357.later hB31
            have hW368 := hW358.later hB31
            have hW369 := hW359.later hB31
            have hW370 := hW360.later hB31
            have hW371 := hW361.later hB31
            have hW372 := hW362.later hB31
            have hW373 := hW363.later hB31
            have hW374 := hW364.later hB31
            have hW375 := hW365.later hB31
            obtain rfl := hp39
            refine wpList_nil ?_
            refine x_tn ?_
            refine a_take (i := 20) (NoP.then NoP.body) rfl rfl rfl (by kernel_rfl) (L' := [true, true, true, true, true, true, true, true, true, true, true, true, true, true, true, true, true, true, true, true, true, false]) rfl (r_pick rfl (.t rfl rfl) (.t rfl rfl)) ?_
            refine a_take (i := 21) (NoP.then NoP.body) rfl rfl rfl (by kernel_rfl) (L' := [true, true, true, true, true, true, true, true, true, true, true, true, true, true, true, true, true, true, true, true, true, true]) rfl (r_assign rfl (.t rfl rfl)) ?_
            refine a_done (by kernel_rfl) ?_
            refine x_tn ?_
            refine k_reb [(2, .bool true)] ⟨rfl, trivial⟩ fun G42 => ?_
            refine wp_ret ?_
            refine k_ret1 Try.results9 rfl rfl ?_
            refine ⟨_, rfl, ?_⟩
            exact ⟨rfl, hS50.none⟩
        · exfalso; (try simp only [hlTEN] at hc6); omega
      · refine s_val hS14 rfl rfl (r_nestr rfl (.t rfl rfl) (.t rfl rfl) (r := true) (by rw [beq_eq_false_iff_ne.2 (fun h => c23 (decB_eq.1 h))]; rfl)) ?_
        refine wpList_nil ?_
        refine x_tn ?_
        refine k_reb [(2, .bool false), (3, .slice a1 A.length c1), (4, .slice a2 B.length c2), (7, .int .i64 0), (10, .string (decB (lv A))), (12, .int .i64 0), (95, .bool true)] ⟨rfl, rfl, rfl, rfl, rfl, rfl, rfl, trivial⟩ fun G43 => ?_
        refine k_t (.t rfl rfl) ?_
        refine k_reg ?_
        refine s_val hS14 rfl rfl (r_assign rfl .c) ?_
        refine wpList_nil ?_
        refine x_tn ?_
        refine k_reb [(2, .bool false), (3, .slice a1 A.length c1), (4, .slice a2 B.length c2), (7, .int .i64 0), (10, .string (decB (lv A))), (12, .int .i64 1)] ⟨rfl, rfl, rfl, rfl, rfl, rfl, trivial⟩ fun G44 => ?_
        refine wp_seq ?_
        refine k_reg ?_
        refine s_val hS14 rfl rfl (r_move rfl (.t rfl rfl)) ?_
        refine s_call rfl rfl rfl (vs := [.int .u64 10]) ⟨.c, trivial⟩ cb18 (from_ok w12 10 (by omega)) ?_
        intro v34 w45 hp40
        obtain ⟨TEN, hp40, ⟨hNTEN, hlTEN⟩⟩ := hp40
        obtain ⟨a20, c28, rfl, hR116, -, hT20⟩ := id hp40
        have hW376 := Ow.from_ hS14 hp40
        have hS51 := hS14.keep hT20
        have hR117 := hR38.below hT20.toBelow (Nat.le_refl _)
        have hR118 := hR39.below hT20.toBelow (Nat.le_refl _)
        have hW377 := hW57.later hT20.toBelow
        have hW378 := hW58.later hT20.toBelow
        have hW379 := hW59.later hT20.toBelow
        have hW380 := hW60.later hT20.toBelow
        have hW381 := hW61.later hT20.toBelow
        have hW382 := hW62.later hT20.toBelow
        have hW383 := hW63.later hT20.toBelow
        have hA20 := hp40.apart hS14 (m := 0) rfl
        have hnTEN := hNTEN.len
        refine s_call rfl rfl rfl (vs := [.slice a1 A.length c1, .slice a20 TEN.length c28]) ⟨(.t rfl rfl), (.t rfl rfl), trivial⟩ cb17 (DivMod_ok w45 a1 c1 A hR117 a20 c28 TEN hR116 hNA hNTEN (by omega)) ?_
        rintro v35 w46 ⟨Q1, R1, _, _, rfl, hp41, hq5, hNQ1, hNR1, hlQ1, hlR1⟩
        obtain ⟨a21, c29, rfl, hR119, -, hT21⟩ := id hp41
        have hW384 := Ow.from_ hS51 hp41
        have hS52 := hS51.keep hT21
        have hR120 := hR117.below hT21.toBelow (Nat.le_refl _)
        have hR121 := hR118.below hT21.toBelow (Nat.le_refl _)
        have hR122 := hR116.below hT21.toBelow (Nat.le_refl _)
        have hW385 := hW377.later hT21.toBelow
        have hW386 := hW378.later hT21.toBelow
        have hW387 := hW379.later hT21.toBelow
        have hW388 := hW380.later hT21.toBelow
        have hW389 := hW381.later hT21.toBelow
        have hW390 := hW382.later hT21.toBelow
        have hW391 := hW383.later hT21.toBelow
        have hW392 := hW376.later hT21.toBelow
        have hA21 := hp41.apart hS51 (m := 0) rfl
        obtain ⟨a22, c30, rfl, hR123, -, hT22⟩ := id hq5
        have hW393 := Ow.from_ hS51 hq5
        have hA22 := hq5.apart hS51 (m := 0) rfl
        have hnQ1 := hNQ1.len
        have hnR1 := hNR1.len
        have hq : lv Q1 = lv A / 10 := by rw [hlQ1, hlTEN]
        have hr : lv R1 = lv A % 10 := by rw [hlR1, hlTEN]
        refine s_val hS52 rfl rfl (r_move rfl (.t rfl rfl)) ?_
        refine s_val hS52 rfl rfl (r_extract rfl (.t rfl rfl) rfl) ?_
        refine s_val hS52 rfl rfl (r_extract rfl (.t rfl rfl) rfl) ?_
        refine s_val hS52 rfl rfl (r_extract rfl (.t rfl rfl) rfl) ?_
        refine s_val hS52 rfl rfl (r_assign rfl (.t rfl rfl)) ?_
        refine s_val hS52 rfl rfl (r_assign rfl (.t rfl rfl)) ?_
        refine s_val hS52 rfl rfl (r_assign rfl (.t rfl rfl)) ?_
        refine wpList_nil ?_
        refine x_tn ?_
        refine k_reb [(2, .bool false), (3, .slice a1 A.length c1), (4, .slice a2 B.length c2), (7, .int .i64 0), (10, .string (decB (lv A))), (12, .int .i64 1), (13, .slice a21 Q1.length c29), (14, .slice a22 R1.length c30)] ⟨rfl, rfl, rfl, rfl, rfl, rfl, rfl, rfl, trivial⟩ fun G45 => ?_
        refine wp_seq ?_
        refine k_reg ?_
        refine s_val hS52 rfl rfl (r_move rfl (.t rfl rfl)) ?_
        refine s_call rfl rfl rfl (vs := [.slice a22 R1.length c30]) ⟨(.t rfl rfl), trivial⟩ cb34 (Small_ok w46 a22 c30 R1 hR123 hNR1 (by have := len_of_lt (k := 1) hNR1.nz (by rw [hr]; have := Nat.mod_lt (lv A) (show 0 < 10 by omega); show _ < 4294967296 ^ 1; omega); omega)) ?_
        intro v36 w47 hp42
        obtain ⟨hp42, hB32⟩ := hp42
        have hS54 := hS52.keep hB32
        replace hB32 := hB32.toBelow
        have hR124 := hR120.below hB32 (Nat.le_refl _)
        have hR125 := hR121.below hB32 (Nat.le_refl _)
        have hR126 := hR119.below hB32 (Nat.le_refl _)
        have hR127 := hR123.below hB32 (Nat.le_refl _)
        have hW394 := hW385.later hB32
        have hW395 := hW386.later hB32
        have hW396 := hW387.later hB32
        have hW397 := hW388.later hB32
        have hW398 := hW389.later hB32
        have hW399 := hW390.later hB32
        have hW400 := hW391.later hB32
        have hW401 := hW392.later hB32
        have hW402 := hW384.later hB32
        have hW403 := hW393.later hB32
        obtain rfl := hp42
        refine s_val hS54 rfl rfl (r_move rfl (.t rfl rfl)) ?_
        refine s_val hS54 rfl rfl (r_extract rfl (.t rfl rfl) rfl) ?_
        refine s_val hS54 rfl rfl (r_extract rfl (.t rfl rfl) rfl) ?_
        refine s_val hS54 rfl rfl (r_assign rfl (.t rfl rfl)) ?_
        refine s_val hS54 rfl rfl (r_assign rfl (.t rfl rfl)) ?_
        refine wpList_nil ?_
        refine x_tn ?_
        refine k_reb [(2, .bool false), (3, .slice a1 A.length c1), (4, .slice a2 B.length c2), (7, .int .i64 0), (10, .string (decB (lv A))), (12, .int .i64 1), (13, .slice a21 Q1.length c29), (15, .int .u64 (((lv R1 : Nat) : Int))), (16, .bool true)] ⟨rfl, rfl, rfl, rfl, rfl, rfl, rfl, rfl, rfl, trivial⟩ fun G46 => ?_
        refine wp_seq ?_
        refine wp_seq ?_
        refine k_reg ?_
        refine s_val hS54 rfl rfl (r_move rfl (.t rfl rfl)) ?_
        refine s_call rfl rfl rfl (vs := [.int .i64 0]) ⟨(.t rfl rfl), trivial⟩ cb13 (num_ok w47 0) ?_
        rintro _ w47 ⟨rfl, rfl⟩
        refine s_val hS54 rfl rfl (r_cmp_f rfl rfl (.t rfl rfl) .c (show ¬ (¬ 0 = 0) from by omega)) ?_
        refine s_val hS54 rfl rfl (r_move rfl (.t rfl rfl)) ?_
        refine s_valg hS54 (wanted_of (j := 3) (b := false) (d := 111) rfl rfl rfl rfl) rfl (r_move rfl (.t rfl rfl)) ?_
        refine s_valg hS54 (wanted_of (j := 3) (b := false) (d := 111) rfl rfl rfl rfl) rfl (r_move rfl (.t rfl rfl)) ?_
        refine s_valg hS54 (wanted_of (j := 3) (b := false) (d := 111) rfl rfl rfl rfl) rfl (r_move rfl (.t rfl rfl)) ?_
        refine s_callg (wanted_of (j := 3) (b := false) (d := 111) rfl rfl rfl rfl) rfl rfl (vs := [.slice a1 A.length c1, .slice a2 B.length c2]) ⟨(.t rfl rfl), (.t rfl rfl), trivial⟩ cb28 (Cmp_ok w47 a1 c1 A hR124 a2 c2 B hR125 hNA hNB) ?_
        rintro _ w48 ⟨hp43, hB33⟩
        have hS55 := hS54.keep hB33
        replace hB33 := hB33.toBelow
        have hR128 := hR124.below hB33 (Nat.le_refl _)
        have hR129 := hR125.below hB33 (Nat.le_refl _)
        have hR130 := hR126.below hB33 (Nat.le_refl _)
        have hW404 := hW394.later hB33
        have hW405 := hW395.later hB33
        have hW406 := hW396.later hB33
        have hW407 := hW397.later hB33
        have hW408 := hW398.later hB33
        have hW409 := hW399.later hB33
        have hW410 := hW400.later hB33
        have hW411 := hW401.later hB33
        have hW412 := hW402.later hB33
        have hW413 := hW403.later hB33
        rcases hp43 with ⟨hc7, rfl⟩ | ⟨hc7, rfl⟩ | ⟨hc7, rfl⟩
        · exfalso; (try simp only [hlTEN] at hc7); omega
        · exfalso; (try simp only [hlTEN] at hc7); omega
        · refine s_valg hS55 (wanted_of (j := 3) (b := false) (d := 111) rfl rfl rfl rfl) rfl (r_cmp_f rfl rfl (.t rfl rfl) (.t rfl rfl) (show ¬ (¬ 1 = 1) from by omega)) ?_
          refine s_val hS55 rfl rfl (r_pick rfl (.t rfl rfl) (.t rfl rfl)) ?_
          refine s_val hS55 rfl rfl (r_move rfl (.t rfl rfl)) ?_
          refine s_valg hS55 (wanted_of (j := 10) (b := false) (d := 118) rfl rfl rfl rfl) rfl (r_move rfl (.t rfl rfl)) ?_
          refine s_valg hS55 (wanted_of (j := 10) (b := false) (d := 118) rfl rfl rfl rfl) rfl (r_lnot rfl (.t rfl rfl)) ?_
          refine s_val hS55 rfl rfl (r_pick rfl (.t rfl rfl) (.t rfl rfl)) ?_
          refine s_val hS55 rfl rfl (r_move rfl (.t rfl rfl)) ?_
          refine s_valg hS55 (wanted_of (j := 14) (b := false) (d := 122) rfl rfl rfl rfl) rfl (r_move rfl (.t rfl rfl)) ?_
          refine s_valg hS55 (wanted_of (j := 14) (b := false) (d := 122) rfl rfl rfl rfl) rfl (r_cmp_f rfl rfl (.t rfl rfl) .c (show ¬ (((lv R1 : Nat) : Int) > 9) from (by omega))) ?_
          refine s_val hS55 rfl rfl (r_pick rfl (.t rfl rfl) (.t rfl rfl)) ?_
          refine s_val hS55 rfl rfl (r_move rfl (.t rfl rfl)) ?_
          refine s_valg hS55 (wanted_of (j := 18) (b := false) (d := 126) rfl rfl rfl rfl) rfl (r_move rfl (.t rfl rfl)) ?_
          refine s_valg hS55 (wanted_of (j := 18) (b := false) (d := 126) rfl rfl rfl rfl) rfl (r_move rfl (.t rfl rfl)) ?_
          refine s_valg hS55 (wanted_of (j := 18) (b := false) (d := 126) rfl rfl rfl rfl) rfl (r_lens rfl rfl Try.underlying9 (.t rfl rfl)) ?_
          refine s_valg hS55 (wanted_of (j := 18) (b := false) (d := 126) rfl rfl rfl rfl) rfl (r_arith rfl rfl (.t rfl rfl) .c (c := ((((decB (lv A)).size) - 1 : Nat) : Int)) (wn_i64 (by show ((((decB (lv A)).size : Nat) : Int) : Int) - 1 = _; omega) (by omega))) ?_
          refine s_valg hS55 (wanted_of (j := 18) (b := false) (d := 126) rfl rfl rfl rfl) rfl (r_idxs (j := ((decB (lv A)).size) - 1) (c := ((decB (lv A)).data.toList.getD (((decB (lv A)).size) - 1) 0).toNat) rfl Try.underlying9 (.t rfl rfl) (.t rfl rfl) rfl (byte_at (by omega)) (byte_lt _)) ?_
          refine s_valg hS55 (wanted_of (j := 18) (b := false) (d := 126) rfl rfl rfl rfl) rfl (r_move rfl (.t rfl rfl)) ?_
          refine s_valg hS55 (wanted_of (j := 18) (b := false) (d := 126) rfl rfl rfl rfl) rfl (r_arith rfl rfl .c (.t rfl rfl) (c := ((48 + (lv R1) : Nat) : Int)) (wn_u64 (by show (48 : Int) + ((lv R1 : Nat) : Int) = _; omega) (by omega))) ?_
          refine s_valg hS55 (wanted_of (j := 18) (b := false) (d := 126) rfl rfl rfl rfl) rfl (r_conv rfl Try.underlying40 Try.underlying5 (.t rfl rfl) (c := ((48 + (lv R1) : Nat) : Int)) (wn_u8 rfl (by omega))) ?_
          refine s_valg hS55 (wanted_of (j := 18) (b := false) (d := 126) rfl rfl rfl rfl) rfl (r_cmp_f rfl rfl (.t rfl rfl) (.t rfl rfl) (show ¬ (¬ ((((decB (lv A)).data.toList.getD (((decB (lv A)).size) - 1) 0).toNat : Nat) : Int) = ((48 + (lv R1) : Nat) : Int)) from (by rw [decB_last, hr]; omega))) ?_
          refine s_val hS55 rfl rfl (r_pick rfl (.t rfl rfl) (.t rfl rfl)) ?_
          refine wpList_nil ?_
          refine x_tn ?_
          refine k_reb [(2, .bool false), (10, .string (decB (lv A))), (13, .slice a21 Q1.length c29), (136, .bool false)] ⟨rfl, rfl, rfl, rfl, trivial⟩ fun G47 => ?_
          refine k_f (.t rfl rfl) ?_
          refine wp_skip ?_
          refine x_tn ?_
          refine k_reb [(2, .bool false), (10, .string (decB (lv A))), (13, .slice a21 Q1.length c29)] ⟨rfl, rfl, rfl, trivial⟩ fun G48 => ?_
          refine wp_seq ?_
          refine a_start mixed hS55 (L := [false, false, false, false, false, false, false, false, false, false, false, false, false, false, false, false, false, false, false, false, false, false]) rfl fun w49 hS56 hB34 => ?_
          have hR131 := hR130.below hB34 (Nat.le_refl _)
          have hW414 := hW404.later hB34
          have hW415 := hW405.later hB34
          have hW416 := hW406.later hB34
          have hW417 := hW407.later hB34
          have hW418 := hW408.later hB34
          have hW419 := hW409.later hB34
          have hW420 := hW410.later hB34
          have hW421 := hW411.later hB34
          have hW422 := hW412.later hB34
          have hW423 := hW413.later hB34
          refine a_take (i := 0) (NoP.then NoP.body) rfl rfl rfl (by kernel_rfl) (L' := [true, false, false, false, false, false, false, false, false, false, false, false, false, false, false, false, false, false, false, false, false, false]) rfl (r_move rfl (.t rfl rfl)) ?_
          refine a_take (i := 1) (NoP.then NoP.body) rfl rfl rfl (by kernel_rfl) (L' := [true, true, false, false, false, false, false, false, false, false, false, false, false, false, false, false, false, false, false, false, false, false]) rfl (r_len rfl rfl Try.underlying27 (.t rfl rfl)) ?_
          by_cases c31 : Q1.length = 0
          · have hq0 : lv Q1 = 0 := by rw [List.eq_nil_of_length_eq_zero (by omega : Q1.length = 0)]; rfl
            have hsm : lv A < 10 := by rw [hq] at hq0; omega
            refine a_take (i := 2) (NoP.then NoP.body) rfl rfl rfl (by kernel_rfl) (L' := [true, true, true, false, false, false, false, false, false, false, false, false, false, false, false, false, false, false, false, false, false, false]) rfl (r_cmp_t rfl rfl (.t rfl rfl) .c (show ((Q1.length : Nat) : Int) = 0 from by omega)) ?_
            refine a_take (i := 3) (NoP.then NoP.body) rfl rfl rfl (by kernel_rfl) (L' := [true, true, true, true, false, false, false, false, false, false, false, false, false, false, false, false, false, false, false, false, false, false]) rfl (r_move rfl (.t rfl rfl)) ?_
            refine a_takeg (i := 4) (NoP.then NoP.body) rfl (wanted_of (j := 3) (b := true) (d := 140) rfl rfl rfl rfl) rfl (by kernel_rfl) (L' := [true, true, true, true, true, false, false, false, false, false, false, false, false, false, false, false, false, false, false, false, false, false]) rfl (r_move rfl (.t rfl rfl)) ?_
            refine a_takeg (i := 5) (NoP.then NoP.body) rfl (wanted_of (j := 3) (b := true) (d := 140) rfl rfl rfl rfl) rfl (by kernel_rfl) (L' := [true, true, true, true, true, true, false, false, false, false, false, false, false, false, false, false, false, false, false, false, false, false]) rfl (r_lens rfl rfl Try.underlying9 (.t rfl rfl)) ?_
            refine a_takeg (i := 6) (NoP.then NoP.body) rfl (wanted_of (j := 3) (b := true) (d := 140) rfl rfl rfl rfl) rfl (by kernel_rfl) (L' := [true, true, true, true, true, true, true, false, false, false, false, false, false, false, false, false, false, false, false, false, false, false]) rfl (r_cmp_t rfl rfl (.t rfl rfl) .c (show (((decB (lv A)).size : Nat) : Int) = 1 from (by rw [decB_size, dl_small hsm]; simp))) ?_
            refine a_take (i := 7) (NoP.then NoP.body) rfl rfl rfl (by kernel_rfl) (L' := [true, true, true, true, true, true, true, true, false, false, false, false, false, false, false, false, false, false, false, false, false, false]) rfl (r_pick rfl (.t rfl rfl) (.t rfl rfl)) ?_
            refine a_take (i := 8) (NoP.then NoP.body) rfl rfl rfl (by kernel_rfl) (L' := [true, true, true, true, true, true, true, true, true, false, false, false, false, false, false, false, false, false, false, false, false, false]) rfl (r_move rfl (.t rfl rfl)) ?_
            refine a_skip (i := 9) (NoP.then NoP.body) rfl (unwanted_of (j := 8) (b := false) (b' := true) (d := 145) rfl rfl rfl rfl rfl) rfl (by kernel_rfl) (L' := [true, true, true, true, true, true, true, true, true, true, false, false, false, false, false, false, false, false, false, false, false, false]) rfl ?_
            refine a_skip (i := 10) (NoP.then NoP.body) rfl (unwanted_of (j := 8) (b := false) (b' := true) (d := 145) rfl rfl rfl rfl rfl) rfl (by kernel_rfl) (L' := [true, true, true, true, true, true, true, true, true, true, true, false, false, false, false, false, false, false, false, false, false, false]) rfl ?_
            refine a_skip (i := 11) (NoP.then NoP.body) rfl (unwanted_of (j := 8) (b := false) (b' := true) (d := 145) rfl rfl rfl rfl rfl) rfl (by kernel_rfl) (L' := [true, true, true, true, true, true, true, true, true, true, true, true, false, false, false, false, false, false, false, false, false, false]) rfl ?_
            refine a_skip (i := 12) (NoP.then NoP.body) rfl (unwanted_of (j := 8) (b := false) (b' := true) (d := 145) rfl rfl rfl rfl rfl) rfl (by kernel_rfl) (L' := [true, true, true, true, true, true, true, true, true, true, true, true, true, false, false, false, false, false, false, false, false, false]) rfl ?_
            refine a_skip (i := 13) (NoP.then NoP.body) rfl (unwanted_of (j := 8) (b := false) (b' := true) (d := 145) rfl rfl rfl rfl rfl) rfl (by kernel_rfl) (L' := [true, true, true, true, true, true, true, true, true, true, true, true, true, true, false, false, false, false, false, false, false, false]) rfl ?_
            refine a_skip (i := 14) (NoP.then NoP.body) rfl (unwanted_of (j := 8) (b := false) (b' := true) (d := 145) rfl rfl rfl rfl rfl) rfl (by kernel_rfl) (L' := [true, true, true, true, true, true, true, true, true, true, true, true, true, true, true, false, false, false, false, false, false, false]) rfl ?_
            refine a_skip (i := 15) (NoP.then NoP.body) rfl (unwanted_of (j := 8) (b := false) (b' := true) (d := 145) rfl rfl rfl rfl rfl) rfl (by kernel_rfl) (L' := [true, true, true, true, true, true, true, true, true, true, true, true, true, true, true, true, false, false, false, false, false, false]) rfl ?_
            refine a_skip (i := 16) (NoP.then NoP.body) rfl (unwanted_of (j := 8) (b := false) (b' := true) (d := 145) rfl rfl rfl rfl rfl) rfl (by kernel_rfl) (L' := [true, true, true, true, true, true, true, true, true, true, true, true, true, true, true, true, true, false, false, false, false, false]) rfl ?_
            refine a_take (i := 17) (NoP.then NoP.body) rfl rfl rfl (by kernel_rfl) (L' := [true, true, true, true, true, true, true, true, true, true, true, true, true, true, true, true, true, true, false, false, false, false]) rfl (r_pick rfl (.t rfl rfl) .c) ?_
            refine a_take (i := 18) (NoP.then NoP.body) rfl rfl rfl (by kernel_rfl) (L' := [true, true, true, true, true, true, true, true, true, true, true, true, true, true, true, true, true, true, true, false, false, false]) rfl (r_move rfl (.t rfl rfl)) ?_
            refine a_oneg (i := 19) (by kernel_rfl) rfl (wanted_of (j := 18) (b := true) (d := 155) rfl rfl rfl rfl) (L' := [true, true, true, true, true, true, true, true, true, true, true, true, true, true, true, true, true, true, true, true, false, false]) rfl ?_
            refine s_callg (wanted_of (j := 18) (b := true) (d := 155) rfl rfl rfl rfl) rfl rfl (vs := []) trivial cb16 (wakes_ok w49 ) ?_
            intro v37 w50 hp44
            obtain ⟨hp44, hB35⟩ := hp44
            have hS57 := hS56.keep hB35
            replace hB35 := hB35.toBelow
            have hR132 := hR131.below hB35 (Nat.le_refl _)
            have hW424 := hW414.later hB35
            have hW425 := hW415.later hB35
            have hW426 := hW416.later hB35
            have hW427 := hW417.later hB35
            have hW428 := hW418.later hB35
            have hW429 := hW419.later hB35
            have hW430 := hW420.later hB35
            have hW431 := hW421.later hB35
            have hW432 := hW422.later hB35
            have hW433 := hW423.later hB35
            obtain rfl := hp44
            refine wpList_nil ?_
            refine x_tn ?_
            refine a_take (i := 20) (NoP.then NoP.body) rfl rfl rfl (by kernel_rfl) (L' := [true, true, true, true, true, true, true, true, true, true, true, true, true, true, true, true, true, true, true, true, true, false]) rfl (r_pick rfl (.t rfl rfl) (.t rfl rfl)) ?_
            refine a_take (i := 21) (NoP.then NoP.body) rfl rfl rfl (by kernel_rfl) (L' := [true, true, true, true, true, true, true, true, true, true, true, true, true, true, true, true, true, true, true, true, true, true]) rfl (r_assign rfl (.t rfl rfl)) ?_
            refine a_done (by kernel_rfl) ?_
            refine x_tn ?_
            refine k_reb [(2, .bool true)] ⟨rfl, trivial⟩ fun G49 => ?_
            refine wp_ret ?_
            refine k_ret1 Try.results9 rfl rfl ?_
            refine ⟨_, rfl, ?_⟩
            exact ⟨rfl, hS57.none⟩
          · have hq0 := lv_pos hNQ1.nz (by omega)
            have h10 : 10 ≤ lv A := by rw [hq] at hq0; omega
            refine a_take (i := 2) (NoP.then NoP.body) rfl rfl rfl (by kernel_rfl) (L' := [true, true, true, false, false, false, false, false, false, false, false, false, false, false, false, false, false, false, false, false, false, false]) rfl (r_cmp_f rfl rfl (.t rfl rfl) .c (show ¬ (((Q1.length : Nat) : Int) = 0) from by omega)) ?_
            refine a_take (i := 3) (NoP.then NoP.body) rfl rfl rfl (by kernel_rfl) (L' := [true, true, true, true, false, false, false, false, false, false, false, false, false, false, false, false, false, false, false, false, false, false]) rfl (r_move rfl (.t rfl rfl)) ?_
            refine a_skip (i := 4) (NoP.then NoP.body) rfl (unwanted_of (j := 3) (b := true) (b' := false) (d := 140) rfl rfl rfl rfl rfl) rfl (by kernel_rfl) (L' := [true, true, true, true, true, false, false, false, false, false, false, false, false, false, false, false, false, false, false, false, false, false]) rfl ?_
            refine a_skip (i := 5) (NoP.then NoP.body) rfl (unwanted_of (j := 3) (b := true) (b' := false) (d := 140) rfl rfl rfl rfl rfl) rfl (by kernel_rfl) (L' := [true, true, true, true, true, true, false, false, false, false, false, false, false, false, false, false, false, false, false, false, false, false]) rfl ?_
            refine a_skip (i := 6) (NoP.then NoP.body) rfl (unwanted_of (j := 3) (b := true) (b' := false) (d := 140) rfl rfl rfl rfl rfl) rfl (by kernel_rfl) (L' := [true, true, true, true, true, true, true, false, false, false, false, false, false, false, false, false, false, false, false, false, false, false]) rfl ?_
            refine a_take (i := 7) (NoP.then NoP.body) rfl rfl rfl (by kernel_rfl) (L' := [true, true, true, true, true, true, true, true, false, false, false, false, false, false, false, false, false, false, false, false, false, false]) rfl (r_pick rfl (.t rfl rfl) .c) ?_
            refine a_take (i := 8) (NoP.then NoP.body) rfl rfl rfl (by kernel_rfl) (L' := [true, true, true, true, true, true, true, true, true, false, false, false, false, false, false, false, false, false, false, false, false, false]) rfl (r_move rfl (.t rfl rfl)) ?_
            refine a_takeg (i := 9) (NoP.then NoP.body) rfl (wanted_of (j := 8) (b := false) (d := 145) rfl rfl rfl rfl) rfl (by kernel_rfl) (L' := [true, true, true, true, true, true, true, true, true, true, false, false, false, false, false, false, false, false, false, false, false, false]) rfl (r_move rfl (.t rfl rfl)) ?_
            refine a_takeg (i := 11) (NoP.then NoP.body) rfl (wanted_of (j := 8) (b := false) (d := 145) rfl rfl rfl rfl) rfl (by kernel_rfl) (L' := [true, true, true, true, true, true, true, true, true, true, false, true, false, false, false, false, false, false, false, false, false, false]) rfl (r_move rfl (.t rfl rfl)) ?_
            refine a_takeg (i := 12) (NoP.then NoP.body) rfl (wanted_of (j := 8) (b := false) (d := 145) rfl rfl rfl rfl) rfl (by kernel_rfl) (L' := [true, true, true, true, true, true, true, true, true, true, false, true, true, false, false, false, false, false, false, false, false, false]) rfl (r_move rfl (.t rfl rfl)) ?_
            refine a_takeg (i := 13) (NoP.then NoP.body) rfl (wanted_of (j := 8) (b := false) (d := 145) rfl rfl rfl rfl) rfl (by kernel_rfl) (L' := [true, true, true, true, true, true, true, true, true, true, false, true, true, true, false, false, false, false, false, false, false, false]) rfl (r_lens rfl rfl Try.underlying9 (.t rfl rfl)) ?_
            refine a_takeg (i := 14) (NoP.then NoP.body) rfl (wanted_of (j := 8) (b := false) (d := 145) rfl rfl rfl rfl) rfl (by kernel_rfl) (L' := [true, true, true, true, true, true, true, true, true, true, false, true, true, true, true, false, false, false, false, false, false, false]) rfl (r_arith rfl rfl (.t rfl rfl) .c (c := ((((decB (lv A)).size) - 1 : Nat) : Int)) (wn_i64 (by show ((((decB (lv A)).size : Nat) : Int) : Int) - 1 = _; omega) (by omega))) ?_
            refine a_takeg (i := 15) (NoP.then NoP.body) rfl (wanted_of (j := 8) (b := false) (d := 145) rfl rfl rfl rfl) rfl (by kernel_rfl) (L' := [true, true, true, true, true, true, true, true, true, true, false, true, true, true, true, true, false, false, false, false, false, false]) rfl (r_cutstr (hh := ((decB (lv A)).size) - 1) rfl Try.underlying9 (.t rfl rfl) (.s (.t rfl rfl)) (by omega) (decB_front h10)) ?_
            refine a_oneg (i := 10) (by kernel_rfl) rfl (wanted_of (j := 8) (b := false) (d := 145) rfl rfl rfl rfl) (L' := [true, true, true, true, true, true, true, true, true, true, true, true, true, true, true, true, false, false, false, false, false, false]) rfl ?_
            refine s_callg (wanted_of (j := 8) (b := false) (d := 145) rfl rfl rfl rfl) rfl rfl (vs := [.slice a21 Q1.length c29]) ⟨(.t rfl rfl), trivial⟩ cb30 (Text_ok w49 a21 c29 Q1 hR131 hNQ1) ?_
            intro v38 w51 hp45
            obtain ⟨hp45, hB36⟩ := hp45
            have hS58 := hS56.keep hB36
            replace hB36 := hB36.toBelow
            have hR133 := hR131.below hB36 (Nat.le_refl _)
            have hW434 := hW414.later hB36
            have hW435 := hW415.later hB36
            have hW436 := hW416.later hB36
            have hW437 := hW417.later hB36
            have hW438 := hW418.later hB36
            have hW439 := hW419.later hB36
            have hW440 := hW420.later hB36
            have hW441 := hW421.later hB36
            have hW442 := hW422.later hB36
            have hW443 := hW423.later hB36
            obtain rfl := hp45
            refine wpList_nil ?_
            refine x_tn ?_
            refine a_takeg (i := 16) (NoP.then NoP.body) rfl (wanted_of (j := 8) (b := false) (d := 145) rfl rfl rfl rfl) rfl (by kernel_rfl) (L' := [true, true, true, true, true, true, true, true, true, true, true, true, true, true, true, true, true, false, false, false, false, false]) rfl (r_eqstr rfl (.t rfl rfl) (.t rfl rfl) (r := true) (str_same (by rw [hq]))) ?_
            refine a_take (i := 17) (NoP.then NoP.body) rfl rfl rfl (by kernel_rfl) (L' := [true, true, true, true, true, true, true, true, true, true, true, true, true, true, true, true, true, true, false, false, false, false]) rfl (r_pick rfl (.t rfl rfl) (.t rfl rfl)) ?_
            refine a_take (i := 18) (NoP.then NoP.body) rfl rfl rfl (by kernel_rfl) (L' := [true, true, true, true, true, true, true, true, true, true, true, true, true, true, true, true, true, true, true, false, false, false]) rfl (r_move rfl (.t rfl rfl)) ?_
            refine a_oneg (i := 19) (by kernel_rfl) rfl (wanted_of (j := 18) (b := true) (d := 155) rfl rfl rfl rfl) (L' := [true, true, true, true, true, true, true, true, true, true, true, true, true, true, true, true, true, true, true, true, false, false]) rfl ?_
            refine s_callg (wanted_of (j := 18) (b := true) (d := 155) rfl rfl rfl rfl) rfl rfl (vs := []) trivial cb16 (wakes_ok w51 ) ?_
            intro v39 w52 hp46
            obtain ⟨hp46, hB37⟩ := hp46
            have hS59 := hS58.keep hB37
            replace hB37 := hB37.toBelow
            have hR134 := hR133.below hB37 (Nat.le_refl _)
            have hW444 := hW434.later hB37
            have hW445 := hW435.later hB37
            have hW446 := hW436.later hB37
            have hW447 := hW437.later hB37
            have hW448 := hW438.later hB37
            have hW449 := hW439.later hB37
            have hW450 := hW440.later hB37
            have hW451 := hW441.later hB37
            have hW452 := hW442.later hB37
            have hW453 := hW443.later hB37
            obtain rfl := hp46
            refine wpList_nil ?_
            refine x_tn ?_
            refine a_take (i := 20) (NoP.then NoP.body) rfl rfl rfl (by kernel_rfl) (L' := [true, true, true, true, true, true, true, true, true, true, true, true, true, true, true, true, true, true, true, true, true, false]) rfl (r_pick rfl (.t rfl rfl) (.t rfl rfl)) ?_
            refine a_take (i := 21) (NoP.then NoP.body) rfl rfl rfl (by kernel_rfl) (L' := [true, true, true, true, true, true, true, true, true, true, true, true, true, true, true, true, true, true, true, true, true, true]) rfl (r_assign rfl (.t rfl rfl)) ?_
            refine a_done (by kernel_rfl) ?_
            refine x_tn ?_
            refine k_reb [(2, .bool true)] ⟨rfl, trivial⟩ fun G50 => ?_
            refine wp_ret ?_
            refine k_ret1 Try.results9 rfl rfl ?_
            refine ⟨_, rfl, ?_⟩
            exact ⟨rfl, hS59.none⟩

end Go.Proofs.Ytnbklceenfjojaa

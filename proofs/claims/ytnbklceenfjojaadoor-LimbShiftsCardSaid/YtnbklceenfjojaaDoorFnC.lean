/- Contracts of functions of the program, each walked once. -/
import Derived.Test.YtnbklceenfjojaaDoorFnB
import Derived.Test.YtnbklceenfjojaaDoorKDiv
import Derived.Test.YtnbklceenfjojaaDoorKAny
namespace Go.Proofs.YtnbklceenfjojaaDoor
open Go Go.RowKit K
namespace FC
theorem mixed : Tryd.prog.follows .mixedOrders = true := by kernel_rfl
theorem cb95 : callable Tryd.prog 95 = true := by kernel_rfl
theorem cb96 : callable Tryd.prog 96 = true := by kernel_rfl
theorem one38 : One Tryd.prog 38 = true := by kernel_rfl
theorem ti38 : (Tryd.prog.info? 38).map (fun i => (i.zero, i.size, i.bytes)) = some (some (.int .u32 0), 1, 4) := by kernel_rfl

end FC
open FC
attribute [local irreducible] Go.wpList Go.wpQuiet Go.wpStill Go.wpAny Go.Code.wp
set_option maxRecDepth 10000
set_option maxHeartbeats 8000000
set_option linter.unusedVariables false
set_option linter.unusedSimpArgs false
theorem step_ok (w0 : World) (bx capx : Nat) (PL X PR : List Nat) (hbx : w0.heap[bx]? = some (.cells (encN .u32 (PL ++ X ++ PR)) 38 (0, 0))) (hXlim : Lim X) (aY : Option Addr) (cY : Nat) (Y : List Nat) (hY : Rd w0 .u32 aY cY Y) (hXl : X.length = Y.length + 1) (hn : 2 ≤ Y.length) (hv1 : 2147483648 ≤ Y.getD (Y.length - 1) 0) (hXY : lv X < 4294967296 * lv Y) (hne : (adr aY).block ≠ bx) (hlY : Y.length ≤ 1000000) :
    Calls Tryd.prog 75 #[.slice (some ⟨bx, PL.length, none⟩) (Y.length + 1) capx, .slice aY Y.length cY] w0 (Ret fun v w' => ∃ X', v = .int .u32 ((lv X / lv Y : Nat) : Int) ∧ St w0 [bx] [(bx, .cells (encN .u32 (PL ++ X' ++ PR)) 38 (0, 0))] w' ∧ X'.length = Y.length + 1 ∧ Lim X' ∧ lv X' = lv X % lv Y) := by
  refine k_enter (vs := [.slice (some ⟨bx, PL.length, none⟩) (Y.length + 1) capx, .slice aY Y.length cY]) Tryd.func75 rfl Tryd.ntmps75 rfl ?_
  have hS := St.init1 hbx
  have H : Hi3 X Y Y.length (X.getD Y.length 0) (X.getD (Y.length - 1) 0) (X.getD (Y.length - 2) 0) (Y.getD (Y.length - 1) 0) (Y.getD (Y.length - 2) 0) := ⟨hn, hXl, rfl, hXlim, hY.fit, rfl, rfl, rfl, rfl, rfl⟩
  have hYp : 0 < lv Y := by omega
  have hyB1 : Y.getD (Y.length - 1) 0 ≤ 4294967295 := hY.lt _
  have hyB2 : Y.getD (Y.length - 2) 0 ≤ 4294967295 := hY.lt _
  have hxB1 : X.getD (Y.length - 1) 0 ≤ 4294967295 := getD_lim hXlim _
  have hxB2 : X.getD (Y.length - 2) 0 ≤ 4294967295 := getD_lim hXlim _
  have hu0 := top_le H hXY hyB2
  refine wp_seq ?_
  refine k_reg ?_
  refine s_val hS rfl rfl (r_assign rfl .c) ?_
  refine wpList_nil ?_
  refine x_tn ?_
  refine wp_seq ?_
  refine k_reg ?_
  refine s_val hS rfl rfl (r_move rfl (.t rfl rfl)) ?_
  refine s_val hS rfl rfl (r_len rfl rfl Tryd.underlying26 (.t rfl rfl)) ?_
  refine s_val hS rfl rfl (r_assign rfl (.t rfl rfl)) ?_
  refine wpList_nil ?_
  refine x_tn ?_
  refine k_reb [(0, .slice (some ⟨bx, PL.length, none⟩) (Y.length + 1) capx), (1, .slice aY Y.length cY), (4, .int .u32 0), (5, .int .i64 (((Y.length : Nat) : Int)))] ⟨rfl, rfl, rfl, rfl, trivial⟩ fun G1 => ?_
  refine wp_seq ?_
  refine k_regq mixed (by kernel_rfl) hS ?_
  refine q_val rfl rfl (r_move rfl (.t rfl rfl)) ?_
  refine q_val rfl rfl (r_move rfl (.t rfl rfl)) ?_
  refine q_val rfl rfl (r_ixs (j := Y.length) rfl Tryd.underlying26 ti38 (.t rfl rfl) (.t rfl rfl) rfl (by omega) (qq := PL.length + Y.length) (by omega)) ?_
  have b1 : X.getD Y.length 0 ≤ 4294967295 := getD_lim hXlim _
  refine q_val rfl rfl (r_load rfl one38 (.t rfl rfl) (St.cell_own (m := 0) rfl (encW_get (by first | omega | (simp only [List.length_set, List.length_append, List.length_replicate]; omega))))) ?_
  refine q_val rfl rfl (r_conv rfl Tryd.underlying38 Tryd.underlying47 (.t rfl rfl) (c := ((X.getD Y.length 0 : Nat) : Int)) (wn_u64 rfl (by omega))) ?_
  refine q_val rfl rfl (r_shl rfl (.t rfl rfl) .c (by omega) (show (2 : Int) ^ _ = ((4294967296 : Nat) : Int) from rfl) (c := (((X.getD Y.length 0) * 4294967296 : Nat) : Int)) (wn_u64 (Int.natCast_mul _ _).symm (by omega))) ?_
  refine q_val rfl rfl (r_move rfl (.t rfl rfl)) ?_
  refine q_val rfl rfl (r_move rfl (.t rfl rfl)) ?_
  refine q_val rfl rfl (r_arith rfl rfl (.t rfl rfl) .c (c := ((Y.length - 1 : Nat) : Int)) (wn_i64 (by show (((Y.length : Nat) : Int) : Int) - 1 = _; omega) (by omega))) ?_
  refine q_val rfl rfl (r_ixs (j := Y.length - 1) rfl Tryd.underlying26 ti38 (.t rfl rfl) (.t rfl rfl) rfl (by omega) (qq := PL.length + (Y.length - 1)) (by omega)) ?_
  have b2 : X.getD (Y.length - 1) 0 ≤ 4294967295 := getD_lim hXlim _
  refine q_val rfl rfl (r_load rfl one38 (.t rfl rfl) (St.cell_own (m := 0) rfl (encW_get (by first | omega | (simp only [List.length_set, List.length_append, List.length_replicate]; omega))))) ?_
  refine q_val rfl rfl (r_conv rfl Tryd.underlying38 Tryd.underlying47 (.t rfl rfl) (c := ((X.getD (Y.length - 1) 0 : Nat) : Int)) (wn_u64 rfl (by omega))) ?_
  refine q_val rfl rfl (r_or rfl (.t rfl rfl) (.t rfl rfl) (show (X.getD Y.length 0) * 4294967296 < 18446744073709551616 from by omega) (show X.getD (Y.length - 1) 0 < 18446744073709551616 from by omega) (c := X.getD Y.length 0 * 4294967296 + X.getD (Y.length - 1) 0) ((or_add (by omega))) (wn_u64 rfl (by omega))) ?_
  refine q_val rfl rfl (r_assign rfl (.t rfl rfl)) ?_
  refine q_nil ?_
  intro w1 hS1
  refine x_tn ?_
  refine k_reb [(0, .slice (some ⟨bx, PL.length, none⟩) (Y.length + 1) capx), (1, .slice aY Y.length cY), (4, .int .u32 0), (5, .int .i64 (((Y.length : Nat) : Int))), (6, .int .u64 (((X.getD Y.length 0 * 4294967296 + X.getD (Y.length - 1) 0 : Nat) : Int)))] ⟨rfl, rfl, rfl, rfl, rfl, trivial⟩ fun G2 => ?_
  refine wp_seq ?_
  refine k_regq mixed (by kernel_rfl) hS1 ?_
  refine q_val rfl rfl (r_move rfl (.t rfl rfl)) ?_
  refine q_val rfl rfl (r_move rfl (.t rfl rfl)) ?_
  refine q_val rfl rfl (r_move rfl (.t rfl rfl)) ?_
  refine q_val rfl rfl (r_arith rfl rfl (.t rfl rfl) .c (c := ((Y.length - 1 : Nat) : Int)) (wn_i64 (by show (((Y.length : Nat) : Int) : Int) - 1 = _; omega) (by omega))) ?_
  refine q_val rfl rfl (r_ixr (j := Y.length - 1) rfl Tryd.underlying26 ti38 (.t rfl rfl) (.t rfl rfl) hY rfl rfl (by omega)) ?_
  have b3 : Y.getD (Y.length - 1) 0 ≤ 4294967295 := hY.lt _
  refine q_val rfl rfl (r_load rfl one38 (.t rfl rfl) (St.cell_rd hY (by omega) (by simpa using hne))) ?_
  refine q_val rfl rfl (r_conv rfl Tryd.underlying38 Tryd.underlying47 (.t rfl rfl) (c := ((Y.getD (Y.length - 1) 0 : Nat) : Int)) (wn_u64 rfl (by omega))) ?_
  refine q_val rfl rfl (r_quo rfl (.t rfl rfl) (.t rfl rfl) (nz_nat (by omega)) (wn_u64 (c := (X.getD Y.length 0 * 4294967296 + X.getD (Y.length - 1) 0) / (Y.getD (Y.length - 1) 0)) tdiv_nat (Nat.le_trans (Nat.div_le_self _ _) (by omega)))) ?_
  refine q_val rfl rfl (r_move rfl (.t rfl rfl)) ?_
  refine q_val rfl rfl (r_move rfl (.t rfl rfl)) ?_
  refine q_val rfl rfl (r_move rfl (.t rfl rfl)) ?_
  refine q_val rfl rfl (r_arith rfl rfl (.t rfl rfl) .c (c := ((Y.length - 1 : Nat) : Int)) (wn_i64 (by show (((Y.length : Nat) : Int) : Int) - 1 = _; omega) (by omega))) ?_
  refine q_val rfl rfl (r_ixr (j := Y.length - 1) rfl Tryd.underlying26 ti38 (.t rfl rfl) (.t rfl rfl) hY rfl rfl (by omega)) ?_
  have b4 : Y.getD (Y.length - 1) 0 ≤ 4294967295 := hY.lt _
  refine q_val rfl rfl (r_load rfl one38 (.t rfl rfl) (St.cell_rd hY (by omega) (by simpa using hne))) ?_
  refine q_val rfl rfl (r_conv rfl Tryd.underlying38 Tryd.underlying47 (.t rfl rfl) (c := ((Y.getD (Y.length - 1) 0 : Nat) : Int)) (wn_u64 rfl (by omega))) ?_
  refine q_val rfl rfl (r_rem rfl (.t rfl rfl) (.t rfl rfl) (nz_nat (by omega)) (c := (((X.getD Y.length 0 * 4294967296 + X.getD (Y.length - 1) 0) % (Y.getD (Y.length - 1) 0) : Nat) : Int)) tmod_nat) ?_
  refine q_val rfl rfl (r_assign rfl (.t rfl rfl)) ?_
  refine q_val rfl rfl (r_assign rfl (.t rfl rfl)) ?_
  refine q_nil ?_
  intro w2 hS2
  refine x_tn ?_
  refine k_reb [(0, .slice (some ⟨bx, PL.length, none⟩) (Y.length + 1) capx), (1, .slice aY Y.length cY), (4, .int .u32 0), (5, .int .i64 (((Y.length : Nat) : Int))), (7, .int .u64 ((((X.getD Y.length 0 * 4294967296 + X.getD (Y.length - 1) 0) / (Y.getD (Y.length - 1) 0) : Nat) : Int))), (8, .int .u64 ((((X.getD Y.length 0 * 4294967296 + X.getD (Y.length - 1) 0) % (Y.getD (Y.length - 1) 0) : Nat) : Int)))] ⟨rfl, rfl, rfl, rfl, rfl, rfl, trivial⟩ fun G3 => ?_
  refine wp_seq ?_
  refine k_join (fun a w => ∃ (G : Nat → Value) (g : Nat), a = fr 158 [(0, .slice (some ⟨bx, PL.length, none⟩) (Y.length + 1) capx), (1, .slice aY Y.length cY), (4, .int .u32 0), (5, .int .i64 (((Y.length : Nat) : Int))), (7, .int .u64 (((g : Nat) : Int)))] G ∧ St w0 [bx] [(bx, .cells (encN .u32 (PL ++ X ++ PR)) 38 (0, 0))] w ∧ (g < 4294967296 ∧ lv X / lv Y ≤ g ∧ g ≤ lv X / lv Y + 1)) ?_ ?_
  · refine wp_block ?_
    refine wp_loop_ghost (fun (m1 : Nat) a w => ∃ (G : Nat → Value) (g : Nat) (r : Nat), a = fr 158 [(0, .slice (some ⟨bx, PL.length, none⟩) (Y.length + 1) capx), (1, .slice aY Y.length cY), (4, .int .u32 0), (5, .int .i64 (((Y.length : Nat) : Int))), (7, .int .u64 (((g : Nat) : Int))), (8, .int .u64 (((r : Nat) : Int)))] G ∧ St w0 [bx] [(bx, .cells (encN .u32 (PL ++ X ++ PR)) 38 (0, 0))] w ∧ (m1 = g ∧ g ≤ 4294967297 ∧ r ≤ 4294967295 ∧ g * Y.getD (Y.length - 1) 0 + r = X.getD Y.length 0 * 4294967296 + X.getD (Y.length - 1) 0 ∧ lv X / lv Y ≤ g)) ((X.getD Y.length 0 * 4294967296 + X.getD (Y.length - 1) 0) / Y.getD (Y.length - 1) 0) ⟨_, (X.getD Y.length 0 * 4294967296 + X.getD (Y.length - 1) 0) / Y.getD (Y.length - 1) 0, (X.getD Y.length 0 * 4294967296 + X.getD (Y.length - 1) 0) % Y.getD (Y.length - 1) 0, fr_reb _ ⟨rfl, rfl, rfl, rfl, rfl, rfl, trivial⟩, hS2, ?_⟩ ?_
    · have hr0 := Nat.mod_lt (X.getD Y.length 0 * 4294967296 + X.getD (Y.length - 1) 0) (show 0 < Y.getD (Y.length - 1) 0 from by omega)
      exact ⟨rfl, guess_begin hv1 hu0 (by omega), by omega, by rw [Nat.mul_comm]; exact Nat.div_add_mod _ _, guess_first H (by omega) (by omega)⟩
    · intro m1 _ w4 hI1
      obtain ⟨G4, g, r, rfl, hS3, ⟨hmg, hgl, hrl, hg, hQ⟩⟩ := hI1
      refine wp_seq ?_
      refine wp_seq ?_
      refine k_regq mixed (by kernel_rfl) hS3 ?_
      refine q_val rfl rfl (r_move rfl (.t rfl rfl)) ?_
      by_cases c1 : g ≥ 4294967296
      · refine q_val rfl rfl (r_cmp_t rfl rfl (.t rfl rfl) .c (show ((g : Nat) : Int) ≥ 4294967296 from by omega)) ?_
        refine q_val rfl rfl (r_move rfl (.t rfl rfl)) ?_
        refine q_skip (unwanted_of (j := 2) (b := false) (b' := true) (d := 47) rfl rfl rfl rfl rfl) rfl ?_
        refine q_skip (unwanted_of (j := 2) (b := false) (b' := true) (d := 47) rfl rfl rfl rfl rfl) rfl ?_
        refine q_skip (unwanted_of (j := 2) (b := false) (b' := true) (d := 47) rfl rfl rfl rfl rfl) rfl ?_
        refine q_skip (unwanted_of (j := 2) (b := false) (b' := true) (d := 47) rfl rfl rfl rfl rfl) rfl ?_
        refine q_skip (unwanted_of (j := 2) (b := false) (b' := true) (d := 47) rfl rfl rfl rfl rfl) rfl ?_
        refine q_skip (unwanted_of (j := 2) (b := false) (b' := true) (d := 47) rfl rfl rfl rfl rfl) rfl ?_
        refine q_skip (unwanted_of (j := 2) (b := false) (b' := true) (d := 47) rfl rfl rfl rfl rfl) rfl ?_
        refine q_skip (unwanted_of (j := 2) (b := false) (b' := true) (d := 47) rfl rfl rfl rfl rfl) rfl ?_
        refine q_skip (unwanted_of (j := 2) (b := false) (b' := true) (d := 47) rfl rfl rfl rfl rfl) rfl ?_
        refine q_skip (unwanted_of (j := 2) (b := false) (b' := true) (d := 47) rfl rfl rfl rfl rfl) rfl ?_
        refine q_skip (unwanted_of (j := 2) (b := false) (b' := true) (d := 47) rfl rfl rfl rfl rfl) rfl ?_
        refine q_skip (unwanted_of (j := 2) (b := false) (b' := true) (d := 47) rfl rfl rfl rfl rfl) rfl ?_
        refine q_skip (unwanted_of (j := 2) (b := false) (b' := true) (d := 47) rfl rfl rfl rfl rfl) rfl ?_
        refine q_skip (unwanted_of (j := 2) (b := false) (b' := true) (d := 47) rfl rfl rfl rfl rfl) rfl ?_
        refine q_skip (unwanted_of (j := 2) (b := false) (b' := true) (d := 47) rfl rfl rfl rfl rfl) rfl ?_
        refine q_skip (unwanted_of (j := 2) (b := false) (b' := true) (d := 47) rfl rfl rfl rfl rfl) rfl ?_
        refine q_skip (unwanted_of (j := 2) (b := false) (b' := true) (d := 47) rfl rfl rfl rfl rfl) rfl ?_
        refine q_skip (unwanted_of (j := 2) (b := false) (b' := true) (d := 47) rfl rfl rfl rfl rfl) rfl ?_
        refine q_val rfl rfl (r_pick rfl (.t rfl rfl) .c) ?_
        refine q_nil ?_
        intro w5 hS4
        refine x_tn ?_
        refine k_reb [(0, .slice (some ⟨bx, PL.length, none⟩) (Y.length + 1) capx), (1, .slice aY Y.length cY), (4, .int .u32 0), (5, .int .i64 (((Y.length : Nat) : Int))), (7, .int .u64 (((g : Nat) : Int))), (8, .int .u64 (((r : Nat) : Int))), (66, .bool true)] ⟨rfl, rfl, rfl, rfl, rfl, rfl, rfl, trivial⟩ fun G5 => ?_
        refine k_t (.t rfl rfl) ?_
        refine wp_skip ?_
        refine x_tn ?_
        refine k_reb [(0, .slice (some ⟨bx, PL.length, none⟩) (Y.length + 1) capx), (1, .slice aY Y.length cY), (4, .int .u32 0), (5, .int .i64 (((Y.length : Nat) : Int))), (7, .int .u64 (((g : Nat) : Int))), (8, .int .u64 (((r : Nat) : Int)))] ⟨rfl, rfl, rfl, rfl, rfl, rfl, trivial⟩ fun G6 => ?_
        refine wp_block ?_
        refine wp_seq ?_
        refine k_reg ?_
        refine s_val hS4 rfl rfl (r_move rfl (.t rfl rfl)) ?_
        have hg1 : 1 ≤ g := Nat.pos_of_ne_zero fun h0 => by subst h0; first | omega | (rw [Nat.zero_mul] at *; omega)
        refine s_val hS4 rfl rfl (r_arith rfl rfl (.t rfl rfl) .c (c := ((g - 1 : Nat) : Int)) (wn_u64 (by show (((g : Nat) : Int) : Int) - 1 = _; omega) (by omega))) ?_
        refine s_val hS4 rfl rfl (r_assign rfl (.t rfl rfl)) ?_
        refine wpList_nil ?_
        refine x_tn ?_
        refine k_reb [(0, .slice (some ⟨bx, PL.length, none⟩) (Y.length + 1) capx), (1, .slice aY Y.length cY), (4, .int .u32 0), (5, .int .i64 (((Y.length : Nat) : Int))), (7, .int .u64 (((g - 1 : Nat) : Int))), (8, .int .u64 (((r : Nat) : Int)))] ⟨rfl, rfl, rfl, rfl, rfl, rfl, trivial⟩ fun G7 => ?_
        refine wp_seq ?_
        refine k_reg ?_
        refine s_val hS4 rfl rfl (r_move rfl (.t rfl rfl)) ?_
        refine s_val hS4 rfl rfl (r_move rfl (.t rfl rfl)) ?_
        refine s_val hS4 rfl rfl (r_move rfl (.t rfl rfl)) ?_
        refine s_val hS4 rfl rfl (r_arith rfl rfl (.t rfl rfl) .c (c := ((Y.length - 1 : Nat) : Int)) (wn_i64 (by show (((Y.length : Nat) : Int) : Int) - 1 = _; omega) (by omega))) ?_
        refine s_val hS4 rfl rfl (r_ixr (j := Y.length - 1) rfl Tryd.underlying26 ti38 (.t rfl rfl) (.t rfl rfl) hY rfl rfl (by omega)) ?_
        have b5 : Y.getD (Y.length - 1) 0 ≤ 4294967295 := hY.lt _
        refine s_val hS4 rfl rfl (r_load rfl one38 (.t rfl rfl) (St.cell_rd hY (by omega) (by simpa using hne))) ?_
        refine s_val hS4 rfl rfl (r_conv rfl Tryd.underlying38 Tryd.underlying47 (.t rfl rfl) (c := ((Y.getD (Y.length - 1) 0 : Nat) : Int)) (wn_u64 rfl (by omega))) ?_
        refine s_val hS4 rfl rfl (r_arith rfl rfl (.t rfl rfl) (.t rfl rfl) (c := ((r + (Y.getD (Y.length - 1) 0) : Nat) : Int)) (wn_u64 (by show (((r : Nat) : Int) : Int) + ((Y.getD (Y.length - 1) 0 : Nat) : Int) = _; omega) (by omega))) ?_
        refine s_val hS4 rfl rfl (r_assign rfl (.t rfl rfl)) ?_
        refine wpList_nil ?_
        refine x_tn ?_
        refine k_reb [(0, .slice (some ⟨bx, PL.length, none⟩) (Y.length + 1) capx), (1, .slice aY Y.length cY), (4, .int .u32 0), (5, .int .i64 (((Y.length : Nat) : Int))), (7, .int .u64 (((g - 1 : Nat) : Int))), (8, .int .u64 (((r + (Y.getD (Y.length - 1) 0) : Nat) : Int)))] ⟨rfl, rfl, rfl, rfl, rfl, rfl, trivial⟩ fun G8 => ?_
        refine wp_seq ?_
        refine k_reg ?_
        refine s_val hS4 rfl rfl (r_move rfl (.t rfl rfl)) ?_
        by_cases c2 : r + (Y.getD (Y.length - 1) 0) ≥ 4294967296
        · refine s_val hS4 rfl rfl (r_cmp_t rfl rfl (.t rfl rfl) .c (show ((r + (Y.getD (Y.length - 1) 0) : Nat) : Int) ≥ 4294967296 from by omega)) ?_
          refine wpList_nil ?_
          refine x_tn ?_
          refine k_reb [(0, .slice (some ⟨bx, PL.length, none⟩) (Y.length + 1) capx), (1, .slice aY Y.length cY), (4, .int .u32 0), (5, .int .i64 (((Y.length : Nat) : Int))), (7, .int .u64 (((g - 1 : Nat) : Int))), (8, .int .u64 (((r + (Y.getD (Y.length - 1) 0) : Nat) : Int))), (78, .bool true)] ⟨rfl, rfl, rfl, rfl, rfl, rfl, rfl, trivial⟩ fun G9 => ?_
          refine k_t (.t rfl rfl) ?_
          refine wp_exit ?_
          refine x_bne rfl ?_
          refine x_te ?_
          refine x_be ?_
          refine x_tn ?_
          refine ⟨_, g - 1, fr_reb _ ⟨rfl, rfl, rfl, rfl, rfl, trivial⟩, hS4, ?_⟩
          exact guess_break H (by omega) (by omega) hv1 (by omega) hXY hYp hg1 hQ hg (.inl (by omega)) (by omega)
        · refine s_val hS4 rfl rfl (r_cmp_f rfl rfl (.t rfl rfl) .c (show ¬ (((r + (Y.getD (Y.length - 1) 0) : Nat) : Int) ≥ 4294967296) from by omega)) ?_
          refine wpList_nil ?_
          refine x_tn ?_
          refine k_reb [(0, .slice (some ⟨bx, PL.length, none⟩) (Y.length + 1) capx), (1, .slice aY Y.length cY), (4, .int .u32 0), (5, .int .i64 (((Y.length : Nat) : Int))), (7, .int .u64 (((g - 1 : Nat) : Int))), (8, .int .u64 (((r + (Y.getD (Y.length - 1) 0) : Nat) : Int))), (78, .bool false)] ⟨rfl, rfl, rfl, rfl, rfl, rfl, rfl, trivial⟩ fun G10 => ?_
          refine k_f (.t rfl rfl) ?_
          refine wp_skip ?_
          refine x_bn ?_
          refine x_tn ?_
          refine ⟨g - 1, by omega, _, g - 1, r + Y.getD (Y.length - 1) 0, fr_reb _ ⟨rfl, rfl, rfl, rfl, rfl, rfl, trivial⟩, hS4, ?_⟩
          obtain ⟨q1, q2⟩ := guess_stays H hXY hYp hg1 hQ hg (.inl (by omega))
          exact ⟨rfl, by omega, by omega, q1, q2⟩
      · refine q_val rfl rfl (r_cmp_f rfl rfl (.t rfl rfl) .c (show ¬ (((g : Nat) : Int) ≥ 4294967296) from by omega)) ?_
        refine q_val rfl rfl (r_move rfl (.t rfl rfl)) ?_
        refine q_valg (wanted_of (j := 2) (b := false) (d := 47) rfl rfl rfl rfl) rfl (r_move rfl (.t rfl rfl)) ?_
        refine q_valg (wanted_of (j := 2) (b := false) (d := 47) rfl rfl rfl rfl) rfl (r_move rfl (.t rfl rfl)) ?_
        refine q_valg (wanted_of (j := 2) (b := false) (d := 47) rfl rfl rfl rfl) rfl (r_move rfl (.t rfl rfl)) ?_
        refine q_valg (wanted_of (j := 2) (b := false) (d := 47) rfl rfl rfl rfl) rfl (r_arith rfl rfl (.t rfl rfl) .c (c := ((Y.length - 2 : Nat) : Int)) (wn_i64 (by show (((Y.length : Nat) : Int) : Int) - 2 = _; omega) (by omega))) ?_
        refine q_valg (wanted_of (j := 2) (b := false) (d := 47) rfl rfl rfl rfl) rfl (r_ixr (j := Y.length - 2) rfl Tryd.underlying26 ti38 (.t rfl rfl) (.t rfl rfl) hY rfl rfl (by omega)) ?_
        have b6 : Y.getD (Y.length - 2) 0 ≤ 4294967295 := hY.lt _
        refine q_valg (wanted_of (j := 2) (b := false) (d := 47) rfl rfl rfl rfl) rfl (r_load rfl one38 (.t rfl rfl) (St.cell_rd hY (by omega) (by simpa using hne))) ?_
        refine q_valg (wanted_of (j := 2) (b := false) (d := 47) rfl rfl rfl rfl) rfl (r_conv rfl Tryd.underlying38 Tryd.underlying47 (.t rfl rfl) (c := ((Y.getD (Y.length - 2) 0 : Nat) : Int)) (wn_u64 rfl (by omega))) ?_
        have hgv : g * Y.getD (Y.length - 2) 0 ≤ 4294967295 * 4294967295 := Nat.mul_le_mul (by omega) hyB2
        refine q_valg (wanted_of (j := 2) (b := false) (d := 47) rfl rfl rfl rfl) rfl (r_arith rfl rfl (.t rfl rfl) (.t rfl rfl) (c := ((g * (Y.getD (Y.length - 2) 0) : Nat) : Int)) (wn_u64 (Int.natCast_mul _ _).symm (by omega))) ?_
        refine q_valg (wanted_of (j := 2) (b := false) (d := 47) rfl rfl rfl rfl) rfl (r_move rfl (.t rfl rfl)) ?_
        refine q_valg (wanted_of (j := 2) (b := false) (d := 47) rfl rfl rfl rfl) rfl (r_shl rfl (.t rfl rfl) .c (by omega) (show (2 : Int) ^ _ = ((4294967296 : Nat) : Int) from rfl) (c := ((r * 4294967296 : Nat) : Int)) (wn_u64 (Int.natCast_mul _ _).symm (by omega))) ?_
        refine q_valg (wanted_of (j := 2) (b := false) (d := 47) rfl rfl rfl rfl) rfl (r_move rfl (.t rfl rfl)) ?_
        refine q_valg (wanted_of (j := 2) (b := false) (d := 47) rfl rfl rfl rfl) rfl (r_move rfl (.t rfl rfl)) ?_
        refine q_valg (wanted_of (j := 2) (b := false) (d := 47) rfl rfl rfl rfl) rfl (r_arith rfl rfl (.t rfl rfl) .c (c := ((Y.length - 2 : Nat) : Int)) (wn_i64 (by show (((Y.length : Nat) : Int) : Int) - 2 = _; omega) (by omega))) ?_
        refine q_valg (wanted_of (j := 2) (b := false) (d := 47) rfl rfl rfl rfl) rfl (r_ixs (j := Y.length - 2) rfl Tryd.underlying26 ti38 (.t rfl rfl) (.t rfl rfl) rfl (by omega) (qq := PL.length + (Y.length - 2)) (by omega)) ?_
        have b7 : X.getD (Y.length - 2) 0 ≤ 4294967295 := getD_lim hXlim _
        refine q_valg (wanted_of (j := 2) (b := false) (d := 47) rfl rfl rfl rfl) rfl (r_load rfl one38 (.t rfl rfl) (St.cell_own (m := 0) rfl (encW_get (by first | omega | (simp only [List.length_set, List.length_append, List.length_replicate]; omega))))) ?_
        refine q_valg (wanted_of (j := 2) (b := false) (d := 47) rfl rfl rfl rfl) rfl (r_conv rfl Tryd.underlying38 Tryd.underlying47 (.t rfl rfl) (c := ((X.getD (Y.length - 2) 0 : Nat) : Int)) (wn_u64 rfl (by omega))) ?_
        refine q_valg (wanted_of (j := 2) (b := false) (d := 47) rfl rfl rfl rfl) rfl (r_or rfl (.t rfl rfl) (.t rfl rfl) (show r * 4294967296 < 18446744073709551616 from by omega) (show X.getD (Y.length - 2) 0 < 18446744073709551616 from by omega) (c := r * 4294967296 + X.getD (Y.length - 2) 0) ((or_add (by omega))) (wn_u64 rfl (by omega))) ?_
        by_cases c3 : g * (Y.getD (Y.length - 2) 0) > r * 4294967296 + X.getD (Y.length - 2) 0
        · refine q_valg (wanted_of (j := 2) (b := false) (d := 47) rfl rfl rfl rfl) rfl (r_cmp_t rfl rfl (.t rfl rfl) (.t rfl rfl) (show ((g * (Y.getD (Y.length - 2) 0) : Nat) : Int) > ((r * 4294967296 + X.getD (Y.length - 2) 0 : Nat) : Int) from by omega)) ?_
          refine q_val rfl rfl (r_pick rfl (.t rfl rfl) (.t rfl rfl)) ?_
          refine q_nil ?_
          intro w6 hS5
          refine x_tn ?_
          refine k_reb [(0, .slice (some ⟨bx, PL.length, none⟩) (Y.length + 1) capx), (1, .slice aY Y.length cY), (4, .int .u32 0), (5, .int .i64 (((Y.length : Nat) : Int))), (7, .int .u64 (((g : Nat) : Int))), (8, .int .u64 (((r : Nat) : Int))), (66, .bool true)] ⟨rfl, rfl, rfl, rfl, rfl, rfl, rfl, trivial⟩ fun G11 => ?_
          refine k_t (.t rfl rfl) ?_
          refine wp_skip ?_
          refine x_tn ?_
          refine k_reb [(0, .slice (some ⟨bx, PL.length, none⟩) (Y.length + 1) capx), (1, .slice aY Y.length cY), (4, .int .u32 0), (5, .int .i64 (((Y.length : Nat) : Int))), (7, .int .u64 (((g : Nat) : Int))), (8, .int .u64 (((r : Nat) : Int)))] ⟨rfl, rfl, rfl, rfl, rfl, rfl, trivial⟩ fun G12 => ?_
          refine wp_block ?_
          refine wp_seq ?_
          refine k_reg ?_
          refine s_val hS5 rfl rfl (r_move rfl (.t rfl rfl)) ?_
          have hg1 : 1 ≤ g := Nat.pos_of_ne_zero fun h0 => by subst h0; first | omega | (rw [Nat.zero_mul] at *; omega)
          refine s_val hS5 rfl rfl (r_arith rfl rfl (.t rfl rfl) .c (c := ((g - 1 : Nat) : Int)) (wn_u64 (by show (((g : Nat) : Int) : Int) - 1 = _; omega) (by omega))) ?_
          refine s_val hS5 rfl rfl (r_assign rfl (.t rfl rfl)) ?_
          refine wpList_nil ?_
          refine x_tn ?_
          refine k_reb [(0, .slice (some ⟨bx, PL.length, none⟩) (Y.length + 1) capx), (1, .slice aY Y.length cY), (4, .int .u32 0), (5, .int .i64 (((Y.length : Nat) : Int))), (7, .int .u64 (((g - 1 : Nat) : Int))), (8, .int .u64 (((r : Nat) : Int)))] ⟨rfl, rfl, rfl, rfl, rfl, rfl, trivial⟩ fun G13 => ?_
          refine wp_seq ?_
          refine k_reg ?_
          refine s_val hS5 rfl rfl (r_move rfl (.t rfl rfl)) ?_
          refine s_val hS5 rfl rfl (r_move rfl (.t rfl rfl)) ?_
          refine s_val hS5 rfl rfl (r_move rfl (.t rfl rfl)) ?_
          refine s_val hS5 rfl rfl (r_arith rfl rfl (.t rfl rfl) .c (c := ((Y.length - 1 : Nat) : Int)) (wn_i64 (by show (((Y.length : Nat) : Int) : Int) - 1 = _; omega) (by omega))) ?_
          refine s_val hS5 rfl rfl (r_ixr (j := Y.length - 1) rfl Tryd.underlying26 ti38 (.t rfl rfl) (.t rfl rfl) hY rfl rfl (by omega)) ?_
          have b8 : Y.getD (Y.length - 1) 0 ≤ 4294967295 := hY.lt _
          refine s_val hS5 rfl rfl (r_load rfl one38 (.t rfl rfl) (St.cell_rd hY (by omega) (by simpa using hne))) ?_
          refine s_val hS5 rfl rfl (r_conv rfl Tryd.underlying38 Tryd.underlying47 (.t rfl rfl) (c := ((Y.getD (Y.length - 1) 0 : Nat) : Int)) (wn_u64 rfl (by omega))) ?_
          refine s_val hS5 rfl rfl (r_arith rfl rfl (.t rfl rfl) (.t rfl rfl) (c := ((r + (Y.getD (Y.length - 1) 0) : Nat) : Int)) (wn_u64 (by show (((r : Nat) : Int) : Int) + ((Y.getD (Y.length - 1) 0 : Nat) : Int) = _; omega) (by omega))) ?_
          refine s_val hS5 rfl rfl (r_assign rfl (.t rfl rfl)) ?_
          refine wpList_nil ?_
          refine x_tn ?_
          refine k_reb [(0, .slice (some ⟨bx, PL.length, none⟩) (Y.length + 1) capx), (1, .slice aY Y.length cY), (4, .int .u32 0), (5, .int .i64 (((Y.length : Nat) : Int))), (7, .int .u64 (((g - 1 : Nat) : Int))), (8, .int .u64 (((r + (Y.getD (Y.length - 1) 0) : Nat) : Int)))] ⟨rfl, rfl, rfl, rfl, rfl, rfl, trivial⟩ fun G14 => ?_
          refine wp_seq ?_
          refine k_reg ?_
          refine s_val hS5 rfl rfl (r_move rfl (.t rfl rfl)) ?_
          by_cases c4 : r + (Y.getD (Y.length - 1) 0) ≥ 4294967296
          · refine s_val hS5 rfl rfl (r_cmp_t rfl rfl (.t rfl rfl) .c (show ((r + (Y.getD (Y.length - 1) 0) : Nat) : Int) ≥ 4294967296 from by omega)) ?_
            refine wpList_nil ?_
            refine x_tn ?_
            refine k_reb [(0, .slice (some ⟨bx, PL.length, none⟩) (Y.length + 1) capx), (1, .slice aY Y.length cY), (4, .int .u32 0), (5, .int .i64 (((Y.length : Nat) : Int))), (7, .int .u64 (((g - 1 : Nat) : Int))), (8, .int .u64 (((r + (Y.getD (Y.length - 1) 0) : Nat) : Int))), (78, .bool true)] ⟨rfl, rfl, rfl, rfl, rfl, rfl, rfl, trivial⟩ fun G15 => ?_
            refine k_t (.t rfl rfl) ?_
            refine wp_exit ?_
            refine x_bne rfl ?_
            refine x_te ?_
            refine x_be ?_
            refine x_tn ?_
            refine ⟨_, g - 1, fr_reb _ ⟨rfl, rfl, rfl, rfl, rfl, trivial⟩, hS5, ?_⟩
            exact guess_break H (by omega) (by omega) hv1 (by omega) hXY hYp hg1 hQ hg (.inr (by omega)) (by omega)
          · refine s_val hS5 rfl rfl (r_cmp_f rfl rfl (.t rfl rfl) .c (show ¬ (((r + (Y.getD (Y.length - 1) 0) : Nat) : Int) ≥ 4294967296) from by omega)) ?_
            refine wpList_nil ?_
            refine x_tn ?_
            refine k_reb [(0, .slice (some ⟨bx, PL.length, none⟩) (Y.length + 1) capx), (1, .slice aY Y.length cY), (4, .int .u32 0), (5, .int .i64 (((Y.length : Nat) : Int))), (7, .int .u64 (((g - 1 : Nat) : Int))), (8, .int .u64 (((r + (Y.getD (Y.length - 1) 0) : Nat) : Int))), (78, .bool false)] ⟨rfl, rfl, rfl, rfl, rfl, rfl, rfl, trivial⟩ fun G16 => ?_
            refine k_f (.t rfl rfl) ?_
            refine wp_skip ?_
            refine x_bn ?_
            refine x_tn ?_
            refine ⟨g - 1, by omega, _, g - 1, r + Y.getD (Y.length - 1) 0, fr_reb _ ⟨rfl, rfl, rfl, rfl, rfl, rfl, trivial⟩, hS5, ?_⟩
            obtain ⟨q1, q2⟩ := guess_stays H hXY hYp hg1 hQ hg (.inr (by omega))
            exact ⟨rfl, by omega, by omega, q1, q2⟩
        · refine q_valg (wanted_of (j := 2) (b := false) (d := 47) rfl rfl rfl rfl) rfl (r_cmp_f rfl rfl (.t rfl rfl) (.t rfl rfl) (show ¬ (((g * (Y.getD (Y.length - 2) 0) : Nat) : Int) > ((r * 4294967296 + X.getD (Y.length - 2) 0 : Nat) : Int)) from by omega)) ?_
          refine q_val rfl rfl (r_pick rfl (.t rfl rfl) (.t rfl rfl)) ?_
          refine q_nil ?_
          intro w7 hS6
          refine x_tn ?_
          refine k_reb [(0, .slice (some ⟨bx, PL.length, none⟩) (Y.length + 1) capx), (1, .slice aY Y.length cY), (4, .int .u32 0), (5, .int .i64 (((Y.length : Nat) : Int))), (7, .int .u64 (((g : Nat) : Int))), (8, .int .u64 (((r : Nat) : Int))), (66, .bool false)] ⟨rfl, rfl, rfl, rfl, rfl, rfl, rfl, trivial⟩ fun G17 => ?_
          refine k_f (.t rfl rfl) ?_
          refine wp_exit ?_
          refine x_te ?_
          refine x_te ?_
          refine x_be ?_
          refine x_tn ?_
          refine ⟨_, g, fr_reb _ ⟨rfl, rfl, rfl, rfl, rfl, trivial⟩, hS6, ?_⟩
          exact ⟨by omega, hQ, guess_top H (by omega) hg (by omega) (by omega) hYp⟩
  · intro _ w3 hI2
    obtain ⟨G18, g, rfl, hS7, ⟨hgB, hQ, hQ1⟩⟩ := hI2
    refine x_tn ?_
    refine wp_seq ?_
    refine k_reg ?_
    refine s_val hS7 rfl rfl (r_assign rfl .c) ?_
    refine s_val hS7 rfl rfl (r_assign rfl .c) ?_
    refine wpList_nil ?_
    refine x_tn ?_
    refine wp_seq ?_
    refine wp_seq ?_
    refine k_reg ?_
    refine s_val hS7 rfl rfl (r_move rfl (.t rfl rfl)) ?_
    refine s_val hS7 rfl rfl (r_move rfl .c) ?_
    refine wpList_nil ?_
    refine x_tn ?_
    refine wp_block ?_
    refine wp_loop_ghost (fun (m2 : Nat) a w => ∃ (G : Nat → Value) (i : Nat) (br : Nat) (c : Nat) (Z : List Nat), a = fr 158 [(0, .slice (some ⟨bx, PL.length, none⟩) (Y.length + 1) capx), (1, .slice aY Y.length cY), (4, .int .u32 0), (5, .int .i64 (((Y.length : Nat) : Int))), (7, .int .u64 (((g : Nat) : Int))), (9, .int .u32 (((br : Nat) : Int))), (10, .int .u64 (((c : Nat) : Int))), (79, .int .i64 (((Y.length : Nat) : Int))), (80, .int .i64 (((i : Nat) : Int)))] G ∧ St w0 [bx] [(bx, .cells (encN .u32 (PL ++ Z ++ PR)) 38 (0, 0))] w ∧ (m2 = Y.length - i ∧ i ≤ Y.length ∧ Z.length = Y.length + 1 ∧ Lim Z ∧ br ≤ 1 ∧ c ≤ 4294967295 ∧ (∀ j, i ≤ j → Z.getD j 0 = X.getD j 0) ∧ lv (X.take i) + (c + br) * pw i = lv (Z.take i) + g * lv (Y.take i))) (Y.length) ⟨_, 0, 0, 0, X, fr_reb _ ⟨rfl, rfl, rfl, rfl, rfl, rfl, rfl, rfl, rfl, trivial⟩, hS7, ?_⟩ ?_
    · exact ⟨rfl, Nat.zero_le _, hXl, hXlim, by omega, by omega, fun _ _ => rfl, by simp [lv]⟩
    · intro m2 _ w8 hI3
      obtain ⟨G19, i, br, c, Z, rfl, hS8, ⟨hmi, hi, hZl, hZlim, hbr, hc, hZX, hv⟩⟩ := hI3
      refine wp_seq ?_
      refine k_reg ?_
      by_cases c5 : i < Y.length
      · refine s_val hS8 rfl rfl (r_cmp_t rfl rfl (.t rfl rfl) (.t rfl rfl) (show ((i : Nat) : Int) < ((Y.length : Nat) : Int) from by omega)) ?_
        refine wpList_nil ?_
        refine x_tn ?_
        refine wp_seq ?_
        refine k_t (.t rfl rfl) ?_
        refine wp_skip ?_
        refine x_tn ?_
        refine k_reb [(0, .slice (some ⟨bx, PL.length, none⟩) (Y.length + 1) capx), (1, .slice aY Y.length cY), (4, .int .u32 0), (5, .int .i64 (((Y.length : Nat) : Int))), (7, .int .u64 (((g : Nat) : Int))), (9, .int .u32 (((br : Nat) : Int))), (10, .int .u64 (((c : Nat) : Int))), (79, .int .i64 (((Y.length : Nat) : Int))), (80, .int .i64 (((i : Nat) : Int)))] ⟨rfl, rfl, rfl, rfl, rfl, rfl, rfl, rfl, rfl, trivial⟩ fun G20 => ?_
        refine wp_seq ?_
        refine wp_block ?_
        refine wp_seq ?_
        refine k_reg ?_
        refine s_val hS8 rfl rfl (r_move rfl (.t rfl rfl)) ?_
        refine s_val hS8 rfl rfl (r_assign rfl (.t rfl rfl)) ?_
        refine wpList_nil ?_
        refine x_tn ?_
        refine k_reb [(0, .slice (some ⟨bx, PL.length, none⟩) (Y.length + 1) capx), (1, .slice aY Y.length cY), (4, .int .u32 0), (5, .int .i64 (((Y.length : Nat) : Int))), (7, .int .u64 (((g : Nat) : Int))), (9, .int .u32 (((br : Nat) : Int))), (10, .int .u64 (((c : Nat) : Int))), (11, .int .i64 (((i : Nat) : Int))), (79, .int .i64 (((Y.length : Nat) : Int))), (80, .int .i64 (((i : Nat) : Int)))] ⟨rfl, rfl, rfl, rfl, rfl, rfl, rfl, rfl, rfl, rfl, trivial⟩ fun G21 => ?_
        refine wp_seq ?_
        refine k_reg ?_
        refine s_val hS8 rfl rfl (r_move rfl (.t rfl rfl)) ?_
        refine s_val hS8 rfl rfl (r_move rfl (.t rfl rfl)) ?_
        refine s_val hS8 rfl rfl (r_move rfl (.t rfl rfl)) ?_
        refine s_val hS8 rfl rfl (r_move rfl (.t rfl rfl)) ?_
        refine s_val hS8 rfl rfl (r_ixr (j := i) rfl Tryd.underlying26 ti38 (.t rfl rfl) (.t rfl rfl) hY rfl rfl (by omega)) ?_
        have b9 : Y.getD i 0 ≤ 4294967295 := hY.lt _
        refine s_val hS8 rfl rfl (r_load rfl one38 (.t rfl rfl) (St.cell_rd hY (by omega) (by simpa using hne))) ?_
        refine s_val hS8 rfl rfl (r_conv rfl Tryd.underlying38 Tryd.underlying47 (.t rfl rfl) (c := ((Y.getD i 0 : Nat) : Int)) (wn_u64 rfl (by omega))) ?_
        have hgy : g * Y.getD i 0 ≤ 4294967295 * 4294967295 := Nat.mul_le_mul (by omega) (show _ ≤ 4294967295 from hY.lt i)
        refine s_val hS8 rfl rfl (r_arith rfl rfl (.t rfl rfl) (.t rfl rfl) (c := ((g * (Y.getD i 0) : Nat) : Int)) (wn_u64 (Int.natCast_mul _ _).symm (by omega))) ?_
        refine s_val hS8 rfl rfl (r_arith rfl rfl (.t rfl rfl) (.t rfl rfl) (c := ((c + (g * (Y.getD i 0)) : Nat) : Int)) (wn_u64 (by show (((c : Nat) : Int) : Int) + ((g * (Y.getD i 0) : Nat) : Int) = _; omega) (by omega))) ?_
        refine s_val hS8 rfl rfl (r_assign rfl (.t rfl rfl)) ?_
        refine wpList_nil ?_
        refine x_tn ?_
        refine k_reb [(0, .slice (some ⟨bx, PL.length, none⟩) (Y.length + 1) capx), (1, .slice aY Y.length cY), (4, .int .u32 0), (5, .int .i64 (((Y.length : Nat) : Int))), (7, .int .u64 (((g : Nat) : Int))), (9, .int .u32 (((br : Nat) : Int))), (10, .int .u64 (((c + (g * (Y.getD i 0)) : Nat) : Int))), (11, .int .i64 (((i : Nat) : Int))), (79, .int .i64 (((Y.length : Nat) : Int))), (80, .int .i64 (((i : Nat) : Int)))] ⟨rfl, rfl, rfl, rfl, rfl, rfl, rfl, rfl, rfl, rfl, trivial⟩ fun G22 => ?_
        refine wp_seq ?_
        refine k_reg ?_
        refine s_val hS8 rfl rfl (r_move rfl (.t rfl rfl)) ?_
        refine s_val hS8 rfl rfl (r_move rfl (.t rfl rfl)) ?_
        refine s_val hS8 rfl rfl (r_move rfl (.t rfl rfl)) ?_
        refine s_val hS8 rfl rfl (r_move rfl (.t rfl rfl)) ?_
        refine s_val hS8 rfl rfl (r_ixs (j := i) rfl Tryd.underlying26 ti38 (.t rfl rfl) (.t rfl rfl) rfl (by omega) (qq := PL.length + i) (by omega)) ?_
        have b10 : Z.getD i 0 ≤ 4294967295 := getD_lim hZlim _
        refine s_val hS8 rfl rfl (r_load rfl one38 (.t rfl rfl) (St.cell_own (m := 0) rfl (encW_get (by first | omega | (simp only [List.length_set, List.length_append, List.length_replicate]; omega))))) ?_
        refine s_val hS8 rfl rfl (r_move rfl (.t rfl rfl)) ?_
        refine s_val hS8 rfl rfl (r_conv rfl Tryd.underlying47 Tryd.underlying38 (.t rfl rfl) (wm_u32 rfl)) ?_
        refine s_val hS8 rfl rfl (r_move rfl (.t rfl rfl)) ?_
        refine s_call rfl rfl rfl (vs := [.int .u32 (((Z.getD i 0 : Nat) : Int)), .int .u32 ((((c + (g * (Y.getD i 0))) % 4294967296 : Nat) : Int)), .int .u32 (((br : Nat) : Int))]) ⟨(.t rfl rfl), (.t rfl rfl), (.t rfl rfl), trivial⟩ cb95 (sub32_ok w8 (Z.getD i 0) ((c + (g * (Y.getD i 0))) % 4294967296) br (by omega) (by omega) (by omega)) ?_
        rintro _ w8 ⟨d1, o1, rfl, rfl, hd1, ho1, hd1o1⟩
        refine s_val hS8 rfl rfl (r_move rfl (.t rfl rfl)) ?_
        refine s_val hS8 rfl rfl (r_extract rfl (.t rfl rfl) rfl) ?_
        refine s_val hS8 rfl rfl (r_extract rfl (.t rfl rfl) rfl) ?_
        refine s_val hS8 rfl rfl (r_ixs (j := i) rfl Tryd.underlying26 ti38 (.t rfl rfl) (.t rfl rfl) rfl (by omega) (qq := PL.length + i) (by omega)) ?_
        refine s_store (m := 0) rfl rfl rfl one38 (.t rfl rfl) (.t rfl rfl) rfl hS8 rfl (encW_get (by first | omega | (simp only [List.length_set, List.length_append, List.length_replicate]; omega))) (encW_set (by first | omega | (simp only [List.length_set, List.length_append, List.length_replicate]; omega))) rfl fun w9 hS9 => ?_
        refine s_val hS9 rfl rfl (r_assign rfl (.t rfl rfl)) ?_
        refine wpList_nil ?_
        refine x_tn ?_
        refine k_reb [(0, .slice (some ⟨bx, PL.length, none⟩) (Y.length + 1) capx), (1, .slice aY Y.length cY), (4, .int .u32 0), (5, .int .i64 (((Y.length : Nat) : Int))), (7, .int .u64 (((g : Nat) : Int))), (9, .int .u32 (((o1 : Nat) : Int))), (10, .int .u64 (((c + (g * (Y.getD i 0)) : Nat) : Int))), (79, .int .i64 (((Y.length : Nat) : Int))), (80, .int .i64 (((i : Nat) : Int)))] ⟨rfl, rfl, rfl, rfl, rfl, rfl, rfl, rfl, rfl, trivial⟩ fun G23 => ?_
        refine k_reg ?_
        refine s_val hS9 rfl rfl (r_move rfl (.t rfl rfl)) ?_
        refine s_val hS9 rfl rfl (r_shr rfl (.t rfl rfl) .c (by omega) (show (2 : Int) ^ _ = ((4294967296 : Nat) : Int) from rfl) fdiv_nat) ?_
        refine s_val hS9 rfl rfl (r_assign rfl (.t rfl rfl)) ?_
        refine wpList_nil ?_
        refine x_bn ?_
        refine x_tn ?_
        refine k_reb [(0, .slice (some ⟨bx, PL.length, none⟩) (Y.length + 1) capx), (1, .slice aY Y.length cY), (4, .int .u32 0), (5, .int .i64 (((Y.length : Nat) : Int))), (7, .int .u64 (((g : Nat) : Int))), (9, .int .u32 (((o1 : Nat) : Int))), (10, .int .u64 ((((c + (g * (Y.getD i 0))) / 4294967296 : Nat) : Int))), (79, .int .i64 (((Y.length : Nat) : Int))), (80, .int .i64 (((i : Nat) : Int)))] ⟨rfl, rfl, rfl, rfl, rfl, rfl, rfl, rfl, rfl, trivial⟩ fun G24 => ?_
        refine k_reg ?_
        refine s_val hS9 rfl rfl (r_arith rfl rfl (.t rfl rfl) .c (c := ((i + 1 : Nat) : Int)) (wn_i64 (by show (((i : Nat) : Int) : Int) + 1 = _; omega) (by omega))) ?_
        refine s_val hS9 rfl rfl (r_move rfl (.t rfl rfl)) ?_
        refine wpList_nil ?_
        refine x_tn ?_
        refine ⟨Y.length - (i + 1), by omega, _, i + 1, o1, (c + g * Y.getD i 0) / 4294967296, Z.set i d1, fr_reb _ ⟨rfl, rfl, rfl, rfl, rfl, rfl, rfl, rfl, rfl, trivial⟩, hS9, ?_⟩
        exact ⟨by omega, by omega, by simpa using hZl, lim_set hZlim hd1, ho1, by omega, fun j hj => by rw [getD_set_ne (by omega)]; exact hZX j (by omega), sub_step (by omega) (by omega) (by omega) hv (hZX i (Nat.le_refl _)) hd1o1⟩
      · refine s_val hS8 rfl rfl (r_cmp_f rfl rfl (.t rfl rfl) (.t rfl rfl) (show ¬ (((i : Nat) : Int) < ((Y.length : Nat) : Int)) from by omega)) ?_
        refine wpList_nil ?_
        refine x_tn ?_
        refine wp_seq ?_
        refine k_f (.t rfl rfl) ?_
        refine wp_exit ?_
        refine x_te ?_
        refine x_te ?_
        refine x_be ?_
        refine x_tn ?_
        refine k_reb [(0, .slice (some ⟨bx, PL.length, none⟩) (Y.length + 1) capx), (1, .slice aY Y.length cY), (4, .int .u32 0), (5, .int .i64 (((Y.length : Nat) : Int))), (7, .int .u64 (((g : Nat) : Int))), (9, .int .u32 (((br : Nat) : Int))), (10, .int .u64 (((c : Nat) : Int)))] ⟨rfl, rfl, rfl, rfl, rfl, rfl, rfl, trivial⟩ fun G25 => ?_
        refine wp_seq ?_
        refine k_reg ?_
        refine s_val hS8 rfl rfl (r_move rfl (.t rfl rfl)) ?_
        refine s_val hS8 rfl rfl (r_move rfl (.t rfl rfl)) ?_
        refine s_val hS8 rfl rfl (r_move rfl (.t rfl rfl)) ?_
        refine s_val hS8 rfl rfl (r_move rfl (.t rfl rfl)) ?_
        refine s_val hS8 rfl rfl (r_ixs (j := Y.length) rfl Tryd.underlying26 ti38 (.t rfl rfl) (.t rfl rfl) rfl (by omega) (qq := PL.length + Y.length) (by omega)) ?_
        have b11 : Z.getD Y.length 0 ≤ 4294967295 := getD_lim hZlim _
        refine s_val hS8 rfl rfl (r_load rfl one38 (.t rfl rfl) (St.cell_own (m := 0) rfl (encW_get (by first | omega | (simp only [List.length_set, List.length_append, List.length_replicate]; omega))))) ?_
        refine s_val hS8 rfl rfl (r_move rfl (.t rfl rfl)) ?_
        refine s_val hS8 rfl rfl (r_conv rfl Tryd.underlying47 Tryd.underlying38 (.t rfl rfl) (c := ((c : Nat) : Int)) (wn_u32 rfl (by omega))) ?_
        refine s_val hS8 rfl rfl (r_move rfl (.t rfl rfl)) ?_
        refine s_call rfl rfl rfl (vs := [.int .u32 (((Z.getD Y.length 0 : Nat) : Int)), .int .u32 (((c : Nat) : Int)), .int .u32 (((br : Nat) : Int))]) ⟨(.t rfl rfl), (.t rfl rfl), (.t rfl rfl), trivial⟩ cb95 (sub32_ok w8 (Z.getD Y.length 0) c br (by omega) (by omega) (by omega)) ?_
        rintro _ w8 ⟨d2, o2, rfl, rfl, hd2, ho2, hd2o2⟩
        refine s_val hS8 rfl rfl (r_move rfl (.t rfl rfl)) ?_
        refine s_val hS8 rfl rfl (r_extract rfl (.t rfl rfl) rfl) ?_
        refine s_val hS8 rfl rfl (r_extract rfl (.t rfl rfl) rfl) ?_
        refine s_val hS8 rfl rfl (r_ixs (j := Y.length) rfl Tryd.underlying26 ti38 (.t rfl rfl) (.t rfl rfl) rfl (by omega) (qq := PL.length + Y.length) (by omega)) ?_
        refine s_store (m := 0) rfl rfl rfl one38 (.t rfl rfl) (.t rfl rfl) rfl hS8 rfl (encW_get (by first | omega | (simp only [List.length_set, List.length_append, List.length_replicate]; omega))) (encW_set (by first | omega | (simp only [List.length_set, List.length_append, List.length_replicate]; omega))) rfl fun w10 hS10 => ?_
        refine s_val hS10 rfl rfl (r_assign rfl (.t rfl rfl)) ?_
        refine wpList_nil ?_
        refine x_tn ?_
        refine k_reb [(0, .slice (some ⟨bx, PL.length, none⟩) (Y.length + 1) capx), (1, .slice aY Y.length cY), (4, .int .u32 0), (5, .int .i64 (((Y.length : Nat) : Int))), (7, .int .u64 (((g : Nat) : Int))), (9, .int .u32 (((o2 : Nat) : Int)))] ⟨rfl, rfl, rfl, rfl, rfl, rfl, trivial⟩ fun G26 => ?_
        refine wp_seq ?_
        refine wp_seq ?_
        refine k_reg ?_
        refine s_val hS10 rfl rfl (r_move rfl (.t rfl rfl)) ?_
        obtain rfl : i = Y.length := by omega
        have htop := sub_top hXl hZl rfl hc hv (hZX _ (Nat.le_refl _)) hd2o2
        by_cases c6 : o2 = 0
        · have ho0 : o2 = 0 := by omega
          refine s_val hS10 rfl rfl (r_cmp_t rfl rfl (.t rfl rfl) .c (show ((o2 : Nat) : Int) = 0 from by omega)) ?_
          refine wpList_nil ?_
          refine x_tn ?_
          refine k_reb [(0, .slice (some ⟨bx, PL.length, none⟩) (Y.length + 1) capx), (1, .slice aY Y.length cY), (4, .int .u32 0), (5, .int .i64 (((Y.length : Nat) : Int))), (7, .int .u64 (((g : Nat) : Int))), (124, .bool true)] ⟨rfl, rfl, rfl, rfl, rfl, rfl, trivial⟩ fun G27 => ?_
          refine k_t (.t rfl rfl) ?_
          refine wp_seq ?_
          refine k_reg ?_
          refine s_val hS10 rfl rfl (r_move rfl (.t rfl rfl)) ?_
          refine s_val hS10 rfl rfl (r_conv rfl Tryd.underlying47 Tryd.underlying38 (.t rfl rfl) (c := ((g : Nat) : Int)) (wn_u32 rfl (by omega))) ?_
          refine s_val hS10 rfl rfl (r_assign rfl (.t rfl rfl)) ?_
          refine wpList_nil ?_
          refine x_tn ?_
          refine k_reb [(0, .slice (some ⟨bx, PL.length, none⟩) (Y.length + 1) capx), (1, .slice aY Y.length cY), (4, .int .u32 (((g : Nat) : Int))), (5, .int .i64 (((Y.length : Nat) : Int))), (7, .int .u64 (((g : Nat) : Int)))] ⟨rfl, rfl, rfl, rfl, rfl, trivial⟩ fun G28 => ?_
          refine wp_ret ?_
          refine x_tr ?_
          refine k_ret1 Tryd.results75 rfl rfl ?_
          refine ⟨_, rfl, ?_⟩
          obtain ⟨e1, e2⟩ := digit_fits (p := pw (Y.length + 1)) hYp hQ (by have h9 := htop; rw [ho0] at h9; exact h9)
          exact ⟨_, by rw [e1], hS10, by simpa using hZl, lim_set hZlim hd2, e2⟩
        · have ho1 : o2 = 1 := by omega
          obtain ⟨e1, e2⟩ := digit_over (p := pw (Y.length + 1)) hYp hQ1 (by have := lv_lt (lim_set (k := Y.length) hZlim hd2); rw [List.length_set, hZl] at this; exact this) (by have h9 := htop; rw [ho1] at h9; exact h9)
          refine s_val hS10 rfl rfl (r_cmp_f rfl rfl (.t rfl rfl) .c (show ¬ (((o2 : Nat) : Int) = 0) from by omega)) ?_
          refine wpList_nil ?_
          refine x_tn ?_
          refine k_reb [(0, .slice (some ⟨bx, PL.length, none⟩) (Y.length + 1) capx), (1, .slice aY Y.length cY), (4, .int .u32 0), (5, .int .i64 (((Y.length : Nat) : Int))), (7, .int .u64 (((g : Nat) : Int))), (124, .bool false)] ⟨rfl, rfl, rfl, rfl, rfl, rfl, trivial⟩ fun G29 => ?_
          refine k_f (.t rfl rfl) ?_
          refine wp_skip ?_
          refine x_tn ?_
          refine k_reb [(0, .slice (some ⟨bx, PL.length, none⟩) (Y.length + 1) capx), (1, .slice aY Y.length cY), (4, .int .u32 0), (5, .int .i64 (((Y.length : Nat) : Int))), (7, .int .u64 (((g : Nat) : Int)))] ⟨rfl, rfl, rfl, rfl, rfl, trivial⟩ fun G30 => ?_
          refine wp_seq ?_
          refine k_reg ?_
          refine s_val hS10 rfl rfl (r_assign rfl .c) ?_
          refine wpList_nil ?_
          refine x_tn ?_
          refine wp_seq ?_
          refine wp_seq ?_
          refine k_reg ?_
          refine s_val hS10 rfl rfl (r_move rfl (.t rfl rfl)) ?_
          refine s_val hS10 rfl rfl (r_move rfl .c) ?_
          refine wpList_nil ?_
          refine x_tn ?_
          refine wp_block ?_
          refine wp_loop_ghost (fun (m3 : Nat) a w => ∃ (G : Nat → Value) (i : Nat) (bk : Nat) (W : List Nat), a = fr 158 [(0, .slice (some ⟨bx, PL.length, none⟩) (Y.length + 1) capx), (1, .slice aY Y.length cY), (4, .int .u32 0), (5, .int .i64 (((Y.length : Nat) : Int))), (7, .int .u64 (((g : Nat) : Int))), (12, .int .u32 (((bk : Nat) : Int))), (127, .int .i64 (((Y.length : Nat) : Int))), (128, .int .i64 (((i : Nat) : Int)))] G ∧ St w0 [bx] [(bx, .cells (encN .u32 (PL ++ W ++ PR)) 38 (0, 0))] w ∧ (m3 = Y.length - i ∧ i ≤ Y.length ∧ W.length = Y.length + 1 ∧ Lim W ∧ bk ≤ 1 ∧ (∀ j, i ≤ j → W.getD j 0 = (Z.set Y.length d2).getD j 0) ∧ lv (W.take i) + bk * pw i = lv ((Z.set Y.length d2).take i) + lv (Y.take i))) (Y.length) ⟨_, 0, 0, Z.set Y.length d2, fr_reb _ ⟨rfl, rfl, rfl, rfl, rfl, rfl, rfl, rfl, trivial⟩, hS10, ?_⟩ ?_
          · exact ⟨rfl, Nat.zero_le _, by simpa using hZl, lim_set hZlim hd2, by omega, fun _ _ => rfl, by simp [lv]⟩
          · intro m3 _ w11 hI4
            obtain ⟨G31, i, bk, W, rfl, hS11, ⟨hmi2, hi2, hWl, hWlim, hbk, hWZ, hw⟩⟩ := hI4
            refine wp_seq ?_
            refine k_reg ?_
            by_cases c7 : i < Y.length
            · refine s_val hS11 rfl rfl (r_cmp_t rfl rfl (.t rfl rfl) (.t rfl rfl) (show ((i : Nat) : Int) < ((Y.length : Nat) : Int) from by omega)) ?_
              refine wpList_nil ?_
              refine x_tn ?_
              refine wp_seq ?_
              refine k_t (.t rfl rfl) ?_
              refine wp_skip ?_
              refine x_tn ?_
              refine k_reb [(0, .slice (some ⟨bx, PL.length, none⟩) (Y.length + 1) capx), (1, .slice aY Y.length cY), (4, .int .u32 0), (5, .int .i64 (((Y.length : Nat) : Int))), (7, .int .u64 (((g : Nat) : Int))), (12, .int .u32 (((bk : Nat) : Int))), (127, .int .i64 (((Y.length : Nat) : Int))), (128, .int .i64 (((i : Nat) : Int)))] ⟨rfl, rfl, rfl, rfl, rfl, rfl, rfl, rfl, trivial⟩ fun G32 => ?_
              refine wp_seq ?_
              refine wp_block ?_
              refine wp_seq ?_
              refine k_reg ?_
              refine s_val hS11 rfl rfl (r_move rfl (.t rfl rfl)) ?_
              refine s_val hS11 rfl rfl (r_assign rfl (.t rfl rfl)) ?_
              refine wpList_nil ?_
              refine x_tn ?_
              refine k_reb [(0, .slice (some ⟨bx, PL.length, none⟩) (Y.length + 1) capx), (1, .slice aY Y.length cY), (4, .int .u32 0), (5, .int .i64 (((Y.length : Nat) : Int))), (7, .int .u64 (((g : Nat) : Int))), (12, .int .u32 (((bk : Nat) : Int))), (13, .int .i64 (((i : Nat) : Int))), (127, .int .i64 (((Y.length : Nat) : Int))), (128, .int .i64 (((i : Nat) : Int)))] ⟨rfl, rfl, rfl, rfl, rfl, rfl, rfl, rfl, rfl, trivial⟩ fun G33 => ?_
              refine a_start mixed hS11 (L := [false, false, false, false, false, false, false, false, false, false, false, false, false, false, false, false, false, false]) rfl fun w12 hS12 hB1 => ?_
              refine a_take (i := 0) (NoP.block (NoP.then (NoP.then (NoP.block (NoP.then NoP.body))))) rfl rfl rfl (by kernel_rfl) (L' := [true, false, false, false, false, false, false, false, false, false, false, false, false, false, false, false, false, false]) rfl (r_move rfl (.t rfl rfl)) ?_
              refine a_take (i := 1) (NoP.block (NoP.then (NoP.then (NoP.block (NoP.then NoP.body))))) rfl rfl rfl (by kernel_rfl) (L' := [true, true, false, false, false, false, false, false, false, false, false, false, false, false, false, false, false, false]) rfl (r_move rfl (.t rfl rfl)) ?_
              refine a_take (i := 2) (NoP.block (NoP.then (NoP.then (NoP.block (NoP.then NoP.body))))) rfl rfl rfl (by kernel_rfl) (L' := [true, true, true, false, false, false, false, false, false, false, false, false, false, false, false, false, false, false]) rfl (r_move rfl (.t rfl rfl)) ?_
              refine a_take (i := 3) (NoP.block (NoP.then (NoP.then (NoP.block (NoP.then NoP.body))))) rfl rfl rfl (by kernel_rfl) (L' := [true, true, true, true, false, false, false, false, false, false, false, false, false, false, false, false, false, false]) rfl (r_move rfl (.t rfl rfl)) ?_
              refine a_take (i := 4) (NoP.block (NoP.then (NoP.then (NoP.block (NoP.then NoP.body))))) rfl rfl rfl (by kernel_rfl) (L' := [true, true, true, true, true, false, false, false, false, false, false, false, false, false, false, false, false, false]) rfl (r_ixs (j := i) rfl Tryd.underlying26 ti38 (.t rfl rfl) (.t rfl rfl) rfl (by omega) (qq := PL.length + i) (by omega)) ?_
              refine a_take (i := 6) (NoP.block (NoP.then (NoP.then (NoP.block (NoP.then NoP.body))))) rfl rfl rfl (by kernel_rfl) (L' := [true, true, true, true, true, false, true, false, false, false, false, false, false, false, false, false, false, false]) rfl (r_move rfl (.t rfl rfl)) ?_
              refine a_take (i := 7) (NoP.block (NoP.then (NoP.then (NoP.block (NoP.then NoP.body))))) rfl rfl rfl (by kernel_rfl) (L' := [true, true, true, true, true, false, true, true, false, false, false, false, false, false, false, false, false, false]) rfl (r_move rfl (.t rfl rfl)) ?_
              refine a_take (i := 8) (NoP.block (NoP.then (NoP.then (NoP.block (NoP.then NoP.body))))) rfl rfl rfl (by kernel_rfl) (L' := [true, true, true, true, true, false, true, true, true, false, false, false, false, false, false, false, false, false]) rfl (r_ixr (j := i) rfl Tryd.underlying26 ti38 (.t rfl rfl) (.t rfl rfl) hY rfl rfl (by omega)) ?_
              refine a_take (i := 10) (NoP.block (NoP.then (NoP.then (NoP.block (NoP.then NoP.body))))) rfl rfl rfl (by kernel_rfl) (L' := [true, true, true, true, true, false, true, true, true, false, true, false, false, false, false, false, false, false]) rfl (r_move rfl (.t rfl rfl)) ?_
              have b12 : W.getD i 0 ≤ 4294967295 := getD_lim hWlim _
              have b13 : Y.getD i 0 ≤ 4294967295 := hY.lt _
              refine a_two (i := 5) (j := 9) (by kernel_rfl) (by kernel_rfl) (by kernel_rfl) rfl rfl rfl rfl rfl rfl rfl (L' := [true, true, true, true, true, true, true, true, true, true, true, false, false, false, false, false, false, false]) rfl rfl hS12 (r_load rfl one38 (.t rfl rfl) (St.cell_own (m := 0) rfl (encW_get (by first | omega | (simp only [List.length_set, List.length_append, List.length_replicate]; omega))))) (r_load rfl one38 (.t rfl rfl) (St.cell_rd hY (by omega) (by simpa using hne))) (r_load rfl one38 (.t rfl rfl) (St.cell_rd hY (by omega) (by simpa using hne))) (r_load rfl one38 (.t rfl rfl) (St.cell_own (m := 0) rfl (encW_get (by first | omega | (simp only [List.length_set, List.length_append, List.length_replicate]; omega))))) ?_
              refine a_one (i := 11) (by kernel_rfl) rfl rfl (L' := [true, true, true, true, true, true, true, true, true, true, true, true, false, false, false, false, false, false]) rfl ?_
              refine s_call rfl rfl rfl (vs := [.int .u32 (((W.getD i 0 : Nat) : Int)), .int .u32 (((Y.getD i 0 : Nat) : Int)), .int .u32 (((bk : Nat) : Int))]) ⟨(.t rfl rfl), (.t rfl rfl), (.t rfl rfl), trivial⟩ cb96 (add32_ok w12 (W.getD i 0) (Y.getD i 0) bk (by omega) (by omega) (by omega)) ?_
              rintro _ w12 ⟨rfl, rfl⟩
              refine wpList_nil ?_
              refine x_tn ?_
              refine a_take (i := 12) (NoP.block (NoP.then (NoP.then (NoP.block (NoP.then NoP.body))))) rfl rfl rfl (by kernel_rfl) (L' := [true, true, true, true, true, true, true, true, true, true, true, true, true, false, false, false, false, false]) rfl (r_move rfl (.t rfl rfl)) ?_
              refine a_take (i := 13) (NoP.block (NoP.then (NoP.then (NoP.block (NoP.then NoP.body))))) rfl rfl rfl (by kernel_rfl) (L' := [true, true, true, true, true, true, true, true, true, true, true, true, true, true, false, false, false, false]) rfl (r_extract rfl (.t rfl rfl) rfl) ?_
              refine a_take (i := 14) (NoP.block (NoP.then (NoP.then (NoP.block (NoP.then NoP.body))))) rfl rfl rfl (by kernel_rfl) (L' := [true, true, true, true, true, true, true, true, true, true, true, true, true, true, true, false, false, false]) rfl (r_extract rfl (.t rfl rfl) rfl) ?_
              refine a_take (i := 15) (NoP.block (NoP.then (NoP.then (NoP.block (NoP.then NoP.body))))) rfl rfl rfl (by kernel_rfl) (L' := [true, true, true, true, true, true, true, true, true, true, true, true, true, true, true, true, false, false]) rfl (r_ixs (j := i) rfl Tryd.underlying26 ti38 (.t rfl rfl) (.t rfl rfl) rfl (by omega) (qq := PL.length + i) (by omega)) ?_
              refine a_one (i := 16) (by kernel_rfl) rfl rfl (L' := [true, true, true, true, true, true, true, true, true, true, true, true, true, true, true, true, true, false]) rfl ?_
              refine s_store (m := 0) rfl rfl rfl one38 (.t rfl rfl) (.t rfl rfl) rfl hS12 rfl (encW_get (by first | omega | (simp only [List.length_set, List.length_append, List.length_replicate]; omega))) (encW_set (by first | omega | (simp only [List.length_set, List.length_append, List.length_replicate]; omega))) rfl fun w13 hS13 => ?_
              refine wpList_nil ?_
              refine x_tn ?_
              refine a_take (i := 17) (NoP.block (NoP.then (NoP.then (NoP.block (NoP.then NoP.body))))) rfl rfl rfl (by kernel_rfl) (L' := [true, true, true, true, true, true, true, true, true, true, true, true, true, true, true, true, true, true]) rfl (r_assign rfl (.t rfl rfl)) ?_
              refine a_done (by kernel_rfl) ?_
              refine x_bn ?_
              refine x_tn ?_
              refine k_reb [(0, .slice (some ⟨bx, PL.length, none⟩) (Y.length + 1) capx), (1, .slice aY Y.length cY), (4, .int .u32 0), (5, .int .i64 (((Y.length : Nat) : Int))), (7, .int .u64 (((g : Nat) : Int))), (12, .int .u32 (((((W.getD i 0) + (Y.getD i 0) + bk) / 4294967296 : Nat) : Int))), (127, .int .i64 (((Y.length : Nat) : Int))), (128, .int .i64 (((i : Nat) : Int)))] ⟨rfl, rfl, rfl, rfl, rfl, rfl, rfl, rfl, trivial⟩ fun G34 => ?_
              refine k_reg ?_
              refine s_val hS13 rfl rfl (r_arith rfl rfl (.t rfl rfl) .c (c := ((i + 1 : Nat) : Int)) (wn_i64 (by show (((i : Nat) : Int) : Int) + 1 = _; omega) (by omega))) ?_
              refine s_val hS13 rfl rfl (r_move rfl (.t rfl rfl)) ?_
              refine wpList_nil ?_
              refine x_tn ?_
              refine ⟨Y.length - (i + 1), by omega, _, i + 1, (W.getD i 0 + Y.getD i 0 + bk) / 4294967296, W.set i ((W.getD i 0 + Y.getD i 0 + bk) % 4294967296), fr_reb _ ⟨rfl, rfl, rfl, rfl, rfl, rfl, rfl, rfl, trivial⟩, hS13, ?_⟩
              exact ⟨by omega, by omega, by simpa using hWl, lim_set hWlim (by omega), by omega, fun j hj => by rw [getD_set_ne (by omega)]; exact hWZ j (by omega), back_step (by simp; omega) (by omega) (by omega) hw (hWZ i (Nat.le_refl _))⟩
            · refine s_val hS11 rfl rfl (r_cmp_f rfl rfl (.t rfl rfl) (.t rfl rfl) (show ¬ (((i : Nat) : Int) < ((Y.length : Nat) : Int)) from by omega)) ?_
              refine wpList_nil ?_
              refine x_tn ?_
              refine wp_seq ?_
              refine k_f (.t rfl rfl) ?_
              refine wp_exit ?_
              refine x_te ?_
              refine x_te ?_
              refine x_be ?_
              refine x_tn ?_
              refine k_reb [(0, .slice (some ⟨bx, PL.length, none⟩) (Y.length + 1) capx), (4, .int .u32 0), (5, .int .i64 (((Y.length : Nat) : Int))), (7, .int .u64 (((g : Nat) : Int))), (12, .int .u32 (((bk : Nat) : Int)))] ⟨rfl, rfl, rfl, rfl, rfl, trivial⟩ fun G35 => ?_
              refine wp_seq ?_
              refine k_reg ?_
              refine s_val hS11 rfl rfl (r_move rfl (.t rfl rfl)) ?_
              refine s_val hS11 rfl rfl (r_move rfl (.t rfl rfl)) ?_
              refine s_val hS11 rfl rfl (r_ixs (j := Y.length) rfl Tryd.underlying26 ti38 (.t rfl rfl) (.t rfl rfl) rfl (by omega) (qq := PL.length + Y.length) (by omega)) ?_
              have b16 : W.getD Y.length 0 ≤ 4294967295 := getD_lim hWlim _
              refine s_val hS11 rfl rfl (r_load rfl one38 (.t rfl rfl) (St.cell_own (m := 0) rfl (encW_get (by first | omega | (simp only [List.length_set, List.length_append, List.length_replicate]; omega))))) ?_
              refine s_val hS11 rfl rfl (r_move rfl (.t rfl rfl)) ?_
              refine s_val hS11 rfl rfl (r_arith rfl rfl (.t rfl rfl) (.t rfl rfl) (wm_u32 (m := (W.getD Y.length 0) + bk) (Int.natCast_add _ _).symm)) ?_
              refine s_val hS11 rfl rfl (r_ixs (j := Y.length) rfl Tryd.underlying26 ti38 (.t rfl rfl) (.t rfl rfl) rfl (by omega) (qq := PL.length + Y.length) (by omega)) ?_
              refine s_store (m := 0) rfl rfl rfl one38 (.t rfl rfl) (.t rfl rfl) rfl hS11 rfl (encW_get (by first | omega | (simp only [List.length_set, List.length_append, List.length_replicate]; omega))) (encW_set (by first | omega | (simp only [List.length_set, List.length_append, List.length_replicate]; omega))) rfl fun w14 hS14 => ?_
              refine wpList_nil ?_
              refine x_tn ?_
              refine k_reb [(4, .int .u32 0), (7, .int .u64 (((g : Nat) : Int)))] ⟨rfl, rfl, trivial⟩ fun G36 => ?_
              refine wp_seq ?_
              refine k_reg ?_
              refine s_val hS14 rfl rfl (r_move rfl (.t rfl rfl)) ?_
              have hg1 : 1 ≤ g := by rw [e1]; exact Nat.le_add_left _ _
              refine s_val hS14 rfl rfl (r_arith rfl rfl (.t rfl rfl) .c (c := ((g - 1 : Nat) : Int)) (wn_u64 (by show (((g : Nat) : Int) : Int) - 1 = _; omega) (by omega))) ?_
              refine s_val hS14 rfl rfl (r_conv rfl Tryd.underlying47 Tryd.underlying38 (.t rfl rfl) (c := ((g - 1 : Nat) : Int)) (wn_u32 rfl (by omega))) ?_
              refine s_val hS14 rfl rfl (r_assign rfl (.t rfl rfl)) ?_
              refine wpList_nil ?_
              refine x_tn ?_
              refine k_reb [(4, .int .u32 (((g - 1 : Nat) : Int)))] ⟨rfl, trivial⟩ fun G37 => ?_
              refine wp_ret ?_
              refine k_ret1 Tryd.results75 rfl rfl ?_
              refine ⟨_, rfl, ?_⟩
              obtain rfl : i = Y.length := by omega
              exact ⟨_, by rw [e1]; rfl, hS14, by simpa using hWl, lim_set hWlim (by omega), back_top (by simpa using hZl) hWl rfl hWlim hY.fit hbk (lim_set hZlim hd2) hw (hWZ _ (Nat.le_refl _)) (Nat.mod_lt _ hYp) e2⟩

end Go.Proofs.YtnbklceenfjojaaDoor

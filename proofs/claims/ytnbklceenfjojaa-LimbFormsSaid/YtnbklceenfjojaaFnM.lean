/- Contracts of functions of the program, each walked once. -/
import Derived.Test.YtnbklceenfjojaaFnJ
import Derived.Test.YtnbklceenfjojaaKByt
namespace Go.Proofs.Ytnbklceenfjojaa
open Go Go.RowKit K
namespace FM
theorem mixed : Try.prog.follows .mixedOrders = true := by kernel_rfl
theorem cb33 : callable Try.prog 33 = true := by kernel_rfl
theorem cb37 : callable Try.prog 37 = true := by kernel_rfl
theorem cb44 : callable Try.prog 44 = true := by kernel_rfl
theorem one5 : One Try.prog 5 = true := by kernel_rfl
theorem one57 : One Try.prog 57 = true := by kernel_rfl
theorem ti5 : (Try.prog.info? 5).map (fun i => (i.zero, i.size, i.bytes)) = some (some (.int .u8 0), 1, 1) := by kernel_rfl
theorem ti57 : (Try.prog.info? 57).map (fun i => (i.zero, i.size, i.bytes)) = some (some (.int .u32 0), 1, 4) := by kernel_rfl

end FM
open FM
attribute [local irreducible] Go.wpList Go.wpQuiet Go.wpStill Go.wpAny Go.Code.wp
set_option maxRecDepth 10000
set_option maxHeartbeats 8000000
set_option linter.unusedVariables false
set_option linter.unusedSimpArgs false
theorem Bytes_ok (w0 : World) (aA : Option Addr) (cA : Nat) (A : List Nat) (hA : Rd w0 .u32 aA cA A) (nA : Nm A) :
    Calls Try.prog 32 #[.slice aA A.length cA] w0 (Ret fun v w' => ∃ L, Ow w0 w' .u8 5 v L ∧ L = (byts ((bl (lv A) + 7) / 8) (lv A)).reverse) := by
  refine k_enter (vs := [.slice aA A.length cA]) Try.func32 rfl Try.ntmps32 rfl ?_
  have hS := St.init w0
  have lA := hA.le
  have lA2 := nA.len
  have hTA := nm_lt nA
  have hbT := bl_top hTA
  have hb32 := bl_le (show lv A < 2 ^ (32 * A.length) from by rw [← pw_two]; exact lv_lt nA.lim)
  refine wp_seq ?_
  refine k_reg ?_
  refine s_val hS rfl rfl (r_assign rfl .c) ?_
  refine wpList_nil ?_
  refine x_tn ?_
  refine wp_seq ?_
  refine wp_seq ?_
  refine k_reg ?_
  refine s_val hS rfl rfl (r_move rfl (.t rfl rfl)) ?_
  refine s_call rfl rfl rfl (vs := [.slice aA A.length cA]) ⟨(.t rfl rfl), trivial⟩ cb37 (check_nm w0 aA cA A hA nA) ?_
  intro v1 w1 hp1
  obtain ⟨hp1, hB1⟩ := hp1
  have hS1 := hS.keep hB1
  replace hB1 := hB1.toBelow
  obtain rfl := hp1
  refine s_val hS1 rfl rfl (r_cmp_f rfl rfl (.t rfl rfl) .c (show ¬ (¬ 0 = 0) from by omega)) ?_
  refine wpList_nil ?_
  refine x_tn ?_
  refine k_reb [(0, .slice aA A.length cA), (2, .slice none 0 0), (7, .bool false)] ⟨rfl, rfl, rfl, trivial⟩ fun G1 => ?_
  refine k_f (.t rfl rfl) ?_
  refine wp_skip ?_
  refine x_tn ?_
  refine k_reb [(0, .slice aA A.length cA), (2, .slice none 0 0)] ⟨rfl, rfl, trivial⟩ fun G2 => ?_
  refine wp_seq ?_
  refine k_reg ?_
  refine s_val hS1 rfl rfl (r_move rfl (.t rfl rfl)) ?_
  refine s_call rfl rfl rfl (vs := [.slice aA A.length cA]) ⟨(.t rfl rfl), trivial⟩ cb33 (Len_ok w1 aA cA A (rd_st hS1 hA (by simp)) nA) ?_
  intro v2 w2 hp2
  obtain ⟨hp2, hB2⟩ := hp2
  have hS2 := hS1.keep hB2
  replace hB2 := hB2.toBelow
  obtain rfl := hp2
  refine s_val hS2 rfl rfl (r_arith rfl rfl (.t rfl rfl) .c (c := (((bl (lv A)) + 7 : Nat) : Int)) (wn_i64 (by show (((bl (lv A) : Nat) : Int) : Int) + 7 = _; omega) (by omega))) ?_
  refine s_val hS2 rfl rfl (r_quo (b := ((8 : Nat) : Int)) rfl (.t rfl rfl) .c (nz_nat (by omega)) (wn_i64 (c := ((bl (lv A)) + 7) / 8) tdiv_nat (Nat.le_trans (Nat.div_le_self _ _) (by omega)))) ?_
  refine s_make rfl rfl rfl Try.underlying43 ti5 (.t rfl rfl) (.t rfl rfl) (len := ((bl (lv A)) + 7) / 8) (cap := ((bl (lv A)) + 7) / 8) rfl rfl (by omega) (by omega) (by omega) hS2 fun blk1 w3 hb1 hB3 hS3 => ?_
  refine s_val hS3 rfl rfl (r_assign rfl (.t rfl rfl)) ?_
  refine wpList_nil ?_
  refine x_tn ?_
  refine k_reb [(0, .slice aA A.length cA), (2, .slice none 0 0), (3, .slice (some ⟨blk1, 0, none⟩) (((bl (lv A)) + 7) / 8) (((bl (lv A)) + 7) / 8))] ⟨rfl, rfl, rfl, trivial⟩ fun G3 => ?_
  refine wp_seq ?_
  refine wp_seq ?_
  refine k_reg ?_
  refine s_val hS3 rfl rfl (r_move rfl (.t rfl rfl)) ?_
  refine s_val hS3 rfl rfl (r_len rfl rfl Try.underlying43 (.t rfl rfl)) ?_
  refine s_val hS3 rfl rfl (r_move rfl .c) ?_
  refine wpList_nil ?_
  refine x_tn ?_
  refine k_reb [(0, .slice aA A.length cA), (2, .slice none 0 0), (3, .slice (some ⟨blk1, 0, none⟩) (((bl (lv A)) + 7) / 8) (((bl (lv A)) + 7) / 8)), (14, .int .i64 (((((bl (lv A)) + 7) / 8 : Nat) : Int))), (15, .int .i64 0)] ⟨rfl, rfl, rfl, rfl, rfl, trivial⟩ fun G4 => ?_
  refine wp_block ?_
  refine wp_loop_ghost (fun (m1 : Nat) a w => ∃ (G : Nat → Value) (i : Nat) (O : List Nat), a = fr 37 [(0, .slice aA A.length cA), (2, .slice none 0 0), (3, .slice (some ⟨blk1, 0, none⟩) (((bl (lv A)) + 7) / 8) (((bl (lv A)) + 7) / 8)), (14, .int .i64 (((((bl (lv A)) + 7) / 8 : Nat) : Int))), (15, .int .i64 (((i : Nat) : Int)))] G ∧ St w0 [] [(blk1, .cells (encN .u8 O) 5 (0, 0))] w ∧ (m1 = ((bl (lv A) + 7) / 8) - i ∧ i ≤ ((bl (lv A) + 7) / 8) ∧ O.length = ((bl (lv A) + 7) / 8) ∧ (∀ x ∈ O, x ≤ 255) ∧ ∀ p, p < i → O.getD (((bl (lv A) + 7) / 8) - 1 - p) 0 = lv A / 256 ^ p % 256)) (((bl (lv A) + 7) / 8)) ⟨_, 0, List.replicate ((bl (lv A) + 7) / 8) 0, fr_reb _ ⟨rfl, rfl, rfl, rfl, rfl, trivial⟩, hS3, ?_⟩ ?_
  · exact ⟨rfl, Nat.zero_le _, by simp, fun x hx => by rw [(List.mem_replicate.1 hx).2]; omega, fun p hp => absurd hp (Nat.not_lt_zero _)⟩
  · intro m1 _ w4 hI1
    obtain ⟨G5, i, O, rfl, hS4, ⟨hm, hi, hOl, hO8, he⟩⟩ := hI1
    refine wp_seq ?_
    refine k_reg ?_
    by_cases c1 : i < ((bl (lv A)) + 7) / 8
    · refine s_val hS4 rfl rfl (r_cmp_t rfl rfl (.t rfl rfl) (.t rfl rfl) (show ((i : Nat) : Int) < ((((bl (lv A)) + 7) / 8 : Nat) : Int) from by omega)) ?_
      refine wpList_nil ?_
      refine x_tn ?_
      refine wp_seq ?_
      refine k_t (.t rfl rfl) ?_
      refine wp_skip ?_
      refine x_tn ?_
      refine k_reb [(0, .slice aA A.length cA), (2, .slice none 0 0), (3, .slice (some ⟨blk1, 0, none⟩) (((bl (lv A)) + 7) / 8) (((bl (lv A)) + 7) / 8)), (14, .int .i64 (((((bl (lv A)) + 7) / 8 : Nat) : Int))), (15, .int .i64 (((i : Nat) : Int)))] ⟨rfl, rfl, rfl, rfl, rfl, trivial⟩ fun G6 => ?_
      refine wp_seq ?_
      refine wp_block ?_
      refine wp_seq ?_
      refine k_reg ?_
      refine s_val hS4 rfl rfl (r_move rfl (.t rfl rfl)) ?_
      refine s_val hS4 rfl rfl (r_assign rfl (.t rfl rfl)) ?_
      refine wpList_nil ?_
      refine x_tn ?_
      refine k_reb [(0, .slice aA A.length cA), (2, .slice none 0 0), (3, .slice (some ⟨blk1, 0, none⟩) (((bl (lv A)) + 7) / 8) (((bl (lv A)) + 7) / 8)), (4, .int .i64 (((i : Nat) : Int))), (14, .int .i64 (((((bl (lv A)) + 7) / 8 : Nat) : Int))), (15, .int .i64 (((i : Nat) : Int)))] ⟨rfl, rfl, rfl, rfl, rfl, rfl, trivial⟩ fun G7 => ?_
      refine k_reg ?_
      refine s_val hS4 rfl rfl (r_move rfl (.t rfl rfl)) ?_
      refine s_val hS4 rfl rfl (r_move rfl (.t rfl rfl)) ?_
      refine s_val hS4 rfl rfl (r_len rfl rfl Try.underlying43 (.t rfl rfl)) ?_
      refine s_val hS4 rfl rfl (r_arith rfl rfl (.t rfl rfl) .c (c := (((((bl (lv A)) + 7) / 8) - 1 : Nat) : Int)) (wn_i64 (by show (((((bl (lv A)) + 7) / 8 : Nat) : Int) : Int) - 1 = _; omega) (by omega))) ?_
      refine s_val hS4 rfl rfl (r_move rfl (.t rfl rfl)) ?_
      refine s_val hS4 rfl rfl (r_arith rfl rfl (.t rfl rfl) (.t rfl rfl) (c := ((((((bl (lv A)) + 7) / 8) - 1) - i : Nat) : Int)) (wn_i64 (by show ((((((bl (lv A)) + 7) / 8) - 1 : Nat) : Int) : Int) - ((i : Nat) : Int) = _; omega) (by omega))) ?_
      refine s_val hS4 rfl rfl (r_move rfl (.t rfl rfl)) ?_
      refine s_val hS4 rfl rfl (r_move rfl (.t rfl rfl)) ?_
      refine s_val hS4 rfl rfl (r_quo (b := ((4 : Nat) : Int)) rfl (.t rfl rfl) .c (nz_nat (by omega)) (wn_i64 (c := i / 4) tdiv_nat (Nat.le_trans (Nat.div_le_self _ _) (by omega)))) ?_
      refine s_val hS4 rfl rfl (r_ixr (j := i / 4) rfl Try.underlying27 ti57 (.t rfl rfl) (.t rfl rfl) hA rfl rfl (by omega)) ?_
      have b1 : A.getD (i / 4) 0 ≤ 4294967295 := hA.lt _
      refine s_val hS4 rfl rfl (r_load rfl one57 (.t rfl rfl) (St.cell_rd hA (by omega) (by simp))) ?_
      refine s_val hS4 rfl rfl (r_move rfl (.t rfl rfl)) ?_
      refine s_val hS4 rfl rfl (r_rem (b := ((4 : Nat) : Int)) rfl (.t rfl rfl) .c (nz_nat (by omega)) (c := ((i % 4 : Nat) : Int)) tmod_nat) ?_
      refine s_val hS4 rfl rfl (r_arith rfl rfl (.t rfl rfl) .c (c := (((i % 4) * 8 : Nat) : Int)) (wn_i64 (Int.natCast_mul _ _).symm (by omega))) ?_
      refine s_val hS4 rfl rfl (r_shr rfl (.t rfl rfl) (.t rfl rfl) (by omega) (pw_var (by show (i % 4) * 8 ≤ 32; omega)) fdiv_nat) ?_
      refine s_val hS4 rfl rfl (r_conv rfl Try.underlying57 Try.underlying5 (.t rfl rfl) (wm_u8 rfl)) ?_
      refine s_val hS4 rfl rfl (r_ixs (j := ((((bl (lv A)) + 7) / 8) - 1) - i) rfl Try.underlying43 ti5 (.t rfl rfl) (.t rfl rfl) rfl (by omega) (qq := ((((bl (lv A)) + 7) / 8) - 1) - i) (by omega)) ?_
      refine s_store (m := 0) rfl rfl rfl one5 (.t rfl rfl) (.t rfl rfl) rfl hS4 rfl (encN_get (by first | omega | (simp only [List.length_set, List.length_append, List.length_replicate]; omega))) (encN_set) rfl fun w5 hS5 => ?_
      refine wpList_nil ?_
      refine x_bn ?_
      refine x_tn ?_
      refine k_reb [(0, .slice aA A.length cA), (2, .slice none 0 0), (3, .slice (some ⟨blk1, 0, none⟩) (((bl (lv A)) + 7) / 8) (((bl (lv A)) + 7) / 8)), (14, .int .i64 (((((bl (lv A)) + 7) / 8 : Nat) : Int))), (15, .int .i64 (((i : Nat) : Int)))] ⟨rfl, rfl, rfl, rfl, rfl, trivial⟩ fun G8 => ?_
      refine k_reg ?_
      refine s_val hS5 rfl rfl (r_arith rfl rfl (.t rfl rfl) .c (c := ((i + 1 : Nat) : Int)) (wn_i64 (by show (((i : Nat) : Int) : Int) + 1 = _; omega) (by omega))) ?_
      refine s_val hS5 rfl rfl (r_move rfl (.t rfl rfl)) ?_
      refine wpList_nil ?_
      refine x_tn ?_
      refine ⟨((bl (lv A) + 7) / 8) - (i + 1), by omega, _, i + 1, O.set (((bl (lv A) + 7) / 8) - 1 - i) ((A.getD (i / 4) 0 / 2 ^ (i % 4 * 8)) % 256), fr_reb _ ⟨rfl, rfl, rfl, rfl, rfl, trivial⟩, hS5, ?_⟩
      exact ⟨by omega, by omega, by simpa using hOl, fun x hx => by
        rcases List.mem_or_eq_of_mem_set hx with q | q
        · exact hO8 x q
        · omega, fun p hp => by
        by_cases hpi : p = i
        · subst hpi; rw [getD_set_eq (by omega)]; exact limb_byte nA.lim (by omega)
        · rw [getD_set_ne (by omega)]; exact he p (by omega)⟩
    · refine s_val hS4 rfl rfl (r_cmp_f rfl rfl (.t rfl rfl) (.t rfl rfl) (show ¬ (((i : Nat) : Int) < ((((bl (lv A)) + 7) / 8 : Nat) : Int)) from by omega)) ?_
      refine wpList_nil ?_
      refine x_tn ?_
      refine wp_seq ?_
      refine k_f (.t rfl rfl) ?_
      refine wp_exit ?_
      refine x_te ?_
      refine x_te ?_
      refine x_be ?_
      refine x_tn ?_
      refine k_reb [(2, .slice none 0 0), (3, .slice (some ⟨blk1, 0, none⟩) (((bl (lv A)) + 7) / 8) (((bl (lv A)) + 7) / 8))] ⟨rfl, rfl, trivial⟩ fun G9 => ?_
      refine wp_seq ?_
      refine k_reg ?_
      refine s_val hS4 rfl rfl (r_move rfl (.t rfl rfl)) ?_
      refine s_val hS4 rfl rfl (r_assign rfl (.t rfl rfl)) ?_
      refine wpList_nil ?_
      refine x_tn ?_
      refine k_reb [(2, .slice (some ⟨blk1, 0, none⟩) (((bl (lv A)) + 7) / 8) (((bl (lv A)) + 7) / 8))] ⟨rfl, trivial⟩ fun G10 => ?_
      refine wp_ret ?_
      refine k_ret1 Try.results32 rfl rfl ?_
      refine ⟨_, rfl, ?_⟩
      obtain rfl : i = ((bl (lv A) + 7) / 8) := by omega
      exact ⟨O, by have := Ow.of_chunk0 (m := 0) hS4 rfl hOl.symm hOl.symm (by omega) hO8; exact this, list_eq (by rw [List.length_reverse, byts_len]; exact hOl) fun j hj => by
        rw [hOl] at hj
        have e := he (((bl (lv A) + 7) / 8) - 1 - j) (by omega)
        rw [show ((bl (lv A) + 7) / 8) - 1 - (((bl (lv A) + 7) / 8) - 1 - j) = j by omega] at e
        rw [e, ← byts_get ((bl (lv A) + 7) / 8) _ (lv A) (by omega), List.getD_eq_getElem?_getD, List.getD_eq_getElem?_getD, List.getElem?_reverse (by rw [byts_len]; omega), byts_len]⟩

theorem OfBytes_ok (w0 : World) (aL : Option Addr) (cL : Nat) (L : List Nat) (hL : Rd w0 .u8 aL cL L) :
    Calls Try.prog 21 #[.slice aL L.length cL] w0 (Ret fun v w' => (0 < L.length ∧ L.getD 0 0 = 0 ∧ v = .tuple #[.slice none 0 0, .int .i64 26] ∧ St w0 [] [] w') ∨ (¬ (0 < L.length ∧ L.getD 0 0 = 0) ∧ 32768 < L.length ∧ v = .tuple #[.slice none 0 0, .int .i64 21] ∧ St w0 [] [] w') ∨ (¬ (0 < L.length ∧ L.getD 0 0 = 0) ∧ L.length ≤ 32768 ∧ ∃ N u, v = .tuple #[u, .int .i64 0] ∧ Ow w0 w' .u32 57 u N ∧ Nm N ∧ lv N = lev L.reverse)) := by
  refine k_enter (vs := [.slice aL L.length cL]) Try.func21 rfl Try.ntmps21 rfl ?_
  have hS := St.init w0
  have lL := hL.le
  have mL := hL.most
  refine wp_seq ?_
  refine k_reg ?_
  refine s_val hS rfl rfl (r_assign rfl .c) ?_
  refine s_val hS rfl rfl (r_assign rfl .c) ?_
  refine wpList_nil ?_
  refine x_tn ?_
  refine wp_seq ?_
  refine wp_seq ?_
  refine k_reg ?_
  refine s_val hS rfl rfl (r_move rfl (.t rfl rfl)) ?_
  refine s_val hS rfl rfl (r_len rfl rfl Try.underlying43 (.t rfl rfl)) ?_
  by_cases c1 : L.length > 0
  · refine s_val hS rfl rfl (r_cmp_t rfl rfl (.t rfl rfl) .c (show ((L.length : Nat) : Int) > 0 from by omega)) ?_
    refine s_val hS rfl rfl (r_move rfl (.t rfl rfl)) ?_
    refine s_valg hS (wanted_of (j := 3) (b := true) (d := 9) rfl rfl rfl rfl) rfl (r_move rfl (.t rfl rfl)) ?_
    refine s_valg hS (wanted_of (j := 3) (b := true) (d := 9) rfl rfl rfl rfl) rfl (r_ixr (j := 0) rfl Try.underlying43 ti5 (.t rfl rfl) .c hL rfl rfl (by omega)) ?_
    have b1 : L.getD 0 0 ≤ 255 := hL.lt _
    refine s_valg hS (wanted_of (j := 3) (b := true) (d := 9) rfl rfl rfl rfl) rfl (r_load rfl one5 (.t rfl rfl) (St.cell_rd hL (by omega) (by simp))) ?_
    by_cases c2 : L.getD 0 0 = 0
    · refine s_valg hS (wanted_of (j := 3) (b := true) (d := 9) rfl rfl rfl rfl) rfl (r_cmp_t rfl rfl (.t rfl rfl) .c (show ((L.getD 0 0 : Nat) : Int) = 0 from by omega)) ?_
      refine s_val hS rfl rfl (r_pick rfl (.t rfl rfl) (.t rfl rfl)) ?_
      refine wpList_nil ?_
      refine x_tn ?_
      refine k_reb [(0, .slice aL L.length cL), (2, .slice none 0 0), (3, .int .i64 0), (14, .bool true)] ⟨rfl, rfl, rfl, rfl, trivial⟩ fun G1 => ?_
      refine k_t (.t rfl rfl) ?_
      refine wp_seq ?_
      refine k_reg ?_
      refine s_val hS rfl rfl (r_assign rfl .c) ?_
      refine s_val hS rfl rfl (r_assign rfl .c) ?_
      refine wpList_nil ?_
      refine x_tn ?_
      refine k_reb [(0, .slice aL L.length cL), (2, .slice none 0 0), (3, .int .i64 26)] ⟨rfl, rfl, rfl, trivial⟩ fun G2 => ?_
      refine wp_ret ?_
      refine x_tr ?_
      refine k_ret2 Try.results21 rfl rfl rfl rfl ?_
      refine ⟨_, rfl, ?_⟩
      exact .inl ⟨by omega, by omega, rfl, hS⟩
    · refine s_valg hS (wanted_of (j := 3) (b := true) (d := 9) rfl rfl rfl rfl) rfl (r_cmp_f rfl rfl (.t rfl rfl) .c (show ¬ (((L.getD 0 0 : Nat) : Int) = 0) from by omega)) ?_
      refine s_val hS rfl rfl (r_pick rfl (.t rfl rfl) (.t rfl rfl)) ?_
      refine wpList_nil ?_
      refine x_tn ?_
      refine k_reb [(0, .slice aL L.length cL), (2, .slice none 0 0), (3, .int .i64 0), (14, .bool false)] ⟨rfl, rfl, rfl, rfl, trivial⟩ fun G3 => ?_
      refine k_f (.t rfl rfl) ?_
      refine wp_skip ?_
      refine x_tn ?_
      refine k_reb [(0, .slice aL L.length cL), (2, .slice none 0 0), (3, .int .i64 0)] ⟨rfl, rfl, rfl, trivial⟩ fun G4 => ?_
      refine wp_seq ?_
      refine wp_seq ?_
      refine k_reg ?_
      refine s_val hS rfl rfl (r_move rfl (.t rfl rfl)) ?_
      refine s_val hS rfl rfl (r_len rfl rfl Try.underlying43 (.t rfl rfl)) ?_
      by_cases c3 : L.length > 32768
      · refine s_val hS rfl rfl (r_cmp_t rfl rfl (.t rfl rfl) .c (show ((L.length : Nat) : Int) > 32768 from by omega)) ?_
        refine wpList_nil ?_
        refine x_tn ?_
        refine k_reb [(0, .slice aL L.length cL), (2, .slice none 0 0), (3, .int .i64 0), (17, .bool true)] ⟨rfl, rfl, rfl, rfl, trivial⟩ fun G5 => ?_
        refine k_t (.t rfl rfl) ?_
        refine wp_seq ?_
        refine k_reg ?_
        refine s_val hS rfl rfl (r_assign rfl .c) ?_
        refine s_val hS rfl rfl (r_assign rfl .c) ?_
        refine wpList_nil ?_
        refine x_tn ?_
        refine k_reb [(0, .slice aL L.length cL), (2, .slice none 0 0), (3, .int .i64 21)] ⟨rfl, rfl, rfl, trivial⟩ fun G6 => ?_
        refine wp_ret ?_
        refine x_tr ?_
        refine k_ret2 Try.results21 rfl rfl rfl rfl ?_
        refine ⟨_, rfl, ?_⟩
        exact .inr (.inl ⟨by omega, by omega, rfl, hS⟩)
      · refine s_val hS rfl rfl (r_cmp_f rfl rfl (.t rfl rfl) .c (show ¬ (((L.length : Nat) : Int) > 32768) from by omega)) ?_
        refine wpList_nil ?_
        refine x_tn ?_
        refine k_reb [(0, .slice aL L.length cL), (2, .slice none 0 0), (3, .int .i64 0), (17, .bool false)] ⟨rfl, rfl, rfl, rfl, trivial⟩ fun G7 => ?_
        refine k_f (.t rfl rfl) ?_
        refine wp_skip ?_
        refine x_tn ?_
        refine k_reb [(0, .slice aL L.length cL), (2, .slice none 0 0), (3, .int .i64 0)] ⟨rfl, rfl, rfl, trivial⟩ fun G8 => ?_
        refine wp_seq ?_
        refine k_reg ?_
        refine s_val hS rfl rfl (r_move rfl (.t rfl rfl)) ?_
        refine s_val hS rfl rfl (r_len rfl rfl Try.underlying43 (.t rfl rfl)) ?_
        refine s_val hS rfl rfl (r_arith rfl rfl (.t rfl rfl) .c (c := ((L.length + 3 : Nat) : Int)) (wn_i64 (by show (((L.length : Nat) : Int) : Int) + 3 = _; omega) (by omega))) ?_
        refine s_val hS rfl rfl (r_quo (b := ((4 : Nat) : Int)) rfl (.t rfl rfl) .c (nz_nat (by omega)) (wn_i64 (c := (L.length + 3) / 4) tdiv_nat (Nat.le_trans (Nat.div_le_self _ _) (by omega)))) ?_
        refine s_make rfl rfl rfl Try.underlying26 ti57 (.t rfl rfl) (.t rfl rfl) (len := (L.length + 3) / 4) (cap := (L.length + 3) / 4) rfl rfl (by omega) (by omega) (by omega) hS fun blk1 w1 hb1 hB1 hS1 => ?_
        refine s_val hS1 rfl rfl (r_assign rfl (.t rfl rfl)) ?_
        refine wpList_nil ?_
        refine x_tn ?_
        refine k_reb [(0, .slice aL L.length cL), (2, .slice none 0 0), (3, .int .i64 0), (4, .slice (some ⟨blk1, 0, none⟩) ((L.length + 3) / 4) ((L.length + 3) / 4))] ⟨rfl, rfl, rfl, rfl, trivial⟩ fun G9 => ?_
        refine wp_seq ?_
        refine wp_seq ?_
        refine k_reg ?_
        refine s_val hS1 rfl rfl (r_move rfl (.t rfl rfl)) ?_
        refine s_val hS1 rfl rfl (r_len rfl rfl Try.underlying43 (.t rfl rfl)) ?_
        refine s_val hS1 rfl rfl (r_move rfl .c) ?_
        refine wpList_nil ?_
        refine x_tn ?_
        refine k_reb [(0, .slice aL L.length cL), (2, .slice none 0 0), (3, .int .i64 0), (4, .slice (some ⟨blk1, 0, none⟩) ((L.length + 3) / 4) ((L.length + 3) / 4)), (24, .int .i64 (((L.length : Nat) : Int))), (25, .int .i64 0)] ⟨rfl, rfl, rfl, rfl, rfl, rfl, trivial⟩ fun G10 => ?_
        refine wp_block ?_
        refine wp_loop_ghost (fun (m1 : Nat) a w => ∃ (G : Nat → Value) (i : Nat) (O : List Nat), a = fr 53 [(0, .slice aL L.length cL), (2, .slice none 0 0), (3, .int .i64 0), (4, .slice (some ⟨blk1, 0, none⟩) ((L.length + 3) / 4) ((L.length + 3) / 4)), (24, .int .i64 (((L.length : Nat) : Int))), (25, .int .i64 (((i : Nat) : Int)))] G ∧ St w0 [] [(blk1, .cells (encN .u32 O) 57 (0, 0))] w ∧ (m1 = L.length - i ∧ i ≤ L.length ∧ O.length = (L.length + 3) / 4 ∧ Lim O ∧ lv O = lev (L.reverse.take i))) (L.length) ⟨_, 0, List.replicate ((L.length + 3) / 4) 0, fr_reb _ ⟨rfl, rfl, rfl, rfl, rfl, rfl, trivial⟩, hS1, ?_⟩ ?_
        · exact ⟨rfl, Nat.zero_le _, by simp, lim_rep _, by rw [lv_rep]; rfl⟩
        · intro m1 _ w2 hI1
          obtain ⟨G11, i, O, rfl, hS2, ⟨hm, hi, hOl, hOlim, hv⟩⟩ := hI1
          refine wp_seq ?_
          refine k_reg ?_
          by_cases c4 : i < L.length
          · refine s_val hS2 rfl rfl (r_cmp_t rfl rfl (.t rfl rfl) (.t rfl rfl) (show ((i : Nat) : Int) < ((L.length : Nat) : Int) from by omega)) ?_
            refine wpList_nil ?_
            refine x_tn ?_
            refine wp_seq ?_
            refine k_t (.t rfl rfl) ?_
            refine wp_skip ?_
            refine x_tn ?_
            refine k_reb [(0, .slice aL L.length cL), (2, .slice none 0 0), (3, .int .i64 0), (4, .slice (some ⟨blk1, 0, none⟩) ((L.length + 3) / 4) ((L.length + 3) / 4)), (24, .int .i64 (((L.length : Nat) : Int))), (25, .int .i64 (((i : Nat) : Int)))] ⟨rfl, rfl, rfl, rfl, rfl, rfl, trivial⟩ fun G12 => ?_
            refine wp_seq ?_
            refine wp_block ?_
            refine wp_seq ?_
            refine k_reg ?_
            refine s_val hS2 rfl rfl (r_move rfl (.t rfl rfl)) ?_
            refine s_val hS2 rfl rfl (r_assign rfl (.t rfl rfl)) ?_
            refine wpList_nil ?_
            refine x_tn ?_
            refine k_reb [(0, .slice aL L.length cL), (2, .slice none 0 0), (3, .int .i64 0), (4, .slice (some ⟨blk1, 0, none⟩) ((L.length + 3) / 4) ((L.length + 3) / 4)), (5, .int .i64 (((i : Nat) : Int))), (24, .int .i64 (((L.length : Nat) : Int))), (25, .int .i64 (((i : Nat) : Int)))] ⟨rfl, rfl, rfl, rfl, rfl, rfl, rfl, trivial⟩ fun G13 => ?_
            refine k_regt 20 mixed (by kernel_rfl) hS2 fun w3 hS3 hB2 => ?_
            refine t_val hS3 rfl rfl (r_move rfl (.t rfl rfl)) ?_
            refine t_val hS3 rfl rfl (r_move rfl (.t rfl rfl)) ?_
            refine t_val hS3 rfl rfl (r_quo (b := ((4 : Nat) : Int)) rfl (.t rfl rfl) .c (nz_nat (by omega)) (wn_i64 (c := i / 4) tdiv_nat (Nat.le_trans (Nat.div_le_self _ _) (by omega)))) ?_
            refine t_val hS3 rfl rfl (r_ixs (j := i / 4) rfl Try.underlying26 ti57 (.t rfl rfl) (.t rfl rfl) rfl (by omega) (qq := i / 4) (by omega)) ?_
            have b2 : O.getD (i / 4) 0 ≤ 4294967295 := getD_lim hOlim _
            refine t_val hS3 rfl rfl (r_load rfl one57 (.t rfl rfl) (St.cell_own (m := 0) rfl (encN_get (by first | omega | (simp only [List.length_set, List.length_append, List.length_replicate]; omega))))) ?_
            refine t_val hS3 rfl rfl (r_move rfl (.t rfl rfl)) ?_
            refine t_val hS3 rfl rfl (r_move rfl (.t rfl rfl)) ?_
            refine t_val hS3 rfl rfl (r_len rfl rfl Try.underlying43 (.t rfl rfl)) ?_
            refine t_val hS3 rfl rfl (r_arith rfl rfl (.t rfl rfl) .c (c := ((L.length - 1 : Nat) : Int)) (wn_i64 (by show (((L.length : Nat) : Int) : Int) - 1 = _; omega) (by omega))) ?_
            refine t_val hS3 rfl rfl (r_move rfl (.t rfl rfl)) ?_
            refine t_val hS3 rfl rfl (r_arith rfl rfl (.t rfl rfl) (.t rfl rfl) (c := (((L.length - 1) - i : Nat) : Int)) (wn_i64 (by show (((L.length - 1 : Nat) : Int) : Int) - ((i : Nat) : Int) = _; omega) (by omega))) ?_
            refine t_val hS3 rfl rfl (r_ixr (j := (L.length - 1) - i) rfl Try.underlying43 ti5 (.t rfl rfl) (.t rfl rfl) hL rfl rfl (by omega)) ?_
            have b3 : L.getD ((L.length - 1) - i) 0 ≤ 255 := hL.lt _
            refine t_val hS3 rfl rfl (r_load rfl one5 (.t rfl rfl) (St.cell_rd hL (by omega) (by simp))) ?_
            refine t_val hS3 rfl rfl (r_conv rfl Try.underlying5 Try.underlying57 (.t rfl rfl) (c := ((L.getD ((L.length - 1) - i) 0 : Nat) : Int)) (wn_u32 rfl (by omega))) ?_
            refine t_val hS3 rfl rfl (r_move rfl (.t rfl rfl)) ?_
            refine t_val hS3 rfl rfl (r_rem (b := ((4 : Nat) : Int)) rfl (.t rfl rfl) .c (nz_nat (by omega)) (c := ((i % 4 : Nat) : Int)) tmod_nat) ?_
            refine t_val hS3 rfl rfl (r_arith rfl rfl (.t rfl rfl) .c (c := (((i % 4) * 8 : Nat) : Int)) (wn_i64 (Int.natCast_mul _ _).symm (by omega))) ?_
            refine t_val hS3 rfl rfl (r_shl rfl (.t rfl rfl) (.t rfl rfl) (by omega) (pw_var (by show (i % 4) * 8 ≤ 32; omega)) (wm_u32 (m := (L.getD ((L.length - 1) - i) 0) * (2 ^ ((i % 4) * 8))) (Int.natCast_mul _ _).symm)) ?_
            have hbo := byte_or (O := O) (i := i) (x := L.getD (L.length - 1 - i) 0) (by rw [hv]; exact lev_small hL.fit) (by omega) (by omega)
            refine t_val hS3 rfl rfl (r_or rfl (.t rfl rfl) (.t rfl rfl) (show O.getD (i / 4) 0 < 4294967296 from by omega) (show (L.getD ((L.length - 1) - i) 0) * (2 ^ ((i % 4) * 8)) % 4294967296 < 4294967296 from by omega) (c := O.getD (i / 4) 0 + L.getD (L.length - 1 - i) 0 * 2 ^ (i % 4 * 8)) hbo.1 (wn_u32 rfl hbo.2)) ?_
            refine t_val hS3 rfl rfl (r_ixs (j := i / 4) rfl Try.underlying26 ti57 (.t rfl rfl) (.t rfl rfl) rfl (by omega) (qq := i / 4) (by omega)) ?_
            refine t_nil ?_
            refine s_store (m := 0) rfl rfl rfl one57 (.t rfl rfl) (.t rfl rfl) rfl hS3 rfl (encN_get (by first | omega | (simp only [List.length_set, List.length_append, List.length_replicate]; omega))) (encN_set) rfl fun w4 hS4 => ?_
            refine wpList_nil ?_
            refine x_bn ?_
            refine x_tn ?_
            refine k_reb [(0, .slice aL L.length cL), (2, .slice none 0 0), (3, .int .i64 0), (4, .slice (some ⟨blk1, 0, none⟩) ((L.length + 3) / 4) ((L.length + 3) / 4)), (24, .int .i64 (((L.length : Nat) : Int))), (25, .int .i64 (((i : Nat) : Int)))] ⟨rfl, rfl, rfl, rfl, rfl, rfl, trivial⟩ fun G14 => ?_
            refine k_reg ?_
            refine s_val hS4 rfl rfl (r_arith rfl rfl (.t rfl rfl) .c (c := ((i + 1 : Nat) : Int)) (wn_i64 (by show (((i : Nat) : Int) : Int) + 1 = _; omega) (by omega))) ?_
            refine s_val hS4 rfl rfl (r_move rfl (.t rfl rfl)) ?_
            refine wpList_nil ?_
            refine x_tn ?_
            refine ⟨L.length - (i + 1), by omega, _, i + 1, O.set (i / 4) (O.getD (i / 4) 0 + L.getD (L.length - 1 - i) 0 * 2 ^ (i % 4 * 8)), fr_reb _ ⟨rfl, rfl, rfl, rfl, rfl, rfl, trivial⟩, hS4, ?_⟩
            exact ⟨by omega, by omega, by simpa using hOl, lim_set hOlim hbo.2, by rw [getD_rev (by omega)]; exact byte_step hv (by omega) (by rw [List.length_reverse]; omega)⟩
          · refine s_val hS2 rfl rfl (r_cmp_f rfl rfl (.t rfl rfl) (.t rfl rfl) (show ¬ (((i : Nat) : Int) < ((L.length : Nat) : Int)) from by omega)) ?_
            refine wpList_nil ?_
            refine x_tn ?_
            refine wp_seq ?_
            refine k_f (.t rfl rfl) ?_
            refine wp_exit ?_
            refine x_te ?_
            refine x_te ?_
            refine x_be ?_
            refine x_tn ?_
            refine k_reb [(2, .slice none 0 0), (3, .int .i64 0), (4, .slice (some ⟨blk1, 0, none⟩) ((L.length + 3) / 4) ((L.length + 3) / 4))] ⟨rfl, rfl, rfl, trivial⟩ fun G15 => ?_
            refine wp_seq ?_
            refine k_reg ?_
            refine s_val hS2 rfl rfl (Rn.asS (p' := O.length) (q' := O.length) (by omega) (by omega) (r_move rfl (.t rfl rfl))) ?_
            refine s_call rfl rfl rfl (vs := [.slice (some ⟨blk1, 0, none⟩) O.length O.length]) ⟨(.t rfl rfl), trivial⟩ cb44 (normal_fit w2 (some ⟨blk1, 0, none⟩) O.length O (rd_own0 (m := 0) hS2 rfl (by omega) (by omega) (hOlim)) (by omega) (by rw [hv]; exact Nat.lt_of_le_of_lt (lev_take_le _ _) (lev_top hL.fit (by omega)))) ?_
            intro v1 w5 hp1
            obtain ⟨hp1, hB3⟩ := hp1
            have hS5 := hS2.keep hB3
            replace hB3 := hB3.toBelow
            obtain ⟨R1, X1, hE1, hNR1, hlR1, rfl⟩ := hp1
            have hnR1 := hNR1.len
            have hR1 : Rd w5 .u32 (some ⟨blk1, 0, none⟩) R1.length R1 := Rd.front_eq hE1 (rd_own0 (m := 0) (cap := O.length) hS5 rfl (by omega) (by omega) hOlim)
            have hW1 := Ow.of_front_eq hE1 hS5 (m := 0) rfl (by have := hNR1.len; omega) hNR1.lim
            refine s_val hS5 rfl rfl (r_extract rfl (.t rfl rfl) rfl) ?_
            refine s_val hS5 rfl rfl (r_extract rfl (.t rfl rfl) rfl) ?_
            refine s_val hS5 rfl rfl (r_assign rfl (.t rfl rfl)) ?_
            refine s_val hS5 rfl rfl (r_assign rfl (.t rfl rfl)) ?_
            refine wpList_nil ?_
            refine x_tn ?_
            refine k_reb [(2, .slice (some ⟨blk1, 0, none⟩) R1.length R1.length), (3, .int .i64 0)] ⟨rfl, rfl, trivial⟩ fun G16 => ?_
            refine wp_ret ?_
            refine k_ret2 Try.results21 rfl rfl rfl rfl ?_
            refine ⟨_, rfl, ?_⟩
            have hi9 : i = L.length := by omega
            subst hi9
            exact .inr (.inr ⟨by omega, by omega, R1, _, rfl, hW1, hNR1, by rw [hlR1, hv, List.take_of_length_le (by simp)]⟩)
  · refine s_val hS rfl rfl (r_cmp_f rfl rfl (.t rfl rfl) .c (show ¬ (((L.length : Nat) : Int) > 0) from by omega)) ?_
    refine s_val hS rfl rfl (r_move rfl (.t rfl rfl)) ?_
    refine s_skip (unwanted_of (j := 3) (b := true) (b' := false) (d := 9) rfl rfl rfl rfl rfl) rfl ?_
    refine s_skip (unwanted_of (j := 3) (b := true) (b' := false) (d := 9) rfl rfl rfl rfl rfl) rfl ?_
    refine s_skip (unwanted_of (j := 3) (b := true) (b' := false) (d := 9) rfl rfl rfl rfl rfl) rfl ?_
    refine s_skip (unwanted_of (j := 3) (b := true) (b' := false) (d := 9) rfl rfl rfl rfl rfl) rfl ?_
    refine s_val hS rfl rfl (r_pick rfl (.t rfl rfl) .c) ?_
    refine wpList_nil ?_
    refine x_tn ?_
    refine k_reb [(0, .slice aL L.length cL), (2, .slice none 0 0), (3, .int .i64 0), (14, .bool false)] ⟨rfl, rfl, rfl, rfl, trivial⟩ fun G17 => ?_
    refine k_f (.t rfl rfl) ?_
    refine wp_skip ?_
    refine x_tn ?_
    refine k_reb [(0, .slice aL L.length cL), (2, .slice none 0 0), (3, .int .i64 0)] ⟨rfl, rfl, rfl, trivial⟩ fun G18 => ?_
    refine wp_seq ?_
    refine wp_seq ?_
    refine k_reg ?_
    refine s_val hS rfl rfl (r_move rfl (.t rfl rfl)) ?_
    refine s_val hS rfl rfl (r_len rfl rfl Try.underlying43 (.t rfl rfl)) ?_
    by_cases c5 : L.length > 32768
    · refine s_val hS rfl rfl (r_cmp_t rfl rfl (.t rfl rfl) .c (show ((L.length : Nat) : Int) > 32768 from by omega)) ?_
      refine wpList_nil ?_
      refine x_tn ?_
      refine k_reb [(0, .slice aL L.length cL), (2, .slice none 0 0), (3, .int .i64 0), (17, .bool true)] ⟨rfl, rfl, rfl, rfl, trivial⟩ fun G19 => ?_
      refine k_t (.t rfl rfl) ?_
      refine wp_seq ?_
      refine k_reg ?_
      refine s_val hS rfl rfl (r_assign rfl .c) ?_
      refine s_val hS rfl rfl (r_assign rfl .c) ?_
      refine wpList_nil ?_
      refine x_tn ?_
      refine k_reb [(0, .slice aL L.length cL), (2, .slice none 0 0), (3, .int .i64 21)] ⟨rfl, rfl, rfl, trivial⟩ fun G20 => ?_
      refine wp_ret ?_
      refine x_tr ?_
      refine k_ret2 Try.results21 rfl rfl rfl rfl ?_
      refine ⟨_, rfl, ?_⟩
      exact .inr (.inl ⟨by omega, by omega, rfl, hS⟩)
    · refine s_val hS rfl rfl (r_cmp_f rfl rfl (.t rfl rfl) .c (show ¬ (((L.length : Nat) : Int) > 32768) from by omega)) ?_
      refine wpList_nil ?_
      refine x_tn ?_
      refine k_reb [(0, .slice aL L.length cL), (2, .slice none 0 0), (3, .int .i64 0), (17, .bool false)] ⟨rfl, rfl, rfl, rfl, trivial⟩ fun G21 => ?_
      refine k_f (.t rfl rfl) ?_
      refine wp_skip ?_
      refine x_tn ?_
      refine k_reb [(0, .slice aL L.length cL), (2, .slice none 0 0), (3, .int .i64 0)] ⟨rfl, rfl, rfl, trivial⟩ fun G22 => ?_
      refine wp_seq ?_
      refine k_reg ?_
      refine s_val hS rfl rfl (r_move rfl (.t rfl rfl)) ?_
      refine s_val hS rfl rfl (r_len rfl rfl Try.underlying43 (.t rfl rfl)) ?_
      refine s_val hS rfl rfl (r_arith rfl rfl (.t rfl rfl) .c (c := ((L.length + 3 : Nat) : Int)) (wn_i64 (by show (((L.length : Nat) : Int) : Int) + 3 = _; omega) (by omega))) ?_
      refine s_val hS rfl rfl (r_quo (b := ((4 : Nat) : Int)) rfl (.t rfl rfl) .c (nz_nat (by omega)) (wn_i64 (c := (L.length + 3) / 4) tdiv_nat (Nat.le_trans (Nat.div_le_self _ _) (by omega)))) ?_
      refine s_make rfl rfl rfl Try.underlying26 ti57 (.t rfl rfl) (.t rfl rfl) (len := (L.length + 3) / 4) (cap := (L.length + 3) / 4) rfl rfl (by omega) (by omega) (by omega) hS fun blk2 w6 hb2 hB4 hS6 => ?_
      refine s_val hS6 rfl rfl (r_assign rfl (.t rfl rfl)) ?_
      refine wpList_nil ?_
      refine x_tn ?_
      refine k_reb [(0, .slice aL L.length cL), (2, .slice none 0 0), (3, .int .i64 0), (4, .slice (some ⟨blk2, 0, none⟩) ((L.length + 3) / 4) ((L.length + 3) / 4))] ⟨rfl, rfl, rfl, rfl, trivial⟩ fun G23 => ?_
      refine wp_seq ?_
      refine wp_seq ?_
      refine k_reg ?_
      refine s_val hS6 rfl rfl (r_move rfl (.t rfl rfl)) ?_
      refine s_val hS6 rfl rfl (r_len rfl rfl Try.underlying43 (.t rfl rfl)) ?_
      refine s_val hS6 rfl rfl (r_move rfl .c) ?_
      refine wpList_nil ?_
      refine x_tn ?_
      refine k_reb [(0, .slice aL L.length cL), (2, .slice none 0 0), (3, .int .i64 0), (4, .slice (some ⟨blk2, 0, none⟩) ((L.length + 3) / 4) ((L.length + 3) / 4)), (24, .int .i64 (((L.length : Nat) : Int))), (25, .int .i64 0)] ⟨rfl, rfl, rfl, rfl, rfl, rfl, trivial⟩ fun G24 => ?_
      refine wp_block ?_
      refine wp_loop_ghost (fun (m2 : Nat) a w => ∃ (G : Nat → Value) (i : Nat) (O : List Nat), a = fr 53 [(0, .slice aL L.length cL), (2, .slice none 0 0), (3, .int .i64 0), (4, .slice (some ⟨blk2, 0, none⟩) ((L.length + 3) / 4) ((L.length + 3) / 4)), (24, .int .i64 (((L.length : Nat) : Int))), (25, .int .i64 (((i : Nat) : Int)))] G ∧ St w0 [] [(blk2, .cells (encN .u32 O) 57 (0, 0))] w ∧ (m2 = L.length - i ∧ i ≤ L.length ∧ O.length = (L.length + 3) / 4 ∧ Lim O ∧ lv O = lev (L.reverse.take i))) (L.length) ⟨_, 0, List.replicate ((L.length + 3) / 4) 0, fr_reb _ ⟨rfl, rfl, rfl, rfl, rfl, rfl, trivial⟩, hS6, ?_⟩ ?_
      · exact ⟨rfl, Nat.zero_le _, by simp, lim_rep _, by rw [lv_rep]; rfl⟩
      · intro m2 _ w7 hI2
        obtain ⟨G25, i, O, rfl, hS7, ⟨hm, hi, hOl, hOlim, hv⟩⟩ := hI2
        refine wp_seq ?_
        refine k_reg ?_
        by_cases c6 : i < L.length
        · refine s_val hS7 rfl rfl (r_cmp_t rfl rfl (.t rfl rfl) (.t rfl rfl) (show ((i : Nat) : Int) < ((L.length : Nat) : Int) from by omega)) ?_
          refine wpList_nil ?_
          refine x_tn ?_
          refine wp_seq ?_
          refine k_t (.t rfl rfl) ?_
          refine wp_skip ?_
          refine x_tn ?_
          refine k_reb [(0, .slice aL L.length cL), (2, .slice none 0 0), (3, .int .i64 0), (4, .slice (some ⟨blk2, 0, none⟩) ((L.length + 3) / 4) ((L.length + 3) / 4)), (24, .int .i64 (((L.length : Nat) : Int))), (25, .int .i64 (((i : Nat) : Int)))] ⟨rfl, rfl, rfl, rfl, rfl, rfl, trivial⟩ fun G26 => ?_
          refine wp_seq ?_
          refine wp_block ?_
          refine wp_seq ?_
          refine k_reg ?_
          refine s_val hS7 rfl rfl (r_move rfl (.t rfl rfl)) ?_
          refine s_val hS7 rfl rfl (r_assign rfl (.t rfl rfl)) ?_
          refine wpList_nil ?_
          refine x_tn ?_
          refine k_reb [(0, .slice aL L.length cL), (2, .slice none 0 0), (3, .int .i64 0), (4, .slice (some ⟨blk2, 0, none⟩) ((L.length + 3) / 4) ((L.length + 3) / 4)), (5, .int .i64 (((i : Nat) : Int))), (24, .int .i64 (((L.length : Nat) : Int))), (25, .int .i64 (((i : Nat) : Int)))] ⟨rfl, rfl, rfl, rfl, rfl, rfl, rfl, trivial⟩ fun G27 => ?_
          refine k_regt 20 mixed (by kernel_rfl) hS7 fun w8 hS8 hB5 => ?_
          refine t_val hS8 rfl rfl (r_move rfl (.t rfl rfl)) ?_
          refine t_val hS8 rfl rfl (r_move rfl (.t rfl rfl)) ?_
          refine t_val hS8 rfl rfl (r_quo (b := ((4 : Nat) : Int)) rfl (.t rfl rfl) .c (nz_nat (by omega)) (wn_i64 (c := i / 4) tdiv_nat (Nat.le_trans (Nat.div_le_self _ _) (by omega)))) ?_
          refine t_val hS8 rfl rfl (r_ixs (j := i / 4) rfl Try.underlying26 ti57 (.t rfl rfl) (.t rfl rfl) rfl (by omega) (qq := i / 4) (by omega)) ?_
          have b4 : O.getD (i / 4) 0 ≤ 4294967295 := getD_lim hOlim _
          refine t_val hS8 rfl rfl (r_load rfl one57 (.t rfl rfl) (St.cell_own (m := 0) rfl (encN_get (by first | omega | (simp only [List.length_set, List.length_append, List.length_replicate]; omega))))) ?_
          refine t_val hS8 rfl rfl (r_move rfl (.t rfl rfl)) ?_
          refine t_val hS8 rfl rfl (r_move rfl (.t rfl rfl)) ?_
          refine t_val hS8 rfl rfl (r_len rfl rfl Try.underlying43 (.t rfl rfl)) ?_
          refine t_val hS8 rfl rfl (r_arith rfl rfl (.t rfl rfl) .c (c := ((L.length - 1 : Nat) : Int)) (wn_i64 (by show (((L.length : Nat) : Int) : Int) - 1 = _; omega) (by omega))) ?_
          refine t_val hS8 rfl rfl (r_move rfl (.t rfl rfl)) ?_
          refine t_val hS8 rfl rfl (r_arith rfl rfl (.t rfl rfl) (.t rfl rfl) (c := (((L.length - 1) - i : Nat) : Int)) (wn_i64 (by show (((L.length - 1 : Nat) : Int) : Int) - ((i : Nat) : Int) = _; omega) (by omega))) ?_
          refine t_val hS8 rfl rfl (r_ixr (j := (L.length - 1) - i) rfl Try.underlying43 ti5 (.t rfl rfl) (.t rfl rfl) hL rfl rfl (by omega)) ?_
          have b5 : L.getD ((L.length - 1) - i) 0 ≤ 255 := hL.lt _
          refine t_val hS8 rfl rfl (r_load rfl one5 (.t rfl rfl) (St.cell_rd hL (by omega) (by simp))) ?_
          refine t_val hS8 rfl rfl (r_conv rfl Try.underlying5 Try.underlying57 (.t rfl rfl) (c := ((L.getD ((L.length - 1) - i) 0 : Nat) : Int)) (wn_u32 rfl (by omega))) ?_
          refine t_val hS8 rfl rfl (r_move rfl (.t rfl rfl)) ?_
          refine t_val hS8 rfl rfl (r_rem (b := ((4 : Nat) : Int)) rfl (.t rfl rfl) .c (nz_nat (by omega)) (c := ((i % 4 : Nat) : Int)) tmod_nat) ?_
          refine t_val hS8 rfl rfl (r_arith rfl rfl (.t rfl rfl) .c (c := (((i % 4) * 8 : Nat) : Int)) (wn_i64 (Int.natCast_mul _ _).symm (by omega))) ?_
          refine t_val hS8 rfl rfl (r_shl rfl (.t rfl rfl) (.t rfl rfl) (by omega) (pw_var (by show (i % 4) * 8 ≤ 32; omega)) (wm_u32 (m := (L.getD ((L.length - 1) - i) 0) * (2 ^ ((i % 4) * 8))) (Int.natCast_mul _ _).symm)) ?_
          have hbo := byte_or (O := O) (i := i) (x := L.getD (L.length - 1 - i) 0) (by rw [hv]; exact lev_small hL.fit) (by omega) (by omega)
          refine t_val hS8 rfl rfl (r_or rfl (.t rfl rfl) (.t rfl rfl) (show O.getD (i / 4) 0 < 4294967296 from by omega) (show (L.getD ((L.length - 1) - i) 0) * (2 ^ ((i % 4) * 8)) % 4294967296 < 4294967296 from by omega) (c := O.getD (i / 4) 0 + L.getD (L.length - 1 - i) 0 * 2 ^ (i % 4 * 8)) hbo.1 (wn_u32 rfl hbo.2)) ?_
          refine t_val hS8 rfl rfl (r_ixs (j := i / 4) rfl Try.underlying26 ti57 (.t rfl rfl) (.t rfl rfl) rfl (by omega) (qq := i / 4) (by omega)) ?_
          refine t_nil ?_
          refine s_store (m := 0) rfl rfl rfl one57 (.t rfl rfl) (.t rfl rfl) rfl hS8 rfl (encN_get (by first | omega | (simp only [List.length_set, List.length_append, List.length_replicate]; omega))) (encN_set) rfl fun w9 hS9 => ?_
          refine wpList_nil ?_
          refine x_bn ?_
          refine x_tn ?_
          refine k_reb [(0, .slice aL L.length cL), (2, .slice none 0 0), (3, .int .i64 0), (4, .slice (some ⟨blk2, 0, none⟩) ((L.length + 3) / 4) ((L.length + 3) / 4)), (24, .int .i64 (((L.length : Nat) : Int))), (25, .int .i64 (((i : Nat) : Int)))] ⟨rfl, rfl, rfl, rfl, rfl, rfl, trivial⟩ fun G28 => ?_
          refine k_reg ?_
          refine s_val hS9 rfl rfl (r_arith rfl rfl (.t rfl rfl) .c (c := ((i + 1 : Nat) : Int)) (wn_i64 (by show (((i : Nat) : Int) : Int) + 1 = _; omega) (by omega))) ?_
          refine s_val hS9 rfl rfl (r_move rfl (.t rfl rfl)) ?_
          refine wpList_nil ?_
          refine x_tn ?_
          refine ⟨L.length - (i + 1), by omega, _, i + 1, O.set (i / 4) (O.getD (i / 4) 0 + L.getD (L.length - 1 - i) 0 * 2 ^ (i % 4 * 8)), fr_reb _ ⟨rfl, rfl, rfl, rfl, rfl, rfl, trivial⟩, hS9, ?_⟩
          exact ⟨by omega, by omega, by simpa using hOl, lim_set hOlim hbo.2, by rw [getD_rev (by omega)]; exact byte_step hv (by omega) (by rw [List.length_reverse]; omega)⟩
        · refine s_val hS7 rfl rfl (r_cmp_f rfl rfl (.t rfl rfl) (.t rfl rfl) (show ¬ (((i : Nat) : Int) < ((L.length : Nat) : Int)) from by omega)) ?_
          refine wpList_nil ?_
          refine x_tn ?_
          refine wp_seq ?_
          refine k_f (.t rfl rfl) ?_
          refine wp_exit ?_
          refine x_te ?_
          refine x_te ?_
          refine x_be ?_
          refine x_tn ?_
          refine k_reb [(2, .slice none 0 0), (3, .int .i64 0), (4, .slice (some ⟨blk2, 0, none⟩) ((L.length + 3) / 4) ((L.length + 3) / 4))] ⟨rfl, rfl, rfl, trivial⟩ fun G29 => ?_
          refine wp_seq ?_
          refine k_reg ?_
          refine s_val hS7 rfl rfl (Rn.asS (p' := O.length) (q' := O.length) (by omega) (by omega) (r_move rfl (.t rfl rfl))) ?_
          refine s_call rfl rfl rfl (vs := [.slice (some ⟨blk2, 0, none⟩) O.length O.length]) ⟨(.t rfl rfl), trivial⟩ cb44 (normal_fit w7 (some ⟨blk2, 0, none⟩) O.length O (rd_own0 (m := 0) hS7 rfl (by omega) (by omega) (hOlim)) (by omega) (by rw [hv]; exact Nat.lt_of_le_of_lt (lev_take_le _ _) (lev_top hL.fit (by omega)))) ?_
          intro v2 w10 hp2
          obtain ⟨hp2, hB6⟩ := hp2
          have hS10 := hS7.keep hB6
          replace hB6 := hB6.toBelow
          obtain ⟨R2, X2, hE2, hNR2, hlR2, rfl⟩ := hp2
          have hnR2 := hNR2.len
          have hR2 : Rd w10 .u32 (some ⟨blk2, 0, none⟩) R2.length R2 := Rd.front_eq hE2 (rd_own0 (m := 0) (cap := O.length) hS10 rfl (by omega) (by omega) hOlim)
          have hW2 := Ow.of_front_eq hE2 hS10 (m := 0) rfl (by have := hNR2.len; omega) hNR2.lim
          refine s_val hS10 rfl rfl (r_extract rfl (.t rfl rfl) rfl) ?_
          refine s_val hS10 rfl rfl (r_extract rfl (.t rfl rfl) rfl) ?_
          refine s_val hS10 rfl rfl (r_assign rfl (.t rfl rfl)) ?_
          refine s_val hS10 rfl rfl (r_assign rfl (.t rfl rfl)) ?_
          refine wpList_nil ?_
          refine x_tn ?_
          refine k_reb [(2, .slice (some ⟨blk2, 0, none⟩) R2.length R2.length), (3, .int .i64 0)] ⟨rfl, rfl, trivial⟩ fun G30 => ?_
          refine wp_ret ?_
          refine k_ret2 Try.results21 rfl rfl rfl rfl ?_
          refine ⟨_, rfl, ?_⟩
          have hi9 : i = L.length := by omega
          subst hi9
          exact .inr (.inr ⟨by omega, by omega, R2, _, rfl, hW2, hNR2, by rw [hlR2, hv, List.take_of_length_le (by simp)]⟩)

end Go.Proofs.Ytnbklceenfjojaa

/- Contracts of functions of the program, each walked once. -/
import Derived.Test.YtnbklceenfjojaaFnN
import Derived.Test.YtnbklceenfjojaaKFrm
namespace Go.Proofs.Ytnbklceenfjojaa
open Go Go.RowKit K
namespace FO
theorem mixed : Try.prog.follows .mixedOrders = true := by kernel_rfl
theorem cb37 : callable Try.prog 37 = true := by kernel_rfl
theorem one57 : One Try.prog 57 = true := by kernel_rfl
theorem ti57 : (Try.prog.info? 57).map (fun i => (i.zero, i.size, i.bytes)) = some (some (.int .u32 0), 1, 4) := by kernel_rfl

end FO
open FO
attribute [local irreducible] Go.wpList Go.wpQuiet Go.wpStill Go.wpAny Go.Code.wp
set_option maxRecDepth 10000
set_option maxHeartbeats 8000000
set_option linter.unusedVariables false
set_option linter.unusedSimpArgs false
theorem Small_ok (w0 : World) (aA : Option Addr) (cA : Nat) (A : List Nat) (hA : Rd w0 .u32 aA cA A) (nA : Nm A) (h2 : A.length ≤ 2) :
    Calls Try.prog 34 #[.slice aA A.length cA] w0 (Ret fun v w' => v = .tuple #[.int .u64 ((lv A : Nat) : Int), .bool true] ∧ St w0 [] [] w') := by
  refine k_enter (vs := [.slice aA A.length cA]) Try.func34 rfl Try.ntmps34 rfl ?_
  have hS := St.init w0
  have lA := hA.le
  refine wp_seq ?_
  refine k_reg ?_
  refine s_val hS rfl rfl (r_assign rfl .c) ?_
  refine s_val hS rfl rfl (r_assign rfl .c) ?_
  refine wpList_nil ?_
  refine x_tn ?_
  refine wp_seq ?_
  refine wp_seq ?_
  refine k_reg ?_
  refine s_val hS rfl rfl (r_move rfl (.t rfl rfl)) ?_
  refine s_call rfl rfl rfl (vs := [.slice aA A.length cA]) ⟨(.t rfl rfl), trivial⟩ cb37 (check_nm w0 aA cA A hA nA) ?_
  intro v1 w1 hp1
  obtain ⟨hp1, hB1⟩ := hp1
  have hS1 := hS.keep hB1
  replace hB1 := hB1.toBelow
  obtain rfl := hp1
  refine s_val hS1 rfl rfl (r_cmp_f rfl rfl (.t rfl rfl) .c (show ¬ (¬ 0 = 0) from by omega)) ?_
  refine s_val hS1 rfl rfl (r_move rfl (.t rfl rfl)) ?_
  refine s_valg hS1 (wanted_of (j := 3) (b := false) (d := 9) rfl rfl rfl rfl) rfl (r_move rfl (.t rfl rfl)) ?_
  refine s_valg hS1 (wanted_of (j := 3) (b := false) (d := 9) rfl rfl rfl rfl) rfl (r_len rfl rfl Try.underlying27 (.t rfl rfl)) ?_
  refine s_valg hS1 (wanted_of (j := 3) (b := false) (d := 9) rfl rfl rfl rfl) rfl (r_cmp_f rfl rfl (.t rfl rfl) .c (show ¬ (((A.length : Nat) : Int) > 2) from (by omega))) ?_
  refine s_val hS1 rfl rfl (r_pick rfl (.t rfl rfl) (.t rfl rfl)) ?_
  refine wpList_nil ?_
  refine x_tn ?_
  refine k_reb [(0, .slice aA A.length cA), (2, .int .u64 0), (3, .bool false), (13, .bool false)] ⟨rfl, rfl, rfl, rfl, trivial⟩ fun G1 => ?_
  refine k_f (.t rfl rfl) ?_
  refine wp_skip ?_
  refine x_tn ?_
  refine k_reb [(0, .slice aA A.length cA), (2, .int .u64 0), (3, .bool false)] ⟨rfl, rfl, rfl, trivial⟩ fun G2 => ?_
  refine wp_seq ?_
  refine k_reg ?_
  refine s_val hS1 rfl rfl (r_assign rfl .c) ?_
  refine wpList_nil ?_
  refine x_tn ?_
  refine wp_seq ?_
  refine wp_seq ?_
  refine k_reg ?_
  refine s_val hS1 rfl rfl (r_move rfl (.t rfl rfl)) ?_
  refine s_val hS1 rfl rfl (r_len rfl rfl Try.underlying27 (.t rfl rfl)) ?_
  refine s_val hS1 rfl rfl (r_move rfl .c) ?_
  refine wpList_nil ?_
  refine x_tn ?_
  refine k_reb [(0, .slice aA A.length cA), (2, .int .u64 0), (3, .bool false), (4, .int .u64 0), (15, .int .i64 (((A.length : Nat) : Int))), (16, .int .i64 0)] ⟨rfl, rfl, rfl, rfl, rfl, rfl, trivial⟩ fun G3 => ?_
  refine wp_block ?_
  refine wp_loop_ghost (fun (m1 : Nat) a w => ∃ (G : Nat → Value) (i : Nat) (nn : Nat), a = fr 31 [(0, .slice aA A.length cA), (2, .int .u64 0), (3, .bool false), (4, .int .u64 (((nn : Nat) : Int))), (15, .int .i64 (((A.length : Nat) : Int))), (16, .int .i64 (((i : Nat) : Int)))] G ∧ St w0 [] [] w ∧ (m1 = A.length - i ∧ i ≤ A.length ∧ nn = lv (A.take i) ∧ nn ≤ 18446744073709551615)) (A.length) ⟨_, 0, 0, fr_reb _ ⟨rfl, rfl, rfl, rfl, rfl, rfl, trivial⟩, hS1, ?_⟩ ?_
  · exact ⟨rfl, Nat.zero_le _, by simp [lv], by omega⟩
  · intro m1 _ w2 hI1
    obtain ⟨G4, i, nn, rfl, hS2, ⟨hm, hi, hv, hnn⟩⟩ := hI1
    refine wp_seq ?_
    refine k_reg ?_
    by_cases c1 : i < A.length
    · refine s_val hS2 rfl rfl (r_cmp_t rfl rfl (.t rfl rfl) (.t rfl rfl) (show ((i : Nat) : Int) < ((A.length : Nat) : Int) from by omega)) ?_
      refine wpList_nil ?_
      refine x_tn ?_
      refine wp_seq ?_
      refine k_t (.t rfl rfl) ?_
      refine wp_skip ?_
      refine x_tn ?_
      refine k_reb [(0, .slice aA A.length cA), (2, .int .u64 0), (3, .bool false), (4, .int .u64 (((nn : Nat) : Int))), (15, .int .i64 (((A.length : Nat) : Int))), (16, .int .i64 (((i : Nat) : Int)))] ⟨rfl, rfl, rfl, rfl, rfl, rfl, trivial⟩ fun G5 => ?_
      refine wp_seq ?_
      refine wp_block ?_
      refine wp_seq ?_
      refine k_reg ?_
      refine s_val hS2 rfl rfl (r_move rfl (.t rfl rfl)) ?_
      refine s_val hS2 rfl rfl (r_assign rfl (.t rfl rfl)) ?_
      refine wpList_nil ?_
      refine x_tn ?_
      refine k_reb [(0, .slice aA A.length cA), (2, .int .u64 0), (3, .bool false), (4, .int .u64 (((nn : Nat) : Int))), (5, .int .i64 (((i : Nat) : Int))), (15, .int .i64 (((A.length : Nat) : Int))), (16, .int .i64 (((i : Nat) : Int)))] ⟨rfl, rfl, rfl, rfl, rfl, rfl, rfl, trivial⟩ fun G6 => ?_
      refine k_reg ?_
      refine s_val hS2 rfl rfl (r_move rfl (.t rfl rfl)) ?_
      refine s_val hS2 rfl rfl (r_move rfl (.t rfl rfl)) ?_
      refine s_val hS2 rfl rfl (r_move rfl (.t rfl rfl)) ?_
      refine s_val hS2 rfl rfl (r_ixr (j := i) rfl Try.underlying27 ti57 (.t rfl rfl) (.t rfl rfl) hA rfl rfl (by omega)) ?_
      have b1 : A.getD i 0 ≤ 4294967295 := hA.lt _
      refine s_val hS2 rfl rfl (r_load rfl one57 (.t rfl rfl) (St.cell_rd hA (by omega) (by simp))) ?_
      refine s_val hS2 rfl rfl (r_conv rfl Try.underlying57 Try.underlying40 (.t rfl rfl) (c := ((A.getD i 0 : Nat) : Int)) (wn_u64 rfl (by omega))) ?_
      refine s_val hS2 rfl rfl (r_move rfl (.t rfl rfl)) ?_
      refine s_val hS2 rfl rfl (r_arith rfl rfl .c (.t rfl rfl) (c := ((32 * i : Nat) : Int)) (wn_i64 (Int.natCast_mul _ _).symm (by omega))) ?_
      refine s_val hS2 rfl rfl (r_shl rfl (.t rfl rfl) (.t rfl rfl) (by omega) (pw_var (by show 32 * i ≤ 64; omega)) (wm_u64 (m := (A.getD i 0) * (2 ^ (32 * i))) (Int.natCast_mul _ _).symm)) ?_
      have hnl : nn < 2 ^ (32 * i) := by
        rw [hv, ← pw_two]
        have := lv_lt (lim_take nA.lim i)
        rwa [List.length_take, Nat.min_eq_left (by omega)] at this
      have hbo := small_or (nn := nn) (x := A.getD i 0) (show i ≤ 1 by omega) hnl (by omega)
      refine s_val hS2 rfl rfl (r_or rfl (.t rfl rfl) (.t rfl rfl) (show nn < 18446744073709551616 from by omega) (show (A.getD i 0) * (2 ^ (32 * i)) % 18446744073709551616 < 18446744073709551616 from by omega) (c := nn + A.getD i 0 * 2 ^ (32 * i)) hbo.1 (wn_u64 rfl hbo.2)) ?_
      refine s_val hS2 rfl rfl (r_assign rfl (.t rfl rfl)) ?_
      refine wpList_nil ?_
      refine x_bn ?_
      refine x_tn ?_
      refine k_reb [(0, .slice aA A.length cA), (2, .int .u64 0), (3, .bool false), (4, .int .u64 (((nn + A.getD i 0 * 2 ^ (32 * i) : Nat) : Int))), (15, .int .i64 (((A.length : Nat) : Int))), (16, .int .i64 (((i : Nat) : Int)))] ⟨rfl, rfl, rfl, rfl, rfl, rfl, trivial⟩ fun G7 => ?_
      refine k_reg ?_
      refine s_val hS2 rfl rfl (r_arith rfl rfl (.t rfl rfl) .c (c := ((i + 1 : Nat) : Int)) (wn_i64 (by show (((i : Nat) : Int) : Int) + 1 = _; omega) (by omega))) ?_
      refine s_val hS2 rfl rfl (r_move rfl (.t rfl rfl)) ?_
      refine wpList_nil ?_
      refine x_tn ?_
      refine ⟨A.length - (i + 1), by omega, _, i + 1, nn + A.getD i 0 * 2 ^ (32 * i), fr_reb _ ⟨rfl, rfl, rfl, rfl, rfl, rfl, trivial⟩, hS2, ?_⟩
      exact ⟨by omega, by omega, by rw [lv_take_succ (by omega), hv, pw_two], hbo.2⟩
    · refine s_val hS2 rfl rfl (r_cmp_f rfl rfl (.t rfl rfl) (.t rfl rfl) (show ¬ (((i : Nat) : Int) < ((A.length : Nat) : Int)) from by omega)) ?_
      refine wpList_nil ?_
      refine x_tn ?_
      refine wp_seq ?_
      refine k_f (.t rfl rfl) ?_
      refine wp_exit ?_
      refine x_te ?_
      refine x_te ?_
      refine x_be ?_
      refine x_tn ?_
      refine k_reb [(2, .int .u64 0), (3, .bool false), (4, .int .u64 (((nn : Nat) : Int)))] ⟨rfl, rfl, rfl, trivial⟩ fun G8 => ?_
      refine wp_seq ?_
      refine k_reg ?_
      refine s_val hS2 rfl rfl (r_move rfl (.t rfl rfl)) ?_
      refine s_val hS2 rfl rfl (r_assign rfl (.t rfl rfl)) ?_
      refine s_val hS2 rfl rfl (r_assign rfl .c) ?_
      refine wpList_nil ?_
      refine x_tn ?_
      refine k_reb [(2, .int .u64 (((nn : Nat) : Int))), (3, .bool true)] ⟨rfl, rfl, trivial⟩ fun G9 => ?_
      refine wp_ret ?_
      refine k_ret2 Try.results34 rfl rfl rfl rfl ?_
      refine ⟨_, rfl, ?_⟩
      obtain rfl : i = A.length := by omega
      exact ⟨by rw [hv, take_all (Nat.le_refl _)], hS2⟩

end Go.Proofs.Ytnbklceenfjojaa

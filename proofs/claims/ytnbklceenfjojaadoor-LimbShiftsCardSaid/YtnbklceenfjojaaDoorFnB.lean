/- Contracts of functions of the program, each walked once. -/
import Derived.Test.YtnbklceenfjojaaDoorFnA
namespace Go.Proofs.YtnbklceenfjojaaDoor
open Go Go.RowKit K
namespace FB
theorem mixed : Tryd.prog.follows .mixedOrders = true := by kernel_rfl
theorem cb94 : callable Tryd.prog 94 = true := by kernel_rfl
theorem one38 : One Tryd.prog 38 = true := by kernel_rfl
theorem ti38 : (Tryd.prog.info? 38).map (fun i => (i.zero, i.size, i.bytes)) = some (some (.int .u32 0), 1, 4) := by kernel_rfl

end FB
open FB
attribute [local irreducible] Go.wpList Go.wpQuiet Go.wpStill Go.wpAny Go.Code.wp
set_option maxRecDepth 10000
set_option maxHeartbeats 8000000
set_option linter.unusedVariables false
set_option linter.unusedSimpArgs false
theorem mul_ok (w0 : World) (aA : Option Addr) (cA : Nat) (A : List Nat) (hA : Rd w0 .u32 aA cA A) (aB : Option Addr) (cB : Nat) (B : List Nat) (hB : Rd w0 .u32 aB cB B) (hlA : A.length ≤ 1000000) (hlB : B.length ≤ 1000000) :
    Calls Tryd.prog 32 #[.slice aA A.length cA, .slice aB B.length cB] w0 (Ret fun v w' => ∃ O, Row w0 w' .u32 38 v O ∧ O.length = A.length + B.length ∧ Lim O ∧ lv O = lv A * lv B) := by
  refine k_enter (vs := [.slice aA A.length cA, .slice aB B.length cB]) Tryd.func32 rfl Tryd.ntmps32 rfl ?_
  have hS := St.init w0
  have lA := hA.le
  have lB := hB.le
  refine wp_seq ?_
  refine k_reg ?_
  refine s_val hS rfl rfl (r_assign rfl .c) ?_
  refine wpList_nil ?_
  refine x_tn ?_
  refine wp_seq ?_
  refine k_reg ?_
  refine s_val hS rfl rfl (r_move rfl (.t rfl rfl)) ?_
  refine s_val hS rfl rfl (r_len rfl rfl Tryd.underlying26 (.t rfl rfl)) ?_
  refine s_val hS rfl rfl (r_move rfl (.t rfl rfl)) ?_
  refine s_val hS rfl rfl (r_len rfl rfl Tryd.underlying26 (.t rfl rfl)) ?_
  refine s_val hS rfl rfl (r_arith rfl rfl (.t rfl rfl) (.t rfl rfl) (c := ((A.length + B.length : Nat) : Int)) (wn_i64 (by show (((A.length : Nat) : Int) : Int) + ((B.length : Nat) : Int) = _; omega) (by omega))) ?_
  refine s_make rfl rfl rfl Tryd.underlying26 ti38 (.t rfl rfl) (.t rfl rfl) (len := A.length + B.length) (cap := A.length + B.length) rfl rfl (by omega) (by omega) (by omega) hS fun blk1 w1 hb1 hB1 hS1 => ?_
  refine s_val hS1 rfl rfl (r_assign rfl (.t rfl rfl)) ?_
  refine wpList_nil ?_
  refine x_tn ?_
  refine k_reb [(0, .slice aA A.length cA), (1, .slice aB B.length cB), (4, .slice none 0 0), (5, .slice (some ⟨blk1, 0, none⟩) (A.length + B.length) (A.length + B.length))] ⟨rfl, rfl, rfl, rfl, trivial⟩ fun G1 => ?_
  refine wp_seq ?_
  refine wp_seq ?_
  refine k_reg ?_
  refine s_val hS1 rfl rfl (r_move rfl (.t rfl rfl)) ?_
  refine s_val hS1 rfl rfl (r_len rfl rfl Tryd.underlying26 (.t rfl rfl)) ?_
  refine s_val hS1 rfl rfl (r_move rfl .c) ?_
  refine wpList_nil ?_
  refine x_tn ?_
  refine k_reb [(0, .slice aA A.length cA), (1, .slice aB B.length cB), (4, .slice none 0 0), (5, .slice (some ⟨blk1, 0, none⟩) (A.length + B.length) (A.length + B.length)), (16, .int .i64 (((A.length : Nat) : Int))), (17, .int .i64 0)] ⟨rfl, rfl, rfl, rfl, rfl, rfl, trivial⟩ fun G2 => ?_
  refine wp_block ?_
  refine wp_loop_ghost (fun (m1 : Nat) a w => ∃ (G : Nat → Value) (i : Nat) (O : List Nat), a = fr 66 [(0, .slice aA A.length cA), (1, .slice aB B.length cB), (4, .slice none 0 0), (5, .slice (some ⟨blk1, 0, none⟩) (A.length + B.length) (A.length + B.length)), (16, .int .i64 (((A.length : Nat) : Int))), (17, .int .i64 (((i : Nat) : Int)))] G ∧ St w0 [] [(blk1, .cells (encN .u32 O) 38 (0, 0))] w ∧ (m1 = A.length - i ∧ i ≤ A.length ∧ O.length = A.length + B.length ∧ Lim O ∧ lv (O.take (i + B.length)) = lv (A.take i) * lv B)) (A.length) ⟨_, 0, List.replicate (A.length + B.length) 0, fr_reb _ ⟨rfl, rfl, rfl, rfl, rfl, rfl, trivial⟩, hS1, ?_⟩ ?_
  · exact ⟨rfl, Nat.zero_le _, by simp, lim_rep _, by rw [Nat.zero_add, List.take_replicate, lv_rep]; simp [lv]⟩
  · intro m1 _ w2 hI1
    obtain ⟨G3, i, O, rfl, hS2, ⟨hmi, hi, hOl, hOlim, hv⟩⟩ := hI1
    refine wp_seq ?_
    refine k_reg ?_
    by_cases c1 : i < A.length
    · refine s_val hS2 rfl rfl (r_cmp_t rfl rfl (.t rfl rfl) (.t rfl rfl) (show ((i : Nat) : Int) < ((A.length : Nat) : Int) from by omega)) ?_
      refine wpList_nil ?_
      refine x_tn ?_
      refine wp_seq ?_
      refine k_t (.t rfl rfl) ?_
      refine wp_skip ?_
      refine x_tn ?_
      refine k_reb [(0, .slice aA A.length cA), (1, .slice aB B.length cB), (4, .slice none 0 0), (5, .slice (some ⟨blk1, 0, none⟩) (A.length + B.length) (A.length + B.length)), (16, .int .i64 (((A.length : Nat) : Int))), (17, .int .i64 (((i : Nat) : Int)))] ⟨rfl, rfl, rfl, rfl, rfl, rfl, trivial⟩ fun G4 => ?_
      refine wp_seq ?_
      refine wp_block ?_
      refine wp_seq ?_
      refine k_reg ?_
      refine s_val hS2 rfl rfl (r_move rfl (.t rfl rfl)) ?_
      refine s_val hS2 rfl rfl (r_assign rfl (.t rfl rfl)) ?_
      refine wpList_nil ?_
      refine x_tn ?_
      refine k_reb [(0, .slice aA A.length cA), (1, .slice aB B.length cB), (4, .slice none 0 0), (5, .slice (some ⟨blk1, 0, none⟩) (A.length + B.length) (A.length + B.length)), (6, .int .i64 (((i : Nat) : Int))), (16, .int .i64 (((A.length : Nat) : Int))), (17, .int .i64 (((i : Nat) : Int)))] ⟨rfl, rfl, rfl, rfl, rfl, rfl, rfl, trivial⟩ fun G5 => ?_
      refine wp_seq ?_
      refine k_reg ?_
      refine s_val hS2 rfl rfl (r_assign rfl .c) ?_
      refine wpList_nil ?_
      refine x_tn ?_
      refine wp_seq ?_
      refine wp_seq ?_
      refine k_reg ?_
      refine s_val hS2 rfl rfl (r_move rfl (.t rfl rfl)) ?_
      refine s_val hS2 rfl rfl (r_len rfl rfl Tryd.underlying26 (.t rfl rfl)) ?_
      refine s_val hS2 rfl rfl (r_move rfl .c) ?_
      refine wpList_nil ?_
      refine x_tn ?_
      refine k_reb [(0, .slice aA A.length cA), (1, .slice aB B.length cB), (4, .slice none 0 0), (5, .slice (some ⟨blk1, 0, none⟩) (A.length + B.length) (A.length + B.length)), (6, .int .i64 (((i : Nat) : Int))), (7, .int .u64 0), (16, .int .i64 (((A.length : Nat) : Int))), (17, .int .i64 (((i : Nat) : Int))), (21, .int .i64 (((B.length : Nat) : Int))), (22, .int .i64 0)] ⟨rfl, rfl, rfl, rfl, rfl, rfl, rfl, rfl, rfl, rfl, trivial⟩ fun G6 => ?_
      refine wp_block ?_
      refine wp_loop_ghost (fun (m2 : Nat) a w => ∃ (G : Nat → Value) (j : Nat) (c : Nat) (O_ : List Nat), a = fr 66 [(0, .slice aA A.length cA), (1, .slice aB B.length cB), (4, .slice none 0 0), (5, .slice (some ⟨blk1, 0, none⟩) (A.length + B.length) (A.length + B.length)), (6, .int .i64 (((i : Nat) : Int))), (7, .int .u64 (((c : Nat) : Int))), (16, .int .i64 (((A.length : Nat) : Int))), (17, .int .i64 (((i : Nat) : Int))), (21, .int .i64 (((B.length : Nat) : Int))), (22, .int .i64 (((j : Nat) : Int)))] G ∧ St w0 [] [(blk1, .cells (encN .u32 O_) 38 (0, 0))] w ∧ (m2 = B.length - j ∧ j ≤ B.length ∧ O_.length = A.length + B.length ∧ Lim O_ ∧ c ≤ 4294967295 ∧ lv (O_.take (i + B.length)) + c * pw (i + j) = lv (A.take i) * lv B + A.getD i 0 * lv (B.take j) * pw i)) (B.length) ⟨_, 0, 0, O, fr_reb _ ⟨rfl, rfl, rfl, rfl, rfl, rfl, rfl, rfl, rfl, rfl, trivial⟩, hS2, ?_⟩ ?_
      · exact ⟨rfl, Nat.zero_le _, hOl, hOlim, by omega, by simp [lv, hv]⟩
      · intro m2 _ w3 hI2
        obtain ⟨G7, j, c, O_, rfl, hS3, ⟨hmj, hj, hOl_, hOlim_, hc, hv_⟩⟩ := hI2
        refine wp_seq ?_
        refine k_reg ?_
        by_cases c2 : j < B.length
        · refine s_val hS3 rfl rfl (r_cmp_t rfl rfl (.t rfl rfl) (.t rfl rfl) (show ((j : Nat) : Int) < ((B.length : Nat) : Int) from by omega)) ?_
          refine wpList_nil ?_
          refine x_tn ?_
          refine wp_seq ?_
          refine k_t (.t rfl rfl) ?_
          refine wp_skip ?_
          refine x_tn ?_
          refine k_reb [(0, .slice aA A.length cA), (1, .slice aB B.length cB), (4, .slice none 0 0), (5, .slice (some ⟨blk1, 0, none⟩) (A.length + B.length) (A.length + B.length)), (6, .int .i64 (((i : Nat) : Int))), (7, .int .u64 (((c : Nat) : Int))), (16, .int .i64 (((A.length : Nat) : Int))), (17, .int .i64 (((i : Nat) : Int))), (21, .int .i64 (((B.length : Nat) : Int))), (22, .int .i64 (((j : Nat) : Int)))] ⟨rfl, rfl, rfl, rfl, rfl, rfl, rfl, rfl, rfl, rfl, trivial⟩ fun G8 => ?_
          refine wp_seq ?_
          refine wp_block ?_
          refine wp_seq ?_
          refine k_reg ?_
          refine s_val hS3 rfl rfl (r_move rfl (.t rfl rfl)) ?_
          refine s_val hS3 rfl rfl (r_assign rfl (.t rfl rfl)) ?_
          refine wpList_nil ?_
          refine x_tn ?_
          refine k_reb [(0, .slice aA A.length cA), (1, .slice aB B.length cB), (4, .slice none 0 0), (5, .slice (some ⟨blk1, 0, none⟩) (A.length + B.length) (A.length + B.length)), (6, .int .i64 (((i : Nat) : Int))), (7, .int .u64 (((c : Nat) : Int))), (8, .int .i64 (((j : Nat) : Int))), (16, .int .i64 (((A.length : Nat) : Int))), (17, .int .i64 (((i : Nat) : Int))), (21, .int .i64 (((B.length : Nat) : Int))), (22, .int .i64 (((j : Nat) : Int)))] ⟨rfl, rfl, rfl, rfl, rfl, rfl, rfl, rfl, rfl, rfl, rfl, trivial⟩ fun G9 => ?_
          refine wp_seq ?_
          refine k_regq mixed (by kernel_rfl) hS3 ?_
          refine q_val rfl rfl (r_move rfl (.t rfl rfl)) ?_
          refine q_val rfl rfl (r_move rfl (.t rfl rfl)) ?_
          refine q_val rfl rfl (r_move rfl (.t rfl rfl)) ?_
          refine q_val rfl rfl (r_move rfl (.t rfl rfl)) ?_
          refine q_val rfl rfl (r_arith rfl rfl (.t rfl rfl) (.t rfl rfl) (c := ((i + j : Nat) : Int)) (wn_i64 (by show (((i : Nat) : Int) : Int) + ((j : Nat) : Int) = _; omega) (by omega))) ?_
          refine q_val rfl rfl (r_ixs (j := i + j) rfl Tryd.underlying26 ti38 (.t rfl rfl) (.t rfl rfl) rfl (by omega) (qq := i + j) (by omega)) ?_
          have b1 : O_.getD (i + j) 0 ≤ 4294967295 := getD_lim hOlim_ _
          refine q_val rfl rfl (r_load rfl one38 (.t rfl rfl) (St.cell_own (m := 0) rfl (encN_get (by first | omega | (simp only [List.length_set, List.length_append, List.length_replicate]; omega))))) ?_
          refine q_val rfl rfl (r_conv rfl Tryd.underlying38 Tryd.underlying47 (.t rfl rfl) (c := ((O_.getD (i + j) 0 : Nat) : Int)) (wn_u64 rfl (by omega))) ?_
          refine q_val rfl rfl (r_move rfl (.t rfl rfl)) ?_
          refine q_val rfl rfl (r_move rfl (.t rfl rfl)) ?_
          refine q_val rfl rfl (r_ixr (j := i) rfl Tryd.underlying26 ti38 (.t rfl rfl) (.t rfl rfl) hA rfl rfl (by omega)) ?_
          have b2 : A.getD i 0 ≤ 4294967295 := hA.lt _
          refine q_val rfl rfl (r_load rfl one38 (.t rfl rfl) (St.cell_rd hA (by omega) (by simp))) ?_
          refine q_val rfl rfl (r_conv rfl Tryd.underlying38 Tryd.underlying47 (.t rfl rfl) (c := ((A.getD i 0 : Nat) : Int)) (wn_u64 rfl (by omega))) ?_
          refine q_val rfl rfl (r_move rfl (.t rfl rfl)) ?_
          refine q_val rfl rfl (r_move rfl (.t rfl rfl)) ?_
          refine q_val rfl rfl (r_ixr (j := j) rfl Tryd.underlying26 ti38 (.t rfl rfl) (.t rfl rfl) hB rfl rfl (by omega)) ?_
          have b3 : B.getD j 0 ≤ 4294967295 := hB.lt _
          refine q_val rfl rfl (r_load rfl one38 (.t rfl rfl) (St.cell_rd hB (by omega) (by simp))) ?_
          refine q_val rfl rfl (r_conv rfl Tryd.underlying38 Tryd.underlying47 (.t rfl rfl) (c := ((B.getD j 0 : Nat) : Int)) (wn_u64 rfl (by omega))) ?_
          have hab : A.getD i 0 * B.getD j 0 ≤ 4294967295 * 4294967295 := Nat.mul_le_mul (show _ ≤ 4294967295 from hA.lt i) (show _ ≤ 4294967295 from hB.lt j)
          refine q_val rfl rfl (r_arith rfl rfl (.t rfl rfl) (.t rfl rfl) (c := (((A.getD i 0) * (B.getD j 0) : Nat) : Int)) (wn_u64 (Int.natCast_mul _ _).symm (by omega))) ?_
          refine q_val rfl rfl (r_arith rfl rfl (.t rfl rfl) (.t rfl rfl) (c := (((O_.getD (i + j) 0) + ((A.getD i 0) * (B.getD j 0)) : Nat) : Int)) (wn_u64 (by show (((O_.getD (i + j) 0 : Nat) : Int) : Int) + (((A.getD i 0) * (B.getD j 0) : Nat) : Int) = _; omega) (by omega))) ?_
          refine q_val rfl rfl (r_arith rfl rfl (.t rfl rfl) (.t rfl rfl) (c := ((c + ((O_.getD (i + j) 0) + ((A.getD i 0) * (B.getD j 0))) : Nat) : Int)) (wn_u64 (by show (((c : Nat) : Int) : Int) + (((O_.getD (i + j) 0) + ((A.getD i 0) * (B.getD j 0)) : Nat) : Int) = _; omega) (by omega))) ?_
          refine q_val rfl rfl (r_assign rfl (.t rfl rfl)) ?_
          refine q_nil ?_
          intro w4 hS4
          refine x_tn ?_
          refine k_reb [(0, .slice aA A.length cA), (1, .slice aB B.length cB), (4, .slice none 0 0), (5, .slice (some ⟨blk1, 0, none⟩) (A.length + B.length) (A.length + B.length)), (6, .int .i64 (((i : Nat) : Int))), (7, .int .u64 (((c + ((O_.getD (i + j) 0) + ((A.getD i 0) * (B.getD j 0))) : Nat) : Int))), (8, .int .i64 (((j : Nat) : Int))), (16, .int .i64 (((A.length : Nat) : Int))), (17, .int .i64 (((i : Nat) : Int))), (21, .int .i64 (((B.length : Nat) : Int))), (22, .int .i64 (((j : Nat) : Int)))] ⟨rfl, rfl, rfl, rfl, rfl, rfl, rfl, rfl, rfl, rfl, rfl, trivial⟩ fun G10 => ?_
          refine wp_seq ?_
          refine k_reg ?_
          refine s_val hS4 rfl rfl (r_move rfl (.t rfl rfl)) ?_
          refine s_val hS4 rfl rfl (r_move rfl (.t rfl rfl)) ?_
          refine s_val hS4 rfl rfl (r_move rfl (.t rfl rfl)) ?_
          refine s_val hS4 rfl rfl (r_arith rfl rfl (.t rfl rfl) (.t rfl rfl) (c := ((i + j : Nat) : Int)) (wn_i64 (by show (((i : Nat) : Int) : Int) + ((j : Nat) : Int) = _; omega) (by omega))) ?_
          refine s_val hS4 rfl rfl (r_move rfl (.t rfl rfl)) ?_
          refine s_val hS4 rfl rfl (r_conv rfl Tryd.underlying47 Tryd.underlying38 (.t rfl rfl) (wm_u32 rfl)) ?_
          refine s_val hS4 rfl rfl (r_ixs (j := i + j) rfl Tryd.underlying26 ti38 (.t rfl rfl) (.t rfl rfl) rfl (by omega) (qq := i + j) (by omega)) ?_
          refine s_store (m := 0) rfl rfl rfl one38 (.t rfl rfl) (.t rfl rfl) rfl hS4 rfl (encN_get (by first | omega | (simp only [List.length_set, List.length_append, List.length_replicate]; omega))) (encN_set) rfl fun w5 hS5 => ?_
          refine wpList_nil ?_
          refine x_tn ?_
          refine k_reb [(0, .slice aA A.length cA), (1, .slice aB B.length cB), (4, .slice none 0 0), (5, .slice (some ⟨blk1, 0, none⟩) (A.length + B.length) (A.length + B.length)), (6, .int .i64 (((i : Nat) : Int))), (7, .int .u64 (((c + ((O_.getD (i + j) 0) + ((A.getD i 0) * (B.getD j 0))) : Nat) : Int))), (16, .int .i64 (((A.length : Nat) : Int))), (17, .int .i64 (((i : Nat) : Int))), (21, .int .i64 (((B.length : Nat) : Int))), (22, .int .i64 (((j : Nat) : Int)))] ⟨rfl, rfl, rfl, rfl, rfl, rfl, rfl, rfl, rfl, rfl, trivial⟩ fun G11 => ?_
          refine k_reg ?_
          refine s_val hS5 rfl rfl (r_move rfl (.t rfl rfl)) ?_
          refine s_val hS5 rfl rfl (r_shr rfl (.t rfl rfl) .c (by omega) (show (2 : Int) ^ _ = ((4294967296 : Nat) : Int) from rfl) fdiv_nat) ?_
          refine s_val hS5 rfl rfl (r_assign rfl (.t rfl rfl)) ?_
          refine wpList_nil ?_
          refine x_bn ?_
          refine x_tn ?_
          refine k_reb [(0, .slice aA A.length cA), (1, .slice aB B.length cB), (4, .slice none 0 0), (5, .slice (some ⟨blk1, 0, none⟩) (A.length + B.length) (A.length + B.length)), (6, .int .i64 (((i : Nat) : Int))), (7, .int .u64 ((((c + ((O_.getD (i + j) 0) + ((A.getD i 0) * (B.getD j 0)))) / 4294967296 : Nat) : Int))), (16, .int .i64 (((A.length : Nat) : Int))), (17, .int .i64 (((i : Nat) : Int))), (21, .int .i64 (((B.length : Nat) : Int))), (22, .int .i64 (((j : Nat) : Int)))] ⟨rfl, rfl, rfl, rfl, rfl, rfl, rfl, rfl, rfl, rfl, trivial⟩ fun G12 => ?_
          refine k_reg ?_
          refine s_val hS5 rfl rfl (r_arith rfl rfl (.t rfl rfl) .c (c := ((j + 1 : Nat) : Int)) (wn_i64 (by show (((j : Nat) : Int) : Int) + 1 = _; omega) (by omega))) ?_
          refine s_val hS5 rfl rfl (r_move rfl (.t rfl rfl)) ?_
          refine wpList_nil ?_
          refine x_tn ?_
          refine ⟨B.length - (j + 1), by omega, _, j + 1, (c + (O_.getD (i + j) 0 + A.getD i 0 * B.getD j 0)) / 4294967296, O_.set (i + j) ((c + (O_.getD (i + j) 0 + A.getD i 0 * B.getD j 0)) % 4294967296), fr_reb _ ⟨rfl, rfl, rfl, rfl, rfl, rfl, rfl, rfl, rfl, rfl, trivial⟩, hS5, ?_⟩
          exact ⟨by omega, by omega, by simpa using hOl_, lim_set hOlim_ (by omega), by omega, mul_step (by omega) (by omega) rfl hv_⟩
        · refine s_val hS3 rfl rfl (r_cmp_f rfl rfl (.t rfl rfl) (.t rfl rfl) (show ¬ (((j : Nat) : Int) < ((B.length : Nat) : Int)) from by omega)) ?_
          refine wpList_nil ?_
          refine x_tn ?_
          refine wp_seq ?_
          refine k_f (.t rfl rfl) ?_
          refine wp_exit ?_
          refine x_te ?_
          refine x_te ?_
          refine x_be ?_
          refine x_tn ?_
          refine k_reb [(0, .slice aA A.length cA), (1, .slice aB B.length cB), (4, .slice none 0 0), (5, .slice (some ⟨blk1, 0, none⟩) (A.length + B.length) (A.length + B.length)), (6, .int .i64 (((i : Nat) : Int))), (7, .int .u64 (((c : Nat) : Int))), (16, .int .i64 (((A.length : Nat) : Int))), (17, .int .i64 (((i : Nat) : Int)))] ⟨rfl, rfl, rfl, rfl, rfl, rfl, rfl, rfl, trivial⟩ fun G13 => ?_
          refine k_reg ?_
          refine s_val hS3 rfl rfl (r_move rfl (.t rfl rfl)) ?_
          refine s_val hS3 rfl rfl (r_move rfl (.t rfl rfl)) ?_
          refine s_val hS3 rfl rfl (r_move rfl (.t rfl rfl)) ?_
          refine s_val hS3 rfl rfl (r_len rfl rfl Tryd.underlying26 (.t rfl rfl)) ?_
          refine s_val hS3 rfl rfl (r_arith rfl rfl (.t rfl rfl) (.t rfl rfl) (c := ((i + B.length : Nat) : Int)) (wn_i64 (by show (((i : Nat) : Int) : Int) + ((B.length : Nat) : Int) = _; omega) (by omega))) ?_
          refine s_val hS3 rfl rfl (r_move rfl (.t rfl rfl)) ?_
          refine s_val hS3 rfl rfl (r_conv rfl Tryd.underlying47 Tryd.underlying38 (.t rfl rfl) (c := ((c : Nat) : Int)) (wn_u32 rfl (by omega))) ?_
          refine s_val hS3 rfl rfl (r_ixs (j := i + B.length) rfl Tryd.underlying26 ti38 (.t rfl rfl) (.t rfl rfl) rfl (by omega) (qq := i + B.length) (by omega)) ?_
          refine s_store (m := 0) rfl rfl rfl one38 (.t rfl rfl) (.t rfl rfl) rfl hS3 rfl (encN_get (by first | omega | (simp only [List.length_set, List.length_append, List.length_replicate]; omega))) (encN_set) rfl fun w6 hS6 => ?_
          refine wpList_nil ?_
          refine x_bn ?_
          refine x_tn ?_
          refine k_reb [(0, .slice aA A.length cA), (1, .slice aB B.length cB), (4, .slice none 0 0), (5, .slice (some ⟨blk1, 0, none⟩) (A.length + B.length) (A.length + B.length)), (16, .int .i64 (((A.length : Nat) : Int))), (17, .int .i64 (((i : Nat) : Int)))] ⟨rfl, rfl, rfl, rfl, rfl, rfl, trivial⟩ fun G14 => ?_
          refine k_reg ?_
          refine s_val hS6 rfl rfl (r_arith rfl rfl (.t rfl rfl) .c (c := ((i + 1 : Nat) : Int)) (wn_i64 (by show (((i : Nat) : Int) : Int) + 1 = _; omega) (by omega))) ?_
          refine s_val hS6 rfl rfl (r_move rfl (.t rfl rfl)) ?_
          refine wpList_nil ?_
          refine x_tn ?_
          refine ⟨A.length - (i + 1), by omega, _, i + 1, O_.set (i + B.length) c, fr_reb _ ⟨rfl, rfl, rfl, rfl, rfl, rfl, trivial⟩, hS6, ?_⟩
          exact ⟨by omega, by omega, by simpa using hOl_, lim_set hOlim_ (by omega), by
            obtain rfl : j = B.length := by omega
            exact mul_row (by omega) (by omega) hv_⟩
    · refine s_val hS2 rfl rfl (r_cmp_f rfl rfl (.t rfl rfl) (.t rfl rfl) (show ¬ (((i : Nat) : Int) < ((A.length : Nat) : Int)) from by omega)) ?_
      refine wpList_nil ?_
      refine x_tn ?_
      refine wp_seq ?_
      refine k_f (.t rfl rfl) ?_
      refine wp_exit ?_
      refine x_te ?_
      refine x_te ?_
      refine x_be ?_
      refine x_tn ?_
      refine k_reb [(4, .slice none 0 0), (5, .slice (some ⟨blk1, 0, none⟩) (A.length + B.length) (A.length + B.length))] ⟨rfl, rfl, trivial⟩ fun G15 => ?_
      refine wp_seq ?_
      refine k_reg ?_
      refine s_val hS2 rfl rfl (r_move rfl (.t rfl rfl)) ?_
      refine s_val hS2 rfl rfl (r_assign rfl (.t rfl rfl)) ?_
      refine wpList_nil ?_
      refine x_tn ?_
      refine k_reb [(4, .slice (some ⟨blk1, 0, none⟩) (A.length + B.length) (A.length + B.length))] ⟨rfl, trivial⟩ fun G16 => ?_
      refine wp_ret ?_
      refine k_ret1 Tryd.results32 rfl rfl ?_
      refine ⟨_, rfl, ?_⟩
      obtain rfl : i = A.length := by omega
      rw [take_all (by omega), take_all (Nat.le_refl _)] at hv
      exact ⟨O, ⟨blk1, by rw [hOl], hb1, hS2⟩, hOl, hOlim, hv⟩

theorem by_ok (w0 : World) (aA : Option Addr) (cA : Nat) (A : List Nat) (hA : Rd w0 .u32 aA cA A) (d : Nat) (hd : 0 < d) (hd2 : d ≤ 4294967295) (hlA : A.length ≤ 1000000) :
    Calls Tryd.prog 73 #[.slice aA A.length cA, .int .u32 (((d : Nat) : Int))] w0 (Ret fun v w' => ∃ O r v0, v = .tuple #[v0, .int .u32 ((r : Nat) : Int)] ∧ Row w0 w' .u32 38 v0 O ∧ O.length = A.length ∧ Lim O ∧ lv O = lv A / d ∧ r = lv A % d) := by
  refine k_enter (vs := [.slice aA A.length cA, .int .u32 (((d : Nat) : Int))]) Tryd.func73 rfl Tryd.ntmps73 rfl ?_
  have hS := St.init w0
  have lA := hA.le
  refine wp_seq ?_
  refine k_reg ?_
  refine s_val hS rfl rfl (r_assign rfl .c) ?_
  refine s_val hS rfl rfl (r_assign rfl .c) ?_
  refine wpList_nil ?_
  refine x_tn ?_
  refine wp_seq ?_
  refine k_reg ?_
  refine s_val hS rfl rfl (r_move rfl (.t rfl rfl)) ?_
  refine s_val hS rfl rfl (r_len rfl rfl Tryd.underlying26 (.t rfl rfl)) ?_
  refine s_make rfl rfl rfl Tryd.underlying26 ti38 (.t rfl rfl) (.t rfl rfl) (len := A.length) (cap := A.length) rfl rfl (by omega) (by omega) (by omega) hS fun blk1 w1 hb1 hB1 hS1 => ?_
  refine s_val hS1 rfl rfl (r_assign rfl (.t rfl rfl)) ?_
  refine wpList_nil ?_
  refine x_tn ?_
  refine k_reb [(0, .slice aA A.length cA), (1, .int .u32 (((d : Nat) : Int))), (4, .slice none 0 0), (5, .int .u32 0), (6, .slice (some ⟨blk1, 0, none⟩) A.length A.length)] ⟨rfl, rfl, rfl, rfl, rfl, trivial⟩ fun G1 => ?_
  refine wp_seq ?_
  refine k_reg ?_
  refine s_val hS1 rfl rfl (r_assign rfl .c) ?_
  refine wpList_nil ?_
  refine x_tn ?_
  refine wp_seq ?_
  refine wp_seq ?_
  refine k_reg ?_
  refine s_val hS1 rfl rfl (r_move rfl (.t rfl rfl)) ?_
  refine s_val hS1 rfl rfl (r_len rfl rfl Tryd.underlying26 (.t rfl rfl)) ?_
  refine s_val hS1 rfl rfl (r_arith rfl rfl (.t rfl rfl) .c (c := (((A.length : Nat) : Int)) - 1) (w_i64 rfl (by omega) (by omega))) ?_
  refine s_val hS1 rfl rfl (r_assign rfl (.t rfl rfl)) ?_
  refine wpList_nil ?_
  refine x_tn ?_
  refine k_reb [(0, .slice aA A.length cA), (1, .int .u32 (((d : Nat) : Int))), (4, .slice none 0 0), (5, .int .u32 0), (6, .slice (some ⟨blk1, 0, none⟩) A.length A.length), (7, .int .u32 0), (8, .int .i64 ((((A.length : Nat) : Int)) - 1))] ⟨rfl, rfl, rfl, rfl, rfl, rfl, rfl, trivial⟩ fun G2 => ?_
  refine wp_block ?_
  refine wp_loop_ghost (fun (m1 : Nat) a w => ∃ (G : Nat → Value) (k : Nat) (r : Nat) (O : List Nat), a = fr 34 [(0, .slice aA A.length cA), (1, .int .u32 (((d : Nat) : Int))), (4, .slice none 0 0), (5, .int .u32 0), (6, .slice (some ⟨blk1, 0, none⟩) A.length A.length), (7, .int .u32 (((r : Nat) : Int))), (8, .int .i64 (((k : Nat) : Int) - 1))] G ∧ St w0 [] [(blk1, .cells (encN .u32 O) 38 (0, 0))] w ∧ (m1 = k ∧ k ≤ A.length ∧ O.length = A.length ∧ Lim O ∧ r < d ∧ lv (A.drop k) = d * lv (O.drop k) + r)) (A.length) ⟨_, A.length, 0, List.replicate A.length 0, fr_reb _ ⟨rfl, rfl, rfl, rfl, rfl, rfl, rfl, trivial⟩, hS1, ?_⟩ ?_
  · exact ⟨rfl, Nat.le_refl _, by simp, lim_rep _, hd, by simp [lv]⟩
  · intro m1 _ w2 hI1
    obtain ⟨G3, k, r, O, rfl, hS2, ⟨hmk, hk, hOl, hOlim, hr, hv⟩⟩ := hI1
    refine wp_seq ?_
    refine wp_seq ?_
    refine k_reg ?_
    refine s_val hS2 rfl rfl (r_move rfl (.t rfl rfl)) ?_
    by_cases c1 : ((k : Nat) : Int) - 1 ≥ 0
    · refine s_val hS2 rfl rfl (r_cmp_t rfl rfl (.t rfl rfl) .c (show ((k : Nat) : Int) - 1 ≥ 0 from by omega)) ?_
      refine wpList_nil ?_
      refine x_tn ?_
      refine k_reb [(0, .slice aA A.length cA), (1, .int .u32 (((d : Nat) : Int))), (4, .slice none 0 0), (5, .int .u32 0), (6, .slice (some ⟨blk1, 0, none⟩) A.length A.length), (7, .int .u32 (((r : Nat) : Int))), (8, .int .i64 (((k : Nat) : Int) - 1)), (16, .bool true)] ⟨rfl, rfl, rfl, rfl, rfl, rfl, rfl, rfl, trivial⟩ fun G4 => ?_
      refine k_t (.t rfl rfl) ?_
      refine wp_skip ?_
      refine x_tn ?_
      refine k_reb [(0, .slice aA A.length cA), (1, .int .u32 (((d : Nat) : Int))), (4, .slice none 0 0), (5, .int .u32 0), (6, .slice (some ⟨blk1, 0, none⟩) A.length A.length), (7, .int .u32 (((r : Nat) : Int))), (8, .int .i64 (((k : Nat) : Int) - 1))] ⟨rfl, rfl, rfl, rfl, rfl, rfl, rfl, trivial⟩ fun G5 => ?_
      refine wp_seq ?_
      refine wp_block ?_
      refine k_reg ?_
      refine s_val hS2 rfl rfl (r_move rfl (.t rfl rfl)) ?_
      refine s_val hS2 rfl rfl (r_move rfl (.t rfl rfl)) ?_
      refine s_val hS2 rfl rfl (r_move rfl (.t rfl rfl)) ?_
      refine s_val hS2 rfl rfl (r_move rfl (.t rfl rfl)) ?_
      refine s_val hS2 rfl rfl (r_move rfl (.t rfl rfl)) ?_
      refine s_val hS2 rfl rfl (r_ixr (j := k - 1) rfl Tryd.underlying26 ti38 (.t rfl rfl) (.t rfl rfl) hA rfl (by omega) (by omega)) ?_
      have b1 : A.getD (k - 1) 0 ≤ 4294967295 := hA.lt _
      refine s_val hS2 rfl rfl (r_load rfl one38 (.t rfl rfl) (St.cell_rd hA (by omega) (by simp))) ?_
      refine s_val hS2 rfl rfl (r_move rfl (.t rfl rfl)) ?_
      refine s_call rfl rfl rfl (vs := [.int .u32 (((r : Nat) : Int)), .int .u32 (((A.getD (k - 1) 0 : Nat) : Int)), .int .u32 (((d : Nat) : Int))]) ⟨(.t rfl rfl), (.t rfl rfl), (.t rfl rfl), trivial⟩ cb94 (div32_ok w2 r (A.getD (k - 1) 0) d (by omega) (by omega) (by omega) (by omega)) ?_
      intro v1 w3 hp1
      obtain ⟨hp1, hB2⟩ := hp1
      have hS3 := hS2.keep hB2
      replace hB2 := hB2.toBelow
      obtain rfl := hp1
      refine s_val hS3 rfl rfl (r_move rfl (.t rfl rfl)) ?_
      refine s_val hS3 rfl rfl (r_extract rfl (.t rfl rfl) rfl) ?_
      refine s_val hS3 rfl rfl (r_extract rfl (.t rfl rfl) rfl) ?_
      refine s_val hS3 rfl rfl (r_ixs (j := k - 1) rfl Tryd.underlying26 ti38 (.t rfl rfl) (.t rfl rfl) (by omega) (by omega) (qq := k - 1) (by omega)) ?_
      refine s_store (m := 0) rfl rfl rfl one38 (.t rfl rfl) (.t rfl rfl) rfl hS3 rfl (encN_get (by first | omega | (simp only [List.length_set, List.length_append, List.length_replicate]; omega))) (encN_set) rfl fun w4 hS4 => ?_
      refine s_val hS4 rfl rfl (r_assign rfl (.t rfl rfl)) ?_
      refine wpList_nil ?_
      refine x_bn ?_
      refine x_tn ?_
      refine k_reb [(0, .slice aA A.length cA), (1, .int .u32 (((d : Nat) : Int))), (4, .slice none 0 0), (5, .int .u32 0), (6, .slice (some ⟨blk1, 0, none⟩) A.length A.length), (7, .int .u32 ((((r * 4294967296 + (A.getD (k - 1) 0)) % d : Nat) : Int))), (8, .int .i64 (((k : Nat) : Int) - 1))] ⟨rfl, rfl, rfl, rfl, rfl, rfl, rfl, trivial⟩ fun G6 => ?_
      refine k_reg ?_
      refine s_val hS4 rfl rfl (r_move rfl (.t rfl rfl)) ?_
      refine s_val hS4 rfl rfl (r_arith rfl rfl (.t rfl rfl) .c (c := ((k - 1 : Nat) : Int) - 1) (w_i64 (by show (((k : Nat) : Int) - 1 : Int) - 1 = _; omega) (by omega) (by omega))) ?_
      refine s_val hS4 rfl rfl (r_assign rfl (.t rfl rfl)) ?_
      refine wpList_nil ?_
      refine x_tn ?_
      refine ⟨k - 1, by omega, _, k - 1, (r * 4294967296 + A.getD (k - 1) 0) % d, O.set (k - 1) ((r * 4294967296 + A.getD (k - 1) 0) / d), fr_reb _ ⟨rfl, rfl, rfl, rfl, rfl, rfl, rfl, trivial⟩, hS4, ?_⟩
      exact ⟨rfl, by omega, by simpa using hOl, lim_set hOlim (div_small (by omega) hr), Nat.mod_lt _ hd, by_step (by omega) hk (by omega) hv⟩
    · refine s_val hS2 rfl rfl (r_cmp_f rfl rfl (.t rfl rfl) .c (show ¬ (((k : Nat) : Int) - 1 ≥ 0) from by omega)) ?_
      refine wpList_nil ?_
      refine x_tn ?_
      refine k_reb [(0, .slice aA A.length cA), (1, .int .u32 (((d : Nat) : Int))), (4, .slice none 0 0), (5, .int .u32 0), (6, .slice (some ⟨blk1, 0, none⟩) A.length A.length), (7, .int .u32 (((r : Nat) : Int))), (8, .int .i64 (((k : Nat) : Int) - 1)), (16, .bool false)] ⟨rfl, rfl, rfl, rfl, rfl, rfl, rfl, rfl, trivial⟩ fun G7 => ?_
      refine k_f (.t rfl rfl) ?_
      refine wp_exit ?_
      refine x_te ?_
      refine x_te ?_
      refine x_be ?_
      refine x_tn ?_
      refine k_reb [(4, .slice none 0 0), (5, .int .u32 0), (6, .slice (some ⟨blk1, 0, none⟩) A.length A.length), (7, .int .u32 (((r : Nat) : Int)))] ⟨rfl, rfl, rfl, rfl, trivial⟩ fun G8 => ?_
      refine wp_seq ?_
      refine k_reg ?_
      refine s_val hS2 rfl rfl (r_move rfl (.t rfl rfl)) ?_
      refine s_val hS2 rfl rfl (r_move rfl (.t rfl rfl)) ?_
      refine s_val hS2 rfl rfl (r_assign rfl (.t rfl rfl)) ?_
      refine s_val hS2 rfl rfl (r_assign rfl (.t rfl rfl)) ?_
      refine wpList_nil ?_
      refine x_tn ?_
      refine k_reb [(4, .slice (some ⟨blk1, 0, none⟩) A.length A.length), (5, .int .u32 (((r : Nat) : Int)))] ⟨rfl, rfl, trivial⟩ fun G9 => ?_
      refine wp_ret ?_
      refine k_ret2 Tryd.results73 rfl rfl rfl rfl ?_
      refine ⟨_, rfl, ?_⟩
      obtain rfl : k = 0 := by omega
      rw [List.drop_zero, List.drop_zero] at hv
      exact ⟨O, r, _, rfl, ⟨blk1, by rw [hOl], hb1, hS2⟩, hOl, hOlim, by rw [hv, Nat.mul_add_div hd, Nat.div_eq_of_lt hr]; rfl, by rw [hv, Nat.mul_add_mod, Nat.mod_eq_of_lt hr]⟩

theorem left_ok (w0 : World) (aA : Option Addr) (cA : Nat) (A : List Nat) (hA : Rd w0 .u32 aA cA A) (N : Nat) (hN : N ≤ 1000000) (hlA : A.length ≤ 1000000) :
    Calls Tryd.prog 29 #[.slice aA A.length cA, .int .i64 (((N : Nat) : Int))] w0 (Ret fun v w' => ∃ O, Row w0 w' .u32 38 v O ∧ O.length = N / 32 + A.length + 1 ∧ Lim O ∧ lv O = lv A * 2 ^ N) := by
  refine k_enter (vs := [.slice aA A.length cA, .int .i64 (((N : Nat) : Int))]) Tryd.func29 rfl Tryd.ntmps29 rfl ?_
  have hS := St.init w0
  have lA := hA.le
  refine wp_seq ?_
  refine k_reg ?_
  refine s_val hS rfl rfl (r_assign rfl .c) ?_
  refine wpList_nil ?_
  refine x_tn ?_
  refine wp_seq ?_
  refine k_reg ?_
  refine s_val hS rfl rfl (r_move rfl (.t rfl rfl)) ?_
  refine s_val hS rfl rfl (r_quo (b := ((32 : Nat) : Int)) rfl (.t rfl rfl) .c (nz_nat (by omega)) (wn_i64 (c := N / 32) tdiv_nat (Nat.le_trans (Nat.div_le_self _ _) (by omega)))) ?_
  refine s_val hS rfl rfl (r_move rfl (.t rfl rfl)) ?_
  refine s_val hS rfl rfl (r_rem (b := ((32 : Nat) : Int)) rfl (.t rfl rfl) .c (nz_nat (by omega)) (c := ((N % 32 : Nat) : Int)) tmod_nat) ?_
  refine s_val hS rfl rfl (r_assign rfl (.t rfl rfl)) ?_
  refine s_val hS rfl rfl (r_assign rfl (.t rfl rfl)) ?_
  refine wpList_nil ?_
  refine x_tn ?_
  refine k_reb [(0, .slice aA A.length cA), (1, .int .i64 (((N % 32 : Nat) : Int))), (4, .slice none 0 0), (5, .int .i64 (((N / 32 : Nat) : Int)))] ⟨rfl, rfl, rfl, rfl, trivial⟩ fun G1 => ?_
  refine wp_seq ?_
  refine k_reg ?_
  refine s_val hS rfl rfl (r_move rfl (.t rfl rfl)) ?_
  refine s_val hS rfl rfl (r_move rfl (.t rfl rfl)) ?_
  refine s_val hS rfl rfl (r_len rfl rfl Tryd.underlying26 (.t rfl rfl)) ?_
  refine s_val hS rfl rfl (r_arith rfl rfl (.t rfl rfl) (.t rfl rfl) (c := (((N / 32) + A.length : Nat) : Int)) (wn_i64 (by show (((N / 32 : Nat) : Int) : Int) + ((A.length : Nat) : Int) = _; omega) (by omega))) ?_
  refine s_val hS rfl rfl (r_arith rfl rfl (.t rfl rfl) .c (c := ((((N / 32) + A.length) + 1 : Nat) : Int)) (wn_i64 (by show ((((N / 32) + A.length : Nat) : Int) : Int) + 1 = _; omega) (by omega))) ?_
  refine s_make rfl rfl rfl Tryd.underlying26 ti38 (.t rfl rfl) (.t rfl rfl) (len := ((N / 32) + A.length) + 1) (cap := ((N / 32) + A.length) + 1) rfl rfl (by omega) (by omega) (by omega) hS fun blk1 w1 hb1 hB1 hS1 => ?_
  refine s_val hS1 rfl rfl (r_assign rfl (.t rfl rfl)) ?_
  refine wpList_nil ?_
  refine x_tn ?_
  refine k_reb [(0, .slice aA A.length cA), (1, .int .i64 (((N % 32 : Nat) : Int))), (4, .slice none 0 0), (5, .int .i64 (((N / 32 : Nat) : Int))), (6, .slice (some ⟨blk1, 0, none⟩) (((N / 32) + A.length) + 1) (((N / 32) + A.length) + 1))] ⟨rfl, rfl, rfl, rfl, rfl, trivial⟩ fun G2 => ?_
  refine wp_seq ?_
  refine wp_seq ?_
  refine k_reg ?_
  refine s_val hS1 rfl rfl (r_move rfl (.t rfl rfl)) ?_
  refine s_val hS1 rfl rfl (r_len rfl rfl Tryd.underlying26 (.t rfl rfl)) ?_
  refine s_val hS1 rfl rfl (r_move rfl .c) ?_
  refine wpList_nil ?_
  refine x_tn ?_
  refine k_reb [(0, .slice aA A.length cA), (1, .int .i64 (((N % 32 : Nat) : Int))), (4, .slice none 0 0), (5, .int .i64 (((N / 32 : Nat) : Int))), (6, .slice (some ⟨blk1, 0, none⟩) (((N / 32) + A.length) + 1) (((N / 32) + A.length) + 1)), (20, .int .i64 (((A.length : Nat) : Int))), (21, .int .i64 0)] ⟨rfl, rfl, rfl, rfl, rfl, rfl, rfl, trivial⟩ fun G3 => ?_
  refine wp_block ?_
  refine wp_loop_ghost (fun (m1 : Nat) a w => ∃ (G : Nat → Value) (k : Nat) (O : List Nat), a = fr 52 [(0, .slice aA A.length cA), (1, .int .i64 (((N % 32 : Nat) : Int))), (4, .slice none 0 0), (5, .int .i64 (((N / 32 : Nat) : Int))), (6, .slice (some ⟨blk1, 0, none⟩) (((N / 32) + A.length) + 1) (((N / 32) + A.length) + 1)), (20, .int .i64 (((A.length : Nat) : Int))), (21, .int .i64 (((k : Nat) : Int)))] G ∧ St w0 [] [(blk1, .cells (encN .u32 O) 38 (0, 0))] w ∧ (m1 = A.length - k ∧ k ≤ A.length ∧ O.length = N / 32 + A.length + 1 ∧ Lim O ∧ O.getD (N / 32 + k) 0 < 2 ^ (N % 32) ∧ lv (O.take (N / 32 + k + 1)) = lv (A.take k) * (2 ^ (N % 32) * pw (N / 32)))) (A.length) ⟨_, 0, List.replicate (N / 32 + A.length + 1) 0, fr_reb _ ⟨rfl, rfl, rfl, rfl, rfl, rfl, rfl, trivial⟩, hS1, ?_⟩ ?_
  · exact ⟨rfl, Nat.zero_le _, by simp, lim_rep _, Nat.lt_of_le_of_lt (rep_fit (X := 0) _ _) (Nat.pow_pos (by omega)), by rw [List.take_replicate, lv_rep]; simp [lv]⟩
  · intro m1 _ w2 hI1
    obtain ⟨G4, k, O, rfl, hS2, ⟨hmk, hk, hOl, hOlim, ho, hv⟩⟩ := hI1
    refine wp_seq ?_
    refine k_reg ?_
    by_cases c1 : k < A.length
    · refine s_val hS2 rfl rfl (r_cmp_t rfl rfl (.t rfl rfl) (.t rfl rfl) (show ((k : Nat) : Int) < ((A.length : Nat) : Int) from by omega)) ?_
      refine wpList_nil ?_
      refine x_tn ?_
      refine wp_seq ?_
      refine k_t (.t rfl rfl) ?_
      refine wp_skip ?_
      refine x_tn ?_
      refine k_reb [(0, .slice aA A.length cA), (1, .int .i64 (((N % 32 : Nat) : Int))), (4, .slice none 0 0), (5, .int .i64 (((N / 32 : Nat) : Int))), (6, .slice (some ⟨blk1, 0, none⟩) (((N / 32) + A.length) + 1) (((N / 32) + A.length) + 1)), (20, .int .i64 (((A.length : Nat) : Int))), (21, .int .i64 (((k : Nat) : Int)))] ⟨rfl, rfl, rfl, rfl, rfl, rfl, rfl, trivial⟩ fun G5 => ?_
      refine wp_seq ?_
      refine wp_block ?_
      refine wp_seq ?_
      refine k_reg ?_
      refine s_val hS2 rfl rfl (r_move rfl (.t rfl rfl)) ?_
      refine s_val hS2 rfl rfl (r_assign rfl (.t rfl rfl)) ?_
      refine wpList_nil ?_
      refine x_tn ?_
      refine k_reb [(0, .slice aA A.length cA), (1, .int .i64 (((N % 32 : Nat) : Int))), (4, .slice none 0 0), (5, .int .i64 (((N / 32 : Nat) : Int))), (6, .slice (some ⟨blk1, 0, none⟩) (((N / 32) + A.length) + 1) (((N / 32) + A.length) + 1)), (7, .int .i64 (((k : Nat) : Int))), (20, .int .i64 (((A.length : Nat) : Int))), (21, .int .i64 (((k : Nat) : Int)))] ⟨rfl, rfl, rfl, rfl, rfl, rfl, rfl, rfl, trivial⟩ fun G6 => ?_
      refine wp_seq ?_
      refine k_reg ?_
      refine s_val hS2 rfl rfl (r_move rfl (.t rfl rfl)) ?_
      refine s_val hS2 rfl rfl (r_move rfl (.t rfl rfl)) ?_
      refine s_val hS2 rfl rfl (r_ixr (j := k) rfl Tryd.underlying26 ti38 (.t rfl rfl) (.t rfl rfl) hA rfl rfl (by omega)) ?_
      have b1 : A.getD k 0 ≤ 4294967295 := hA.lt _
      refine s_val hS2 rfl rfl (r_load rfl one38 (.t rfl rfl) (St.cell_rd hA (by omega) (by simp))) ?_
      refine s_val hS2 rfl rfl (r_conv rfl Tryd.underlying38 Tryd.underlying47 (.t rfl rfl) (c := ((A.getD k 0 : Nat) : Int)) (wn_u64 rfl (by omega))) ?_
      refine s_val hS2 rfl rfl (r_move rfl (.t rfl rfl)) ?_
      have hm : A.getD k 0 * 2 ^ (N % 32) ≤ 4294967295 * 2147483648 := Nat.mul_le_mul (show _ ≤ 4294967295 from hA.lt k) (pow31 (by omega))
      refine s_val hS2 rfl rfl (r_shl rfl (.t rfl rfl) (.t rfl rfl) (by omega) (pw_var (by show N % 32 ≤ 64; omega)) (c := (((A.getD k 0) * (2 ^ (N % 32)) : Nat) : Int)) (wn_u64 (Int.natCast_mul _ _).symm (by omega))) ?_
      refine s_val hS2 rfl rfl (r_assign rfl (.t rfl rfl)) ?_
      refine wpList_nil ?_
      refine x_tn ?_
      refine k_reb [(0, .slice aA A.length cA), (1, .int .i64 (((N % 32 : Nat) : Int))), (4, .slice none 0 0), (5, .int .i64 (((N / 32 : Nat) : Int))), (6, .slice (some ⟨blk1, 0, none⟩) (((N / 32) + A.length) + 1) (((N / 32) + A.length) + 1)), (7, .int .i64 (((k : Nat) : Int))), (8, .int .u64 ((((A.getD k 0) * (2 ^ (N % 32)) : Nat) : Int))), (20, .int .i64 (((A.length : Nat) : Int))), (21, .int .i64 (((k : Nat) : Int)))] ⟨rfl, rfl, rfl, rfl, rfl, rfl, rfl, rfl, rfl, trivial⟩ fun G7 => ?_
      refine wp_seq ?_
      refine k_reg ?_
      refine s_val hS2 rfl rfl (r_move rfl (.t rfl rfl)) ?_
      refine s_val hS2 rfl rfl (r_move rfl (.t rfl rfl)) ?_
      refine s_val hS2 rfl rfl (r_move rfl (.t rfl rfl)) ?_
      refine s_val hS2 rfl rfl (r_arith rfl rfl (.t rfl rfl) (.t rfl rfl) (c := (((N / 32) + k : Nat) : Int)) (wn_i64 (by show (((N / 32 : Nat) : Int) : Int) + ((k : Nat) : Int) = _; omega) (by omega))) ?_
      refine s_val hS2 rfl rfl (r_ixs (j := (N / 32) + k) rfl Tryd.underlying26 ti38 (.t rfl rfl) (.t rfl rfl) rfl (by omega) (qq := (N / 32) + k) (by omega)) ?_
      have b2 : O.getD ((N / 32) + k) 0 ≤ 4294967295 := getD_lim hOlim _
      refine s_val hS2 rfl rfl (r_load rfl one38 (.t rfl rfl) (St.cell_own (m := 0) rfl (encN_get (by first | omega | (simp only [List.length_set, List.length_append, List.length_replicate]; omega))))) ?_
      refine s_val hS2 rfl rfl (r_move rfl (.t rfl rfl)) ?_
      refine s_val hS2 rfl rfl (r_conv rfl Tryd.underlying47 Tryd.underlying38 (.t rfl rfl) (wm_u32 rfl)) ?_
      refine s_val hS2 rfl rfl (r_or rfl (.t rfl rfl) (.t rfl rfl) (show O.getD ((N / 32) + k) 0 < 4294967296 from by omega) (show ((A.getD k 0) * (2 ^ (N % 32))) % 4294967296 < 4294967296 from by omega) (c := O.getD (N / 32 + k) 0 + (A.getD k 0 * 2 ^ (N % 32)) % 4294967296) ((left_or (by omega) ho)) (wn_u32 rfl (left_lt (by omega) ho))) ?_
      refine s_val hS2 rfl rfl (r_ixs (j := (N / 32) + k) rfl Tryd.underlying26 ti38 (.t rfl rfl) (.t rfl rfl) rfl (by omega) (qq := (N / 32) + k) (by omega)) ?_
      refine s_store (m := 0) rfl rfl rfl one38 (.t rfl rfl) (.t rfl rfl) rfl hS2 rfl (encN_get (by first | omega | (simp only [List.length_set, List.length_append, List.length_replicate]; omega))) (encN_set) rfl fun w3 hS3 => ?_
      refine wpList_nil ?_
      refine x_tn ?_
      refine k_reb [(0, .slice aA A.length cA), (1, .int .i64 (((N % 32 : Nat) : Int))), (4, .slice none 0 0), (5, .int .i64 (((N / 32 : Nat) : Int))), (6, .slice (some ⟨blk1, 0, none⟩) (((N / 32) + A.length) + 1) (((N / 32) + A.length) + 1)), (7, .int .i64 (((k : Nat) : Int))), (8, .int .u64 ((((A.getD k 0) * (2 ^ (N % 32)) : Nat) : Int))), (20, .int .i64 (((A.length : Nat) : Int))), (21, .int .i64 (((k : Nat) : Int)))] ⟨rfl, rfl, rfl, rfl, rfl, rfl, rfl, rfl, rfl, trivial⟩ fun G8 => ?_
      refine k_reg ?_
      refine s_val hS3 rfl rfl (r_move rfl (.t rfl rfl)) ?_
      refine s_val hS3 rfl rfl (r_move rfl (.t rfl rfl)) ?_
      refine s_val hS3 rfl rfl (r_move rfl (.t rfl rfl)) ?_
      refine s_val hS3 rfl rfl (r_arith rfl rfl (.t rfl rfl) (.t rfl rfl) (c := (((N / 32) + k : Nat) : Int)) (wn_i64 (by show (((N / 32 : Nat) : Int) : Int) + ((k : Nat) : Int) = _; omega) (by omega))) ?_
      refine s_val hS3 rfl rfl (r_arith rfl rfl (.t rfl rfl) .c (c := ((((N / 32) + k) + 1 : Nat) : Int)) (wn_i64 (by show ((((N / 32) + k : Nat) : Int) : Int) + 1 = _; omega) (by omega))) ?_
      refine s_val hS3 rfl rfl (r_move rfl (.t rfl rfl)) ?_
      refine s_val hS3 rfl rfl (r_shr rfl (.t rfl rfl) .c (by omega) (show (2 : Int) ^ _ = ((4294967296 : Nat) : Int) from rfl) fdiv_nat) ?_
      refine s_val hS3 rfl rfl (r_conv rfl Tryd.underlying47 Tryd.underlying38 (.t rfl rfl) (c := ((((A.getD k 0) * (2 ^ (N % 32))) / 4294967296 : Nat) : Int)) (wn_u32 rfl (by omega))) ?_
      refine s_val hS3 rfl rfl (r_ixs (j := ((N / 32) + k) + 1) rfl Tryd.underlying26 ti38 (.t rfl rfl) (.t rfl rfl) rfl (by omega) (qq := ((N / 32) + k) + 1) (by omega)) ?_
      refine s_store (m := 0) rfl rfl rfl one38 (.t rfl rfl) (.t rfl rfl) rfl hS3 rfl (encN_get (by first | omega | (simp only [List.length_set, List.length_append, List.length_replicate]; omega))) (encN_set) rfl fun w4 hS4 => ?_
      refine wpList_nil ?_
      refine x_bn ?_
      refine x_tn ?_
      refine k_reb [(0, .slice aA A.length cA), (1, .int .i64 (((N % 32 : Nat) : Int))), (4, .slice none 0 0), (5, .int .i64 (((N / 32 : Nat) : Int))), (6, .slice (some ⟨blk1, 0, none⟩) (((N / 32) + A.length) + 1) (((N / 32) + A.length) + 1)), (20, .int .i64 (((A.length : Nat) : Int))), (21, .int .i64 (((k : Nat) : Int)))] ⟨rfl, rfl, rfl, rfl, rfl, rfl, rfl, trivial⟩ fun G9 => ?_
      refine k_reg ?_
      refine s_val hS4 rfl rfl (r_arith rfl rfl (.t rfl rfl) .c (c := ((k + 1 : Nat) : Int)) (wn_i64 (by show (((k : Nat) : Int) : Int) + 1 = _; omega) (by omega))) ?_
      refine s_val hS4 rfl rfl (r_move rfl (.t rfl rfl)) ?_
      refine wpList_nil ?_
      refine x_tn ?_
      refine ⟨A.length - (k + 1), by omega, _, k + 1, (O.set (N / 32 + k) (O.getD (N / 32 + k) 0 + (A.getD k 0 * 2 ^ (N % 32)) % 4294967296)).set (N / 32 + k + 1) (A.getD k 0 * 2 ^ (N % 32) / 4294967296), fr_reb _ ⟨rfl, rfl, rfl, rfl, rfl, rfl, rfl, trivial⟩, hS4, ?_⟩
      exact ⟨by omega, by omega, by simpa using hOl, lim_set (lim_set hOlim (left_lt (by omega) ho)) (by omega), by rw [show N / 32 + (k + 1) = N / 32 + k + 1 from rfl, getD_set_eq (by simp; omega)]; exact left_hi (hA.lt k), left_step (by omega) (by omega) hv⟩
    · refine s_val hS2 rfl rfl (r_cmp_f rfl rfl (.t rfl rfl) (.t rfl rfl) (show ¬ (((k : Nat) : Int) < ((A.length : Nat) : Int)) from by omega)) ?_
      refine wpList_nil ?_
      refine x_tn ?_
      refine wp_seq ?_
      refine k_f (.t rfl rfl) ?_
      refine wp_exit ?_
      refine x_te ?_
      refine x_te ?_
      refine x_be ?_
      refine x_tn ?_
      refine k_reb [(4, .slice none 0 0), (6, .slice (some ⟨blk1, 0, none⟩) (((N / 32) + A.length) + 1) (((N / 32) + A.length) + 1))] ⟨rfl, rfl, trivial⟩ fun G10 => ?_
      refine wp_seq ?_
      refine k_reg ?_
      refine s_val hS2 rfl rfl (r_move rfl (.t rfl rfl)) ?_
      refine s_val hS2 rfl rfl (r_assign rfl (.t rfl rfl)) ?_
      refine wpList_nil ?_
      refine x_tn ?_
      refine k_reb [(4, .slice (some ⟨blk1, 0, none⟩) (((N / 32) + A.length) + 1) (((N / 32) + A.length) + 1))] ⟨rfl, trivial⟩ fun G11 => ?_
      refine wp_ret ?_
      refine k_ret1 Tryd.results29 rfl rfl ?_
      refine ⟨_, rfl, ?_⟩
      obtain rfl : k = A.length := by omega
      rw [take_all (by omega), take_all (Nat.le_refl _), shift_two] at hv
      exact ⟨O, ⟨blk1, by rw [hOl], hb1, hS2⟩, hOl, hOlim, hv⟩

theorem right_ok (w0 : World) (aA : Option Addr) (cA : Nat) (A : List Nat) (hA : Rd w0 .u32 aA cA A) (N : Nat) (hN : N ≤ 1000000) (hlA : A.length ≤ 1000000) :
    Calls Tryd.prog 30 #[.slice aA A.length cA, .int .i64 (((N : Nat) : Int))] w0 (Ret fun v w' => ∃ L, Ow w0 w' .u32 38 v L ∧ Lim L ∧ lv L = lv A / 2 ^ N ∧ L.length ≤ A.length) := by
  refine k_enter (vs := [.slice aA A.length cA, .int .i64 (((N : Nat) : Int))]) Tryd.func30 rfl Tryd.ntmps30 rfl ?_
  have hS := St.init w0
  have lA := hA.le
  refine wp_seq ?_
  refine k_reg ?_
  refine s_val hS rfl rfl (r_assign rfl .c) ?_
  refine wpList_nil ?_
  refine x_tn ?_
  refine wp_seq ?_
  refine k_reg ?_
  refine s_val hS rfl rfl (r_move rfl (.t rfl rfl)) ?_
  refine s_val hS rfl rfl (r_quo (b := ((32 : Nat) : Int)) rfl (.t rfl rfl) .c (nz_nat (by omega)) (wn_i64 (c := N / 32) tdiv_nat (Nat.le_trans (Nat.div_le_self _ _) (by omega)))) ?_
  refine s_val hS rfl rfl (r_move rfl (.t rfl rfl)) ?_
  refine s_val hS rfl rfl (r_rem (b := ((32 : Nat) : Int)) rfl (.t rfl rfl) .c (nz_nat (by omega)) (c := ((N % 32 : Nat) : Int)) tmod_nat) ?_
  refine s_val hS rfl rfl (r_assign rfl (.t rfl rfl)) ?_
  refine s_val hS rfl rfl (r_assign rfl (.t rfl rfl)) ?_
  refine wpList_nil ?_
  refine x_tn ?_
  refine k_reb [(0, .slice aA A.length cA), (1, .int .i64 (((N % 32 : Nat) : Int))), (4, .slice none 0 0), (5, .int .i64 (((N / 32 : Nat) : Int)))] ⟨rfl, rfl, rfl, rfl, trivial⟩ fun G1 => ?_
  refine wp_seq ?_
  refine wp_seq ?_
  refine k_reg ?_
  refine s_val hS rfl rfl (r_move rfl (.t rfl rfl)) ?_
  refine s_val hS rfl rfl (r_move rfl (.t rfl rfl)) ?_
  refine s_val hS rfl rfl (r_len rfl rfl Tryd.underlying26 (.t rfl rfl)) ?_
  by_cases c1 : N / 32 ≥ A.length
  · refine s_val hS rfl rfl (r_cmp_t rfl rfl (.t rfl rfl) (.t rfl rfl) (show ((N / 32 : Nat) : Int) ≥ ((A.length : Nat) : Int) from by omega)) ?_
    refine wpList_nil ?_
    refine x_tn ?_
    refine k_reb [(0, .slice aA A.length cA), (1, .int .i64 (((N % 32 : Nat) : Int))), (4, .slice none 0 0), (5, .int .i64 (((N / 32 : Nat) : Int))), (15, .bool true)] ⟨rfl, rfl, rfl, rfl, rfl, trivial⟩ fun G2 => ?_
    refine k_t (.t rfl rfl) ?_
    refine wp_seq ?_
    refine k_reg ?_
    refine s_val hS rfl rfl (r_assign rfl .c) ?_
    refine wpList_nil ?_
    refine x_tn ?_
    refine k_reb [(0, .slice aA A.length cA), (1, .int .i64 (((N % 32 : Nat) : Int))), (4, .slice none 0 0), (5, .int .i64 (((N / 32 : Nat) : Int)))] ⟨rfl, rfl, rfl, rfl, trivial⟩ fun G3 => ?_
    refine wp_ret ?_
    refine x_tr ?_
    refine k_ret1 Tryd.results30 rfl rfl ?_
    refine ⟨_, rfl, ?_⟩
    exact ⟨[], Ow.empty hS, lim_nil, (right_over hA.fit (by omega)).symm, by simp⟩
  · refine s_val hS rfl rfl (r_cmp_f rfl rfl (.t rfl rfl) (.t rfl rfl) (show ¬ (((N / 32 : Nat) : Int) ≥ ((A.length : Nat) : Int)) from by omega)) ?_
    refine wpList_nil ?_
    refine x_tn ?_
    refine k_reb [(0, .slice aA A.length cA), (1, .int .i64 (((N % 32 : Nat) : Int))), (4, .slice none 0 0), (5, .int .i64 (((N / 32 : Nat) : Int))), (15, .bool false)] ⟨rfl, rfl, rfl, rfl, rfl, trivial⟩ fun G4 => ?_
    refine k_f (.t rfl rfl) ?_
    refine wp_skip ?_
    refine x_tn ?_
    refine k_reb [(0, .slice aA A.length cA), (1, .int .i64 (((N % 32 : Nat) : Int))), (4, .slice none 0 0), (5, .int .i64 (((N / 32 : Nat) : Int)))] ⟨rfl, rfl, rfl, rfl, trivial⟩ fun G5 => ?_
    refine wp_seq ?_
    refine k_reg ?_
    refine s_val hS rfl rfl (r_move rfl (.t rfl rfl)) ?_
    refine s_val hS rfl rfl (r_len rfl rfl Tryd.underlying26 (.t rfl rfl)) ?_
    refine s_val hS rfl rfl (r_move rfl (.t rfl rfl)) ?_
    refine s_val hS rfl rfl (r_arith rfl rfl (.t rfl rfl) (.t rfl rfl) (c := ((A.length - (N / 32) : Nat) : Int)) (wn_i64 (by show (((A.length : Nat) : Int) : Int) - ((N / 32 : Nat) : Int) = _; omega) (by omega))) ?_
    refine s_make rfl rfl rfl Tryd.underlying26 ti38 (.t rfl rfl) (.t rfl rfl) (len := A.length - (N / 32)) (cap := A.length - (N / 32)) rfl rfl (by omega) (by omega) (by omega) hS fun blk1 w1 hb1 hB1 hS1 => ?_
    refine s_val hS1 rfl rfl (r_assign rfl (.t rfl rfl)) ?_
    refine wpList_nil ?_
    refine x_tn ?_
    refine k_reb [(0, .slice aA A.length cA), (1, .int .i64 (((N % 32 : Nat) : Int))), (4, .slice none 0 0), (5, .int .i64 (((N / 32 : Nat) : Int))), (6, .slice (some ⟨blk1, 0, none⟩) (A.length - (N / 32)) (A.length - (N / 32)))] ⟨rfl, rfl, rfl, rfl, rfl, trivial⟩ fun G6 => ?_
    refine wp_seq ?_
    refine wp_seq ?_
    refine k_reg ?_
    refine s_val hS1 rfl rfl (r_move rfl (.t rfl rfl)) ?_
    refine s_val hS1 rfl rfl (r_len rfl rfl Tryd.underlying26 (.t rfl rfl)) ?_
    refine s_val hS1 rfl rfl (r_move rfl .c) ?_
    refine wpList_nil ?_
    refine x_tn ?_
    refine k_reb [(0, .slice aA A.length cA), (1, .int .i64 (((N % 32 : Nat) : Int))), (4, .slice none 0 0), (5, .int .i64 (((N / 32 : Nat) : Int))), (6, .slice (some ⟨blk1, 0, none⟩) (A.length - (N / 32)) (A.length - (N / 32))), (22, .int .i64 (((A.length - (N / 32) : Nat) : Int))), (23, .int .i64 0)] ⟨rfl, rfl, rfl, rfl, rfl, rfl, rfl, trivial⟩ fun G7 => ?_
    refine wp_block ?_
    refine wp_loop_ghost (fun (m1 : Nat) a w => ∃ (G : Nat → Value) (k : Nat) (O : List Nat), a = fr 64 [(0, .slice aA A.length cA), (1, .int .i64 (((N % 32 : Nat) : Int))), (4, .slice none 0 0), (5, .int .i64 (((N / 32 : Nat) : Int))), (6, .slice (some ⟨blk1, 0, none⟩) (A.length - (N / 32)) (A.length - (N / 32))), (22, .int .i64 (((A.length - (N / 32) : Nat) : Int))), (23, .int .i64 (((k : Nat) : Int)))] G ∧ St w0 [] [(blk1, .cells (encN .u32 O) 38 (0, 0))] w ∧ (m1 = A.length - N / 32 - k ∧ k ≤ A.length - N / 32 ∧ O.length = A.length - N / 32 ∧ Lim O ∧ lv (O.take k) = (lv (A.drop (N / 32)) / 2 ^ (N % 32)) % pw k)) (A.length - N / 32) ⟨_, 0, List.replicate (A.length - N / 32) 0, fr_reb _ ⟨rfl, rfl, rfl, rfl, rfl, rfl, rfl, trivial⟩, hS1, ?_⟩ ?_
    · exact ⟨rfl, Nat.zero_le _, by simp, lim_rep _, by simp [lv, pw_zero, Nat.mod_one]⟩
    · intro m1 _ w2 hI1
      obtain ⟨G8, k, O, rfl, hS2, ⟨hmk, hk, hOl, hOlim, hv⟩⟩ := hI1
      refine wp_seq ?_
      refine k_reg ?_
      by_cases c2 : k < A.length - (N / 32)
      · refine s_val hS2 rfl rfl (r_cmp_t rfl rfl (.t rfl rfl) (.t rfl rfl) (show ((k : Nat) : Int) < ((A.length - (N / 32) : Nat) : Int) from by omega)) ?_
        refine wpList_nil ?_
        refine x_tn ?_
        refine wp_seq ?_
        refine k_t (.t rfl rfl) ?_
        refine wp_skip ?_
        refine x_tn ?_
        refine k_reb [(0, .slice aA A.length cA), (1, .int .i64 (((N % 32 : Nat) : Int))), (4, .slice none 0 0), (5, .int .i64 (((N / 32 : Nat) : Int))), (6, .slice (some ⟨blk1, 0, none⟩) (A.length - (N / 32)) (A.length - (N / 32))), (22, .int .i64 (((A.length - (N / 32) : Nat) : Int))), (23, .int .i64 (((k : Nat) : Int)))] ⟨rfl, rfl, rfl, rfl, rfl, rfl, rfl, trivial⟩ fun G9 => ?_
        refine wp_seq ?_
        refine wp_block ?_
        refine wp_seq ?_
        refine k_reg ?_
        refine s_val hS2 rfl rfl (r_move rfl (.t rfl rfl)) ?_
        refine s_val hS2 rfl rfl (r_assign rfl (.t rfl rfl)) ?_
        refine wpList_nil ?_
        refine x_tn ?_
        refine k_reb [(0, .slice aA A.length cA), (1, .int .i64 (((N % 32 : Nat) : Int))), (4, .slice none 0 0), (5, .int .i64 (((N / 32 : Nat) : Int))), (6, .slice (some ⟨blk1, 0, none⟩) (A.length - (N / 32)) (A.length - (N / 32))), (7, .int .i64 (((k : Nat) : Int))), (22, .int .i64 (((A.length - (N / 32) : Nat) : Int))), (23, .int .i64 (((k : Nat) : Int)))] ⟨rfl, rfl, rfl, rfl, rfl, rfl, rfl, rfl, trivial⟩ fun G10 => ?_
        refine wp_seq ?_
        refine k_reg ?_
        refine s_val hS2 rfl rfl (r_move rfl (.t rfl rfl)) ?_
        refine s_val hS2 rfl rfl (r_move rfl (.t rfl rfl)) ?_
        refine s_val hS2 rfl rfl (r_move rfl (.t rfl rfl)) ?_
        refine s_val hS2 rfl rfl (r_move rfl (.t rfl rfl)) ?_
        refine s_val hS2 rfl rfl (r_move rfl (.t rfl rfl)) ?_
        refine s_val hS2 rfl rfl (r_arith rfl rfl (.t rfl rfl) (.t rfl rfl) (c := (((N / 32) + k : Nat) : Int)) (wn_i64 (by show (((N / 32 : Nat) : Int) : Int) + ((k : Nat) : Int) = _; omega) (by omega))) ?_
        refine s_val hS2 rfl rfl (r_ixr (j := (N / 32) + k) rfl Tryd.underlying26 ti38 (.t rfl rfl) (.t rfl rfl) hA rfl rfl (by omega)) ?_
        have b1 : A.getD ((N / 32) + k) 0 ≤ 4294967295 := hA.lt _
        refine s_val hS2 rfl rfl (r_load rfl one38 (.t rfl rfl) (St.cell_rd hA (by omega) (by simp))) ?_
        refine s_val hS2 rfl rfl (r_move rfl (.t rfl rfl)) ?_
        refine s_val hS2 rfl rfl (r_shr rfl (.t rfl rfl) (.t rfl rfl) (by omega) (pw_var (by show N % 32 ≤ 32; omega)) fdiv_nat) ?_
        refine s_val hS2 rfl rfl (r_ixs (j := k) rfl Tryd.underlying26 ti38 (.t rfl rfl) (.t rfl rfl) rfl (by omega) (qq := k) (by omega)) ?_
        refine s_store (m := 0) rfl rfl rfl one38 (.t rfl rfl) (.t rfl rfl) rfl hS2 rfl (encN_get (by first | omega | (simp only [List.length_set, List.length_append, List.length_replicate]; omega))) (encN_set) rfl fun w3 hS3 => ?_
        refine wpList_nil ?_
        refine x_tn ?_
        refine k_reb [(0, .slice aA A.length cA), (1, .int .i64 (((N % 32 : Nat) : Int))), (4, .slice none 0 0), (5, .int .i64 (((N / 32 : Nat) : Int))), (6, .slice (some ⟨blk1, 0, none⟩) (A.length - (N / 32)) (A.length - (N / 32))), (7, .int .i64 (((k : Nat) : Int))), (22, .int .i64 (((A.length - (N / 32) : Nat) : Int))), (23, .int .i64 (((k : Nat) : Int)))] ⟨rfl, rfl, rfl, rfl, rfl, rfl, rfl, rfl, trivial⟩ fun G11 => ?_
        refine wp_seq ?_
        refine k_reg ?_
        refine s_val hS3 rfl rfl (r_move rfl (.t rfl rfl)) ?_
        refine s_val hS3 rfl rfl (r_move rfl (.t rfl rfl)) ?_
        refine s_val hS3 rfl rfl (r_arith rfl rfl (.t rfl rfl) (.t rfl rfl) (c := (((N / 32) + k : Nat) : Int)) (wn_i64 (by show (((N / 32 : Nat) : Int) : Int) + ((k : Nat) : Int) = _; omega) (by omega))) ?_
        refine s_val hS3 rfl rfl (r_arith rfl rfl (.t rfl rfl) .c (c := ((((N / 32) + k) + 1 : Nat) : Int)) (wn_i64 (by show ((((N / 32) + k : Nat) : Int) : Int) + 1 = _; omega) (by omega))) ?_
        refine s_val hS3 rfl rfl (r_move rfl (.t rfl rfl)) ?_
        refine s_val hS3 rfl rfl (r_len rfl rfl Tryd.underlying26 (.t rfl rfl)) ?_
        by_cases c3 : ((N / 32) + k) + 1 < A.length
        · refine s_val hS3 rfl rfl (r_cmp_t rfl rfl (.t rfl rfl) (.t rfl rfl) (show ((((N / 32) + k) + 1 : Nat) : Int) < ((A.length : Nat) : Int) from by omega)) ?_
          refine wpList_nil ?_
          refine x_tn ?_
          refine k_reb [(0, .slice aA A.length cA), (1, .int .i64 (((N % 32 : Nat) : Int))), (4, .slice none 0 0), (5, .int .i64 (((N / 32 : Nat) : Int))), (6, .slice (some ⟨blk1, 0, none⟩) (A.length - (N / 32)) (A.length - (N / 32))), (7, .int .i64 (((k : Nat) : Int))), (22, .int .i64 (((A.length - (N / 32) : Nat) : Int))), (23, .int .i64 (((k : Nat) : Int))), (43, .bool true)] ⟨rfl, rfl, rfl, rfl, rfl, rfl, rfl, rfl, rfl, trivial⟩ fun G12 => ?_
          refine k_t (.t rfl rfl) ?_
          refine k_regt 18 mixed (by kernel_rfl) hS3 fun w4 hS4 hB2 => ?_
          refine t_val hS4 rfl rfl (r_move rfl (.t rfl rfl)) ?_
          refine t_val hS4 rfl rfl (r_move rfl (.t rfl rfl)) ?_
          refine t_val hS4 rfl rfl (r_ixs (j := k) rfl Tryd.underlying26 ti38 (.t rfl rfl) (.t rfl rfl) rfl (by omega) (qq := k) (by omega)) ?_
          refine t_val hS4 rfl rfl (r_load rfl one38 (.t rfl rfl) (St.cell_own (m := 0) rfl (encN_get (by rw [List.length_set]; omega)))) ?_
          refine t_val hS4 rfl rfl (r_move rfl (.t rfl rfl)) ?_
          refine t_val hS4 rfl rfl (r_move rfl (.t rfl rfl)) ?_
          refine t_val hS4 rfl rfl (r_move rfl (.t rfl rfl)) ?_
          refine t_val hS4 rfl rfl (r_arith rfl rfl (.t rfl rfl) (.t rfl rfl) (c := (((N / 32) + k : Nat) : Int)) (wn_i64 (by show (((N / 32 : Nat) : Int) : Int) + ((k : Nat) : Int) = _; omega) (by omega))) ?_
          refine t_val hS4 rfl rfl (r_arith rfl rfl (.t rfl rfl) .c (c := ((((N / 32) + k) + 1 : Nat) : Int)) (wn_i64 (by show ((((N / 32) + k : Nat) : Int) : Int) + 1 = _; omega) (by omega))) ?_
          refine t_val hS4 rfl rfl (r_ixr (j := ((N / 32) + k) + 1) rfl Tryd.underlying26 ti38 (.t rfl rfl) (.t rfl rfl) hA rfl rfl (by omega)) ?_
          have b2 : A.getD (((N / 32) + k) + 1) 0 ≤ 4294967295 := hA.lt _
          refine t_val hS4 rfl rfl (r_load rfl one38 (.t rfl rfl) (St.cell_rd hA (by omega) (by simp))) ?_
          refine t_val hS4 rfl rfl (r_conv rfl Tryd.underlying38 Tryd.underlying47 (.t rfl rfl) (c := ((A.getD (((N / 32) + k) + 1) 0 : Nat) : Int)) (wn_u64 rfl (by omega))) ?_
          refine t_val hS4 rfl rfl (r_move rfl (.t rfl rfl)) ?_
          refine t_val hS4 rfl rfl (r_arith rfl rfl .c (.t rfl rfl) (c := ((32 - (N % 32) : Nat) : Int)) (wn_i64 (by show (32 : Int) - ((N % 32 : Nat) : Int) = _; omega) (by omega))) ?_
          have hm : A.getD (N / 32 + k + 1) 0 * 2 ^ (32 - N % 32) ≤ 4294967295 * 4294967296 := Nat.mul_le_mul (show _ ≤ 4294967295 from hA.lt _) (pow32 (by omega))
          refine t_val hS4 rfl rfl (r_shl rfl (.t rfl rfl) (.t rfl rfl) (by omega) (pw_var (by show 32 - (N % 32) ≤ 64; omega)) (c := (((A.getD (((N / 32) + k) + 1) 0) * (2 ^ (32 - (N % 32))) : Nat) : Int)) (wn_u64 (Int.natCast_mul _ _).symm (by omega))) ?_
          refine t_val hS4 rfl rfl (r_conv rfl Tryd.underlying47 Tryd.underlying38 (.t rfl rfl) (wm_u32 rfl)) ?_
          have hX : (O.set k (A.getD (N / 32 + k) 0 / 2 ^ (N % 32))).getD k 0 = A.getD (N / 32 + k) 0 / 2 ^ (N % 32) := getD_set_eq (by omega)
          have hX2 : A.getD (N / 32 + k) 0 / 2 ^ (N % 32) ≤ 4294967295 := Nat.le_trans (Nat.div_le_self _ _) (by omega)
          refine t_val hS4 rfl rfl (r_or rfl (.t rfl rfl) (.t rfl rfl) (show (O.set k ((A.getD ((N / 32) + k) 0) / (2 ^ (N % 32)))).getD k 0 < 4294967296 from by omega) (show ((A.getD (((N / 32) + k) + 1) 0) * (2 ^ (32 - (N % 32)))) % 4294967296 < 4294967296 from by omega) (c := A.getD (N / 32 + k) 0 / 2 ^ (N % 32) + (A.getD (N / 32 + k + 1) 0 * 2 ^ (32 - N % 32)) % 4294967296) ((by rw [hX]; exact right_or (by omega) (by omega))) (wn_u32 rfl (right_lt (by omega) (by omega)))) ?_
          refine t_val hS4 rfl rfl (r_ixs (j := k) rfl Tryd.underlying26 ti38 (.t rfl rfl) (.t rfl rfl) rfl (by omega) (qq := k) (by omega)) ?_
          refine t_nil ?_
          refine s_store (m := 0) rfl rfl rfl one38 (.t rfl rfl) (.t rfl rfl) rfl hS4 rfl (encN_get (by first | omega | (simp only [List.length_set, List.length_append, List.length_replicate]; omega))) (encN_set) rfl fun w5 hS5 => ?_
          refine wpList_nil ?_
          refine x_bn ?_
          refine x_tn ?_
          refine k_reb [(0, .slice aA A.length cA), (1, .int .i64 (((N % 32 : Nat) : Int))), (4, .slice none 0 0), (5, .int .i64 (((N / 32 : Nat) : Int))), (6, .slice (some ⟨blk1, 0, none⟩) (A.length - (N / 32)) (A.length - (N / 32))), (22, .int .i64 (((A.length - (N / 32) : Nat) : Int))), (23, .int .i64 (((k : Nat) : Int)))] ⟨rfl, rfl, rfl, rfl, rfl, rfl, rfl, trivial⟩ fun G13 => ?_
          refine k_reg ?_
          refine s_val hS5 rfl rfl (r_arith rfl rfl (.t rfl rfl) .c (c := ((k + 1 : Nat) : Int)) (wn_i64 (by show (((k : Nat) : Int) : Int) + 1 = _; omega) (by omega))) ?_
          refine s_val hS5 rfl rfl (r_move rfl (.t rfl rfl)) ?_
          refine wpList_nil ?_
          refine x_tn ?_
          refine ⟨A.length - N / 32 - (k + 1), by omega, _, k + 1, (O.set k (A.getD (N / 32 + k) 0 / 2 ^ (N % 32))).set k (A.getD (N / 32 + k) 0 / 2 ^ (N % 32) + (A.getD (N / 32 + k + 1) 0 * 2 ^ (32 - N % 32)) % 4294967296), fr_reb _ ⟨rfl, rfl, rfl, rfl, rfl, rfl, rfl, trivial⟩, hS5, ?_⟩
          exact ⟨by omega, by omega, by simpa using hOl, lim_set (lim_set hOlim (by have := Nat.div_le_self (A.getD (N / 32 + k) 0) (2 ^ (N % 32)); omega)) (right_lt (by omega) (by omega)), right_next (by omega) (by omega) hA.fit (by omega) hv⟩
        · refine s_val hS3 rfl rfl (r_cmp_f rfl rfl (.t rfl rfl) (.t rfl rfl) (show ¬ (((((N / 32) + k) + 1 : Nat) : Int) < ((A.length : Nat) : Int)) from by omega)) ?_
          refine wpList_nil ?_
          refine x_tn ?_
          refine k_reb [(0, .slice aA A.length cA), (1, .int .i64 (((N % 32 : Nat) : Int))), (4, .slice none 0 0), (5, .int .i64 (((N / 32 : Nat) : Int))), (6, .slice (some ⟨blk1, 0, none⟩) (A.length - (N / 32)) (A.length - (N / 32))), (7, .int .i64 (((k : Nat) : Int))), (22, .int .i64 (((A.length - (N / 32) : Nat) : Int))), (23, .int .i64 (((k : Nat) : Int))), (43, .bool false)] ⟨rfl, rfl, rfl, rfl, rfl, rfl, rfl, rfl, rfl, trivial⟩ fun G14 => ?_
          refine k_f (.t rfl rfl) ?_
          refine wp_skip ?_
          refine x_bn ?_
          refine x_tn ?_
          refine k_reb [(0, .slice aA A.length cA), (1, .int .i64 (((N % 32 : Nat) : Int))), (4, .slice none 0 0), (5, .int .i64 (((N / 32 : Nat) : Int))), (6, .slice (some ⟨blk1, 0, none⟩) (A.length - (N / 32)) (A.length - (N / 32))), (22, .int .i64 (((A.length - (N / 32) : Nat) : Int))), (23, .int .i64 (((k : Nat) : Int)))] ⟨rfl, rfl, rfl, rfl, rfl, rfl, rfl, trivial⟩ fun G15 => ?_
          refine k_reg ?_
          refine s_val hS3 rfl rfl (r_arith rfl rfl (.t rfl rfl) .c (c := ((k + 1 : Nat) : Int)) (wn_i64 (by show (((k : Nat) : Int) : Int) + 1 = _; omega) (by omega))) ?_
          refine s_val hS3 rfl rfl (r_move rfl (.t rfl rfl)) ?_
          refine wpList_nil ?_
          refine x_tn ?_
          refine ⟨A.length - N / 32 - (k + 1), by omega, _, k + 1, O.set k (A.getD (N / 32 + k) 0 / 2 ^ (N % 32)), fr_reb _ ⟨rfl, rfl, rfl, rfl, rfl, rfl, rfl, trivial⟩, hS3, ?_⟩
          exact ⟨by omega, by omega, by simpa using hOl, lim_set hOlim (by have := Nat.div_le_self (A.getD (N / 32 + k) 0) (2 ^ (N % 32)); omega), right_last (by omega) (by omega) (by omega) hA.fit (by omega) hv⟩
      · refine s_val hS2 rfl rfl (r_cmp_f rfl rfl (.t rfl rfl) (.t rfl rfl) (show ¬ (((k : Nat) : Int) < ((A.length - (N / 32) : Nat) : Int)) from by omega)) ?_
        refine wpList_nil ?_
        refine x_tn ?_
        refine wp_seq ?_
        refine k_f (.t rfl rfl) ?_
        refine wp_exit ?_
        refine x_te ?_
        refine x_te ?_
        refine x_be ?_
        refine x_tn ?_
        refine k_reb [(4, .slice none 0 0), (6, .slice (some ⟨blk1, 0, none⟩) (A.length - (N / 32)) (A.length - (N / 32)))] ⟨rfl, rfl, trivial⟩ fun G16 => ?_
        refine wp_seq ?_
        refine k_reg ?_
        refine s_val hS2 rfl rfl (r_move rfl (.t rfl rfl)) ?_
        refine s_val hS2 rfl rfl (r_assign rfl (.t rfl rfl)) ?_
        refine wpList_nil ?_
        refine x_tn ?_
        refine k_reb [(4, .slice (some ⟨blk1, 0, none⟩) (A.length - (N / 32)) (A.length - (N / 32)))] ⟨rfl, trivial⟩ fun G17 => ?_
        refine wp_ret ?_
        refine k_ret1 Tryd.results30 rfl rfl ?_
        refine ⟨_, rfl, ?_⟩
        obtain rfl : k = A.length - N / 32 := by omega
        rw [take_all (by omega), ← List.length_drop, right_all (lim_drop hA.fit _), right_drop hA.fit (by omega), shift_two] at hv
        exact ⟨O, Ow.of_chunk0 (m := 0) hS2 rfl hOl.symm hOl.symm (by omega) hOlim, hOlim, hv, by omega⟩

end Go.Proofs.YtnbklceenfjojaaDoor

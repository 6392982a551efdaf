/- Contracts of functions of the program, each walked once. -/
import Derived.Test.YtnbklceenfjojaaDoorFnD
namespace Go.Proofs.YtnbklceenfjojaaDoor
open Go Go.RowKit K
namespace FE
theorem mixed : Tryd.prog.follows .mixedOrders = true := by kernel_rfl
theorem cb72 : callable Tryd.prog 72 = true := by kernel_rfl
theorem cb95 : callable Tryd.prog 95 = true := by kernel_rfl
theorem one38 : One Tryd.prog 38 = true := by kernel_rfl
theorem ti38 : (Tryd.prog.info? 38).map (fun i => (i.zero, i.size, i.bytes)) = some (some (.int .u32 0), 1, 4) := by kernel_rfl

end FE
open FE
attribute [local irreducible] Go.wpList Go.wpQuiet Go.wpStill Go.wpAny Go.Code.wp
set_option maxRecDepth 10000
set_option maxHeartbeats 8000000
set_option linter.unusedVariables false
set_option linter.unusedSimpArgs false
theorem clone_new (w0 : World) (aA : Option Addr) (cA : Nat) (A : List Nat) (hA : Rd w0 .u32 aA cA A) (hlA : A.length ≤ 1000000) :
    Calls Tryd.prog 72 #[.slice aA A.length cA] w0 (Ret fun v w' => (A = [] ∧ v = .slice none 0 0 ∧ St w0 [] [] w') ∨ ∃ b cap X, v = .slice (some ⟨b, 0, none⟩) A.length cap ∧ w0.heap.size ≤ b ∧ St w0 [] [(b, .cells (encN .u32 (A ++ X)) 38 (0, 0))] w' ∧ A.length ≤ cap ∧ cap ≤ A.length + X.length) := by
  refine (clone_ok w0 aA cA A hA hlA).mono ?_
  rintro e w' ⟨v, rfl, a, cap, hv, rfl, g, s⟩
  rcases g with ⟨rfl, rfl, rfl, rfl⟩ | ⟨b, X, rfl, rfl, h1, h2⟩
  · exact ⟨_, rfl, .inl ⟨rfl, rfl, s⟩⟩
  · have hb := s.place (b, .cells (encN .u32 (A ++ X)) 38 (0, 0)) (by simp)
    exact ⟨_, rfl, .inr ⟨b, cap, X, rfl, by simpa using hb, s, h2, h1⟩⟩

theorem sub_ok (w0 : World) (aA : Option Addr) (cA : Nat) (A : List Nat) (hA : Rd w0 .u32 aA cA A) (aB : Option Addr) (cB : Nat) (B : List Nat) (hB : Rd w0 .u32 aB cB B) (hlA : A.length ≤ 1000000) (hBA : B.length ≤ A.length) (hle : lv B ≤ lv A) :
    Calls Tryd.prog 85 #[.slice aA A.length cA, .slice aB B.length cB] w0 (Ret fun v w' => ∃ L, Ow w0 w' .u32 38 v L ∧ Lim L ∧ L.length = A.length ∧ lv L = lv A - lv B) := by
  refine k_enter (vs := [.slice aA A.length cA, .slice aB B.length cB]) Tryd.func85 rfl Tryd.ntmps85 rfl ?_
  have hS := St.init w0
  have lA := hA.le
  have lB := hB.le
  refine wp_seq ?_
  refine k_reg ?_
  refine s_val hS rfl rfl (r_assign rfl .c) ?_
  refine wpList_nil ?_
  refine x_tn ?_
  refine wp_seq ?_
  refine k_reg ?_
  refine s_val hS rfl rfl (r_move rfl (.t rfl rfl)) ?_
  refine s_call rfl rfl rfl (vs := [.slice aA A.length cA]) ⟨(.t rfl rfl), trivial⟩ cb72 (clone_new w0 aA cA A hA (by omega)) ?_
  rintro _ w1 (⟨hnil, rfl, hT1⟩ | ⟨blk1, cap1, X1, rfl, hb1, hT1, hc1, hc2⟩)
  · have hS1 := hS.keep hT1
    refine s_val hS1 rfl rfl (r_assign rfl (.t rfl rfl)) ?_
    refine wpList_nil ?_
    refine x_tn ?_
    refine k_reb [(0, .slice aA A.length cA), (1, .slice aB B.length cB), (4, .slice none 0 0), (5, .slice none 0 0)] ⟨rfl, rfl, rfl, rfl, trivial⟩ fun G1 => ?_
    refine wp_seq ?_
    refine k_reg ?_
    refine s_val hS1 rfl rfl (r_assign rfl .c) ?_
    refine wpList_nil ?_
    refine x_tn ?_
    refine wp_seq ?_
    refine wp_seq ?_
    refine k_reg ?_
    refine s_val hS1 rfl rfl (r_move rfl (.t rfl rfl)) ?_
    refine s_val hS1 rfl rfl (r_len rfl rfl Tryd.underlying26 (.t rfl rfl)) ?_
    refine s_val hS1 rfl rfl (r_move rfl .c) ?_
    refine wpList_nil ?_
    refine x_tn ?_
    refine k_reb [(0, .slice aA A.length cA), (1, .slice aB B.length cB), (4, .slice none 0 0), (5, .slice none 0 0), (6, .int .u32 0), (12, .int .i64 (((A.length : Nat) : Int))), (13, .int .i64 0)] ⟨rfl, rfl, rfl, rfl, rfl, rfl, rfl, trivial⟩ fun G2 => ?_
    refine wp_block ?_
    refine wp_loop_ghost (fun (m1 : Nat) a w => ∃ (G : Nat → Value), a = fr 39 [(0, .slice aA A.length cA), (1, .slice aB B.length cB), (4, .slice none 0 0), (5, .slice none 0 0), (6, .int .u32 0), (12, .int .i64 (((A.length : Nat) : Int))), (13, .int .i64 0)] G ∧ St w0 [] [] w ∧ (m1 = 0)) (0) ⟨_, fr_reb _ ⟨rfl, rfl, rfl, rfl, rfl, rfl, rfl, trivial⟩, hS1, ?_⟩ ?_
    · rfl
    · intro m1 _ w2 hI1
      obtain ⟨G3, rfl, hS2, _⟩ := hI1
      refine wp_seq ?_
      refine k_reg ?_
      refine s_val hS2 rfl rfl (r_cmp_f rfl rfl (.t rfl rfl) (.t rfl rfl) (show ¬ (0 < ((A.length : Nat) : Int)) from (by rw [hnil]; decide))) ?_
      refine wpList_nil ?_
      refine x_tn ?_
      refine wp_seq ?_
      refine k_f (.t rfl rfl) ?_
      refine wp_exit ?_
      refine x_te ?_
      refine x_te ?_
      refine x_be ?_
      refine x_tn ?_
      refine k_reb [(4, .slice none 0 0), (5, .slice none 0 0)] ⟨rfl, rfl, trivial⟩ fun G4 => ?_
      refine wp_seq ?_
      refine k_reg ?_
      refine s_val hS2 rfl rfl (r_move rfl (.t rfl rfl)) ?_
      refine s_val hS2 rfl rfl (r_assign rfl (.t rfl rfl)) ?_
      refine wpList_nil ?_
      refine x_tn ?_
      refine k_reb [(4, .slice none 0 0)] ⟨rfl, trivial⟩ fun G5 => ?_
      refine wp_ret ?_
      refine k_ret1 Tryd.results85 rfl rfl ?_
      refine ⟨_, rfl, ?_⟩
      exact ⟨[], Ow.empty hS2, lim_nil, by rw [hnil], by subst hnil; simp [lv]⟩
  · have hS1 := hS.join hT1 hb1
    refine s_val hS1 rfl rfl (r_assign rfl (.t rfl rfl)) ?_
    refine wpList_nil ?_
    refine x_tn ?_
    refine k_reb [(0, .slice aA A.length cA), (1, .slice aB B.length cB), (4, .slice none 0 0), (5, .slice (some ⟨blk1, 0, none⟩) A.length cap1)] ⟨rfl, rfl, rfl, rfl, trivial⟩ fun G6 => ?_
    refine wp_seq ?_
    refine k_reg ?_
    refine s_val hS1 rfl rfl (r_assign rfl .c) ?_
    refine wpList_nil ?_
    refine x_tn ?_
    refine wp_seq ?_
    refine wp_seq ?_
    refine k_reg ?_
    refine s_val hS1 rfl rfl (r_move rfl (.t rfl rfl)) ?_
    refine s_val hS1 rfl rfl (r_len rfl rfl Tryd.underlying26 (.t rfl rfl)) ?_
    refine s_val hS1 rfl rfl (r_move rfl .c) ?_
    refine wpList_nil ?_
    refine x_tn ?_
    refine k_reb [(0, .slice aA A.length cA), (1, .slice aB B.length cB), (4, .slice none 0 0), (5, .slice (some ⟨blk1, 0, none⟩) A.length cap1), (6, .int .u32 0), (12, .int .i64 (((A.length : Nat) : Int))), (13, .int .i64 0)] ⟨rfl, rfl, rfl, rfl, rfl, rfl, rfl, trivial⟩ fun G7 => ?_
    refine wp_block ?_
    refine wp_loop_ghost (fun (m2 : Nat) a w => ∃ (G : Nat → Value) (i : Nat) (br : Nat) (O : List Nat), a = fr 39 [(0, .slice aA A.length cA), (1, .slice aB B.length cB), (4, .slice none 0 0), (5, .slice (some ⟨blk1, 0, none⟩) A.length cap1), (6, .int .u32 (((br : Nat) : Int))), (12, .int .i64 (((A.length : Nat) : Int))), (13, .int .i64 (((i : Nat) : Int)))] G ∧ St w0 [] [(blk1, .cells (encN .u32 (O ++ X1)) 38 (0, 0))] w ∧ (m2 = A.length - i ∧ i ≤ A.length ∧ O.length = A.length ∧ Lim O ∧ br ≤ 1 ∧ lv (A.take i) + br * pw i = lv (O.take i) + lv (B.take i))) (A.length) ⟨_, 0, 0, A, fr_reb _ ⟨rfl, rfl, rfl, rfl, rfl, rfl, rfl, trivial⟩, hS1, ?_⟩ ?_
    · exact ⟨rfl, Nat.zero_le _, rfl, hA.fit, by omega, by simp [lv]⟩
    · intro m2 _ w3 hI2
      obtain ⟨G8, i, br, O, rfl, hS3, ⟨hmi, hi, hOl, hOlim, hbr, hv⟩⟩ := hI2
      refine wp_seq ?_
      refine k_reg ?_
      by_cases c1 : i < A.length
      · refine s_val hS3 rfl rfl (r_cmp_t rfl rfl (.t rfl rfl) (.t rfl rfl) (show ((i : Nat) : Int) < ((A.length : Nat) : Int) from by omega)) ?_
        refine wpList_nil ?_
        refine x_tn ?_
        refine wp_seq ?_
        refine k_t (.t rfl rfl) ?_
        refine wp_skip ?_
        refine x_tn ?_
        refine k_reb [(0, .slice aA A.length cA), (1, .slice aB B.length cB), (4, .slice none 0 0), (5, .slice (some ⟨blk1, 0, none⟩) A.length cap1), (6, .int .u32 (((br : Nat) : Int))), (12, .int .i64 (((A.length : Nat) : Int))), (13, .int .i64 (((i : Nat) : Int)))] ⟨rfl, rfl, rfl, rfl, rfl, rfl, rfl, trivial⟩ fun G9 => ?_
        refine wp_seq ?_
        refine wp_block ?_
        refine wp_seq ?_
        refine k_reg ?_
        refine s_val hS3 rfl rfl (r_move rfl (.t rfl rfl)) ?_
        refine s_val hS3 rfl rfl (r_assign rfl (.t rfl rfl)) ?_
        refine wpList_nil ?_
        refine x_tn ?_
        refine k_reb [(0, .slice aA A.length cA), (1, .slice aB B.length cB), (4, .slice none 0 0), (5, .slice (some ⟨blk1, 0, none⟩) A.length cap1), (6, .int .u32 (((br : Nat) : Int))), (7, .int .i64 (((i : Nat) : Int))), (12, .int .i64 (((A.length : Nat) : Int))), (13, .int .i64 (((i : Nat) : Int)))] ⟨rfl, rfl, rfl, rfl, rfl, rfl, rfl, rfl, trivial⟩ fun G10 => ?_
        refine wp_seq ?_
        refine k_reg ?_
        refine s_val hS3 rfl rfl (r_assign rfl .c) ?_
        refine wpList_nil ?_
        refine x_tn ?_
        refine wp_seq ?_
        refine wp_seq ?_
        refine k_reg ?_
        refine s_val hS3 rfl rfl (r_move rfl (.t rfl rfl)) ?_
        refine s_val hS3 rfl rfl (r_move rfl (.t rfl rfl)) ?_
        refine s_val hS3 rfl rfl (r_len rfl rfl Tryd.underlying26 (.t rfl rfl)) ?_
        by_cases c2 : i < B.length
        · refine s_val hS3 rfl rfl (r_cmp_t rfl rfl (.t rfl rfl) (.t rfl rfl) (show ((i : Nat) : Int) < ((B.length : Nat) : Int) from by omega)) ?_
          refine wpList_nil ?_
          refine x_tn ?_
          refine k_reb [(0, .slice aA A.length cA), (1, .slice aB B.length cB), (4, .slice none 0 0), (5, .slice (some ⟨blk1, 0, none⟩) A.length cap1), (6, .int .u32 (((br : Nat) : Int))), (7, .int .i64 (((i : Nat) : Int))), (8, .int .u32 0), (12, .int .i64 (((A.length : Nat) : Int))), (13, .int .i64 (((i : Nat) : Int))), (19, .bool true)] ⟨rfl, rfl, rfl, rfl, rfl, rfl, rfl, rfl, rfl, rfl, trivial⟩ fun G11 => ?_
          refine k_t (.t rfl rfl) ?_
          refine k_reg ?_
          refine s_val hS3 rfl rfl (r_move rfl (.t rfl rfl)) ?_
          refine s_val hS3 rfl rfl (r_move rfl (.t rfl rfl)) ?_
          refine s_val hS3 rfl rfl (r_ixr (j := i) rfl Tryd.underlying26 ti38 (.t rfl rfl) (.t rfl rfl) hB rfl rfl (by omega)) ?_
          have b1 : B.getD i 0 ≤ 4294967295 := hB.lt _
          refine s_val hS3 rfl rfl (r_load rfl one38 (.t rfl rfl) (St.cell_rd hB (by omega) (by simp))) ?_
          refine s_val hS3 rfl rfl (r_assign rfl (.t rfl rfl)) ?_
          refine wpList_nil ?_
          refine x_tn ?_
          refine k_reb [(0, .slice aA A.length cA), (1, .slice aB B.length cB), (4, .slice none 0 0), (5, .slice (some ⟨blk1, 0, none⟩) A.length cap1), (6, .int .u32 (((br : Nat) : Int))), (7, .int .i64 (((i : Nat) : Int))), (8, .int .u32 (((B.getD i 0 : Nat) : Int))), (12, .int .i64 (((A.length : Nat) : Int))), (13, .int .i64 (((i : Nat) : Int)))] ⟨rfl, rfl, rfl, rfl, rfl, rfl, rfl, rfl, rfl, trivial⟩ fun G12 => ?_
          refine k_reg ?_
          refine s_val hS3 rfl rfl (r_move rfl (.t rfl rfl)) ?_
          refine s_val hS3 rfl rfl (r_move rfl (.t rfl rfl)) ?_
          refine s_val hS3 rfl rfl (r_move rfl (.t rfl rfl)) ?_
          refine s_val hS3 rfl rfl (r_move rfl (.t rfl rfl)) ?_
          refine s_val hS3 rfl rfl (r_ixr (j := i) rfl Tryd.underlying26 ti38 (.t rfl rfl) (.t rfl rfl) hA rfl rfl (by omega)) ?_
          have b2 : A.getD i 0 ≤ 4294967295 := hA.lt _
          refine s_val hS3 rfl rfl (r_load rfl one38 (.t rfl rfl) (St.cell_rd hA (by omega) (by simp))) ?_
          refine s_val hS3 rfl rfl (r_move rfl (.t rfl rfl)) ?_
          refine s_val hS3 rfl rfl (r_move rfl (.t rfl rfl)) ?_
          refine s_call rfl rfl rfl (vs := [.int .u32 (((A.getD i 0 : Nat) : Int)), .int .u32 (((B.getD i 0 : Nat) : Int)), .int .u32 (((br : Nat) : Int))]) ⟨(.t rfl rfl), (.t rfl rfl), (.t rfl rfl), trivial⟩ cb95 (sub32_ok w3 (A.getD i 0) (B.getD i 0) br (by omega) (by omega) (by omega)) ?_
          rintro _ w3 ⟨d1, o1, rfl, rfl, hd1, ho1, hd1o1⟩
          refine s_val hS3 rfl rfl (r_move rfl (.t rfl rfl)) ?_
          refine s_val hS3 rfl rfl (r_extract rfl (.t rfl rfl) rfl) ?_
          refine s_val hS3 rfl rfl (r_extract rfl (.t rfl rfl) rfl) ?_
          refine s_val hS3 rfl rfl (r_ixs (j := i) rfl Tryd.underlying26 ti38 (.t rfl rfl) (.t rfl rfl) rfl (by omega) (qq := i) (by omega)) ?_
          refine s_store (m := 0) rfl rfl rfl one38 (.t rfl rfl) (.t rfl rfl) rfl hS3 rfl (encP_get (by first | omega | (simp only [List.length_set, List.length_append, List.length_replicate]; omega))) (encP_set (by first | omega | (simp only [List.length_set, List.length_append, List.length_replicate]; omega))) rfl fun w4 hS4 => ?_
          refine s_val hS4 rfl rfl (r_assign rfl (.t rfl rfl)) ?_
          refine wpList_nil ?_
          refine x_bn ?_
          refine x_tn ?_
          refine k_reb [(0, .slice aA A.length cA), (1, .slice aB B.length cB), (4, .slice none 0 0), (5, .slice (some ⟨blk1, 0, none⟩) A.length cap1), (6, .int .u32 (((o1 : Nat) : Int))), (12, .int .i64 (((A.length : Nat) : Int))), (13, .int .i64 (((i : Nat) : Int)))] ⟨rfl, rfl, rfl, rfl, rfl, rfl, rfl, trivial⟩ fun G13 => ?_
          refine k_reg ?_
          refine s_val hS4 rfl rfl (r_arith rfl rfl (.t rfl rfl) .c (c := ((i + 1 : Nat) : Int)) (wn_i64 (by show (((i : Nat) : Int) : Int) + 1 = _; omega) (by omega))) ?_
          refine s_val hS4 rfl rfl (r_move rfl (.t rfl rfl)) ?_
          refine wpList_nil ?_
          refine x_tn ?_
          refine ⟨A.length - (i + 1), by omega, _, i + 1, o1, O.set i d1, fr_reb _ ⟨rfl, rfl, rfl, rfl, rfl, rfl, rfl, trivial⟩, hS4, ?_⟩
          exact ⟨by omega, by omega, by simpa using hOl, lim_set hOlim hd1, ho1, sub_next (by omega) (by omega) hv (lv_take_succ (by omega)) hd1o1⟩
        · refine s_val hS3 rfl rfl (r_cmp_f rfl rfl (.t rfl rfl) (.t rfl rfl) (show ¬ (((i : Nat) : Int) < ((B.length : Nat) : Int)) from by omega)) ?_
          refine wpList_nil ?_
          refine x_tn ?_
          refine k_reb [(0, .slice aA A.length cA), (1, .slice aB B.length cB), (4, .slice none 0 0), (5, .slice (some ⟨blk1, 0, none⟩) A.length cap1), (6, .int .u32 (((br : Nat) : Int))), (7, .int .i64 (((i : Nat) : Int))), (8, .int .u32 0), (12, .int .i64 (((A.length : Nat) : Int))), (13, .int .i64 (((i : Nat) : Int))), (19, .bool false)] ⟨rfl, rfl, rfl, rfl, rfl, rfl, rfl, rfl, rfl, rfl, trivial⟩ fun G14 => ?_
          refine k_f (.t rfl rfl) ?_
          refine wp_skip ?_
          refine x_tn ?_
          refine k_reb [(0, .slice aA A.length cA), (1, .slice aB B.length cB), (4, .slice none 0 0), (5, .slice (some ⟨blk1, 0, none⟩) A.length cap1), (6, .int .u32 (((br : Nat) : Int))), (7, .int .i64 (((i : Nat) : Int))), (8, .int .u32 0), (12, .int .i64 (((A.length : Nat) : Int))), (13, .int .i64 (((i : Nat) : Int)))] ⟨rfl, rfl, rfl, rfl, rfl, rfl, rfl, rfl, rfl, trivial⟩ fun G15 => ?_
          refine k_reg ?_
          refine s_val hS3 rfl rfl (r_move rfl (.t rfl rfl)) ?_
          refine s_val hS3 rfl rfl (r_move rfl (.t rfl rfl)) ?_
          refine s_val hS3 rfl rfl (r_move rfl (.t rfl rfl)) ?_
          refine s_val hS3 rfl rfl (r_move rfl (.t rfl rfl)) ?_
          refine s_val hS3 rfl rfl (r_ixr (j := i) rfl Tryd.underlying26 ti38 (.t rfl rfl) (.t rfl rfl) hA rfl rfl (by omega)) ?_
          have b3 : A.getD i 0 ≤ 4294967295 := hA.lt _
          refine s_val hS3 rfl rfl (r_load rfl one38 (.t rfl rfl) (St.cell_rd hA (by omega) (by simp))) ?_
          refine s_val hS3 rfl rfl (r_move rfl (.t rfl rfl)) ?_
          refine s_val hS3 rfl rfl (r_move rfl (.t rfl rfl)) ?_
          refine s_call rfl rfl rfl (vs := [.int .u32 (((A.getD i 0 : Nat) : Int)), .int .u32 0, .int .u32 (((br : Nat) : Int))]) ⟨(.t rfl rfl), (.t rfl rfl), (.t rfl rfl), trivial⟩ cb95 (sub32_ok w3 (A.getD i 0) 0 br (by omega) (by omega) (by omega)) ?_
          rintro _ w3 ⟨d2, o2, rfl, rfl, hd2, ho2, hd2o2⟩
          refine s_val hS3 rfl rfl (r_move rfl (.t rfl rfl)) ?_
          refine s_val hS3 rfl rfl (r_extract rfl (.t rfl rfl) rfl) ?_
          refine s_val hS3 rfl rfl (r_extract rfl (.t rfl rfl) rfl) ?_
          refine s_val hS3 rfl rfl (r_ixs (j := i) rfl Tryd.underlying26 ti38 (.t rfl rfl) (.t rfl rfl) rfl (by omega) (qq := i) (by omega)) ?_
          refine s_store (m := 0) rfl rfl rfl one38 (.t rfl rfl) (.t rfl rfl) rfl hS3 rfl (encP_get (by first | omega | (simp only [List.length_set, List.length_append, List.length_replicate]; omega))) (encP_set (by first | omega | (simp only [List.length_set, List.length_append, List.length_replicate]; omega))) rfl fun w5 hS5 => ?_
          refine s_val hS5 rfl rfl (r_assign rfl (.t rfl rfl)) ?_
          refine wpList_nil ?_
          refine x_bn ?_
          refine x_tn ?_
          refine k_reb [(0, .slice aA A.length cA), (1, .slice aB B.length cB), (4, .slice none 0 0), (5, .slice (some ⟨blk1, 0, none⟩) A.length cap1), (6, .int .u32 (((o2 : Nat) : Int))), (12, .int .i64 (((A.length : Nat) : Int))), (13, .int .i64 (((i : Nat) : Int)))] ⟨rfl, rfl, rfl, rfl, rfl, rfl, rfl, trivial⟩ fun G16 => ?_
          refine k_reg ?_
          refine s_val hS5 rfl rfl (r_arith rfl rfl (.t rfl rfl) .c (c := ((i + 1 : Nat) : Int)) (wn_i64 (by show (((i : Nat) : Int) : Int) + 1 = _; omega) (by omega))) ?_
          refine s_val hS5 rfl rfl (r_move rfl (.t rfl rfl)) ?_
          refine wpList_nil ?_
          refine x_tn ?_
          refine ⟨A.length - (i + 1), by omega, _, i + 1, o2, O.set i d2, fr_reb _ ⟨rfl, rfl, rfl, rfl, rfl, rfl, rfl, trivial⟩, hS5, ?_⟩
          exact ⟨by omega, by omega, by simpa using hOl, lim_set hOlim hd2, ho2, sub_next (by omega) (by omega) hv (take_succ_none (by omega)) hd2o2⟩
      · refine s_val hS3 rfl rfl (r_cmp_f rfl rfl (.t rfl rfl) (.t rfl rfl) (show ¬ (((i : Nat) : Int) < ((A.length : Nat) : Int)) from by omega)) ?_
        refine wpList_nil ?_
        refine x_tn ?_
        refine wp_seq ?_
        refine k_f (.t rfl rfl) ?_
        refine wp_exit ?_
        refine x_te ?_
        refine x_te ?_
        refine x_be ?_
        refine x_tn ?_
        refine k_reb [(4, .slice none 0 0), (5, .slice (some ⟨blk1, 0, none⟩) A.length cap1)] ⟨rfl, rfl, trivial⟩ fun G17 => ?_
        refine wp_seq ?_
        refine k_reg ?_
        refine s_val hS3 rfl rfl (r_move rfl (.t rfl rfl)) ?_
        refine s_val hS3 rfl rfl (r_assign rfl (.t rfl rfl)) ?_
        refine wpList_nil ?_
        refine x_tn ?_
        refine k_reb [(4, .slice (some ⟨blk1, 0, none⟩) A.length cap1)] ⟨rfl, trivial⟩ fun G18 => ?_
        refine wp_ret ?_
        refine k_ret1 Tryd.results85 rfl rfl ?_
        refine ⟨_, rfl, ?_⟩
        obtain rfl : i = A.length := by omega
        have hOv := sub_end hOlim hOl hBA hle hbr hv
        exact ⟨O, by rw [← hOl]; exact Ow.of_chunk (m := 0) hS3 rfl (by omega) (by omega) (by omega) hOlim, hOlim, hOl, hOv⟩

end Go.Proofs.YtnbklceenfjojaaDoor

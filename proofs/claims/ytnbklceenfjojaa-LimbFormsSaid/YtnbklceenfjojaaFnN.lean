/- Contracts of functions of the program, each walked once. -/
import Derived.Test.YtnbklceenfjojaaFnM
import Derived.Test.YtnbklceenfjojaaKTxt
namespace Go.Proofs.Ytnbklceenfjojaa
open Go Go.RowKit K
namespace FN
theorem mixed : Try.prog.follows .mixedOrders = true := by kernel_rfl
theorem cb44 : callable Try.prog 44 = true := by kernel_rfl
theorem cb50 : callable Try.prog 50 = true := by kernel_rfl

end FN
open FN
attribute [local irreducible] Go.wpList Go.wpQuiet Go.wpStill Go.wpAny Go.Code.wp
set_option maxRecDepth 10000
set_option maxHeartbeats 8000000
set_option linter.unusedVariables false
set_option linter.unusedSimpArgs false
theorem times_gr (w0 : World) (a : Option Addr) (cap : Nat) (A : List Nat) (hv : Hp) (hG : Gr .u32 57 a cap A hv) (hown : ∀ p ∈ hv, w0.heap[p.1]? = some p.2) (hAl : Lim A) (t : Nat) (ht : t = A.length) (hlA : A.length ≤ 1000000) (y c0 : Nat) (hy : y ≤ 4294967295) (hc0 : c0 ≤ 4294967295) :
    Calls Try.prog 50 #[.slice a t cap, .int .u64 ((y : Nat) : Int), .int .u64 ((c0 : Nat) : Int)] w0 (Ret fun v w' => ∃ A' a' cap' hv', v = .slice a' A'.length cap' ∧ Gr .u32 57 a' cap' A' hv' ∧ St w0 (hv.map (·.1)) hv' w' ∧ Lim A' ∧ A'.length ≤ A.length + 1 ∧ lv A' = lv A * y + c0) := by
  subst ht
  rcases hG with ⟨rfl, rfl, rfl, rfl⟩ | ⟨b, X, rfl, rfl, h1, h2⟩
  · exact times_nil w0 [] rfl y c0 hy hc0
  · exact times_own w0 b cap A X (hown _ (List.mem_singleton.2 rfl)) h1 h2 hAl hlA y c0 hy hc0

theorem OfText_ok (w0 : World) (s : ByteArray) (hs : s.size ≤ 9223372036854775807) :
    Calls Try.prog 25 #[.string s] w0 (Ret fun v w' => (¬ okT s ∧ v = .tuple #[.slice none 0 0, .int .i64 25] ∧ St w0 [] [] w') ∨ (okT s ∧ 81920 < s.size ∧ v = .tuple #[.slice none 0 0, .int .i64 21] ∧ St w0 [] [] w') ∨ (okT s ∧ s.size ≤ 81920 ∧ NE w0 w' 57 v (dv s s.size))) := by
  refine k_enter (vs := [.string s]) Try.func25 rfl Try.ntmps25 rfl ?_
  have hS := St.init w0
  refine wp_seq ?_
  refine k_reg ?_
  refine s_val hS rfl rfl (r_assign rfl .c) ?_
  refine s_val hS rfl rfl (r_assign rfl .c) ?_
  refine wpList_nil ?_
  refine x_tn ?_
  refine wp_seq ?_
  refine wp_seq ?_
  refine k_reg ?_
  refine s_val hS rfl rfl (r_move rfl (.t rfl rfl)) ?_
  by_cases c1 : s.size = 0
  · refine s_val hS rfl rfl (r_eqstr rfl (.t rfl rfl) .c (r := true) (str_empty c1)) ?_
    refine s_val hS rfl rfl (r_move rfl (.t rfl rfl)) ?_
    refine s_skip (unwanted_of (j := 2) (b := false) (b' := true) (d := 12) rfl rfl rfl rfl rfl) rfl ?_
    refine s_skip (unwanted_of (j := 2) (b := false) (b' := true) (d := 12) rfl rfl rfl rfl rfl) rfl ?_
    refine s_skip (unwanted_of (j := 2) (b := false) (b' := true) (d := 12) rfl rfl rfl rfl rfl) rfl ?_
    refine s_skip (unwanted_of (j := 2) (b := false) (b' := true) (d := 12) rfl rfl rfl rfl rfl) rfl ?_
    refine s_skip (unwanted_undef (j := 6) (b := true) (d := 16) rfl rfl rfl rfl) rfl ?_
    refine s_skip (unwanted_undef (j := 6) (b := true) (d := 16) rfl rfl rfl rfl) rfl ?_
    refine s_skip (unwanted_undef (j := 6) (b := true) (d := 16) rfl rfl rfl rfl) rfl ?_
    refine s_skip (unwanted_of (j := 2) (b := false) (b' := true) (d := 12) rfl rfl rfl rfl rfl) rfl ?_
    refine s_val hS rfl rfl (r_pick rfl (.t rfl rfl) .c) ?_
    refine wpList_nil ?_
    refine x_tn ?_
    refine k_reb [(0, .string s), (2, .slice none 0 0), (3, .int .i64 0), (21, .bool true)] ⟨rfl, rfl, rfl, rfl, trivial⟩ fun G1 => ?_
    refine k_t (.t rfl rfl) ?_
    refine wp_seq ?_
    refine k_reg ?_
    refine s_val hS rfl rfl (r_assign rfl .c) ?_
    refine s_val hS rfl rfl (r_assign rfl .c) ?_
    refine wpList_nil ?_
    refine x_tn ?_
    refine k_reb [(0, .string s), (2, .slice none 0 0), (3, .int .i64 25)] ⟨rfl, rfl, rfl, trivial⟩ fun G2 => ?_
    refine wp_ret ?_
    refine x_tr ?_
    refine k_ret2 Try.results25 rfl rfl rfl rfl ?_
    refine ⟨_, rfl, ?_⟩
    exact .inl ⟨fun h => by
      obtain ⟨h1, h2, h3⟩ := h
      first | omega | (have h4 := h3 i (by omega); omega), rfl, hS⟩
  · refine s_val hS rfl rfl (r_eqstr rfl (.t rfl rfl) .c (r := false) (str_full c1)) ?_
    refine s_val hS rfl rfl (r_move rfl (.t rfl rfl)) ?_
    refine s_valg hS (wanted_of (j := 2) (b := false) (d := 12) rfl rfl rfl rfl) rfl (r_move rfl (.t rfl rfl)) ?_
    refine s_valg hS (wanted_of (j := 2) (b := false) (d := 12) rfl rfl rfl rfl) rfl (r_idxs (j := 0) (c := ch s 0) rfl Try.underlying9 (.t rfl rfl) .c rfl (byte_at (by omega)) (byte_lt _)) ?_
    by_cases c2 : ch s 0 = 48
    · refine s_valg hS (wanted_of (j := 2) (b := false) (d := 12) rfl rfl rfl rfl) rfl (r_cmp_t rfl rfl (.t rfl rfl) .c (show ((ch s 0 : Nat) : Int) = 48 from by omega)) ?_
      refine s_valg hS (wanted_of (j := 2) (b := false) (d := 12) rfl rfl rfl rfl) rfl (r_move rfl (.t rfl rfl)) ?_
      refine s_valg hS (wanted_of (j := 6) (b := true) (d := 16) rfl rfl rfl rfl) rfl (r_move rfl (.t rfl rfl)) ?_
      refine s_valg hS (wanted_of (j := 6) (b := true) (d := 16) rfl rfl rfl rfl) rfl (r_lens rfl rfl Try.underlying9 (.t rfl rfl)) ?_
      by_cases c3 : s.size > 1
      · refine s_valg hS (wanted_of (j := 6) (b := true) (d := 16) rfl rfl rfl rfl) rfl (r_cmp_t rfl rfl (.t rfl rfl) .c (show ((s.size : Nat) : Int) > 1 from by omega)) ?_
        refine s_valg hS (wanted_of (j := 2) (b := false) (d := 12) rfl rfl rfl rfl) rfl (r_pick rfl (.t rfl rfl) (.t rfl rfl)) ?_
        refine s_val hS rfl rfl (r_pick rfl (.t rfl rfl) (.t rfl rfl)) ?_
        refine wpList_nil ?_
        refine x_tn ?_
        refine k_reb [(0, .string s), (2, .slice none 0 0), (3, .int .i64 0), (21, .bool true)] ⟨rfl, rfl, rfl, rfl, trivial⟩ fun G3 => ?_
        refine k_t (.t rfl rfl) ?_
        refine wp_seq ?_
        refine k_reg ?_
        refine s_val hS rfl rfl (r_assign rfl .c) ?_
        refine s_val hS rfl rfl (r_assign rfl .c) ?_
        refine wpList_nil ?_
        refine x_tn ?_
        refine k_reb [(0, .string s), (2, .slice none 0 0), (3, .int .i64 25)] ⟨rfl, rfl, rfl, trivial⟩ fun G4 => ?_
        refine wp_ret ?_
        refine x_tr ?_
        refine k_ret2 Try.results25 rfl rfl rfl rfl ?_
        refine ⟨_, rfl, ?_⟩
        exact .inl ⟨fun h => by
          obtain ⟨h1, h2, h3⟩ := h
          first | omega | (have h4 := h3 i (by omega); omega), rfl, hS⟩
      · refine s_valg hS (wanted_of (j := 6) (b := true) (d := 16) rfl rfl rfl rfl) rfl (r_cmp_f rfl rfl (.t rfl rfl) .c (show ¬ (((s.size : Nat) : Int) > 1) from by omega)) ?_
        refine s_valg hS (wanted_of (j := 2) (b := false) (d := 12) rfl rfl rfl rfl) rfl (r_pick rfl (.t rfl rfl) (.t rfl rfl)) ?_
        refine s_val hS rfl rfl (r_pick rfl (.t rfl rfl) (.t rfl rfl)) ?_
        refine wpList_nil ?_
        refine x_tn ?_
        refine k_reb [(0, .string s), (2, .slice none 0 0), (3, .int .i64 0), (21, .bool false)] ⟨rfl, rfl, rfl, rfl, trivial⟩ fun G5 => ?_
        refine k_f (.t rfl rfl) ?_
        refine wp_skip ?_
        refine x_tn ?_
        refine k_reb [(0, .string s), (2, .slice none 0 0), (3, .int .i64 0)] ⟨rfl, rfl, rfl, trivial⟩ fun G6 => ?_
        refine wp_seq ?_
        refine wp_seq ?_
        refine k_reg ?_
        refine s_val hS rfl rfl (r_move rfl (.t rfl rfl)) ?_
        refine s_val hS rfl rfl (r_lens rfl rfl Try.underlying9 (.t rfl rfl)) ?_
        refine s_val hS rfl rfl (r_move rfl .c) ?_
        refine wpList_nil ?_
        refine x_tn ?_
        refine k_reb [(0, .string s), (2, .slice none 0 0), (3, .int .i64 0), (23, .int .i64 (((s.size : Nat) : Int))), (24, .int .i64 0)] ⟨rfl, rfl, rfl, rfl, rfl, trivial⟩ fun G7 => ?_
        refine wp_block ?_
        refine wp_loop_ghost (fun (m1 : Nat) a w => ∃ (G : Nat → Value) (i : Nat), a = fr 85 [(0, .string s), (2, .slice none 0 0), (3, .int .i64 0), (23, .int .i64 (((s.size : Nat) : Int))), (24, .int .i64 (((i : Nat) : Int)))] G ∧ St w0 [] [] w ∧ (m1 = s.size - i ∧ i ≤ s.size ∧ ∀ j, j < i → 48 ≤ ch s j ∧ ch s j ≤ 57)) (s.size) ⟨_, 0, fr_reb _ ⟨rfl, rfl, rfl, rfl, rfl, trivial⟩, hS, ?_⟩ ?_
        · exact ⟨rfl, Nat.zero_le _, fun j hj => absurd hj (Nat.not_lt_zero _)⟩
        · intro m1 _ w1 hI1
          obtain ⟨G8, i, rfl, hS1, ⟨hm, hi, he⟩⟩ := hI1
          refine wp_seq ?_
          refine k_reg ?_
          by_cases c4 : i < s.size
          · refine s_val hS1 rfl rfl (r_cmp_t rfl rfl (.t rfl rfl) (.t rfl rfl) (show ((i : Nat) : Int) < ((s.size : Nat) : Int) from by omega)) ?_
            refine wpList_nil ?_
            refine x_tn ?_
            refine wp_seq ?_
            refine k_t (.t rfl rfl) ?_
            refine wp_skip ?_
            refine x_tn ?_
            refine k_reb [(0, .string s), (2, .slice none 0 0), (3, .int .i64 0), (23, .int .i64 (((s.size : Nat) : Int))), (24, .int .i64 (((i : Nat) : Int)))] ⟨rfl, rfl, rfl, rfl, rfl, trivial⟩ fun G9 => ?_
            refine wp_seq ?_
            refine wp_block ?_
            refine wp_seq ?_
            refine k_reg ?_
            refine s_val hS1 rfl rfl (r_move rfl (.t rfl rfl)) ?_
            refine s_val hS1 rfl rfl (r_assign rfl (.t rfl rfl)) ?_
            refine wpList_nil ?_
            refine x_tn ?_
            refine k_reb [(0, .string s), (2, .slice none 0 0), (3, .int .i64 0), (4, .int .i64 (((i : Nat) : Int))), (23, .int .i64 (((s.size : Nat) : Int))), (24, .int .i64 (((i : Nat) : Int)))] ⟨rfl, rfl, rfl, rfl, rfl, rfl, trivial⟩ fun G10 => ?_
            refine wp_seq ?_
            refine k_reg ?_
            refine s_val hS1 rfl rfl (r_move rfl (.t rfl rfl)) ?_
            refine s_val hS1 rfl rfl (r_move rfl (.t rfl rfl)) ?_
            refine s_val hS1 rfl rfl (r_idxs (j := i) (c := ch s i) rfl Try.underlying9 (.t rfl rfl) (.t rfl rfl) rfl (byte_at (by omega)) (byte_lt _)) ?_
            by_cases c5 : ch s i < 48
            · refine s_val hS1 rfl rfl (r_cmp_t rfl rfl (.t rfl rfl) .c (show ((ch s i : Nat) : Int) < 48 from by omega)) ?_
              refine s_val hS1 rfl rfl (r_move rfl (.t rfl rfl)) ?_
              refine s_skip (unwanted_of (j := 4) (b := false) (b' := true) (d := 31) rfl rfl rfl rfl rfl) rfl ?_
              refine s_skip (unwanted_of (j := 4) (b := false) (b' := true) (d := 31) rfl rfl rfl rfl rfl) rfl ?_
              refine s_skip (unwanted_of (j := 4) (b := false) (b' := true) (d := 31) rfl rfl rfl rfl rfl) rfl ?_
              refine s_skip (unwanted_of (j := 4) (b := false) (b' := true) (d := 31) rfl rfl rfl rfl rfl) rfl ?_
              refine s_val hS1 rfl rfl (r_pick rfl (.t rfl rfl) .c) ?_
              refine wpList_nil ?_
              refine x_tn ?_
              refine k_reb [(0, .string s), (2, .slice none 0 0), (3, .int .i64 0), (23, .int .i64 (((s.size : Nat) : Int))), (24, .int .i64 (((i : Nat) : Int))), (36, .bool true)] ⟨rfl, rfl, rfl, rfl, rfl, rfl, trivial⟩ fun G11 => ?_
              refine k_t (.t rfl rfl) ?_
              refine wp_seq ?_
              refine k_reg ?_
              refine s_val hS1 rfl rfl (r_assign rfl .c) ?_
              refine s_val hS1 rfl rfl (r_assign rfl .c) ?_
              refine wpList_nil ?_
              refine x_tn ?_
              refine k_reb [(0, .string s), (2, .slice none 0 0), (3, .int .i64 25), (23, .int .i64 (((s.size : Nat) : Int))), (24, .int .i64 (((i : Nat) : Int)))] ⟨rfl, rfl, rfl, rfl, rfl, trivial⟩ fun G12 => ?_
              refine wp_ret ?_
              refine x_br ?_
              refine x_tr ?_
              refine x_tr ?_
              refine x_br ?_
              refine x_tr ?_
              refine k_ret2 Try.results25 rfl rfl rfl rfl ?_
              refine ⟨_, rfl, ?_⟩
              exact .inl ⟨fun h => by
                obtain ⟨h1, h2, h3⟩ := h
                first | omega | (have h4 := h3 i (by omega); omega), rfl, hS1⟩
            · refine s_val hS1 rfl rfl (r_cmp_f rfl rfl (.t rfl rfl) .c (show ¬ (((ch s i : Nat) : Int) < 48) from by omega)) ?_
              refine s_val hS1 rfl rfl (r_move rfl (.t rfl rfl)) ?_
              refine s_valg hS1 (wanted_of (j := 4) (b := false) (d := 31) rfl rfl rfl rfl) rfl (r_move rfl (.t rfl rfl)) ?_
              refine s_valg hS1 (wanted_of (j := 4) (b := false) (d := 31) rfl rfl rfl rfl) rfl (r_move rfl (.t rfl rfl)) ?_
              refine s_valg hS1 (wanted_of (j := 4) (b := false) (d := 31) rfl rfl rfl rfl) rfl (r_idxs (j := i) (c := ch s i) rfl Try.underlying9 (.t rfl rfl) (.t rfl rfl) rfl (byte_at (by omega)) (byte_lt _)) ?_
              by_cases c6 : ch s i > 57
              · refine s_valg hS1 (wanted_of (j := 4) (b := false) (d := 31) rfl rfl rfl rfl) rfl (r_cmp_t rfl rfl (.t rfl rfl) .c (show ((ch s i : Nat) : Int) > 57 from by omega)) ?_
                refine s_val hS1 rfl rfl (r_pick rfl (.t rfl rfl) (.t rfl rfl)) ?_
                refine wpList_nil ?_
                refine x_tn ?_
                refine k_reb [(0, .string s), (2, .slice none 0 0), (3, .int .i64 0), (23, .int .i64 (((s.size : Nat) : Int))), (24, .int .i64 (((i : Nat) : Int))), (36, .bool true)] ⟨rfl, rfl, rfl, rfl, rfl, rfl, trivial⟩ fun G13 => ?_
                refine k_t (.t rfl rfl) ?_
                refine wp_seq ?_
                refine k_reg ?_
                refine s_val hS1 rfl rfl (r_assign rfl .c) ?_
                refine s_val hS1 rfl rfl (r_assign rfl .c) ?_
                refine wpList_nil ?_
                refine x_tn ?_
                refine k_reb [(0, .string s), (2, .slice none 0 0), (3, .int .i64 25), (23, .int .i64 (((s.size : Nat) : Int))), (24, .int .i64 (((i : Nat) : Int)))] ⟨rfl, rfl, rfl, rfl, rfl, trivial⟩ fun G14 => ?_
                refine wp_ret ?_
                refine x_br ?_
                refine x_tr ?_
                refine x_tr ?_
                refine x_br ?_
                refine x_tr ?_
                refine k_ret2 Try.results25 rfl rfl rfl rfl ?_
                refine ⟨_, rfl, ?_⟩
                exact .inl ⟨fun h => by
                  obtain ⟨h1, h2, h3⟩ := h
                  first | omega | (have h4 := h3 i (by omega); omega), rfl, hS1⟩
              · refine s_valg hS1 (wanted_of (j := 4) (b := false) (d := 31) rfl rfl rfl rfl) rfl (r_cmp_f rfl rfl (.t rfl rfl) .c (show ¬ (((ch s i : Nat) : Int) > 57) from by omega)) ?_
                refine s_val hS1 rfl rfl (r_pick rfl (.t rfl rfl) (.t rfl rfl)) ?_
                refine wpList_nil ?_
                refine x_tn ?_
                refine k_reb [(0, .string s), (2, .slice none 0 0), (3, .int .i64 0), (23, .int .i64 (((s.size : Nat) : Int))), (24, .int .i64 (((i : Nat) : Int))), (36, .bool false)] ⟨rfl, rfl, rfl, rfl, rfl, rfl, trivial⟩ fun G15 => ?_
                refine k_f (.t rfl rfl) ?_
                refine wp_skip ?_
                refine x_bn ?_
                refine x_tn ?_
                refine k_reb [(0, .string s), (2, .slice none 0 0), (3, .int .i64 0), (23, .int .i64 (((s.size : Nat) : Int))), (24, .int .i64 (((i : Nat) : Int)))] ⟨rfl, rfl, rfl, rfl, rfl, trivial⟩ fun G16 => ?_
                refine k_reg ?_
                refine s_val hS1 rfl rfl (r_arith rfl rfl (.t rfl rfl) .c (c := ((i + 1 : Nat) : Int)) (wn_i64 (by show (((i : Nat) : Int) : Int) + 1 = _; omega) (by omega))) ?_
                refine s_val hS1 rfl rfl (r_move rfl (.t rfl rfl)) ?_
                refine wpList_nil ?_
                refine x_tn ?_
                refine ⟨s.size - (i + 1), by omega, _, i + 1, fr_reb _ ⟨rfl, rfl, rfl, rfl, rfl, trivial⟩, hS1, ?_⟩
                exact ⟨by omega, by omega, fun j hj => by
                  rcases Nat.lt_or_ge j i with q | q
                  · exact he j q
                  · rw [show j = i by omega]; omega⟩
          · refine s_val hS1 rfl rfl (r_cmp_f rfl rfl (.t rfl rfl) (.t rfl rfl) (show ¬ (((i : Nat) : Int) < ((s.size : Nat) : Int)) from by omega)) ?_
            refine wpList_nil ?_
            refine x_tn ?_
            refine wp_seq ?_
            refine k_f (.t rfl rfl) ?_
            refine wp_exit ?_
            refine x_te ?_
            refine x_te ?_
            refine x_be ?_
            refine x_tn ?_
            refine k_reb [(0, .string s), (2, .slice none 0 0), (3, .int .i64 0)] ⟨rfl, rfl, rfl, trivial⟩ fun G17 => ?_
            refine wp_seq ?_
            refine wp_seq ?_
            refine k_reg ?_
            refine s_val hS1 rfl rfl (r_move rfl (.t rfl rfl)) ?_
            refine s_val hS1 rfl rfl (r_lens rfl rfl Try.underlying9 (.t rfl rfl)) ?_
            have hok : okT s := ⟨by omega, by omega, fun j hj => he j (by omega)⟩
            by_cases c7 : s.size > 81920
            · refine s_val hS1 rfl rfl (r_cmp_t rfl rfl (.t rfl rfl) .c (show ((s.size : Nat) : Int) > 81920 from by omega)) ?_
              refine wpList_nil ?_
              refine x_tn ?_
              refine k_reb [(0, .string s), (2, .slice none 0 0), (3, .int .i64 0), (40, .bool true)] ⟨rfl, rfl, rfl, rfl, trivial⟩ fun G18 => ?_
              refine k_t (.t rfl rfl) ?_
              refine wp_seq ?_
              refine k_reg ?_
              refine s_val hS1 rfl rfl (r_assign rfl .c) ?_
              refine s_val hS1 rfl rfl (r_assign rfl .c) ?_
              refine wpList_nil ?_
              refine x_tn ?_
              refine k_reb [(0, .string s), (2, .slice none 0 0), (3, .int .i64 21)] ⟨rfl, rfl, rfl, trivial⟩ fun G19 => ?_
              refine wp_ret ?_
              refine x_tr ?_
              refine k_ret2 Try.results25 rfl rfl rfl rfl ?_
              refine ⟨_, rfl, ?_⟩
              exact .inr (.inl ⟨hok, by omega, rfl, hS1⟩)
            · refine s_val hS1 rfl rfl (r_cmp_f rfl rfl (.t rfl rfl) .c (show ¬ (((s.size : Nat) : Int) > 81920) from by omega)) ?_
              refine wpList_nil ?_
              refine x_tn ?_
              refine k_reb [(0, .string s), (2, .slice none 0 0), (3, .int .i64 0), (40, .bool false)] ⟨rfl, rfl, rfl, rfl, trivial⟩ fun G20 => ?_
              refine k_f (.t rfl rfl) ?_
              refine wp_skip ?_
              refine x_tn ?_
              refine k_reb [(0, .string s), (2, .slice none 0 0), (3, .int .i64 0)] ⟨rfl, rfl, rfl, trivial⟩ fun G21 => ?_
              refine wp_seq ?_
              refine k_reg ?_
              refine s_val hS1 rfl rfl (r_assign rfl .c) ?_
              refine wpList_nil ?_
              refine x_tn ?_
              refine wp_seq ?_
              refine wp_seq ?_
              refine k_reg ?_
              refine s_val hS1 rfl rfl (r_move rfl (.t rfl rfl)) ?_
              refine s_val hS1 rfl rfl (r_lens rfl rfl Try.underlying9 (.t rfl rfl)) ?_
              refine s_val hS1 rfl rfl (r_rem (b := ((9 : Nat) : Int)) rfl (.t rfl rfl) .c (nz_nat (by omega)) (c := ((s.size % 9 : Nat) : Int)) tmod_nat) ?_
              refine s_val hS1 rfl rfl (r_move rfl .c) ?_
              refine wpList_nil ?_
              refine x_tn ?_
              refine k_reb [(0, .string s), (2, .slice none 0 0), (3, .int .i64 0), (5, .slice none 0 0), (43, .int .i64 (((s.size % 9 : Nat) : Int))), (44, .int .i64 0)] ⟨rfl, rfl, rfl, rfl, rfl, rfl, trivial⟩ fun G22 => ?_
              refine wp_block ?_
              refine wp_loop_ghost (fun (m2 : Nat) a w => ∃ (G : Nat → Value) (k : Nat) (t : Nat) (ga : Option Addr) (gc : Nat) (A : List Nat) (hv : Hp), a = fr 85 [(0, .string s), (2, .slice none 0 0), (3, .int .i64 0), (5, .slice ga t gc), (43, .int .i64 (((s.size % 9 : Nat) : Int))), (44, .int .i64 (((k : Nat) : Int)))] G ∧ St w0 [] ([] ++ hv) w ∧ (m2 = s.size % 9 - k ∧ k ≤ s.size % 9 ∧ t = A.length ∧ Lim A ∧ A.length ≤ k ∧ lv A = dv s k ∧ Gr .u32 57 ga gc A hv)) (s.size % 9) ⟨_, 0, 0, none, 0, [], [], fr_reb _ ⟨rfl, rfl, rfl, rfl, rfl, rfl, trivial⟩, hS1, ?_⟩ ?_
              · exact ⟨rfl, Nat.zero_le _, rfl, lim_nil, by simp, rfl, .nil⟩
              · intro m2 _ w2 hI2
                obtain ⟨G23, k, t, ga, gc, A, hv, rfl, hS2, ⟨hm, hk, ht, hAlim, hAk, hAv, hG⟩⟩ := hI2
                refine wp_seq ?_
                refine k_reg ?_
                by_cases c8 : k < s.size % 9
                · refine s_val hS2 rfl rfl (r_cmp_t rfl rfl (.t rfl rfl) (.t rfl rfl) (show ((k : Nat) : Int) < ((s.size % 9 : Nat) : Int) from by omega)) ?_
                  refine wpList_nil ?_
                  refine x_tn ?_
                  refine wp_seq ?_
                  refine k_t (.t rfl rfl) ?_
                  refine wp_skip ?_
                  refine x_tn ?_
                  refine k_reb [(0, .string s), (2, .slice none 0 0), (3, .int .i64 0), (5, .slice ga t gc), (43, .int .i64 (((s.size % 9 : Nat) : Int))), (44, .int .i64 (((k : Nat) : Int)))] ⟨rfl, rfl, rfl, rfl, rfl, rfl, trivial⟩ fun G24 => ?_
                  refine wp_seq ?_
                  refine wp_block ?_
                  refine wp_seq ?_
                  refine k_reg ?_
                  refine s_val hS2 rfl rfl (r_move rfl (.t rfl rfl)) ?_
                  refine s_val hS2 rfl rfl (r_assign rfl (.t rfl rfl)) ?_
                  refine wpList_nil ?_
                  refine x_tn ?_
                  refine k_reb [(0, .string s), (2, .slice none 0 0), (3, .int .i64 0), (5, .slice ga t gc), (6, .int .i64 (((k : Nat) : Int))), (43, .int .i64 (((s.size % 9 : Nat) : Int))), (44, .int .i64 (((k : Nat) : Int)))] ⟨rfl, rfl, rfl, rfl, rfl, rfl, rfl, trivial⟩ fun G25 => ?_
                  refine k_reg ?_
                  refine s_val hS2 rfl rfl (r_move rfl (.t rfl rfl)) ?_
                  refine s_val hS2 rfl rfl (r_move rfl (.t rfl rfl)) ?_
                  refine s_val hS2 rfl rfl (r_move rfl (.t rfl rfl)) ?_
                  refine s_val hS2 rfl rfl (r_idxs (j := k) (c := ch s k) rfl Try.underlying9 (.t rfl rfl) (.t rfl rfl) rfl (byte_at (by omega)) (byte_lt _)) ?_
                  have hc9 := hok.2.2 k (by omega)
                  refine s_val hS2 rfl rfl (r_arith rfl rfl (.t rfl rfl) .c (c := (((ch s k) - 48 : Nat) : Int)) (wn_u8 (by show (((ch s k : Nat) : Int) : Int) - 48 = _; omega) (by omega))) ?_
                  refine s_val hS2 rfl rfl (r_conv rfl Try.underlying5 Try.underlying40 (.t rfl rfl) (c := (((ch s k) - 48 : Nat) : Int)) (wn_u64 rfl (by omega))) ?_
                  refine s_call rfl rfl rfl (vs := [.slice ga t gc, .int .u64 10, .int .u64 ((((ch s k) - 48 : Nat) : Int))]) ⟨(.t rfl rfl), .c, (.t rfl rfl), trivial⟩ cb50 (times_gr w2 ga gc A hv hG (fun p hp => hS2.own p (List.mem_append_right _ hp)) hAlim t ht (by omega) 10 ((ch s k) - 48) (by omega) (by omega)) ?_
                  rintro _ w3 ⟨A1, a1, c9, gh1, rfl, hG1, hT1, hLm1, hLn1, hLv1⟩
                  have hS3 := St.splice (h1 := []) hS2 hT1
                  refine s_val hS3 rfl rfl (r_assign rfl (.t rfl rfl)) ?_
                  refine wpList_nil ?_
                  refine x_bn ?_
                  refine x_tn ?_
                  refine k_reb [(0, .string s), (2, .slice none 0 0), (3, .int .i64 0), (5, .slice a1 A1.length c9), (43, .int .i64 (((s.size % 9 : Nat) : Int))), (44, .int .i64 (((k : Nat) : Int)))] ⟨rfl, rfl, rfl, rfl, rfl, rfl, trivial⟩ fun G26 => ?_
                  refine k_reg ?_
                  refine s_val hS3 rfl rfl (r_arith rfl rfl (.t rfl rfl) .c (c := ((k + 1 : Nat) : Int)) (wn_i64 (by show (((k : Nat) : Int) : Int) + 1 = _; omega) (by omega))) ?_
                  refine s_val hS3 rfl rfl (r_move rfl (.t rfl rfl)) ?_
                  refine wpList_nil ?_
                  refine x_tn ?_
                  refine ⟨s.size % 9 - (k + 1), by omega, _, k + 1, A1.length, a1, c9, A1, gh1, fr_reb _ ⟨rfl, rfl, rfl, rfl, rfl, rfl, trivial⟩, hS3, ?_⟩
                  exact ⟨by omega, by omega, rfl, hLm1, by omega, by rw [hLv1, hAv]; simp only [dv]; omega, hG1⟩
                · refine s_val hS2 rfl rfl (r_cmp_f rfl rfl (.t rfl rfl) (.t rfl rfl) (show ¬ (((k : Nat) : Int) < ((s.size % 9 : Nat) : Int)) from by omega)) ?_
                  refine wpList_nil ?_
                  refine x_tn ?_
                  refine wp_seq ?_
                  refine k_f (.t rfl rfl) ?_
                  refine wp_exit ?_
                  refine x_te ?_
                  refine x_te ?_
                  refine x_be ?_
                  refine x_tn ?_
                  refine k_reb [(0, .string s), (2, .slice none 0 0), (3, .int .i64 0), (5, .slice ga t gc)] ⟨rfl, rfl, rfl, rfl, trivial⟩ fun G27 => ?_
                  refine wp_seq ?_
                  refine wp_seq ?_
                  refine k_reg ?_
                  refine s_val hS2 rfl rfl (r_move rfl (.t rfl rfl)) ?_
                  refine s_val hS2 rfl rfl (r_lens rfl rfl Try.underlying9 (.t rfl rfl)) ?_
                  refine s_val hS2 rfl rfl (r_rem (b := ((9 : Nat) : Int)) rfl (.t rfl rfl) .c (nz_nat (by omega)) (c := ((s.size % 9 : Nat) : Int)) tmod_nat) ?_
                  refine s_val hS2 rfl rfl (r_assign rfl (.t rfl rfl)) ?_
                  refine wpList_nil ?_
                  refine x_tn ?_
                  refine k_reb [(0, .string s), (2, .slice none 0 0), (3, .int .i64 0), (5, .slice ga t gc), (7, .int .i64 (((s.size % 9 : Nat) : Int)))] ⟨rfl, rfl, rfl, rfl, rfl, trivial⟩ fun G28 => ?_
                  refine wp_block ?_
                  refine wp_loop_ghost (fun (m3 : Nat) a w => ∃ (G : Nat → Value) (i : Nat) (t : Nat) (ga : Option Addr) (gc : Nat) (A : List Nat) (hv : Hp), a = fr 85 [(0, .string s), (2, .slice none 0 0), (3, .int .i64 0), (5, .slice ga t gc), (7, .int .i64 (((i : Nat) : Int)))] G ∧ St w0 [] ([] ++ hv) w ∧ (m3 = s.size - i ∧ i ≤ s.size ∧ (s.size - i) % 9 = 0 ∧ t = A.length ∧ Lim A ∧ A.length ≤ i ∧ lv A = dv s i ∧ Gr .u32 57 ga gc A hv)) (s.size - s.size % 9) ⟨_, s.size % 9, t, ga, gc, A, hv, fr_reb _ ⟨rfl, rfl, rfl, rfl, rfl, trivial⟩, hS2, ?_⟩ ?_
                  · obtain rfl : k = s.size % 9 := by omega
                    exact ⟨by omega, by omega, by omega, ht, hAlim, hAk, hAv, hG⟩
                  · intro m3 _ w4 hI3
                    obtain ⟨G29, i, t, ga, gc, A, hv, rfl, hS4, ⟨hm, hi, hi9, ht, hAlim, hAk, hAv, hG⟩⟩ := hI3
                    refine wp_seq ?_
                    refine wp_seq ?_
                    refine k_reg ?_
                    refine s_val hS4 rfl rfl (r_move rfl (.t rfl rfl)) ?_
                    refine s_val hS4 rfl rfl (r_move rfl (.t rfl rfl)) ?_
                    refine s_val hS4 rfl rfl (r_lens rfl rfl Try.underlying9 (.t rfl rfl)) ?_
                    by_cases c10 : i < s.size
                    · refine s_val hS4 rfl rfl (r_cmp_t rfl rfl (.t rfl rfl) (.t rfl rfl) (show ((i : Nat) : Int) < ((s.size : Nat) : Int) from by omega)) ?_
                      refine wpList_nil ?_
                      refine x_tn ?_
                      refine k_reb [(0, .string s), (2, .slice none 0 0), (3, .int .i64 0), (5, .slice ga t gc), (7, .int .i64 (((i : Nat) : Int))), (61, .bool true)] ⟨rfl, rfl, rfl, rfl, rfl, rfl, trivial⟩ fun G30 => ?_
                      refine k_t (.t rfl rfl) ?_
                      refine wp_skip ?_
                      refine x_tn ?_
                      refine k_reb [(0, .string s), (2, .slice none 0 0), (3, .int .i64 0), (5, .slice ga t gc), (7, .int .i64 (((i : Nat) : Int)))] ⟨rfl, rfl, rfl, rfl, rfl, trivial⟩ fun G31 => ?_
                      refine wp_seq ?_
                      refine wp_block ?_
                      refine wp_seq ?_
                      refine k_reg ?_
                      refine s_val hS4 rfl rfl (r_assign rfl .c) ?_
                      refine wpList_nil ?_
                      refine x_tn ?_
                      refine wp_seq ?_
                      refine wp_seq ?_
                      refine k_reg ?_
                      refine s_val hS4 rfl rfl (r_move rfl .c) ?_
                      refine wpList_nil ?_
                      refine x_tn ?_
                      refine wp_block ?_
                      refine wp_loop_ghost (fun (m4 : Nat) a w => ∃ (G : Nat → Value) (j : Nat) (g : Nat), a = fr 85 [(0, .string s), (2, .slice none 0 0), (3, .int .i64 0), (5, .slice ga t gc), (7, .int .i64 (((i : Nat) : Int))), (8, .int .u64 (((g : Nat) : Int))), (64, .int .i64 (((j : Nat) : Int)))] G ∧ St w0 [] ([] ++ hv) w ∧ (m4 = 9 - j ∧ j ≤ 9 ∧ g + 1 ≤ 10 ^ j ∧ g + dv s i * 10 ^ j = dv s (i + j))) (9) ⟨_, 0, 0, fr_reb _ ⟨rfl, rfl, rfl, rfl, rfl, rfl, rfl, trivial⟩, hS4, ?_⟩ ?_
                      · exact ⟨rfl, by omega, by simp, by simp⟩
                      · intro m4 _ w5 hI4
                        obtain ⟨G32, j, g, rfl, hS5, ⟨hmj, hj, hg, hgv⟩⟩ := hI4
                        refine wp_seq ?_
                        refine k_reg ?_
                        by_cases c11 : j < 9
                        · refine s_val hS5 rfl rfl (r_cmp_t rfl rfl (.t rfl rfl) .c (show ((j : Nat) : Int) < 9 from by omega)) ?_
                          refine wpList_nil ?_
                          refine x_tn ?_
                          refine wp_seq ?_
                          refine k_t (.t rfl rfl) ?_
                          refine wp_skip ?_
                          refine x_tn ?_
                          refine k_reb [(0, .string s), (2, .slice none 0 0), (3, .int .i64 0), (5, .slice ga t gc), (7, .int .i64 (((i : Nat) : Int))), (8, .int .u64 (((g : Nat) : Int))), (64, .int .i64 (((j : Nat) : Int)))] ⟨rfl, rfl, rfl, rfl, rfl, rfl, rfl, trivial⟩ fun G33 => ?_
                          refine wp_seq ?_
                          refine wp_block ?_
                          refine wp_seq ?_
                          refine k_reg ?_
                          refine s_val hS5 rfl rfl (r_move rfl (.t rfl rfl)) ?_
                          refine s_val hS5 rfl rfl (r_assign rfl (.t rfl rfl)) ?_
                          refine wpList_nil ?_
                          refine x_tn ?_
                          refine k_reb [(0, .string s), (2, .slice none 0 0), (3, .int .i64 0), (5, .slice ga t gc), (7, .int .i64 (((i : Nat) : Int))), (8, .int .u64 (((g : Nat) : Int))), (9, .int .i64 (((j : Nat) : Int))), (64, .int .i64 (((j : Nat) : Int)))] ⟨rfl, rfl, rfl, rfl, rfl, rfl, rfl, rfl, trivial⟩ fun G34 => ?_
                          refine k_reg ?_
                          refine s_val hS5 rfl rfl (r_move rfl (.t rfl rfl)) ?_
                          have hp10 : 10 ^ j ≤ 100000000 := Nat.pow_le_pow_right (show 0 < 10 by omega) (show j ≤ 8 by omega)
                          refine s_val hS5 rfl rfl (r_arith rfl rfl .c (.t rfl rfl) (c := ((10 * g : Nat) : Int)) (wn_u64 (Int.natCast_mul _ _).symm (by omega))) ?_
                          refine s_val hS5 rfl rfl (r_move rfl (.t rfl rfl)) ?_
                          refine s_val hS5 rfl rfl (r_move rfl (.t rfl rfl)) ?_
                          refine s_val hS5 rfl rfl (r_move rfl (.t rfl rfl)) ?_
                          refine s_val hS5 rfl rfl (r_arith rfl rfl (.t rfl rfl) (.t rfl rfl) (c := ((i + j : Nat) : Int)) (wn_i64 (by show (((i : Nat) : Int) : Int) + ((j : Nat) : Int) = _; omega) (by omega))) ?_
                          refine s_val hS5 rfl rfl (r_idxs (j := i + j) (c := ch s (i + j)) rfl Try.underlying9 (.t rfl rfl) (.t rfl rfl) rfl (byte_at (by omega)) (byte_lt _)) ?_
                          have hc9 := hok.2.2 (i + j) (by omega)
                          refine s_val hS5 rfl rfl (r_arith rfl rfl (.t rfl rfl) .c (c := (((ch s (i + j)) - 48 : Nat) : Int)) (wn_u8 (by show (((ch s (i + j) : Nat) : Int) : Int) - 48 = _; omega) (by omega))) ?_
                          refine s_val hS5 rfl rfl (r_conv rfl Try.underlying5 Try.underlying40 (.t rfl rfl) (c := (((ch s (i + j)) - 48 : Nat) : Int)) (wn_u64 rfl (by omega))) ?_
                          refine s_val hS5 rfl rfl (r_arith rfl rfl (.t rfl rfl) (.t rfl rfl) (c := (((10 * g) + ((ch s (i + j)) - 48) : Nat) : Int)) (wn_u64 (by show (((10 * g : Nat) : Int) : Int) + (((ch s (i + j)) - 48 : Nat) : Int) = _; omega) (by omega))) ?_
                          refine s_val hS5 rfl rfl (r_assign rfl (.t rfl rfl)) ?_
                          refine wpList_nil ?_
                          refine x_bn ?_
                          refine x_tn ?_
                          refine k_reb [(0, .string s), (2, .slice none 0 0), (3, .int .i64 0), (5, .slice ga t gc), (7, .int .i64 (((i : Nat) : Int))), (8, .int .u64 ((((10 * g) + ((ch s (i + j)) - 48) : Nat) : Int))), (64, .int .i64 (((j : Nat) : Int)))] ⟨rfl, rfl, rfl, rfl, rfl, rfl, rfl, trivial⟩ fun G35 => ?_
                          refine k_reg ?_
                          refine s_val hS5 rfl rfl (r_arith rfl rfl (.t rfl rfl) .c (c := ((j + 1 : Nat) : Int)) (wn_i64 (by show (((j : Nat) : Int) : Int) + 1 = _; omega) (by omega))) ?_
                          refine s_val hS5 rfl rfl (r_move rfl (.t rfl rfl)) ?_
                          refine wpList_nil ?_
                          refine x_tn ?_
                          refine ⟨9 - (j + 1), by omega, _, j + 1, 10 * g + (ch s (i + j) - 48), fr_reb _ ⟨rfl, rfl, rfl, rfl, rfl, rfl, rfl, trivial⟩, hS5, ?_⟩
                          exact ⟨by omega, by omega, by rw [Nat.pow_succ]; omega, dv_nine s i j g hgv⟩
                        · refine s_val hS5 rfl rfl (r_cmp_f rfl rfl (.t rfl rfl) .c (show ¬ (((j : Nat) : Int) < 9) from by omega)) ?_
                          refine wpList_nil ?_
                          refine x_tn ?_
                          refine wp_seq ?_
                          refine k_f (.t rfl rfl) ?_
                          refine wp_exit ?_
                          refine x_te ?_
                          refine x_te ?_
                          refine x_be ?_
                          refine x_tn ?_
                          refine k_reb [(0, .string s), (2, .slice none 0 0), (3, .int .i64 0), (5, .slice ga t gc), (7, .int .i64 (((i : Nat) : Int))), (8, .int .u64 (((g : Nat) : Int)))] ⟨rfl, rfl, rfl, rfl, rfl, rfl, trivial⟩ fun G36 => ?_
                          refine k_reg ?_
                          refine s_val hS5 rfl rfl (r_move rfl (.t rfl rfl)) ?_
                          obtain rfl : j = 9 := by omega
                          refine s_val hS5 rfl rfl (r_move rfl (.t rfl rfl)) ?_
                          refine s_call rfl rfl rfl (vs := [.slice ga t gc, .int .u64 1000000000, .int .u64 (((g : Nat) : Int))]) ⟨(.t rfl rfl), .c, (.t rfl rfl), trivial⟩ cb50 (times_gr w5 ga gc A hv hG (fun p hp => hS5.own p (List.mem_append_right _ hp)) hAlim t ht (by omega) 1000000000 g (by omega) (by omega)) ?_
                          rintro _ w6 ⟨A2, a2, c12, gh2, rfl, hG2, hT2, hLm2, hLn2, hLv2⟩
                          have hS6 := St.splice (h1 := []) hS5 hT2
                          refine s_val hS6 rfl rfl (r_assign rfl (.t rfl rfl)) ?_
                          refine wpList_nil ?_
                          refine x_bn ?_
                          refine x_tn ?_
                          refine k_reb [(0, .string s), (2, .slice none 0 0), (3, .int .i64 0), (5, .slice a2 A2.length c12), (7, .int .i64 (((i : Nat) : Int)))] ⟨rfl, rfl, rfl, rfl, rfl, trivial⟩ fun G37 => ?_
                          refine k_reg ?_
                          refine s_val hS6 rfl rfl (r_move rfl (.t rfl rfl)) ?_
                          refine s_val hS6 rfl rfl (r_arith rfl rfl (.t rfl rfl) .c (c := ((i + 9 : Nat) : Int)) (wn_i64 (by show (((i : Nat) : Int) : Int) + 9 = _; omega) (by omega))) ?_
                          refine s_val hS6 rfl rfl (r_assign rfl (.t rfl rfl)) ?_
                          refine wpList_nil ?_
                          refine x_tn ?_
                          refine ⟨s.size - (i + 9), by omega, _, i + 9, A2.length, a2, c12, A2, gh2, fr_reb _ ⟨rfl, rfl, rfl, rfl, rfl, trivial⟩, hS6, ?_⟩
                          exact ⟨by omega, by omega, by omega, rfl, hLm2, by omega, by rw [hLv2, hAv]; omega, hG2⟩
                    · refine s_val hS4 rfl rfl (r_cmp_f rfl rfl (.t rfl rfl) (.t rfl rfl) (show ¬ (((i : Nat) : Int) < ((s.size : Nat) : Int)) from by omega)) ?_
                      refine wpList_nil ?_
                      refine x_tn ?_
                      refine k_reb [(0, .string s), (2, .slice none 0 0), (3, .int .i64 0), (5, .slice ga t gc), (7, .int .i64 (((i : Nat) : Int))), (61, .bool false)] ⟨rfl, rfl, rfl, rfl, rfl, rfl, trivial⟩ fun G38 => ?_
                      refine k_f (.t rfl rfl) ?_
                      refine wp_exit ?_
                      refine x_te ?_
                      refine x_te ?_
                      refine x_be ?_
                      refine x_tn ?_
                      refine k_reb [(2, .slice none 0 0), (3, .int .i64 0), (5, .slice ga t gc)] ⟨rfl, rfl, rfl, trivial⟩ fun G39 => ?_
                      refine wp_seq ?_
                      refine k_reg ?_
                      have hR1 := hG.rd hS4 (by omega) hAlim
                      have hW1 := Ow.of_gr hG hS4 ht (by omega) hAlim
                      refine s_val hS4 rfl rfl (Rn.asS (p' := A.length) (q' := gc) (by omega) rfl (r_move rfl (.t rfl rfl))) ?_
                      refine s_call rfl rfl rfl (vs := [.slice ga A.length gc]) ⟨(.t rfl rfl), trivial⟩ cb44 (normal_any w4 ga gc A hR1 (by omega)) ?_
                      intro v1 w7 hp1
                      obtain ⟨hp1, hB1⟩ := hp1
                      have hS7 := hS4.keep hB1
                      replace hB1 := hB1.toBelow
                      have hR2 := hR1.below hB1 (Nat.le_refl _)
                      have hW2 := hW1.later hB1
                      rcases hp1 with ⟨R1, X1, hE1, hNR1, hlR1, ht1, rfl⟩ | ⟨ht1, rfl⟩
                      · have hnR1 := hNR1.len
                        have hR3 := Rd.front_eq hE1 hR2
                        have hW3 := Ow.front_eq hE1 hW2
                        refine s_val hS7 rfl rfl (r_extract rfl (.t rfl rfl) rfl) ?_
                        refine s_val hS7 rfl rfl (r_extract rfl (.t rfl rfl) rfl) ?_
                        refine s_val hS7 rfl rfl (r_assign rfl (.t rfl rfl)) ?_
                        refine s_val hS7 rfl rfl (r_assign rfl (.t rfl rfl)) ?_
                        refine wpList_nil ?_
                        refine x_tn ?_
                        refine k_reb [(2, .slice ga R1.length R1.length), (3, .int .i64 0)] ⟨rfl, rfl, trivial⟩ fun G40 => ?_
                        refine wp_ret ?_
                        refine k_ret2 Try.results25 rfl rfl rfl rfl ?_
                        refine ⟨_, rfl, ?_⟩
                        obtain rfl : i = s.size := by omega
                        exact .inr (.inr ⟨hok, by omega, .inl ⟨by rw [← hAv]; exact ht1, R1, _, rfl, hW3, hNR1, by rw [hlR1, hAv]⟩⟩)
                      · refine s_val hS7 rfl rfl (r_extract rfl (.t rfl rfl) rfl) ?_
                        refine s_val hS7 rfl rfl (r_extract rfl (.t rfl rfl) rfl) ?_
                        refine s_val hS7 rfl rfl (r_assign rfl (.t rfl rfl)) ?_
                        refine s_val hS7 rfl rfl (r_assign rfl (.t rfl rfl)) ?_
                        refine wpList_nil ?_
                        refine x_tn ?_
                        refine k_reb [(2, .slice none 0 0), (3, .int .i64 21)] ⟨rfl, rfl, trivial⟩ fun G41 => ?_
                        refine wp_ret ?_
                        refine k_ret2 Try.results25 rfl rfl rfl rfl ?_
                        refine ⟨_, rfl, ?_⟩
                        obtain rfl : i = s.size := by omega
                        exact .inr (.inr ⟨hok, by omega, .inr ⟨by rw [← hAv]; exact ht1, rfl, hS7.none⟩⟩)
    · refine s_valg hS (wanted_of (j := 2) (b := false) (d := 12) rfl rfl rfl rfl) rfl (r_cmp_f rfl rfl (.t rfl rfl) .c (show ¬ (((ch s 0 : Nat) : Int) = 48) from by omega)) ?_
      refine s_valg hS (wanted_of (j := 2) (b := false) (d := 12) rfl rfl rfl rfl) rfl (r_move rfl (.t rfl rfl)) ?_
      refine s_skip (unwanted_of (j := 6) (b := true) (b' := false) (d := 16) rfl rfl rfl rfl rfl) rfl ?_
      refine s_skip (unwanted_of (j := 6) (b := true) (b' := false) (d := 16) rfl rfl rfl rfl rfl) rfl ?_
      refine s_skip (unwanted_of (j := 6) (b := true) (b' := false) (d := 16) rfl rfl rfl rfl rfl) rfl ?_
      refine s_valg hS (wanted_of (j := 2) (b := false) (d := 12) rfl rfl rfl rfl) rfl (r_pick rfl (.t rfl rfl) .c) ?_
      refine s_val hS rfl rfl (r_pick rfl (.t rfl rfl) (.t rfl rfl)) ?_
      refine wpList_nil ?_
      refine x_tn ?_
      refine k_reb [(0, .string s), (2, .slice none 0 0), (3, .int .i64 0), (21, .bool false)] ⟨rfl, rfl, rfl, rfl, trivial⟩ fun G42 => ?_
      refine k_f (.t rfl rfl) ?_
      refine wp_skip ?_
      refine x_tn ?_
      refine k_reb [(0, .string s), (2, .slice none 0 0), (3, .int .i64 0)] ⟨rfl, rfl, rfl, trivial⟩ fun G43 => ?_
      refine wp_seq ?_
      refine wp_seq ?_
      refine k_reg ?_
      refine s_val hS rfl rfl (r_move rfl (.t rfl rfl)) ?_
      refine s_val hS rfl rfl (r_lens rfl rfl Try.underlying9 (.t rfl rfl)) ?_
      refine s_val hS rfl rfl (r_move rfl .c) ?_
      refine wpList_nil ?_
      refine x_tn ?_
      refine k_reb [(0, .string s), (2, .slice none 0 0), (3, .int .i64 0), (23, .int .i64 (((s.size : Nat) : Int))), (24, .int .i64 0)] ⟨rfl, rfl, rfl, rfl, rfl, trivial⟩ fun G44 => ?_
      refine wp_block ?_
      refine wp_loop_ghost (fun (m5 : Nat) a w => ∃ (G : Nat → Value) (i : Nat), a = fr 85 [(0, .string s), (2, .slice none 0 0), (3, .int .i64 0), (23, .int .i64 (((s.size : Nat) : Int))), (24, .int .i64 (((i : Nat) : Int)))] G ∧ St w0 [] [] w ∧ (m5 = s.size - i ∧ i ≤ s.size ∧ ∀ j, j < i → 48 ≤ ch s j ∧ ch s j ≤ 57)) (s.size) ⟨_, 0, fr_reb _ ⟨rfl, rfl, rfl, rfl, rfl, trivial⟩, hS, ?_⟩ ?_
      · exact ⟨rfl, Nat.zero_le _, fun j hj => absurd hj (Nat.not_lt_zero _)⟩
      · intro m5 _ w8 hI5
        obtain ⟨G45, i, rfl, hS8, ⟨hm, hi, he⟩⟩ := hI5
        refine wp_seq ?_
        refine k_reg ?_
        by_cases c13 : i < s.size
        · refine s_val hS8 rfl rfl (r_cmp_t rfl rfl (.t rfl rfl) (.t rfl rfl) (show ((i : Nat) : Int) < ((s.size : Nat) : Int) from by omega)) ?_
          refine wpList_nil ?_
          refine x_tn ?_
          refine wp_seq ?_
          refine k_t (.t rfl rfl) ?_
          refine wp_skip ?_
          refine x_tn ?_
          refine k_reb [(0, .string s), (2, .slice none 0 0), (3, .int .i64 0), (23, .int .i64 (((s.size : Nat) : Int))), (24, .int .i64 (((i : Nat) : Int)))] ⟨rfl, rfl, rfl, rfl, rfl, trivial⟩ fun G46 => ?_
          refine wp_seq ?_
          refine wp_block ?_
          refine wp_seq ?_
          refine k_reg ?_
          refine s_val hS8 rfl rfl (r_move rfl (.t rfl rfl)) ?_
          refine s_val hS8 rfl rfl (r_assign rfl (.t rfl rfl)) ?_
          refine wpList_nil ?_
          refine x_tn ?_
          refine k_reb [(0, .string s), (2, .slice none 0 0), (3, .int .i64 0), (4, .int .i64 (((i : Nat) : Int))), (23, .int .i64 (((s.size : Nat) : Int))), (24, .int .i64 (((i : Nat) : Int)))] ⟨rfl, rfl, rfl, rfl, rfl, rfl, trivial⟩ fun G47 => ?_
          refine wp_seq ?_
          refine k_reg ?_
          refine s_val hS8 rfl rfl (r_move rfl (.t rfl rfl)) ?_
          refine s_val hS8 rfl rfl (r_move rfl (.t rfl rfl)) ?_
          refine s_val hS8 rfl rfl (r_idxs (j := i) (c := ch s i) rfl Try.underlying9 (.t rfl rfl) (.t rfl rfl) rfl (byte_at (by omega)) (byte_lt _)) ?_
          by_cases c14 : ch s i < 48
          · refine s_val hS8 rfl rfl (r_cmp_t rfl rfl (.t rfl rfl) .c (show ((ch s i : Nat) : Int) < 48 from by omega)) ?_
            refine s_val hS8 rfl rfl (r_move rfl (.t rfl rfl)) ?_
            refine s_skip (unwanted_of (j := 4) (b := false) (b' := true) (d := 31) rfl rfl rfl rfl rfl) rfl ?_
            refine s_skip (unwanted_of (j := 4) (b := false) (b' := true) (d := 31) rfl rfl rfl rfl rfl) rfl ?_
            refine s_skip (unwanted_of (j := 4) (b := false) (b' := true) (d := 31) rfl rfl rfl rfl rfl) rfl ?_
            refine s_skip (unwanted_of (j := 4) (b := false) (b' := true) (d := 31) rfl rfl rfl rfl rfl) rfl ?_
            refine s_val hS8 rfl rfl (r_pick rfl (.t rfl rfl) .c) ?_
            refine wpList_nil ?_
            refine x_tn ?_
            refine k_reb [(0, .string s), (2, .slice none 0 0), (3, .int .i64 0), (23, .int .i64 (((s.size : Nat) : Int))), (24, .int .i64 (((i : Nat) : Int))), (36, .bool true)] ⟨rfl, rfl, rfl, rfl, rfl, rfl, trivial⟩ fun G48 => ?_
            refine k_t (.t rfl rfl) ?_
            refine wp_seq ?_
            refine k_reg ?_
            refine s_val hS8 rfl rfl (r_assign rfl .c) ?_
            refine s_val hS8 rfl rfl (r_assign rfl .c) ?_
            refine wpList_nil ?_
            refine x_tn ?_
            refine k_reb [(0, .string s), (2, .slice none 0 0), (3, .int .i64 25), (23, .int .i64 (((s.size : Nat) : Int))), (24, .int .i64 (((i : Nat) : Int)))] ⟨rfl, rfl, rfl, rfl, rfl, trivial⟩ fun G49 => ?_
            refine wp_ret ?_
            refine x_br ?_
            refine x_tr ?_
            refine x_tr ?_
            refine x_br ?_
            refine x_tr ?_
            refine k_ret2 Try.results25 rfl rfl rfl rfl ?_
            refine ⟨_, rfl, ?_⟩
            exact .inl ⟨fun h => by
              obtain ⟨h1, h2, h3⟩ := h
              first | omega | (have h4 := h3 i (by omega); omega), rfl, hS8⟩
          · refine s_val hS8 rfl rfl (r_cmp_f rfl rfl (.t rfl rfl) .c (show ¬ (((ch s i : Nat) : Int) < 48) from by omega)) ?_
            refine s_val hS8 rfl rfl (r_move rfl (.t rfl rfl)) ?_
            refine s_valg hS8 (wanted_of (j := 4) (b := false) (d := 31) rfl rfl rfl rfl) rfl (r_move rfl (.t rfl rfl)) ?_
            refine s_valg hS8 (wanted_of (j := 4) (b := false) (d := 31) rfl rfl rfl rfl) rfl (r_move rfl (.t rfl rfl)) ?_
            refine s_valg hS8 (wanted_of (j := 4) (b := false) (d := 31) rfl rfl rfl rfl) rfl (r_idxs (j := i) (c := ch s i) rfl Try.underlying9 (.t rfl rfl) (.t rfl rfl) rfl (byte_at (by omega)) (byte_lt _)) ?_
            by_cases c15 : ch s i > 57
            · refine s_valg hS8 (wanted_of (j := 4) (b := false) (d := 31) rfl rfl rfl rfl) rfl (r_cmp_t rfl rfl (.t rfl rfl) .c (show ((ch s i : Nat) : Int) > 57 from by omega)) ?_
              refine s_val hS8 rfl rfl (r_pick rfl (.t rfl rfl) (.t rfl rfl)) ?_
              refine wpList_nil ?_
              refine x_tn ?_
              refine k_reb [(0, .string s), (2, .slice none 0 0), (3, .int .i64 0), (23, .int .i64 (((s.size : Nat) : Int))), (24, .int .i64 (((i : Nat) : Int))), (36, .bool true)] ⟨rfl, rfl, rfl, rfl, rfl, rfl, trivial⟩ fun G50 => ?_
              refine k_t (.t rfl rfl) ?_
              refine wp_seq ?_
              refine k_reg ?_
              refine s_val hS8 rfl rfl (r_assign rfl .c) ?_
              refine s_val hS8 rfl rfl (r_assign rfl .c) ?_
              refine wpList_nil ?_
              refine x_tn ?_
              refine k_reb [(0, .string s), (2, .slice none 0 0), (3, .int .i64 25), (23, .int .i64 (((s.size : Nat) : Int))), (24, .int .i64 (((i : Nat) : Int)))] ⟨rfl, rfl, rfl, rfl, rfl, trivial⟩ fun G51 => ?_
              refine wp_ret ?_
              refine x_br ?_
              refine x_tr ?_
              refine x_tr ?_
              refine x_br ?_
              refine x_tr ?_
              refine k_ret2 Try.results25 rfl rfl rfl rfl ?_
              refine ⟨_, rfl, ?_⟩
              exact .inl ⟨fun h => by
                obtain ⟨h1, h2, h3⟩ := h
                first | omega | (have h4 := h3 i (by omega); omega), rfl, hS8⟩
            · refine s_valg hS8 (wanted_of (j := 4) (b := false) (d := 31) rfl rfl rfl rfl) rfl (r_cmp_f rfl rfl (.t rfl rfl) .c (show ¬ (((ch s i : Nat) : Int) > 57) from by omega)) ?_
              refine s_val hS8 rfl rfl (r_pick rfl (.t rfl rfl) (.t rfl rfl)) ?_
              refine wpList_nil ?_
              refine x_tn ?_
              refine k_reb [(0, .string s), (2, .slice none 0 0), (3, .int .i64 0), (23, .int .i64 (((s.size : Nat) : Int))), (24, .int .i64 (((i : Nat) : Int))), (36, .bool false)] ⟨rfl, rfl, rfl, rfl, rfl, rfl, trivial⟩ fun G52 => ?_
              refine k_f (.t rfl rfl) ?_
              refine wp_skip ?_
              refine x_bn ?_
              refine x_tn ?_
              refine k_reb [(0, .string s), (2, .slice none 0 0), (3, .int .i64 0), (23, .int .i64 (((s.size : Nat) : Int))), (24, .int .i64 (((i : Nat) : Int)))] ⟨rfl, rfl, rfl, rfl, rfl, trivial⟩ fun G53 => ?_
              refine k_reg ?_
              refine s_val hS8 rfl rfl (r_arith rfl rfl (.t rfl rfl) .c (c := ((i + 1 : Nat) : Int)) (wn_i64 (by show (((i : Nat) : Int) : Int) + 1 = _; omega) (by omega))) ?_
              refine s_val hS8 rfl rfl (r_move rfl (.t rfl rfl)) ?_
              refine wpList_nil ?_
              refine x_tn ?_
              refine ⟨s.size - (i + 1), by omega, _, i + 1, fr_reb _ ⟨rfl, rfl, rfl, rfl, rfl, trivial⟩, hS8, ?_⟩
              exact ⟨by omega, by omega, fun j hj => by
                rcases Nat.lt_or_ge j i with q | q
                · exact he j q
                · rw [show j = i by omega]; omega⟩
        · refine s_val hS8 rfl rfl (r_cmp_f rfl rfl (.t rfl rfl) (.t rfl rfl) (show ¬ (((i : Nat) : Int) < ((s.size : Nat) : Int)) from by omega)) ?_
          refine wpList_nil ?_
          refine x_tn ?_
          refine wp_seq ?_
          refine k_f (.t rfl rfl) ?_
          refine wp_exit ?_
          refine x_te ?_
          refine x_te ?_
          refine x_be ?_
          refine x_tn ?_
          refine k_reb [(0, .string s), (2, .slice none 0 0), (3, .int .i64 0)] ⟨rfl, rfl, rfl, trivial⟩ fun G54 => ?_
          refine wp_seq ?_
          refine wp_seq ?_
          refine k_reg ?_
          refine s_val hS8 rfl rfl (r_move rfl (.t rfl rfl)) ?_
          refine s_val hS8 rfl rfl (r_lens rfl rfl Try.underlying9 (.t rfl rfl)) ?_
          have hok : okT s := ⟨by omega, by omega, fun j hj => he j (by omega)⟩
          by_cases c16 : s.size > 81920
          · refine s_val hS8 rfl rfl (r_cmp_t rfl rfl (.t rfl rfl) .c (show ((s.size : Nat) : Int) > 81920 from by omega)) ?_
            refine wpList_nil ?_
            refine x_tn ?_
            refine k_reb [(0, .string s), (2, .slice none 0 0), (3, .int .i64 0), (40, .bool true)] ⟨rfl, rfl, rfl, rfl, trivial⟩ fun G55 => ?_
            refine k_t (.t rfl rfl) ?_
            refine wp_seq ?_
            refine k_reg ?_
            refine s_val hS8 rfl rfl (r_assign rfl .c) ?_
            refine s_val hS8 rfl rfl (r_assign rfl .c) ?_
            refine wpList_nil ?_
            refine x_tn ?_
            refine k_reb [(0, .string s), (2, .slice none 0 0), (3, .int .i64 21)] ⟨rfl, rfl, rfl, trivial⟩ fun G56 => ?_
            refine wp_ret ?_
            refine x_tr ?_
            refine k_ret2 Try.results25 rfl rfl rfl rfl ?_
            refine ⟨_, rfl, ?_⟩
            exact .inr (.inl ⟨hok, by omega, rfl, hS8⟩)
          · refine s_val hS8 rfl rfl (r_cmp_f rfl rfl (.t rfl rfl) .c (show ¬ (((s.size : Nat) : Int) > 81920) from by omega)) ?_
            refine wpList_nil ?_
            refine x_tn ?_
            refine k_reb [(0, .string s), (2, .slice none 0 0), (3, .int .i64 0), (40, .bool false)] ⟨rfl, rfl, rfl, rfl, trivial⟩ fun G57 => ?_
            refine k_f (.t rfl rfl) ?_
            refine wp_skip ?_
            refine x_tn ?_
            refine k_reb [(0, .string s), (2, .slice none 0 0), (3, .int .i64 0)] ⟨rfl, rfl, rfl, trivial⟩ fun G58 => ?_
            refine wp_seq ?_
            refine k_reg ?_
            refine s_val hS8 rfl rfl (r_assign rfl .c) ?_
            refine wpList_nil ?_
            refine x_tn ?_
            refine wp_seq ?_
            refine wp_seq ?_
            refine k_reg ?_
            refine s_val hS8 rfl rfl (r_move rfl (.t rfl rfl)) ?_
            refine s_val hS8 rfl rfl (r_lens rfl rfl Try.underlying9 (.t rfl rfl)) ?_
            refine s_val hS8 rfl rfl (r_rem (b := ((9 : Nat) : Int)) rfl (.t rfl rfl) .c (nz_nat (by omega)) (c := ((s.size % 9 : Nat) : Int)) tmod_nat) ?_
            refine s_val hS8 rfl rfl (r_move rfl .c) ?_
            refine wpList_nil ?_
            refine x_tn ?_
            refine k_reb [(0, .string s), (2, .slice none 0 0), (3, .int .i64 0), (5, .slice none 0 0), (43, .int .i64 (((s.size % 9 : Nat) : Int))), (44, .int .i64 0)] ⟨rfl, rfl, rfl, rfl, rfl, rfl, trivial⟩ fun G59 => ?_
            refine wp_block ?_
            refine wp_loop_ghost (fun (m6 : Nat) a w => ∃ (G : Nat → Value) (k : Nat) (t : Nat) (ga : Option Addr) (gc : Nat) (A : List Nat) (hv : Hp), a = fr 85 [(0, .string s), (2, .slice none 0 0), (3, .int .i64 0), (5, .slice ga t gc), (43, .int .i64 (((s.size % 9 : Nat) : Int))), (44, .int .i64 (((k : Nat) : Int)))] G ∧ St w0 [] ([] ++ hv) w ∧ (m6 = s.size % 9 - k ∧ k ≤ s.size % 9 ∧ t = A.length ∧ Lim A ∧ A.length ≤ k ∧ lv A = dv s k ∧ Gr .u32 57 ga gc A hv)) (s.size % 9) ⟨_, 0, 0, none, 0, [], [], fr_reb _ ⟨rfl, rfl, rfl, rfl, rfl, rfl, trivial⟩, hS8, ?_⟩ ?_
            · exact ⟨rfl, Nat.zero_le _, rfl, lim_nil, by simp, rfl, .nil⟩
            · intro m6 _ w9 hI6
              obtain ⟨G60, k, t, ga, gc, A, hv, rfl, hS9, ⟨hm, hk, ht, hAlim, hAk, hAv, hG⟩⟩ := hI6
              refine wp_seq ?_
              refine k_reg ?_
              by_cases c17 : k < s.size % 9
              · refine s_val hS9 rfl rfl (r_cmp_t rfl rfl (.t rfl rfl) (.t rfl rfl) (show ((k : Nat) : Int) < ((s.size % 9 : Nat) : Int) from by omega)) ?_
                refine wpList_nil ?_
                refine x_tn ?_
                refine wp_seq ?_
                refine k_t (.t rfl rfl) ?_
                refine wp_skip ?_
                refine x_tn ?_
                refine k_reb [(0, .string s), (2, .slice none 0 0), (3, .int .i64 0), (5, .slice ga t gc), (43, .int .i64 (((s.size % 9 : Nat) : Int))), (44, .int .i64 (((k : Nat) : Int)))] ⟨rfl, rfl, rfl, rfl, rfl, rfl, trivial⟩ fun G61 => ?_
                refine wp_seq ?_
                refine wp_block ?_
                refine wp_seq ?_
                refine k_reg ?_
                refine s_val hS9 rfl rfl (r_move rfl (.t rfl rfl)) ?_
                refine s_val hS9 rfl rfl (r_assign rfl (.t rfl rfl)) ?_
                refine wpList_nil ?_
                refine x_tn ?_
                refine k_reb [(0, .string s), (2, .slice none 0 0), (3, .int .i64 0), (5, .slice ga t gc), (6, .int .i64 (((k : Nat) : Int))), (43, .int .i64 (((s.size % 9 : Nat) : Int))), (44, .int .i64 (((k : Nat) : Int)))] ⟨rfl, rfl, rfl, rfl, rfl, rfl, rfl, trivial⟩ fun G62 => ?_
                refine k_reg ?_
                refine s_val hS9 rfl rfl (r_move rfl (.t rfl rfl)) ?_
                refine s_val hS9 rfl rfl (r_move rfl (.t rfl rfl)) ?_
                refine s_val hS9 rfl rfl (r_move rfl (.t rfl rfl)) ?_
                refine s_val hS9 rfl rfl (r_idxs (j := k) (c := ch s k) rfl Try.underlying9 (.t rfl rfl) (.t rfl rfl) rfl (byte_at (by omega)) (byte_lt _)) ?_
                have hc9 := hok.2.2 k (by omega)
                refine s_val hS9 rfl rfl (r_arith rfl rfl (.t rfl rfl) .c (c := (((ch s k) - 48 : Nat) : Int)) (wn_u8 (by show (((ch s k : Nat) : Int) : Int) - 48 = _; omega) (by omega))) ?_
                refine s_val hS9 rfl rfl (r_conv rfl Try.underlying5 Try.underlying40 (.t rfl rfl) (c := (((ch s k) - 48 : Nat) : Int)) (wn_u64 rfl (by omega))) ?_
                refine s_call rfl rfl rfl (vs := [.slice ga t gc, .int .u64 10, .int .u64 ((((ch s k) - 48 : Nat) : Int))]) ⟨(.t rfl rfl), .c, (.t rfl rfl), trivial⟩ cb50 (times_gr w9 ga gc A hv hG (fun p hp => hS9.own p (List.mem_append_right _ hp)) hAlim t ht (by omega) 10 ((ch s k) - 48) (by omega) (by omega)) ?_
                rintro _ w10 ⟨A3, a3, c18, gh3, rfl, hG3, hT3, hLm3, hLn3, hLv3⟩
                have hS10 := St.splice (h1 := []) hS9 hT3
                refine s_val hS10 rfl rfl (r_assign rfl (.t rfl rfl)) ?_
                refine wpList_nil ?_
                refine x_bn ?_
                refine x_tn ?_
                refine k_reb [(0, .string s), (2, .slice none 0 0), (3, .int .i64 0), (5, .slice a3 A3.length c18), (43, .int .i64 (((s.size % 9 : Nat) : Int))), (44, .int .i64 (((k : Nat) : Int)))] ⟨rfl, rfl, rfl, rfl, rfl, rfl, trivial⟩ fun G63 => ?_
                refine k_reg ?_
                refine s_val hS10 rfl rfl (r_arith rfl rfl (.t rfl rfl) .c (c := ((k + 1 : Nat) : Int)) (wn_i64 (by show (((k : Nat) : Int) : Int) + 1 = _; omega) (by omega))) ?_
                refine s_val hS10 rfl rfl (r_move rfl (.t rfl rfl)) ?_
                refine wpList_nil ?_
                refine x_tn ?_
                refine ⟨s.size % 9 - (k + 1), by omega, _, k + 1, A3.length, a3, c18, A3, gh3, fr_reb _ ⟨rfl, rfl, rfl, rfl, rfl, rfl, trivial⟩, hS10, ?_⟩
                exact ⟨by omega, by omega, rfl, hLm3, by omega, by rw [hLv3, hAv]; simp only [dv]; omega, hG3⟩
              · refine s_val hS9 rfl rfl (r_cmp_f rfl rfl (.t rfl rfl) (.t rfl rfl) (show ¬ (((k : Nat) : Int) < ((s.size % 9 : Nat) : Int)) from by omega)) ?_
                refine wpList_nil ?_
                refine x_tn ?_
                refine wp_seq ?_
                refine k_f (.t rfl rfl) ?_
                refine wp_exit ?_
                refine x_te ?_
                refine x_te ?_
                refine x_be ?_
                refine x_tn ?_
                refine k_reb [(0, .string s), (2, .slice none 0 0), (3, .int .i64 0), (5, .slice ga t gc)] ⟨rfl, rfl, rfl, rfl, trivial⟩ fun G64 => ?_
                refine wp_seq ?_
                refine wp_seq ?_
                refine k_reg ?_
                refine s_val hS9 rfl rfl (r_move rfl (.t rfl rfl)) ?_
                refine s_val hS9 rfl rfl (r_lens rfl rfl Try.underlying9 (.t rfl rfl)) ?_
                refine s_val hS9 rfl rfl (r_rem (b := ((9 : Nat) : Int)) rfl (.t rfl rfl) .c (nz_nat (by omega)) (c := ((s.size % 9 : Nat) : Int)) tmod_nat) ?_
                refine s_val hS9 rfl rfl (r_assign rfl (.t rfl rfl)) ?_
                refine wpList_nil ?_
                refine x_tn ?_
                refine k_reb [(0, .string s), (2, .slice none 0 0), (3, .int .i64 0), (5, .slice ga t gc), (7, .int .i64 (((s.size % 9 : Nat) : Int)))] ⟨rfl, rfl, rfl, rfl, rfl, trivial⟩ fun G65 => ?_
                refine wp_block ?_
                refine wp_loop_ghost (fun (m7 : Nat) a w => ∃ (G : Nat → Value) (i : Nat) (t : Nat) (ga : Option Addr) (gc : Nat) (A : List Nat) (hv : Hp), a = fr 85 [(0, .string s), (2, .slice none 0 0), (3, .int .i64 0), (5, .slice ga t gc), (7, .int .i64 (((i : Nat) : Int)))] G ∧ St w0 [] ([] ++ hv) w ∧ (m7 = s.size - i ∧ i ≤ s.size ∧ (s.size - i) % 9 = 0 ∧ t = A.length ∧ Lim A ∧ A.length ≤ i ∧ lv A = dv s i ∧ Gr .u32 57 ga gc A hv)) (s.size - s.size % 9) ⟨_, s.size % 9, t, ga, gc, A, hv, fr_reb _ ⟨rfl, rfl, rfl, rfl, rfl, trivial⟩, hS9, ?_⟩ ?_
                · obtain rfl : k = s.size % 9 := by omega
                  exact ⟨by omega, by omega, by omega, ht, hAlim, hAk, hAv, hG⟩
                · intro m7 _ w11 hI7
                  obtain ⟨G66, i, t, ga, gc, A, hv, rfl, hS11, ⟨hm, hi, hi9, ht, hAlim, hAk, hAv, hG⟩⟩ := hI7
                  refine wp_seq ?_
                  refine wp_seq ?_
                  refine k_reg ?_
                  refine s_val hS11 rfl rfl (r_move rfl (.t rfl rfl)) ?_
                  refine s_val hS11 rfl rfl (r_move rfl (.t rfl rfl)) ?_
                  refine s_val hS11 rfl rfl (r_lens rfl rfl Try.underlying9 (.t rfl rfl)) ?_
                  by_cases c19 : i < s.size
                  · refine s_val hS11 rfl rfl (r_cmp_t rfl rfl (.t rfl rfl) (.t rfl rfl) (show ((i : Nat) : Int) < ((s.size : Nat) : Int) from by omega)) ?_
                    refine wpList_nil ?_
                    refine x_tn ?_
                    refine k_reb [(0, .string s), (2, .slice none 0 0), (3, .int .i64 0), (5, .slice ga t gc), (7, .int .i64 (((i : Nat) : Int))), (61, .bool true)] ⟨rfl, rfl, rfl, rfl, rfl, rfl, trivial⟩ fun G67 => ?_
                    refine k_t (.t rfl rfl) ?_
                    refine wp_skip ?_
                    refine x_tn ?_
                    refine k_reb [(0, .string s), (2, .slice none 0 0), (3, .int .i64 0), (5, .slice ga t gc), (7, .int .i64 (((i : Nat) : Int)))] ⟨rfl, rfl, rfl, rfl, rfl, trivial⟩ fun G68 => ?_
                    refine wp_seq ?_
                    refine wp_block ?_
                    refine wp_seq ?_
                    refine k_reg ?_
                    refine s_val hS11 rfl rfl (r_assign rfl .c) ?_
                    refine wpList_nil ?_
                    refine x_tn ?_
                    refine wp_seq ?_
                    refine wp_seq ?_
                    refine k_reg ?_
                    refine s_val hS11 rfl rfl (r_move rfl .c) ?_
                    refine wpList_nil ?_
                    refine x_tn ?_
                    refine wp_block ?_
                    refine wp_loop_ghost (fun (m8 : Nat) a w => ∃ (G : Nat → Value) (j : Nat) (g : Nat), a = fr 85 [(0, .string s), (2, .slice none 0 0), (3, .int .i64 0), (5, .slice ga t gc), (7, .int .i64 (((i : Nat) : Int))), (8, .int .u64 (((g : Nat) : Int))), (64, .int .i64 (((j : Nat) : Int)))] G ∧ St w0 [] ([] ++ hv) w ∧ (m8 = 9 - j ∧ j ≤ 9 ∧ g + 1 ≤ 10 ^ j ∧ g + dv s i * 10 ^ j = dv s (i + j))) (9) ⟨_, 0, 0, fr_reb _ ⟨rfl, rfl, rfl, rfl, rfl, rfl, rfl, trivial⟩, hS11, ?_⟩ ?_
                    · exact ⟨rfl, by omega, by simp, by simp⟩
                    · intro m8 _ w12 hI8
                      obtain ⟨G69, j, g, rfl, hS12, ⟨hmj, hj, hg, hgv⟩⟩ := hI8
                      refine wp_seq ?_
                      refine k_reg ?_
                      by_cases c20 : j < 9
                      · refine s_val hS12 rfl rfl (r_cmp_t rfl rfl (.t rfl rfl) .c (show ((j : Nat) : Int) < 9 from by omega)) ?_
                        refine wpList_nil ?_
                        refine x_tn ?_
                        refine wp_seq ?_
                        refine k_t (.t rfl rfl) ?_
                        refine wp_skip ?_
                        refine x_tn ?_
                        refine k_reb [(0, .string s), (2, .slice none 0 0), (3, .int .i64 0), (5, .slice ga t gc), (7, .int .i64 (((i : Nat) : Int))), (8, .int .u64 (((g : Nat) : Int))), (64, .int .i64 (((j : Nat) : Int)))] ⟨rfl, rfl, rfl, rfl, rfl, rfl, rfl, trivial⟩ fun G70 => ?_
                        refine wp_seq ?_
                        refine wp_block ?_
                        refine wp_seq ?_
                        refine k_reg ?_
                        refine s_val hS12 rfl rfl (r_move rfl (.t rfl rfl)) ?_
                        refine s_val hS12 rfl rfl (r_assign rfl (.t rfl rfl)) ?_
                        refine wpList_nil ?_
                        refine x_tn ?_
                        refine k_reb [(0, .string s), (2, .slice none 0 0), (3, .int .i64 0), (5, .slice ga t gc), (7, .int .i64 (((i : Nat) : Int))), (8, .int .u64 (((g : Nat) : Int))), (9, .int .i64 (((j : Nat) : Int))), (64, .int .i64 (((j : Nat) : Int)))] ⟨rfl, rfl, rfl, rfl, rfl, rfl, rfl, rfl, trivial⟩ fun G71 => ?_
                        refine k_reg ?_
                        refine s_val hS12 rfl rfl (r_move rfl (.t rfl rfl)) ?_
                        have hp10 : 10 ^ j ≤ 100000000 := Nat.pow_le_pow_right (show 0 < 10 by omega) (show j ≤ 8 by omega)
                        refine s_val hS12 rfl rfl (r_arith rfl rfl .c (.t rfl rfl) (c := ((10 * g : Nat) : Int)) (wn_u64 (Int.natCast_mul _ _).symm (by omega))) ?_
                        refine s_val hS12 rfl rfl (r_move rfl (.t rfl rfl)) ?_
                        refine s_val hS12 rfl rfl (r_move rfl (.t rfl rfl)) ?_
                        refine s_val hS12 rfl rfl (r_move rfl (.t rfl rfl)) ?_
                        refine s_val hS12 rfl rfl (r_arith rfl rfl (.t rfl rfl) (.t rfl rfl) (c := ((i + j : Nat) : Int)) (wn_i64 (by show (((i : Nat) : Int) : Int) + ((j : Nat) : Int) = _; omega) (by omega))) ?_
                        refine s_val hS12 rfl rfl (r_idxs (j := i + j) (c := ch s (i + j)) rfl Try.underlying9 (.t rfl rfl) (.t rfl rfl) rfl (byte_at (by omega)) (byte_lt _)) ?_
                        have hc9 := hok.2.2 (i + j) (by omega)
                        refine s_val hS12 rfl rfl (r_arith rfl rfl (.t rfl rfl) .c (c := (((ch s (i + j)) - 48 : Nat) : Int)) (wn_u8 (by show (((ch s (i + j) : Nat) : Int) : Int) - 48 = _; omega) (by omega))) ?_
                        refine s_val hS12 rfl rfl (r_conv rfl Try.underlying5 Try.underlying40 (.t rfl rfl) (c := (((ch s (i + j)) - 48 : Nat) : Int)) (wn_u64 rfl (by omega))) ?_
                        refine s_val hS12 rfl rfl (r_arith rfl rfl (.t rfl rfl) (.t rfl rfl) (c := (((10 * g) + ((ch s (i + j)) - 48) : Nat) : Int)) (wn_u64 (by show (((10 * g : Nat) : Int) : Int) + (((ch s (i + j)) - 48 : Nat) : Int) = _; omega) (by omega))) ?_
                        refine s_val hS12 rfl rfl (r_assign rfl (.t rfl rfl)) ?_
                        refine wpList_nil ?_
                        refine x_bn ?_
                        refine x_tn ?_
                        refine k_reb [(0, .string s), (2, .slice none 0 0), (3, .int .i64 0), (5, .slice ga t gc), (7, .int .i64 (((i : Nat) : Int))), (8, .int .u64 ((((10 * g) + ((ch s (i + j)) - 48) : Nat) : Int))), (64, .int .i64 (((j : Nat) : Int)))] ⟨rfl, rfl, rfl, rfl, rfl, rfl, rfl, trivial⟩ fun G72 => ?_
                        refine k_reg ?_
                        refine s_val hS12 rfl rfl (r_arith rfl rfl (.t rfl rfl) .c (c := ((j + 1 : Nat) : Int)) (wn_i64 (by show (((j : Nat) : Int) : Int) + 1 = _; omega) (by omega))) ?_
                        refine s_val hS12 rfl rfl (r_move rfl (.t rfl rfl)) ?_
                        refine wpList_nil ?_
                        refine x_tn ?_
                        refine ⟨9 - (j + 1), by omega, _, j + 1, 10 * g + (ch s (i + j) - 48), fr_reb _ ⟨rfl, rfl, rfl, rfl, rfl, rfl, rfl, trivial⟩, hS12, ?_⟩
                        exact ⟨by omega, by omega, by rw [Nat.pow_succ]; omega, dv_nine s i j g hgv⟩
                      · refine s_val hS12 rfl rfl (r_cmp_f rfl rfl (.t rfl rfl) .c (show ¬ (((j : Nat) : Int) < 9) from by omega)) ?_
                        refine wpList_nil ?_
                        refine x_tn ?_
                        refine wp_seq ?_
                        refine k_f (.t rfl rfl) ?_
                        refine wp_exit ?_
                        refine x_te ?_
                        refine x_te ?_
                        refine x_be ?_
                        refine x_tn ?_
                        refine k_reb [(0, .string s), (2, .slice none 0 0), (3, .int .i64 0), (5, .slice ga t gc), (7, .int .i64 (((i : Nat) : Int))), (8, .int .u64 (((g : Nat) : Int)))] ⟨rfl, rfl, rfl, rfl, rfl, rfl, trivial⟩ fun G73 => ?_
                        refine k_reg ?_
                        refine s_val hS12 rfl rfl (r_move rfl (.t rfl rfl)) ?_
                        obtain rfl : j = 9 := by omega
                        refine s_val hS12 rfl rfl (r_move rfl (.t rfl rfl)) ?_
                        refine s_call rfl rfl rfl (vs := [.slice ga t gc, .int .u64 1000000000, .int .u64 (((g : Nat) : Int))]) ⟨(.t rfl rfl), .c, (.t rfl rfl), trivial⟩ cb50 (times_gr w12 ga gc A hv hG (fun p hp => hS12.own p (List.mem_append_right _ hp)) hAlim t ht (by omega) 1000000000 g (by omega) (by omega)) ?_
                        rintro _ w13 ⟨A4, a4, c21, gh4, rfl, hG4, hT4, hLm4, hLn4, hLv4⟩
                        have hS13 := St.splice (h1 := []) hS12 hT4
                        refine s_val hS13 rfl rfl (r_assign rfl (.t rfl rfl)) ?_
                        refine wpList_nil ?_
                        refine x_bn ?_
                        refine x_tn ?_
                        refine k_reb [(0, .string s), (2, .slice none 0 0), (3, .int .i64 0), (5, .slice a4 A4.length c21), (7, .int .i64 (((i : Nat) : Int)))] ⟨rfl, rfl, rfl, rfl, rfl, trivial⟩ fun G74 => ?_
                        refine k_reg ?_
                        refine s_val hS13 rfl rfl (r_move rfl (.t rfl rfl)) ?_
                        refine s_val hS13 rfl rfl (r_arith rfl rfl (.t rfl rfl) .c (c := ((i + 9 : Nat) : Int)) (wn_i64 (by show (((i : Nat) : Int) : Int) + 9 = _; omega) (by omega))) ?_
                        refine s_val hS13 rfl rfl (r_assign rfl (.t rfl rfl)) ?_
                        refine wpList_nil ?_
                        refine x_tn ?_
                        refine ⟨s.size - (i + 9), by omega, _, i + 9, A4.length, a4, c21, A4, gh4, fr_reb _ ⟨rfl, rfl, rfl, rfl, rfl, trivial⟩, hS13, ?_⟩
                        exact ⟨by omega, by omega, by omega, rfl, hLm4, by omega, by rw [hLv4, hAv]; omega, hG4⟩
                  · refine s_val hS11 rfl rfl (r_cmp_f rfl rfl (.t rfl rfl) (.t rfl rfl) (show ¬ (((i : Nat) : Int) < ((s.size : Nat) : Int)) from by omega)) ?_
                    refine wpList_nil ?_
                    refine x_tn ?_
                    refine k_reb [(0, .string s), (2, .slice none 0 0), (3, .int .i64 0), (5, .slice ga t gc), (7, .int .i64 (((i : Nat) : Int))), (61, .bool false)] ⟨rfl, rfl, rfl, rfl, rfl, rfl, trivial⟩ fun G75 => ?_
                    refine k_f (.t rfl rfl) ?_
                    refine wp_exit ?_
                    refine x_te ?_
                    refine x_te ?_
                    refine x_be ?_
                    refine x_tn ?_
                    refine k_reb [(2, .slice none 0 0), (3, .int .i64 0), (5, .slice ga t gc)] ⟨rfl, rfl, rfl, trivial⟩ fun G76 => ?_
                    refine wp_seq ?_
                    refine k_reg ?_
                    have hR4 := hG.rd hS11 (by omega) hAlim
                    have hW4 := Ow.of_gr hG hS11 ht (by omega) hAlim
                    refine s_val hS11 rfl rfl (Rn.asS (p' := A.length) (q' := gc) (by omega) rfl (r_move rfl (.t rfl rfl))) ?_
                    refine s_call rfl rfl rfl (vs := [.slice ga A.length gc]) ⟨(.t rfl rfl), trivial⟩ cb44 (normal_any w11 ga gc A hR4 (by omega)) ?_
                    intro v2 w14 hp2
                    obtain ⟨hp2, hB2⟩ := hp2
                    have hS14 := hS11.keep hB2
                    replace hB2 := hB2.toBelow
                    have hR5 := hR4.below hB2 (Nat.le_refl _)
                    have hW5 := hW4.later hB2
                    rcases hp2 with ⟨R2, X2, hE2, hNR2, hlR2, ht2, rfl⟩ | ⟨ht2, rfl⟩
                    · have hnR2 := hNR2.len
                      have hR6 := Rd.front_eq hE2 hR5
                      have hW6 := Ow.front_eq hE2 hW5
                      refine s_val hS14 rfl rfl (r_extract rfl (.t rfl rfl) rfl) ?_
                      refine s_val hS14 rfl rfl (r_extract rfl (.t rfl rfl) rfl) ?_
                      refine s_val hS14 rfl rfl (r_assign rfl (.t rfl rfl)) ?_
                      refine s_val hS14 rfl rfl (r_assign rfl (.t rfl rfl)) ?_
                      refine wpList_nil ?_
                      refine x_tn ?_
                      refine k_reb [(2, .slice ga R2.length R2.length), (3, .int .i64 0)] ⟨rfl, rfl, trivial⟩ fun G77 => ?_
                      refine wp_ret ?_
                      refine k_ret2 Try.results25 rfl rfl rfl rfl ?_
                      refine ⟨_, rfl, ?_⟩
                      obtain rfl : i = s.size := by omega
                      exact .inr (.inr ⟨hok, by omega, .inl ⟨by rw [← hAv]; exact ht2, R2, _, rfl, hW6, hNR2, by rw [hlR2, hAv]⟩⟩)
                    · refine s_val hS14 rfl rfl (r_extract rfl (.t rfl rfl) rfl) ?_
                      refine s_val hS14 rfl rfl (r_extract rfl (.t rfl rfl) rfl) ?_
                      refine s_val hS14 rfl rfl (r_assign rfl (.t rfl rfl)) ?_
                      refine s_val hS14 rfl rfl (r_assign rfl (.t rfl rfl)) ?_
                      refine wpList_nil ?_
                      refine x_tn ?_
                      refine k_reb [(2, .slice none 0 0), (3, .int .i64 21)] ⟨rfl, rfl, trivial⟩ fun G78 => ?_
                      refine wp_ret ?_
                      refine k_ret2 Try.results25 rfl rfl rfl rfl ?_
                      refine ⟨_, rfl, ?_⟩
                      obtain rfl : i = s.size := by omega
                      exact .inr (.inr ⟨hok, by omega, .inr ⟨by rw [← hAv]; exact ht2, rfl, hS14.none⟩⟩)

end Go.Proofs.Ytnbklceenfjojaa

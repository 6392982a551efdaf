/- Contracts of functions of the program, each walked once. -/
import Derived.Test.YtnbklceenfjojaaFnJ
import Derived.Test.YtnbklceenfjojaaKTab
namespace Go.Proofs.Ytnbklceenfjojaa
open Go Go.RowKit K
namespace FL
theorem mixed : Try.prog.follows .mixedOrders = true := by kernel_rfl
theorem cb13 : callable Try.prog 13 = true := by kernel_rfl
theorem cb14 : callable Try.prog 14 = true := by kernel_rfl
theorem cb16 : callable Try.prog 16 = true := by kernel_rfl
theorem cb18 : callable Try.prog 18 = true := by kernel_rfl
theorem cb19 : callable Try.prog 19 = true := by kernel_rfl
theorem cb29 : callable Try.prog 29 = true := by kernel_rfl
theorem cb30 : callable Try.prog 30 = true := by kernel_rfl
theorem one3 : One Try.prog 3 = true := by kernel_rfl
theorem one57 : One Try.prog 57 = true := by kernel_rfl
theorem ti3 : (Try.prog.info? 3).map (fun i => (i.zero, i.size, i.bytes)) = some (some (.int .i64 0), 1, 8) := by kernel_rfl
theorem ti57 : (Try.prog.info? 57).map (fun i => (i.zero, i.size, i.bytes)) = some (some (.int .u32 0), 1, 4) := by kernel_rfl
theorem ti59 : (Try.prog.info? 59).map (fun i => (i.zero, i.size, i.bytes)) = some (some (.agg #[.int .u32 0, .int .i64 0, .int .i64 0]), 3, 24) := by kernel_rfl

end FL
open FL
attribute [local irreducible] Go.wpList Go.wpQuiet Go.wpStill Go.wpAny Go.Code.wp
set_option maxRecDepth 10000
set_option maxHeartbeats 8000000
set_option linter.unusedVariables false
set_option linter.unusedSimpArgs false
theorem Power_neg (w0 : World) (b : Nat) (hb : b ≤ 4294967295) (x : Int) (hx : x < 0) (hx2 : -9223372036854775808 ≤ x) :
    Calls Try.prog 29 #[.int .u32 (((b : Nat) : Int)), .int .i64 x] w0 (Ret fun v w' => v = .tuple #[.slice none 0 0, .int .i64 24] ∧ St w0 [] [] w') := by
  refine k_enter (vs := [.int .u32 (((b : Nat) : Int)), .int .i64 x]) Try.func29 rfl Try.ntmps29 rfl ?_
  have hS := St.init w0
  refine wp_seq ?_
  refine k_reg ?_
  refine s_val hS rfl rfl (r_assign rfl .c) ?_
  refine s_val hS rfl rfl (r_assign rfl .c) ?_
  refine wpList_nil ?_
  refine x_tn ?_
  refine wp_seq ?_
  refine wp_seq ?_
  refine k_reg ?_
  refine s_val hS rfl rfl (r_move rfl (.t rfl rfl)) ?_
  refine s_val hS rfl rfl (r_cmp_t rfl rfl (.t rfl rfl) .c (show x < 0 from hx)) ?_
  refine wpList_nil ?_
  refine x_tn ?_
  refine k_reb [(0, .int .u32 (((b : Nat) : Int))), (1, .int .i64 x), (4, .slice none 0 0), (5, .int .i64 0), (11, .bool true)] ⟨rfl, rfl, rfl, rfl, rfl, trivial⟩ fun G1 => ?_
  refine k_t (.t rfl rfl) ?_
  refine wp_seq ?_
  refine k_reg ?_
  refine s_val hS rfl rfl (r_assign rfl .c) ?_
  refine s_val hS rfl rfl (r_assign rfl .c) ?_
  refine wpList_nil ?_
  refine x_tn ?_
  refine k_reb [(0, .int .u32 (((b : Nat) : Int))), (1, .int .i64 x), (4, .slice none 0 0), (5, .int .i64 24)] ⟨rfl, rfl, rfl, rfl, trivial⟩ fun G2 => ?_
  refine wp_ret ?_
  refine x_tr ?_
  refine k_ret2 Try.results29 rfl rfl rfl rfl ?_
  refine ⟨_, rfl, ?_⟩
  exact ⟨rfl, hS⟩

theorem LimbPowers_ok (w0 : World) (aP : Option Addr) (cP n : Nat) (bs : Nat → Nat) (ms ns : Nat → Int) (hP : RdT w0 aP n 3 (fun j f => match f with | 0 => .int .u32 ((bs j : Nat) : Int) | 1 => .int .i64 (ms j) | _ => .int .i64 (ns j))) (hbs : ∀ j, j < n → bs j ≤ 4294967295) (hms : ∀ j, j < n → -9223372036854775808 ≤ ms j ∧ ms j ≤ 9223372036854775807) (hns : ∀ j, j < n → -9223372036854775808 ≤ ns j ∧ ns j ≤ 9223372036854775807) :
    Calls Try.prog 7 #[.slice aP n cP] w0 (Ret fun v w' => v = .bool true ∧ St w0 [] [] w') := by
  refine k_enter (vs := [.slice aP n cP]) Try.func7 rfl Try.ntmps7 rfl ?_
  have hS := St.init w0
  have mP := hP.most
  refine wp_seq ?_
  refine k_reg ?_
  refine s_val hS rfl rfl (r_assign rfl .c) ?_
  refine wpList_nil ?_
  refine x_tn ?_
  refine wp_seq ?_
  refine wp_seq ?_
  refine k_reg ?_
  refine s_val hS rfl rfl (r_assign rfl .c) ?_
  refine wpList_nil ?_
  refine x_tn ?_
  refine wp_block ?_
  refine wp_loop_ghost (fun (m1 : Nat) a w => ∃ (G : Nat → Value) (i : Nat), a = fr 177 [(0, .slice aP n cP), (2, .bool false), (3, .int .i64 (((i : Nat) : Int)))] G ∧ St w0 [] [] w ∧ (m1 = n - i ∧ i ≤ n)) (n) ⟨_, 0, fr_reb _ ⟨rfl, rfl, rfl, trivial⟩, hS, ?_⟩ ?_
  · exact ⟨rfl, Nat.zero_le _⟩
  · intro m1 _ w1 hI1
    obtain ⟨G1, i, rfl, hS1, ⟨hm, hi⟩⟩ := hI1
    refine wp_seq ?_
    refine wp_seq ?_
    refine k_reg ?_
    refine s_val hS1 rfl rfl (r_move rfl (.t rfl rfl)) ?_
    refine s_val hS1 rfl rfl (r_move rfl (.t rfl rfl)) ?_
    refine s_val hS1 rfl rfl (r_len rfl rfl Try.underlying56 (.t rfl rfl)) ?_
    by_cases c1 : i < n
    · refine s_val hS1 rfl rfl (r_cmp_t rfl rfl (.t rfl rfl) (.t rfl rfl) (show ((i : Nat) : Int) < ((n : Nat) : Int) from by omega)) ?_
      refine s_val hS1 rfl rfl (r_move rfl (.t rfl rfl)) ?_
      refine s_valg hS1 (wanted_of (j := 4) (b := true) (d := 23) rfl rfl rfl rfl) rfl (r_move rfl (.t rfl rfl)) ?_
      by_cases c2 : i < 20
      · refine s_valg hS1 (wanted_of (j := 4) (b := true) (d := 23) rfl rfl rfl rfl) rfl (r_cmp_t rfl rfl (.t rfl rfl) .c (show ((i : Nat) : Int) < 20 from by omega)) ?_
        refine s_val hS1 rfl rfl (r_pick rfl (.t rfl rfl) (.t rfl rfl)) ?_
        refine wpList_nil ?_
        refine x_tn ?_
        refine k_reb [(0, .slice aP n cP), (2, .bool false), (3, .int .i64 (((i : Nat) : Int))), (26, .bool true)] ⟨rfl, rfl, rfl, rfl, trivial⟩ fun G2 => ?_
        refine k_t (.t rfl rfl) ?_
        refine wp_skip ?_
        refine x_tn ?_
        refine k_reb [(0, .slice aP n cP), (2, .bool false), (3, .int .i64 (((i : Nat) : Int)))] ⟨rfl, rfl, rfl, trivial⟩ fun G3 => ?_
        refine wp_seq ?_
        refine wp_block ?_
        refine wp_seq ?_
        refine k_reg ?_
        refine s_val hS1 rfl rfl (r_move rfl (.t rfl rfl)) ?_
        refine s_val hS1 rfl rfl (r_move rfl (.t rfl rfl)) ?_
        refine s_val hS1 rfl rfl (r_ixT (j := i) rfl Try.underlying56 ti59 (by omega) (.t rfl rfl) (.t rfl rfl) hP rfl (by omega)) ?_
        refine s_val hS1 rfl rfl (r_field rfl Try.underlying59 rfl ti3 (.t rfl rfl) (qq := (adr aP).off + i * 3 + 1) rfl) ?_
        have hms_ := hms i (by omega)
        refine s_val hS1 rfl rfl (show Rn _ _ _ _ _ (.int .i64 (ms i)) from r_load rfl one3 (.t rfl rfl) (cell_rdT hP (f := 1) (by omega) (by omega) (by simp))) ?_
        refine s_val hS1 rfl rfl (r_assign rfl (.t rfl rfl)) ?_
        refine wpList_nil ?_
        refine x_tn ?_
        refine k_reb [(0, .slice aP n cP), (2, .bool false), (3, .int .i64 (((i : Nat) : Int))), (4, .int .i64 (ms i))] ⟨rfl, rfl, rfl, rfl, trivial⟩ fun G4 => ?_
        refine wp_seq ?_
        refine k_reg ?_
        refine s_val hS1 rfl rfl (r_move rfl (.t rfl rfl)) ?_
        refine s_val hS1 rfl rfl (r_move rfl (.t rfl rfl)) ?_
        refine s_val hS1 rfl rfl (r_ixT (j := i) rfl Try.underlying56 ti59 (by omega) (.t rfl rfl) (.t rfl rfl) hP rfl (by omega)) ?_
        refine s_val hS1 rfl rfl (r_field rfl Try.underlying59 rfl ti3 (.t rfl rfl) (qq := (adr aP).off + i * 3 + 2) rfl) ?_
        have hns_ := hns i (by omega)
        refine s_val hS1 rfl rfl (show Rn _ _ _ _ _ (.int .i64 (ns i)) from r_load rfl one3 (.t rfl rfl) (cell_rdT hP (f := 2) (by omega) (by omega) (by simp))) ?_
        refine s_val hS1 rfl rfl (r_assign rfl (.t rfl rfl)) ?_
        refine wpList_nil ?_
        refine x_tn ?_
        refine k_reb [(0, .slice aP n cP), (2, .bool false), (3, .int .i64 (((i : Nat) : Int))), (4, .int .i64 (ms i)), (5, .int .i64 (ns i))] ⟨rfl, rfl, rfl, rfl, rfl, trivial⟩ fun G5 => ?_
        refine wp_seq ?_
        refine wp_seq ?_
        refine k_reg ?_
        refine s_val hS1 rfl rfl (r_move rfl (.t rfl rfl)) ?_
        by_cases c3 : ms i < 0
        · refine s_val hS1 rfl rfl (r_cmp_t rfl rfl (.t rfl rfl) .c (show ms i < 0 from by omega)) ?_
          refine s_val hS1 rfl rfl (r_move rfl (.t rfl rfl)) ?_
          refine s_skip (unwanted_of (j := 2) (b := false) (b' := true) (d := 41) rfl rfl rfl rfl rfl) rfl ?_
          refine s_skip (unwanted_of (j := 2) (b := false) (b' := true) (d := 41) rfl rfl rfl rfl rfl) rfl ?_
          refine s_val hS1 rfl rfl (r_pick rfl (.t rfl rfl) .c) ?_
          refine wpList_nil ?_
          refine x_tn ?_
          refine k_reb [(0, .slice aP n cP), (2, .bool false), (3, .int .i64 (((i : Nat) : Int))), (4, .int .i64 (ms i)), (5, .int .i64 (ns i)), (44, .bool true)] ⟨rfl, rfl, rfl, rfl, rfl, rfl, trivial⟩ fun G6 => ?_
          refine k_t (.t rfl rfl) ?_
          refine wp_seq ?_
          refine k_reg ?_
          refine s_val hS1 rfl rfl (r_move rfl (.t rfl rfl)) ?_
          refine s_val hS1 rfl rfl (r_move rfl (.t rfl rfl)) ?_
          refine s_val hS1 rfl rfl (r_ixT (j := i) rfl Try.underlying56 ti59 (by omega) (.t rfl rfl) (.t rfl rfl) hP rfl (by omega)) ?_
          refine s_val hS1 rfl rfl (r_field rfl Try.underlying59 rfl ti57 (.t rfl rfl) (qq := (adr aP).off + i * 3 + 0) rfl) ?_
          have hbs_ := hbs i (by omega)
          refine s_val hS1 rfl rfl (show Rn _ _ _ _ _ (.int .u32 (((bs i : Nat) : Int))) from r_load rfl one57 (.t rfl rfl) (cell_rdT hP (f := 0) (by omega) (by omega) (by simp))) ?_
          refine s_val hS1 rfl rfl (r_move rfl (.t rfl rfl)) ?_
          have b1 := lowAnd_le .i64 (ms i) 63
          refine s_val hS1 rfl rfl (r_and_low rfl (.t rfl rfl) .c (show 63 < 18446744073709551616 from by omega) (b := 63) (wn_i64 rfl (Nat.le_trans (lowAnd_le _ _ _) (show 63 ≤ 9223372036854775807 from by omega)))) ?_
          refine s_val hS1 rfl rfl (r_arith rfl rfl .c (.t rfl rfl) (c := ((-1)) - (((lowAnd .i64 (ms i) 63 : Nat) : Int))) (w_i64 rfl (by omega) (by omega))) ?_
          refine s_call rfl rfl rfl (vs := [.int .u32 (((bs i : Nat) : Int)), .int .i64 (((-1)) - (((lowAnd .i64 (ms i) 63 : Nat) : Int)))]) ⟨(.t rfl rfl), (.t rfl rfl), trivial⟩ cb29 (Power_neg w1 (bs i) (by omega) (((-1)) - (((lowAnd .i64 (ms i) 63 : Nat) : Int))) (by omega) (by omega)) ?_
          intro v1 w2 hp1
          obtain ⟨hp1, hB1⟩ := hp1
          have hS2 := hS1.keep hB1
          replace hB1 := hB1.toBelow
          obtain rfl := hp1
          refine s_val hS2 rfl rfl (r_move rfl (.t rfl rfl)) ?_
          refine s_val hS2 rfl rfl (r_extract rfl (.t rfl rfl) rfl) ?_
          refine s_val hS2 rfl rfl (r_extract rfl (.t rfl rfl) rfl) ?_
          refine s_val hS2 rfl rfl (r_assign rfl (.t rfl rfl)) ?_
          refine s_val hS2 rfl rfl (r_assign rfl (.t rfl rfl)) ?_
          refine wpList_nil ?_
          refine x_tn ?_
          refine k_reb [(0, .slice aP n cP), (2, .bool false), (3, .int .i64 (((i : Nat) : Int))), (4, .int .i64 (ms i)), (5, .int .i64 (ns i)), (7, .int .i64 24)] ⟨rfl, rfl, rfl, rfl, rfl, rfl, trivial⟩ fun G7 => ?_
          refine wp_seq ?_
          refine wp_seq ?_
          refine k_reg ?_
          refine s_val hS2 rfl rfl (r_move rfl (.t rfl rfl)) ?_
          refine s_call rfl rfl rfl (vs := [.int .i64 24]) ⟨(.t rfl rfl), trivial⟩ cb13 (num_ok w2 24) ?_
          rintro _ w2 ⟨rfl, rfl⟩
          refine s_val hS2 rfl rfl (r_cmp_f rfl rfl (.t rfl rfl) .c (show ¬ (¬ 24 = 24) from by omega)) ?_
          refine wpList_nil ?_
          refine x_tn ?_
          refine k_reb [(0, .slice aP n cP), (2, .bool false), (3, .int .i64 (((i : Nat) : Int))), (4, .int .i64 (ms i)), (5, .int .i64 (ns i)), (59, .bool false)] ⟨rfl, rfl, rfl, rfl, rfl, rfl, trivial⟩ fun G8 => ?_
          refine k_f (.t rfl rfl) ?_
          refine wp_skip ?_
          refine x_tn ?_
          refine k_reb [(0, .slice aP n cP), (2, .bool false), (3, .int .i64 (((i : Nat) : Int))), (4, .int .i64 (ms i)), (5, .int .i64 (ns i))] ⟨rfl, rfl, rfl, rfl, rfl, trivial⟩ fun G9 => ?_
          refine wp_exit ?_
          refine x_te ?_
          refine x_be ?_
          refine x_tn ?_
          refine k_reb [(0, .slice aP n cP), (2, .bool false), (3, .int .i64 (((i : Nat) : Int)))] ⟨rfl, rfl, rfl, trivial⟩ fun G10 => ?_
          refine k_reg ?_
          refine s_val hS2 rfl rfl (r_move rfl (.t rfl rfl)) ?_
          refine s_val hS2 rfl rfl (r_arith rfl rfl (.t rfl rfl) .c (c := ((i + 1 : Nat) : Int)) (wn_i64 (by show (((i : Nat) : Int) : Int) + 1 = _; omega) (by omega))) ?_
          refine s_val hS2 rfl rfl (r_assign rfl (.t rfl rfl)) ?_
          refine wpList_nil ?_
          refine x_tn ?_
          refine ⟨n - (i + 1), by omega, _, i + 1, fr_reb _ ⟨rfl, rfl, rfl, trivial⟩, hS2, ?_⟩
          exact ⟨by omega, by omega⟩
        · refine s_val hS1 rfl rfl (r_cmp_f rfl rfl (.t rfl rfl) .c (show ¬ (ms i < 0) from by omega)) ?_
          refine s_val hS1 rfl rfl (r_move rfl (.t rfl rfl)) ?_
          refine s_valg hS1 (wanted_of (j := 2) (b := false) (d := 41) rfl rfl rfl rfl) rfl (r_move rfl (.t rfl rfl)) ?_
          by_cases c4 : ns i < 0
          · refine s_valg hS1 (wanted_of (j := 2) (b := false) (d := 41) rfl rfl rfl rfl) rfl (r_cmp_t rfl rfl (.t rfl rfl) .c (show ns i < 0 from by omega)) ?_
            refine s_val hS1 rfl rfl (r_pick rfl (.t rfl rfl) (.t rfl rfl)) ?_
            refine wpList_nil ?_
            refine x_tn ?_
            refine k_reb [(0, .slice aP n cP), (2, .bool false), (3, .int .i64 (((i : Nat) : Int))), (4, .int .i64 (ms i)), (5, .int .i64 (ns i)), (44, .bool true)] ⟨rfl, rfl, rfl, rfl, rfl, rfl, trivial⟩ fun G11 => ?_
            refine k_t (.t rfl rfl) ?_
            refine wp_seq ?_
            refine k_reg ?_
            refine s_val hS1 rfl rfl (r_move rfl (.t rfl rfl)) ?_
            refine s_val hS1 rfl rfl (r_move rfl (.t rfl rfl)) ?_
            refine s_val hS1 rfl rfl (r_ixT (j := i) rfl Try.underlying56 ti59 (by omega) (.t rfl rfl) (.t rfl rfl) hP rfl (by omega)) ?_
            refine s_val hS1 rfl rfl (r_field rfl Try.underlying59 rfl ti57 (.t rfl rfl) (qq := (adr aP).off + i * 3 + 0) rfl) ?_
            have hbs_ := hbs i (by omega)
            refine s_val hS1 rfl rfl (show Rn _ _ _ _ _ (.int .u32 (((bs i : Nat) : Int))) from r_load rfl one57 (.t rfl rfl) (cell_rdT hP (f := 0) (by omega) (by omega) (by simp))) ?_
            refine s_val hS1 rfl rfl (r_move rfl (.t rfl rfl)) ?_
            have b2 := lowAnd_le .i64 (ms i) 63
            refine s_val hS1 rfl rfl (r_and_low rfl (.t rfl rfl) .c (show 63 < 18446744073709551616 from by omega) (b := 63) (wn_i64 rfl (Nat.le_trans (lowAnd_le _ _ _) (show 63 ≤ 9223372036854775807 from by omega)))) ?_
            refine s_val hS1 rfl rfl (r_arith rfl rfl .c (.t rfl rfl) (c := ((-1)) - (((lowAnd .i64 (ms i) 63 : Nat) : Int))) (w_i64 rfl (by omega) (by omega))) ?_
            refine s_call rfl rfl rfl (vs := [.int .u32 (((bs i : Nat) : Int)), .int .i64 (((-1)) - (((lowAnd .i64 (ms i) 63 : Nat) : Int)))]) ⟨(.t rfl rfl), (.t rfl rfl), trivial⟩ cb29 (Power_neg w1 (bs i) (by omega) (((-1)) - (((lowAnd .i64 (ms i) 63 : Nat) : Int))) (by omega) (by omega)) ?_
            intro v2 w3 hp2
            obtain ⟨hp2, hB2⟩ := hp2
            have hS3 := hS1.keep hB2
            replace hB2 := hB2.toBelow
            obtain rfl := hp2
            refine s_val hS3 rfl rfl (r_move rfl (.t rfl rfl)) ?_
            refine s_val hS3 rfl rfl (r_extract rfl (.t rfl rfl) rfl) ?_
            refine s_val hS3 rfl rfl (r_extract rfl (.t rfl rfl) rfl) ?_
            refine s_val hS3 rfl rfl (r_assign rfl (.t rfl rfl)) ?_
            refine s_val hS3 rfl rfl (r_assign rfl (.t rfl rfl)) ?_
            refine wpList_nil ?_
            refine x_tn ?_
            refine k_reb [(0, .slice aP n cP), (2, .bool false), (3, .int .i64 (((i : Nat) : Int))), (4, .int .i64 (ms i)), (5, .int .i64 (ns i)), (7, .int .i64 24)] ⟨rfl, rfl, rfl, rfl, rfl, rfl, trivial⟩ fun G12 => ?_
            refine wp_seq ?_
            refine wp_seq ?_
            refine k_reg ?_
            refine s_val hS3 rfl rfl (r_move rfl (.t rfl rfl)) ?_
            refine s_call rfl rfl rfl (vs := [.int .i64 24]) ⟨(.t rfl rfl), trivial⟩ cb13 (num_ok w3 24) ?_
            rintro _ w3 ⟨rfl, rfl⟩
            refine s_val hS3 rfl rfl (r_cmp_f rfl rfl (.t rfl rfl) .c (show ¬ (¬ 24 = 24) from by omega)) ?_
            refine wpList_nil ?_
            refine x_tn ?_
            refine k_reb [(0, .slice aP n cP), (2, .bool false), (3, .int .i64 (((i : Nat) : Int))), (4, .int .i64 (ms i)), (5, .int .i64 (ns i)), (59, .bool false)] ⟨rfl, rfl, rfl, rfl, rfl, rfl, trivial⟩ fun G13 => ?_
            refine k_f (.t rfl rfl) ?_
            refine wp_skip ?_
            refine x_tn ?_
            refine k_reb [(0, .slice aP n cP), (2, .bool false), (3, .int .i64 (((i : Nat) : Int))), (4, .int .i64 (ms i)), (5, .int .i64 (ns i))] ⟨rfl, rfl, rfl, rfl, rfl, trivial⟩ fun G14 => ?_
            refine wp_exit ?_
            refine x_te ?_
            refine x_be ?_
            refine x_tn ?_
            refine k_reb [(0, .slice aP n cP), (2, .bool false), (3, .int .i64 (((i : Nat) : Int)))] ⟨rfl, rfl, rfl, trivial⟩ fun G15 => ?_
            refine k_reg ?_
            refine s_val hS3 rfl rfl (r_move rfl (.t rfl rfl)) ?_
            refine s_val hS3 rfl rfl (r_arith rfl rfl (.t rfl rfl) .c (c := ((i + 1 : Nat) : Int)) (wn_i64 (by show (((i : Nat) : Int) : Int) + 1 = _; omega) (by omega))) ?_
            refine s_val hS3 rfl rfl (r_assign rfl (.t rfl rfl)) ?_
            refine wpList_nil ?_
            refine x_tn ?_
            refine ⟨n - (i + 1), by omega, _, i + 1, fr_reb _ ⟨rfl, rfl, rfl, trivial⟩, hS3, ?_⟩
            exact ⟨by omega, by omega⟩
          · refine s_valg hS1 (wanted_of (j := 2) (b := false) (d := 41) rfl rfl rfl rfl) rfl (r_cmp_f rfl rfl (.t rfl rfl) .c (show ¬ (ns i < 0) from by omega)) ?_
            refine s_val hS1 rfl rfl (r_pick rfl (.t rfl rfl) (.t rfl rfl)) ?_
            refine wpList_nil ?_
            refine x_tn ?_
            refine k_reb [(0, .slice aP n cP), (2, .bool false), (3, .int .i64 (((i : Nat) : Int))), (4, .int .i64 (ms i)), (5, .int .i64 (ns i)), (44, .bool false)] ⟨rfl, rfl, rfl, rfl, rfl, rfl, trivial⟩ fun G16 => ?_
            refine k_f (.t rfl rfl) ?_
            refine wp_skip ?_
            refine x_tn ?_
            refine k_reb [(0, .slice aP n cP), (2, .bool false), (3, .int .i64 (((i : Nat) : Int))), (4, .int .i64 (ms i)), (5, .int .i64 (ns i))] ⟨rfl, rfl, rfl, rfl, rfl, trivial⟩ fun G17 => ?_
            refine wp_seq ?_
            refine k_reg ?_
            obtain ⟨mN, hmN⟩ : ∃ k : Nat, ms i = (k : Int) := ⟨(ms i).toNat, by omega⟩
            refine s_val hS1 rfl rfl (Rn.as (j := ((mN : Nat) : Int)) (by omega) (r_move rfl (.t rfl rfl))) ?_
            refine s_val hS1 rfl rfl (r_rem (b := ((120 : Nat) : Int)) rfl (.t rfl rfl) .c (nz_nat (by omega)) (c := ((mN % 120 : Nat) : Int)) tmod_nat) ?_
            refine s_val hS1 rfl rfl (r_assign rfl (.t rfl rfl)) ?_
            refine wpList_nil ?_
            refine x_tn ?_
            refine k_reb [(0, .slice aP n cP), (2, .bool false), (3, .int .i64 (((i : Nat) : Int))), (4, .int .i64 (((mN % 120 : Nat) : Int))), (5, .int .i64 (ns i))] ⟨rfl, rfl, rfl, rfl, rfl, trivial⟩ fun G18 => ?_
            refine wp_seq ?_
            refine k_reg ?_
            obtain ⟨nN, hnN⟩ : ∃ k : Nat, ns i = (k : Int) := ⟨(ns i).toNat, by omega⟩
            refine s_val hS1 rfl rfl (Rn.as (j := ((nN : Nat) : Int)) (by omega) (r_move rfl (.t rfl rfl))) ?_
            refine s_val hS1 rfl rfl (r_rem (b := ((120 : Nat) : Int)) rfl (.t rfl rfl) .c (nz_nat (by omega)) (c := ((nN % 120 : Nat) : Int)) tmod_nat) ?_
            refine s_val hS1 rfl rfl (r_assign rfl (.t rfl rfl)) ?_
            refine wpList_nil ?_
            refine x_tn ?_
            refine k_reb [(0, .slice aP n cP), (2, .bool false), (3, .int .i64 (((i : Nat) : Int))), (4, .int .i64 (((mN % 120 : Nat) : Int))), (5, .int .i64 (((nN % 120 : Nat) : Int)))] ⟨rfl, rfl, rfl, rfl, rfl, trivial⟩ fun G19 => ?_
            refine wp_seq ?_
            refine k_reg ?_
            refine s_val hS1 rfl rfl (r_move rfl (.t rfl rfl)) ?_
            refine s_val hS1 rfl rfl (r_move rfl (.t rfl rfl)) ?_
            refine s_val hS1 rfl rfl (r_ixT (j := i) rfl Try.underlying56 ti59 (by omega) (.t rfl rfl) (.t rfl rfl) hP rfl (by omega)) ?_
            refine s_val hS1 rfl rfl (r_field rfl Try.underlying59 rfl ti57 (.t rfl rfl) (qq := (adr aP).off + i * 3 + 0) rfl) ?_
            have hbs_ := hbs i (by omega)
            refine s_val hS1 rfl rfl (show Rn _ _ _ _ _ (.int .u32 (((bs i : Nat) : Int))) from r_load rfl one57 (.t rfl rfl) (cell_rdT hP (f := 0) (by omega) (by omega) (by simp))) ?_
            refine s_val hS1 rfl rfl (r_move rfl (.t rfl rfl)) ?_
            refine s_call rfl rfl rfl (vs := [.int .u32 (((bs i : Nat) : Int)), .int .i64 (((mN % 120 : Nat) : Int))]) ⟨(.t rfl rfl), (.t rfl rfl), trivial⟩ cb29 (Power_ok w1 (bs i) (mN % 120) (by omega) (by omega)) ?_
            rintro v3 w4 hp3
            obtain ⟨htPA, PA, _, rfl, hp3, hNPA, hlPA⟩ := hp3.fits (pow_fit (by omega) (by omega))
            obtain ⟨a1, c5, rfl, hR1, -, hT2⟩ := id hp3
            have hW1 := Ow.from_ hS1 hp3
            have hS5 := hS1.keep hT2
            have hnPA := hNPA.len
            refine s_val hS5 rfl rfl (r_move rfl (.t rfl rfl)) ?_
            refine s_val hS5 rfl rfl (r_extract rfl (.t rfl rfl) rfl) ?_
            refine s_val hS5 rfl rfl (r_extract rfl (.t rfl rfl) rfl) ?_
            refine s_val hS5 rfl rfl (r_assign rfl (.t rfl rfl)) ?_
            refine s_val hS5 rfl rfl (r_assign rfl (.t rfl rfl)) ?_
            refine wpList_nil ?_
            refine x_tn ?_
            refine k_reb [(0, .slice aP n cP), (2, .bool false), (3, .int .i64 (((i : Nat) : Int))), (4, .int .i64 (((mN % 120 : Nat) : Int))), (5, .int .i64 (((nN % 120 : Nat) : Int))), (8, .slice a1 PA.length c5), (9, .int .i64 0)] ⟨rfl, rfl, rfl, rfl, rfl, rfl, rfl, trivial⟩ fun G20 => ?_
            refine wp_seq ?_
            refine k_reg ?_
            refine s_val hS5 rfl rfl (r_move rfl (.t rfl rfl)) ?_
            refine s_val hS5 rfl rfl (r_move rfl (.t rfl rfl)) ?_
            refine s_val hS5 rfl rfl (r_ixT (j := i) rfl Try.underlying56 ti59 (by omega) (.t rfl rfl) (.t rfl rfl) hP rfl (by omega)) ?_
            refine s_val hS5 rfl rfl (r_field rfl Try.underlying59 rfl ti57 (.t rfl rfl) (qq := (adr aP).off + i * 3 + 0) rfl) ?_
            have hbs_ := hbs i (by omega)
            refine s_val hS5 rfl rfl (show Rn _ _ _ _ _ (.int .u32 (((bs i : Nat) : Int))) from r_load rfl one57 (.t rfl rfl) (cell_rdT hP (f := 0) (by omega) (by omega) (by simp))) ?_
            refine s_val hS5 rfl rfl (r_move rfl (.t rfl rfl)) ?_
            refine s_call rfl rfl rfl (vs := [.int .u32 (((bs i : Nat) : Int)), .int .i64 (((nN % 120 : Nat) : Int))]) ⟨(.t rfl rfl), (.t rfl rfl), trivial⟩ cb29 (Power_ok w4 (bs i) (nN % 120) (by omega) (by omega)) ?_
            rintro v4 w5 hp4
            obtain ⟨htPB, PB, _, rfl, hp4, hNPB, hlPB⟩ := hp4.fits (pow_fit (by omega) (by omega))
            obtain ⟨a2, c6, rfl, hR2, -, hT4⟩ := id hp4
            have hW2 := Ow.from_ hS5 hp4
            have hS7 := hS5.keep hT4
            have hR3 := hR1.below hT4.toBelow (Nat.le_refl _)
            have hW3 := hW1.later hT4.toBelow
            have hnPB := hNPB.len
            refine s_val hS7 rfl rfl (r_move rfl (.t rfl rfl)) ?_
            refine s_val hS7 rfl rfl (r_extract rfl (.t rfl rfl) rfl) ?_
            refine s_val hS7 rfl rfl (r_extract rfl (.t rfl rfl) rfl) ?_
            refine s_val hS7 rfl rfl (r_assign rfl (.t rfl rfl)) ?_
            refine s_val hS7 rfl rfl (r_assign rfl (.t rfl rfl)) ?_
            refine wpList_nil ?_
            refine x_tn ?_
            refine k_reb [(0, .slice aP n cP), (2, .bool false), (3, .int .i64 (((i : Nat) : Int))), (4, .int .i64 (((mN % 120 : Nat) : Int))), (5, .int .i64 (((nN % 120 : Nat) : Int))), (8, .slice a1 PA.length c5), (9, .int .i64 0), (10, .slice a2 PB.length c6), (11, .int .i64 0)] ⟨rfl, rfl, rfl, rfl, rfl, rfl, rfl, rfl, rfl, trivial⟩ fun G21 => ?_
            refine wp_seq ?_
            refine k_reg ?_
            refine s_val hS7 rfl rfl (r_move rfl (.t rfl rfl)) ?_
            refine s_val hS7 rfl rfl (r_move rfl (.t rfl rfl)) ?_
            refine s_val hS7 rfl rfl (r_ixT (j := i) rfl Try.underlying56 ti59 (by omega) (.t rfl rfl) (.t rfl rfl) hP rfl (by omega)) ?_
            refine s_val hS7 rfl rfl (r_field rfl Try.underlying59 rfl ti57 (.t rfl rfl) (qq := (adr aP).off + i * 3 + 0) rfl) ?_
            have hbs_ := hbs i (by omega)
            refine s_val hS7 rfl rfl (show Rn _ _ _ _ _ (.int .u32 (((bs i : Nat) : Int))) from r_load rfl one57 (.t rfl rfl) (cell_rdT hP (f := 0) (by omega) (by omega) (by simp))) ?_
            refine s_val hS7 rfl rfl (r_move rfl (.t rfl rfl)) ?_
            refine s_val hS7 rfl rfl (r_move rfl (.t rfl rfl)) ?_
            refine s_val hS7 rfl rfl (r_arith rfl rfl (.t rfl rfl) (.t rfl rfl) (c := (((mN % 120) + (nN % 120) : Nat) : Int)) (wn_i64 (by show (((mN % 120 : Nat) : Int) : Int) + ((nN % 120 : Nat) : Int) = _; omega) (by omega))) ?_
            refine s_call rfl rfl rfl (vs := [.int .u32 (((bs i : Nat) : Int)), .int .i64 ((((mN % 120) + (nN % 120) : Nat) : Int))]) ⟨(.t rfl rfl), (.t rfl rfl), trivial⟩ cb29 (Power_ok w5 (bs i) ((mN % 120) + (nN % 120)) (by omega) (by omega)) ?_
            rintro v5 w6 hp5
            obtain ⟨htPC, PC, _, rfl, hp5, hNPC, hlPC⟩ := hp5.fits (pow_fit (by omega) (by omega))
            obtain ⟨a3, c7, rfl, hR4, -, hT6⟩ := id hp5
            have hW4 := Ow.from_ hS7 hp5
            have hS9 := hS7.keep hT6
            have hR5 := hR3.below hT6.toBelow (Nat.le_refl _)
            have hR6 := hR2.below hT6.toBelow (Nat.le_refl _)
            have hW5 := hW3.later hT6.toBelow
            have hW6 := hW2.later hT6.toBelow
            have hnPC := hNPC.len
            refine s_val hS9 rfl rfl (r_move rfl (.t rfl rfl)) ?_
            refine s_val hS9 rfl rfl (r_extract rfl (.t rfl rfl) rfl) ?_
            refine s_val hS9 rfl rfl (r_extract rfl (.t rfl rfl) rfl) ?_
            refine s_val hS9 rfl rfl (r_assign rfl (.t rfl rfl)) ?_
            refine s_val hS9 rfl rfl (r_assign rfl (.t rfl rfl)) ?_
            refine wpList_nil ?_
            refine x_tn ?_
            refine k_reb [(0, .slice aP n cP), (2, .bool false), (3, .int .i64 (((i : Nat) : Int))), (4, .int .i64 (((mN % 120 : Nat) : Int))), (8, .slice a1 PA.length c5), (9, .int .i64 0), (10, .slice a2 PB.length c6), (11, .int .i64 0), (12, .slice a3 PC.length c7), (13, .int .i64 0)] ⟨rfl, rfl, rfl, rfl, rfl, rfl, rfl, rfl, rfl, rfl, trivial⟩ fun G22 => ?_
            refine wp_seq ?_
            refine wp_seq ?_
            refine k_reg ?_
            refine s_val hS9 rfl rfl (r_move rfl (.t rfl rfl)) ?_
            refine s_call rfl rfl rfl (vs := [.int .i64 0]) ⟨(.t rfl rfl), trivial⟩ cb13 (num_ok w6 0) ?_
            rintro _ w6 ⟨rfl, rfl⟩
            refine s_val hS9 rfl rfl (r_move rfl (.t rfl rfl)) ?_
            refine s_call rfl rfl rfl (vs := [.int .i64 0]) ⟨(.t rfl rfl), trivial⟩ cb13 (num_ok w6 0) ?_
            rintro _ w6 ⟨rfl, rfl⟩
            refine s_val hS9 rfl rfl (r_arith rfl rfl (.t rfl rfl) (.t rfl rfl) (c := ((0 : Nat) : Int)) (wn_i64 (by show (0 : Int) + 0 = _; omega) (by omega))) ?_
            refine s_val hS9 rfl rfl (r_move rfl (.t rfl rfl)) ?_
            refine s_call rfl rfl rfl (vs := [.int .i64 0]) ⟨(.t rfl rfl), trivial⟩ cb13 (num_ok w6 0) ?_
            rintro _ w6 ⟨rfl, rfl⟩
            refine s_val hS9 rfl rfl (r_arith rfl rfl (.t rfl rfl) (.t rfl rfl) (c := ((0 : Nat) : Int)) (wn_i64 (by show (0 : Int) + 0 = _; omega) (by omega))) ?_
            refine s_val hS9 rfl rfl (r_cmp_f rfl rfl (.t rfl rfl) .c (show ¬ (¬ 0 = 0) from by omega)) ?_
            refine s_val hS9 rfl rfl (r_move rfl (.t rfl rfl)) ?_
            refine s_valg hS9 (wanted_of (j := 9) (b := false) (d := 105) rfl rfl rfl rfl) rfl (r_move rfl (.t rfl rfl)) ?_
            refine s_valg hS9 (wanted_of (j := 9) (b := false) (d := 105) rfl rfl rfl rfl) rfl (r_move rfl (.t rfl rfl)) ?_
            refine s_callg (wanted_of (j := 9) (b := false) (d := 105) rfl rfl rfl rfl) rfl rfl (vs := [.slice a1 PA.length c5, .slice a2 PB.length c6]) ⟨(.t rfl rfl), (.t rfl rfl), trivial⟩ cb19 (lmul_ok w6 a1 c5 PA hR5 a2 c6 PB hR6 hNPA hNPB (by simp only [hlPA, hlPB, hlPC]; rw [← Nat.pow_add]; exact pow_fit (by omega) (by omega))) ?_
            intro v6 w7 hp6
            obtain ⟨N1, hp6, ⟨hNN1, hlN1⟩⟩ := hp6
            obtain ⟨a4, c8, rfl, hR7, -, hT7⟩ := id hp6
            have hW7 := Ow.from_ hS9 hp6
            have hS10 := hS9.keep hT7
            have hR8 := hR5.below hT7.toBelow (Nat.le_refl _)
            have hR9 := hR6.below hT7.toBelow (Nat.le_refl _)
            have hR10 := hR4.below hT7.toBelow (Nat.le_refl _)
            have hW8 := hW5.later hT7.toBelow
            have hW9 := hW6.later hT7.toBelow
            have hW10 := hW4.later hT7.toBelow
            have hnN1 := hNN1.len
            refine s_valg hS10 (wanted_of (j := 9) (b := false) (d := 105) rfl rfl rfl rfl) rfl (r_move rfl (.t rfl rfl)) ?_
            refine s_callg (wanted_of (j := 9) (b := false) (d := 105) rfl rfl rfl rfl) rfl rfl (vs := [.slice a4 N1.length c8, .slice a3 PC.length c7]) ⟨(.t rfl rfl), (.t rfl rfl), trivial⟩ cb14 (eq_ok w7 a4 c8 N1 hR7 a3 c7 PC hR10 hNN1 hNPC) ?_
            rintro _ w8 ⟨⟨hc1, rfl⟩ | ⟨hc1, rfl⟩, hB3⟩
            rotate_left
            · exact absurd ((by simp only [hlPA, hlPB, hlPC, hlN1]; exact (Nat.pow_add _ _ _).symm)) hc1
            have hS11 := hS10.keep hB3
            replace hB3 := hB3.toBelow
            have hR11 := hR8.below hB3 (Nat.le_refl _)
            have hR12 := hR9.below hB3 (Nat.le_refl _)
            have hR13 := hR10.below hB3 (Nat.le_refl _)
            have hR14 := hR7.below hB3 (Nat.le_refl _)
            have hW11 := hW8.later hB3
            have hW12 := hW9.later hB3
            have hW13 := hW10.later hB3
            have hW14 := hW7.later hB3
            refine s_valg hS11 (wanted_of (j := 9) (b := false) (d := 105) rfl rfl rfl rfl) rfl (r_lnot rfl (.t rfl rfl)) ?_
            refine s_val hS11 rfl rfl (r_pick rfl (.t rfl rfl) (.t rfl rfl)) ?_
            refine wpList_nil ?_
            refine x_tn ?_
            refine k_reb [(0, .slice aP n cP), (2, .bool false), (3, .int .i64 (((i : Nat) : Int))), (4, .int .i64 (((mN % 120 : Nat) : Int))), (9, .int .i64 0), (11, .int .i64 0), (112, .bool false)] ⟨rfl, rfl, rfl, rfl, rfl, rfl, rfl, trivial⟩ fun G23 => ?_
            refine k_f (.t rfl rfl) ?_
            refine wp_skip ?_
            refine x_tn ?_
            refine k_reb [(0, .slice aP n cP), (2, .bool false), (3, .int .i64 (((i : Nat) : Int))), (4, .int .i64 (((mN % 120 : Nat) : Int))), (9, .int .i64 0), (11, .int .i64 0)] ⟨rfl, rfl, rfl, rfl, rfl, rfl, trivial⟩ fun G24 => ?_
            refine wp_seq ?_
            refine k_reg ?_
            refine s_val hS11 rfl rfl (r_move rfl (.t rfl rfl)) ?_
            refine s_call rfl rfl rfl (vs := [.int .u32 10, .int .i64 (((mN % 120 : Nat) : Int))]) ⟨.c, (.t rfl rfl), trivial⟩ cb29 (Power_ok w8 10 (mN % 120) (by omega) (by omega)) ?_
            rintro v7 w9 hp7
            obtain ⟨htTEN, TEN, _, rfl, hp7, hNTEN, hlTEN⟩ := hp7.fits (pow_fit (by omega) (by omega))
            obtain ⟨a5, c9, rfl, hR15, -, hT9⟩ := id hp7
            have hW15 := Ow.from_ hS11 hp7
            have hS13 := hS11.keep hT9
            have hW16 := hW11.later hT9.toBelow
            have hW17 := hW12.later hT9.toBelow
            have hW18 := hW13.later hT9.toBelow
            have hW19 := hW14.later hT9.toBelow
            have hnTEN := hNTEN.len
            refine s_val hS13 rfl rfl (r_move rfl (.t rfl rfl)) ?_
            refine s_val hS13 rfl rfl (r_extract rfl (.t rfl rfl) rfl) ?_
            refine s_val hS13 rfl rfl (r_extract rfl (.t rfl rfl) rfl) ?_
            refine s_val hS13 rfl rfl (r_assign rfl (.t rfl rfl)) ?_
            refine s_val hS13 rfl rfl (r_assign rfl (.t rfl rfl)) ?_
            refine wpList_nil ?_
            refine x_tn ?_
            refine k_reb [(0, .slice aP n cP), (2, .bool false), (3, .int .i64 (((i : Nat) : Int))), (4, .int .i64 (((mN % 120 : Nat) : Int))), (9, .int .i64 0), (11, .int .i64 0), (14, .slice a5 TEN.length c9)] ⟨rfl, rfl, rfl, rfl, rfl, rfl, rfl, trivial⟩ fun G25 => ?_
            refine wp_seq ?_
            refine k_reg ?_
            refine s_val hS13 rfl rfl (r_move rfl (.t rfl rfl)) ?_
            refine s_call rfl rfl rfl (vs := [.slice a5 TEN.length c9]) ⟨(.t rfl rfl), trivial⟩ cb30 (Text_ok w9 a5 c9 TEN hR15 hNTEN) ?_
            intro v8 w10 hp8
            obtain ⟨hp8, hB4⟩ := hp8
            have hS14 := hS13.keep hB4
            replace hB4 := hB4.toBelow
            have hR16 := hR15.below hB4 (Nat.le_refl _)
            have hW20 := hW16.later hB4
            have hW21 := hW17.later hB4
            have hW22 := hW18.later hB4
            have hW23 := hW19.later hB4
            have hW24 := hW15.later hB4
            obtain rfl := hp8
            have hsz : (decB (lv TEN)).size = mN % 120 + 1 := by rw [hlTEN, decB_ten_size]
            refine s_val hS14 rfl rfl (r_assign rfl (.t rfl rfl)) ?_
            refine wpList_nil ?_
            refine x_tn ?_
            refine k_reb [(0, .slice aP n cP), (2, .bool false), (3, .int .i64 (((i : Nat) : Int))), (4, .int .i64 (((mN % 120 : Nat) : Int))), (9, .int .i64 0), (11, .int .i64 0), (15, .string (decB (lv TEN)))] ⟨rfl, rfl, rfl, rfl, rfl, rfl, rfl, trivial⟩ fun G26 => ?_
            refine wp_seq ?_
            refine wp_seq ?_
            refine k_reg ?_
            refine s_val hS14 rfl rfl (r_move rfl (.t rfl rfl)) ?_
            refine s_call rfl rfl rfl (vs := [.int .i64 0]) ⟨(.t rfl rfl), trivial⟩ cb13 (num_ok w10 0) ?_
            rintro _ w10 ⟨rfl, rfl⟩
            refine s_val hS14 rfl rfl (r_cmp_f rfl rfl (.t rfl rfl) .c (show ¬ (¬ 0 = 0) from by omega)) ?_
            refine s_val hS14 rfl rfl (r_move rfl (.t rfl rfl)) ?_
            refine s_valg hS14 (wanted_of (j := 3) (b := false) (d := 123) rfl rfl rfl rfl) rfl (r_move rfl (.t rfl rfl)) ?_
            refine s_valg hS14 (wanted_of (j := 3) (b := false) (d := 123) rfl rfl rfl rfl) rfl (r_lens rfl rfl Try.underlying9 (.t rfl rfl)) ?_
            refine s_valg hS14 (wanted_of (j := 3) (b := false) (d := 123) rfl rfl rfl rfl) rfl (r_move rfl (.t rfl rfl)) ?_
            refine s_valg hS14 (wanted_of (j := 3) (b := false) (d := 123) rfl rfl rfl rfl) rfl (r_arith rfl rfl (.t rfl rfl) .c (c := (((mN % 120) + 1 : Nat) : Int)) (wn_i64 (by show (((mN % 120 : Nat) : Int) : Int) + 1 = _; omega) (by omega))) ?_
            refine s_valg hS14 (wanted_of (j := 3) (b := false) (d := 123) rfl rfl rfl rfl) rfl (r_cmp_f rfl rfl (.t rfl rfl) (.t rfl rfl) (show ¬ (¬ (((decB (lv TEN)).size : Nat) : Int) = (((mN % 120) + 1 : Nat) : Int)) from (by omega))) ?_
            refine s_val hS14 rfl rfl (r_pick rfl (.t rfl rfl) (.t rfl rfl)) ?_
            refine s_val hS14 rfl rfl (r_move rfl (.t rfl rfl)) ?_
            refine s_valg hS14 (wanted_of (j := 10) (b := false) (d := 130) rfl rfl rfl rfl) rfl (r_move rfl (.t rfl rfl)) ?_
            refine s_valg hS14 (wanted_of (j := 10) (b := false) (d := 130) rfl rfl rfl rfl) rfl (r_idxs (j := 0) (c := ((decB (lv TEN)).data.toList.getD 0 0).toNat) rfl Try.underlying9 (.t rfl rfl) .c rfl (byte_at (by omega)) (byte_lt _)) ?_
            refine s_valg hS14 (wanted_of (j := 10) (b := false) (d := 130) rfl rfl rfl rfl) rfl (r_cmp_f rfl rfl (.t rfl rfl) .c (show ¬ (¬ ((((decB (lv TEN)).data.toList.getD 0 0).toNat : Nat) : Int) = 49) from (by rw [hlTEN, decB_ten_head]; simp))) ?_
            refine s_val hS14 rfl rfl (r_pick rfl (.t rfl rfl) (.t rfl rfl)) ?_
            refine wpList_nil ?_
            refine x_tn ?_
            refine k_reb [(0, .slice aP n cP), (2, .bool false), (3, .int .i64 (((i : Nat) : Int))), (4, .int .i64 (((mN % 120 : Nat) : Int))), (9, .int .i64 0), (11, .int .i64 0), (15, .string (decB (lv TEN))), (134, .bool false)] ⟨rfl, rfl, rfl, rfl, rfl, rfl, rfl, rfl, trivial⟩ fun G27 => ?_
            refine k_f (.t rfl rfl) ?_
            refine wp_skip ?_
            refine x_tn ?_
            refine k_reb [(0, .slice aP n cP), (2, .bool false), (3, .int .i64 (((i : Nat) : Int))), (4, .int .i64 (((mN % 120 : Nat) : Int))), (9, .int .i64 0), (11, .int .i64 0), (15, .string (decB (lv TEN)))] ⟨rfl, rfl, rfl, rfl, rfl, rfl, rfl, trivial⟩ fun G28 => ?_
            refine wp_seq ?_
            refine wp_seq ?_
            refine k_reg ?_
            refine s_val hS14 rfl rfl (r_assign rfl .c) ?_
            refine wpList_nil ?_
            refine x_tn ?_
            refine wp_block ?_
            refine wp_loop_ghost (fun (m2 : Nat) a w => ∃ (G : Nat → Value) (k : Nat), a = fr 177 [(0, .slice aP n cP), (2, .bool false), (3, .int .i64 (((i : Nat) : Int))), (4, .int .i64 (((mN % 120 : Nat) : Int))), (9, .int .i64 0), (11, .int .i64 0), (15, .string (decB (lv TEN))), (16, .int .i64 (((k : Nat) : Int)))] G ∧ St w0 [] [] w ∧ (m2 = (decB (lv TEN)).size - (k - 1) ∧ 1 ≤ k ∧ k ≤ (decB (lv TEN)).size)) ((decB (lv TEN)).size) ⟨_, 1, fr_reb _ ⟨rfl, rfl, rfl, rfl, rfl, rfl, rfl, rfl, trivial⟩, hS14, ?_⟩ ?_
            · exact ⟨rfl, Nat.le_refl _, by omega⟩
            · intro m2 _ w11 hI2
              obtain ⟨G29, k, rfl, hS15, ⟨hmk, hk1, hk⟩⟩ := hI2
              refine wp_seq ?_
              refine wp_seq ?_
              refine k_reg ?_
              refine s_val hS15 rfl rfl (r_move rfl (.t rfl rfl)) ?_
              refine s_val hS15 rfl rfl (r_move rfl (.t rfl rfl)) ?_
              refine s_val hS15 rfl rfl (r_lens rfl rfl Try.underlying9 (.t rfl rfl)) ?_
              by_cases c10 : k < (decB (lv TEN)).size
              · refine s_val hS15 rfl rfl (r_cmp_t rfl rfl (.t rfl rfl) (.t rfl rfl) (show ((k : Nat) : Int) < (((decB (lv TEN)).size : Nat) : Int) from by omega)) ?_
                refine wpList_nil ?_
                refine x_tn ?_
                refine k_reb [(0, .slice aP n cP), (2, .bool false), (3, .int .i64 (((i : Nat) : Int))), (4, .int .i64 (((mN % 120 : Nat) : Int))), (9, .int .i64 0), (11, .int .i64 0), (15, .string (decB (lv TEN))), (16, .int .i64 (((k : Nat) : Int))), (138, .bool true)] ⟨rfl, rfl, rfl, rfl, rfl, rfl, rfl, rfl, rfl, trivial⟩ fun G30 => ?_
                refine k_t (.t rfl rfl) ?_
                refine wp_skip ?_
                refine x_tn ?_
                refine k_reb [(0, .slice aP n cP), (2, .bool false), (3, .int .i64 (((i : Nat) : Int))), (4, .int .i64 (((mN % 120 : Nat) : Int))), (9, .int .i64 0), (11, .int .i64 0), (15, .string (decB (lv TEN))), (16, .int .i64 (((k : Nat) : Int)))] ⟨rfl, rfl, rfl, rfl, rfl, rfl, rfl, rfl, trivial⟩ fun G31 => ?_
                refine wp_seq ?_
                refine wp_block ?_
                refine wp_seq ?_
                refine k_reg ?_
                refine s_val hS15 rfl rfl (r_move rfl (.t rfl rfl)) ?_
                refine s_val hS15 rfl rfl (r_move rfl (.t rfl rfl)) ?_
                refine s_val hS15 rfl rfl (r_idxs (j := k) (c := ((decB (lv TEN)).data.toList.getD k 0).toNat) rfl Try.underlying9 (.t rfl rfl) (.t rfl rfl) rfl (byte_at (by omega)) (byte_lt _)) ?_
                refine s_val hS15 rfl rfl (r_cmp_f rfl rfl (.t rfl rfl) .c (show ¬ (¬ ((((decB (lv TEN)).data.toList.getD k 0).toNat : Nat) : Int) = 48) from (by rw [hlTEN, decB_ten_tail hk1 (by omega)]; simp))) ?_
                refine wpList_nil ?_
                refine x_tn ?_
                refine k_reb [(0, .slice aP n cP), (2, .bool false), (3, .int .i64 (((i : Nat) : Int))), (4, .int .i64 (((mN % 120 : Nat) : Int))), (9, .int .i64 0), (11, .int .i64 0), (15, .string (decB (lv TEN))), (16, .int .i64 (((k : Nat) : Int))), (144, .bool false)] ⟨rfl, rfl, rfl, rfl, rfl, rfl, rfl, rfl, rfl, trivial⟩ fun G32 => ?_
                refine k_f (.t rfl rfl) ?_
                refine wp_skip ?_
                refine x_bn ?_
                refine x_tn ?_
                refine k_reb [(0, .slice aP n cP), (2, .bool false), (3, .int .i64 (((i : Nat) : Int))), (4, .int .i64 (((mN % 120 : Nat) : Int))), (9, .int .i64 0), (11, .int .i64 0), (15, .string (decB (lv TEN))), (16, .int .i64 (((k : Nat) : Int)))] ⟨rfl, rfl, rfl, rfl, rfl, rfl, rfl, rfl, trivial⟩ fun G33 => ?_
                refine k_reg ?_
                refine s_val hS15 rfl rfl (r_move rfl (.t rfl rfl)) ?_
                refine s_val hS15 rfl rfl (r_arith rfl rfl (.t rfl rfl) .c (c := ((k + 1 : Nat) : Int)) (wn_i64 (by show (((k : Nat) : Int) : Int) + 1 = _; omega) (by omega))) ?_
                refine s_val hS15 rfl rfl (r_assign rfl (.t rfl rfl)) ?_
                refine wpList_nil ?_
                refine x_tn ?_
                refine ⟨(decB (lv TEN)).size - k, by omega, _, k + 1, fr_reb _ ⟨rfl, rfl, rfl, rfl, rfl, rfl, rfl, rfl, trivial⟩, hS15, ?_⟩
                exact ⟨by omega, by omega, by omega⟩
              · refine s_val hS15 rfl rfl (r_cmp_f rfl rfl (.t rfl rfl) (.t rfl rfl) (show ¬ (((k : Nat) : Int) < (((decB (lv TEN)).size : Nat) : Int)) from by omega)) ?_
                refine wpList_nil ?_
                refine x_tn ?_
                refine k_reb [(0, .slice aP n cP), (2, .bool false), (3, .int .i64 (((i : Nat) : Int))), (4, .int .i64 (((mN % 120 : Nat) : Int))), (9, .int .i64 0), (11, .int .i64 0), (15, .string (decB (lv TEN))), (16, .int .i64 (((k : Nat) : Int))), (138, .bool false)] ⟨rfl, rfl, rfl, rfl, rfl, rfl, rfl, rfl, rfl, trivial⟩ fun G34 => ?_
                refine k_f (.t rfl rfl) ?_
                refine wp_exit ?_
                refine x_te ?_
                refine x_te ?_
                refine x_be ?_
                refine x_tn ?_
                refine k_reb [(0, .slice aP n cP), (2, .bool false), (3, .int .i64 (((i : Nat) : Int))), (4, .int .i64 (((mN % 120 : Nat) : Int))), (9, .int .i64 0), (11, .int .i64 0)] ⟨rfl, rfl, rfl, rfl, rfl, rfl, trivial⟩ fun G35 => ?_
                refine wp_seq ?_
                refine k_reg ?_
                refine s_val hS15 rfl rfl (r_move rfl (.t rfl rfl)) ?_
                refine s_call rfl rfl rfl (vs := [.int .u32 0, .int .i64 (((mN % 120 : Nat) : Int))]) ⟨.c, (.t rfl rfl), trivial⟩ cb29 (Power_ok w11 0 (mN % 120) (by omega) (by omega)) ?_
                rintro v9 w12 hp9
                obtain ⟨htZZ, ZZ, _, rfl, hp9, hNZZ, hlZZ⟩ := hp9.fits (pow_fit (by omega) (by omega))
                obtain ⟨a6, c11, rfl, hR17, -, hT11⟩ := id hp9
                have hW25 := Ow.from_ hS15 hp9
                have hS17 := hS15.keep hT11
                have hnZZ := hNZZ.len
                refine s_val hS17 rfl rfl (r_move rfl (.t rfl rfl)) ?_
                refine s_val hS17 rfl rfl (r_extract rfl (.t rfl rfl) rfl) ?_
                refine s_val hS17 rfl rfl (r_extract rfl (.t rfl rfl) rfl) ?_
                refine s_val hS17 rfl rfl (r_assign rfl (.t rfl rfl)) ?_
                refine s_val hS17 rfl rfl (r_assign rfl (.t rfl rfl)) ?_
                refine wpList_nil ?_
                refine x_tn ?_
                refine k_reb [(0, .slice aP n cP), (2, .bool false), (3, .int .i64 (((i : Nat) : Int))), (4, .int .i64 (((mN % 120 : Nat) : Int))), (9, .int .i64 0), (11, .int .i64 0), (17, .slice a6 ZZ.length c11)] ⟨rfl, rfl, rfl, rfl, rfl, rfl, rfl, trivial⟩ fun G36 => ?_
                refine wp_seq ?_
                refine k_reg ?_
                refine s_val hS17 rfl rfl (r_move rfl (.t rfl rfl)) ?_
                refine s_val hS17 rfl rfl (r_arith rfl rfl (.t rfl rfl) .c (c := (((mN % 120) * 101 : Nat) : Int)) (wn_i64 (Int.natCast_mul _ _).symm (by omega))) ?_
                refine s_call rfl rfl rfl (vs := [.int .u32 1, .int .i64 ((((mN % 120) * 101 : Nat) : Int))]) ⟨.c, (.t rfl rfl), trivial⟩ cb29 (Power_ok w12 1 ((mN % 120) * 101) (by omega) (by omega)) ?_
                rintro v10 w13 hp10
                obtain ⟨htEE, EE, _, rfl, hp10, hNEE, hlEE⟩ := hp10.fits (by rw [Nat.one_pow]; exact one_top)
                obtain ⟨a7, c12, rfl, hR18, -, hT13⟩ := id hp10
                have hW26 := Ow.from_ hS17 hp10
                have hS19 := hS17.keep hT13
                have hR19 := hR17.below hT13.toBelow (Nat.le_refl _)
                have hW27 := hW25.later hT13.toBelow
                have hnEE := hNEE.len
                refine s_val hS19 rfl rfl (r_move rfl (.t rfl rfl)) ?_
                refine s_val hS19 rfl rfl (r_extract rfl (.t rfl rfl) rfl) ?_
                refine s_val hS19 rfl rfl (r_extract rfl (.t rfl rfl) rfl) ?_
                refine s_val hS19 rfl rfl (r_assign rfl (.t rfl rfl)) ?_
                refine s_val hS19 rfl rfl (r_assign rfl (.t rfl rfl)) ?_
                refine wpList_nil ?_
                refine x_tn ?_
                refine k_reb [(0, .slice aP n cP), (2, .bool false), (3, .int .i64 (((i : Nat) : Int))), (4, .int .i64 (((mN % 120 : Nat) : Int))), (9, .int .i64 0), (11, .int .i64 0), (17, .slice a6 ZZ.length c11), (18, .slice a7 EE.length c12)] ⟨rfl, rfl, rfl, rfl, rfl, rfl, rfl, rfl, trivial⟩ fun G37 => ?_
                refine wp_seq ?_
                refine k_reg ?_
                refine s_val hS19 rfl rfl (r_move rfl (.t rfl rfl)) ?_
                refine s_call rfl rfl rfl (vs := [.int .i64 0]) ⟨(.t rfl rfl), trivial⟩ cb13 (num_ok w13 0) ?_
                rintro _ w13 ⟨rfl, rfl⟩
                refine s_val hS19 rfl rfl (r_move rfl (.t rfl rfl)) ?_
                refine s_call rfl rfl rfl (vs := [.int .i64 0]) ⟨(.t rfl rfl), trivial⟩ cb13 (num_ok w13 0) ?_
                rintro _ w13 ⟨rfl, rfl⟩
                refine s_val hS19 rfl rfl (r_arith rfl rfl (.t rfl rfl) (.t rfl rfl) (c := ((0 : Nat) : Int)) (wn_i64 (by show (0 : Int) + 0 = _; omega) (by omega))) ?_
                refine s_val hS19 rfl rfl (r_cmp_f rfl rfl (.t rfl rfl) .c (show ¬ (¬ 0 = 0) from by omega)) ?_
                refine s_val hS19 rfl rfl (r_move rfl (.t rfl rfl)) ?_
                refine s_valg hS19 (wanted_of (j := 6) (b := false) (d := 162) rfl rfl rfl rfl) rfl (r_move rfl (.t rfl rfl)) ?_
                refine s_callg (wanted_of (j := 6) (b := false) (d := 162) rfl rfl rfl rfl) rfl rfl (vs := [.int .u64 1]) ⟨.c, trivial⟩ cb18 (from_ok w13 1 (by omega)) ?_
                intro v11 w14 hp11
                obtain ⟨N2, hp11, ⟨hNN2, hlN2⟩⟩ := hp11
                obtain ⟨a8, c13, rfl, hR20, -, hT14⟩ := id hp11
                have hW28 := Ow.from_ hS19 hp11
                have hS20 := hS19.keep hT14
                have hR21 := hR19.below hT14.toBelow (Nat.le_refl _)
                have hR22 := hR18.below hT14.toBelow (Nat.le_refl _)
                have hW29 := hW27.later hT14.toBelow
                have hW30 := hW26.later hT14.toBelow
                have hnN2 := hNN2.len
                refine s_callg (wanted_of (j := 6) (b := false) (d := 162) rfl rfl rfl rfl) rfl rfl (vs := [.slice a7 EE.length c12, .slice a8 N2.length c13]) ⟨(.t rfl rfl), (.t rfl rfl), trivial⟩ cb14 (eq_ok w14 a7 c12 EE hR22 a8 c13 N2 hR20 hNEE hNN2) ?_
                rintro _ w15 ⟨⟨hc2, rfl⟩ | ⟨hc2, rfl⟩, hB5⟩
                rotate_left
                · exact absurd ((by simp only [hlPA, hlPB, hlPC, hlN1, hlTEN, hlZZ, hlEE, hlN2]; exact Nat.one_pow _)) hc2
                have hS21 := hS20.keep hB5
                replace hB5 := hB5.toBelow
                have hR23 := hR21.below hB5 (Nat.le_refl _)
                have hR24 := hR22.below hB5 (Nat.le_refl _)
                have hR25 := hR20.below hB5 (Nat.le_refl _)
                have hW31 := hW29.later hB5
                have hW32 := hW30.later hB5
                have hW33 := hW28.later hB5
                refine s_valg hS21 (wanted_of (j := 6) (b := false) (d := 162) rfl rfl rfl rfl) rfl (r_lnot rfl (.t rfl rfl)) ?_
                refine s_val hS21 rfl rfl (r_pick rfl (.t rfl rfl) (.t rfl rfl)) ?_
                refine s_val hS21 rfl rfl (r_move rfl (.t rfl rfl)) ?_
                refine s_valg hS21 (wanted_of (j := 12) (b := false) (d := 168) rfl rfl rfl rfl) rfl (r_move rfl (.t rfl rfl)) ?_
                refine s_valg hS21 (wanted_of (j := 12) (b := false) (d := 168) rfl rfl rfl rfl) rfl (r_len rfl rfl Try.underlying27 (.t rfl rfl)) ?_
                by_cases c14 : ZZ.length = 0
                · refine s_valg hS21 (wanted_of (j := 12) (b := false) (d := 168) rfl rfl rfl rfl) rfl (r_cmp_t rfl rfl (.t rfl rfl) .c (show ((ZZ.length : Nat) : Int) = 0 from by omega)) ?_
                  refine s_valg hS21 (wanted_of (j := 12) (b := false) (d := 168) rfl rfl rfl rfl) rfl (r_move rfl (.t rfl rfl)) ?_
                  refine s_valg hS21 (wanted_of (j := 12) (b := false) (d := 168) rfl rfl rfl rfl) rfl (r_cmp_t rfl rfl (.t rfl rfl) .c (show ((mN % 120 : Nat) : Int) > 0 from (by have := nought_pos hlZZ (by omega); omega))) ?_
                  refine s_valg hS21 (wanted_of (j := 12) (b := false) (d := 168) rfl rfl rfl rfl) rfl (r_neb rfl Try.underlying4 (.t rfl rfl) (.t rfl rfl)) ?_
                  refine s_val hS21 rfl rfl (r_pick rfl (.t rfl rfl) (.t rfl rfl)) ?_
                  refine wpList_nil ?_
                  refine x_tn ?_
                  refine k_reb [(0, .slice aP n cP), (2, .bool false), (3, .int .i64 (((i : Nat) : Int))), (175, .bool false)] ⟨rfl, rfl, rfl, rfl, trivial⟩ fun G38 => ?_
                  refine k_f (.t rfl rfl) ?_
                  refine wp_skip ?_
                  refine x_bn ?_
                  refine x_tn ?_
                  refine k_reb [(0, .slice aP n cP), (2, .bool false), (3, .int .i64 (((i : Nat) : Int)))] ⟨rfl, rfl, rfl, trivial⟩ fun G39 => ?_
                  refine k_reg ?_
                  refine s_val hS21 rfl rfl (r_move rfl (.t rfl rfl)) ?_
                  refine s_val hS21 rfl rfl (r_arith rfl rfl (.t rfl rfl) .c (c := ((i + 1 : Nat) : Int)) (wn_i64 (by show (((i : Nat) : Int) : Int) + 1 = _; omega) (by omega))) ?_
                  refine s_val hS21 rfl rfl (r_assign rfl (.t rfl rfl)) ?_
                  refine wpList_nil ?_
                  refine x_tn ?_
                  refine ⟨n - (i + 1), by omega, _, i + 1, fr_reb _ ⟨rfl, rfl, rfl, trivial⟩, hS21, ?_⟩
                  exact ⟨by omega, by omega⟩
                · refine s_valg hS21 (wanted_of (j := 12) (b := false) (d := 168) rfl rfl rfl rfl) rfl (r_cmp_f rfl rfl (.t rfl rfl) .c (show ¬ (((ZZ.length : Nat) : Int) = 0) from by omega)) ?_
                  refine s_valg hS21 (wanted_of (j := 12) (b := false) (d := 168) rfl rfl rfl rfl) rfl (r_move rfl (.t rfl rfl)) ?_
                  refine s_valg hS21 (wanted_of (j := 12) (b := false) (d := 168) rfl rfl rfl rfl) rfl (r_cmp_f rfl rfl (.t rfl rfl) .c (show ¬ (((mN % 120 : Nat) : Int) > 0) from (by have := nought_zero hNZZ.nz hlZZ (by omega); omega))) ?_
                  refine s_valg hS21 (wanted_of (j := 12) (b := false) (d := 168) rfl rfl rfl rfl) rfl (r_neb rfl Try.underlying4 (.t rfl rfl) (.t rfl rfl)) ?_
                  refine s_val hS21 rfl rfl (r_pick rfl (.t rfl rfl) (.t rfl rfl)) ?_
                  refine wpList_nil ?_
                  refine x_tn ?_
                  refine k_reb [(0, .slice aP n cP), (2, .bool false), (3, .int .i64 (((i : Nat) : Int))), (175, .bool false)] ⟨rfl, rfl, rfl, rfl, trivial⟩ fun G40 => ?_
                  refine k_f (.t rfl rfl) ?_
                  refine wp_skip ?_
                  refine x_bn ?_
                  refine x_tn ?_
                  refine k_reb [(0, .slice aP n cP), (2, .bool false), (3, .int .i64 (((i : Nat) : Int)))] ⟨rfl, rfl, rfl, trivial⟩ fun G41 => ?_
                  refine k_reg ?_
                  refine s_val hS21 rfl rfl (r_move rfl (.t rfl rfl)) ?_
                  refine s_val hS21 rfl rfl (r_arith rfl rfl (.t rfl rfl) .c (c := ((i + 1 : Nat) : Int)) (wn_i64 (by show (((i : Nat) : Int) : Int) + 1 = _; omega) (by omega))) ?_
                  refine s_val hS21 rfl rfl (r_assign rfl (.t rfl rfl)) ?_
                  refine wpList_nil ?_
                  refine x_tn ?_
                  refine ⟨n - (i + 1), by omega, _, i + 1, fr_reb _ ⟨rfl, rfl, rfl, trivial⟩, hS21, ?_⟩
                  exact ⟨by omega, by omega⟩
      · refine s_valg hS1 (wanted_of (j := 4) (b := true) (d := 23) rfl rfl rfl rfl) rfl (r_cmp_f rfl rfl (.t rfl rfl) .c (show ¬ (((i : Nat) : Int) < 20) from by omega)) ?_
        refine s_val hS1 rfl rfl (r_pick rfl (.t rfl rfl) (.t rfl rfl)) ?_
        refine wpList_nil ?_
        refine x_tn ?_
        refine k_reb [(0, .slice aP n cP), (2, .bool false), (3, .int .i64 (((i : Nat) : Int))), (26, .bool false)] ⟨rfl, rfl, rfl, rfl, trivial⟩ fun G42 => ?_
        refine k_f (.t rfl rfl) ?_
        refine wp_exit ?_
        refine x_te ?_
        refine x_te ?_
        refine x_be ?_
        refine x_tn ?_
        refine k_reb [(2, .bool false)] ⟨rfl, trivial⟩ fun G43 => ?_
        refine wp_seq ?_
        refine k_reg ?_
        refine s_call rfl rfl rfl (vs := []) trivial cb16 (wakes_ok w1 ) ?_
        intro v12 w16 hp12
        obtain ⟨hp12, hB6⟩ := hp12
        have hS22 := hS1.keep hB6
        replace hB6 := hB6.toBelow
        obtain rfl := hp12
        refine s_val hS22 rfl rfl (r_assign rfl (.t rfl rfl)) ?_
        refine wpList_nil ?_
        refine x_tn ?_
        refine k_reb [(2, .bool true)] ⟨rfl, trivial⟩ fun G44 => ?_
        refine wp_ret ?_
        refine k_ret1 Try.results7 rfl rfl ?_
        refine ⟨_, rfl, ?_⟩
        exact ⟨rfl, hS22.none⟩
    · refine s_val hS1 rfl rfl (r_cmp_f rfl rfl (.t rfl rfl) (.t rfl rfl) (show ¬ (((i : Nat) : Int) < ((n : Nat) : Int)) from by omega)) ?_
      refine s_val hS1 rfl rfl (r_move rfl (.t rfl rfl)) ?_
      refine s_skip (unwanted_of (j := 4) (b := true) (b' := false) (d := 23) rfl rfl rfl rfl rfl) rfl ?_
      refine s_skip (unwanted_of (j := 4) (b := true) (b' := false) (d := 23) rfl rfl rfl rfl rfl) rfl ?_
      refine s_val hS1 rfl rfl (r_pick rfl (.t rfl rfl) .c) ?_
      refine wpList_nil ?_
      refine x_tn ?_
      refine k_reb [(0, .slice aP n cP), (2, .bool false), (3, .int .i64 (((i : Nat) : Int))), (26, .bool false)] ⟨rfl, rfl, rfl, rfl, trivial⟩ fun G45 => ?_
      refine k_f (.t rfl rfl) ?_
      refine wp_exit ?_
      refine x_te ?_
      refine x_te ?_
      refine x_be ?_
      refine x_tn ?_
      refine k_reb [(2, .bool false)] ⟨rfl, trivial⟩ fun G46 => ?_
      refine wp_seq ?_
      refine k_reg ?_
      refine s_call rfl rfl rfl (vs := []) trivial cb16 (wakes_ok w1 ) ?_
      intro v13 w17 hp13
      obtain ⟨hp13, hB7⟩ := hp13
      have hS23 := hS1.keep hB7
      replace hB7 := hB7.toBelow
      obtain rfl := hp13
      refine s_val hS23 rfl rfl (r_assign rfl (.t rfl rfl)) ?_
      refine wpList_nil ?_
      refine x_tn ?_
      refine k_reb [(2, .bool true)] ⟨rfl, trivial⟩ fun G47 => ?_
      refine wp_ret ?_
      refine k_ret1 Try.results7 rfl rfl ?_
      refine ⟨_, rfl, ?_⟩
      exact ⟨rfl, hS23.none⟩

end Go.Proofs.Ytnbklceenfjojaa

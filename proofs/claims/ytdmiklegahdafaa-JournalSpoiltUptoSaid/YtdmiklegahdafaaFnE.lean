/- Contracts of functions of the program, each walked once. -/
import Derived.Test.YtdmiklegahdafaaFnD
namespace Go.Proofs.Ytdmiklegahdafaa
open Go Go.RowKit K
namespace FE
theorem mixed : Try.prog.follows .mixedOrders = true := by kernel_rfl
theorem ti86 : (Try.prog.info? 86).map (fun i => (i.zero, i.size, i.bytes)) = some (some (.agg #[.int .i32 0, .int .u32 0, .int .i64 0, .int .i64 0, .map none, .bool false, .int .i64 0, .int .i64 0, .int .i64 0, .int .i64 0]), 10, 72) := by kernel_rfl
theorem pl86 : ∀ w, (fieldPlaces (match Try.prog.underlying 86 with | some (.struct fs) => fs | _ => #[])).run Try.prog w = .ok #[(0, 2), (2, 1), (3, 1), (4, 1), (5, 1), (6, 1), (7, 1), (8, 1), (9, 1)] w := fun w => by kernel_rfl

end FE
open FE
attribute [local irreducible] Go.wpList Go.wpQuiet Go.wpStill Go.wpAny Go.Code.wp
set_option maxRecDepth 10000
set_option maxHeartbeats 8000000
set_option linter.unusedVariables false
set_option linter.unusedSimpArgs false
theorem Load_nil (w0 : World) (x : Int) (hx : -9223372036854775808 ≤ x ∧ x ≤ 9223372036854775807) :
  Calls Try.prog 53 #[.slice none 0 0, .int .i64 x] w0 (Ret fun v w' => (¬ (1 ≤ x ∧ x ≤ 268435456) → v = .tuple #[.pointer none, .int .i64 100] ∧ St w0 [] (fl []) w') ∧ (1 ≤ x ∧ x ≤ 268435456 → ∃ d m sm, v = .tuple #[.pointer (some ⟨d, 0, none⟩), .int .i64 0] ∧ MapH U8 m none [] sm ∧ St w0 [] (fl [[(d, .cells (dkC 0 m ((Dk.new x.toNat))) DT (0, 0))], sm]) w')) := by
 refine k_enter (vs := [.slice none 0 0, .int .i64 x]) Try.func53 rfl Try.ntmps53 rfl ?_
 have hS : St w0 [] (fl []) w0 := St.init w0
 refine wp_seq ?_
 refine k_reg ?_
 refine s_val hS rfl rfl (r_assign rfl .c) ?_
 refine s_val hS rfl rfl (r_assign rfl .c) ?_
 refine wpList_nil ?_
 refine x_tn ?_
 refine wp_seq ?_
 refine wp_seq ?_
 refine k_reg ?_
 refine s_val hS rfl rfl (r_move rfl (.t rfl rfl)) ?_
 by_cases c1 : x < 1
 ·
  refine s_val hS rfl rfl (r_cmp_t rfl rfl (.t rfl rfl) .c (show x < 1 from by omega)) ?_
  refine s_val hS rfl rfl (r_move rfl (.t rfl rfl)) ?_
  refine s_skip (unwanted_of (j := 2) (b := false) (b' := true) (d := 13) rfl rfl rfl rfl rfl) rfl ?_
  refine s_skip (unwanted_of (j := 2) (b := false) (b' := true) (d := 13) rfl rfl rfl rfl rfl) rfl ?_
  refine s_val hS rfl rfl (r_pick rfl (.t rfl rfl) .c) ?_
  refine wpList_nil ?_
  refine x_tn ?_
  refine k_reb [(0, .slice none 0 0), (1, .int .i64 x), (4, .pointer none), (5, .int .i64 0), (16, .bool true)] ⟨rfl, rfl, rfl, rfl, rfl, trivial⟩ fun G1 => ?_
  refine k_t (.t rfl rfl) ?_
  refine wp_seq ?_
  refine k_reg ?_
  refine s_val hS rfl rfl (r_assign rfl .c) ?_
  refine s_val hS rfl rfl (r_assign rfl .c) ?_
  refine wpList_nil ?_
  refine x_tn ?_
  refine k_reb [(0, .slice none 0 0), (1, .int .i64 x), (4, .pointer none), (5, .int .i64 100)] ⟨rfl, rfl, rfl, rfl, trivial⟩ fun G2 => ?_
  refine wp_ret ?_
  refine x_tr ?_
  refine k_ret2 Try.results53 rfl rfl rfl rfl ?_
  refine ⟨_, rfl, ?_⟩
  exact ⟨fun _ => ⟨rfl, hS⟩, fun h => absurd h (by omega)⟩
 ·
  refine s_val hS rfl rfl (r_cmp_f rfl rfl (.t rfl rfl) .c (show ¬ (x < 1) from by omega)) ?_
  refine s_val hS rfl rfl (r_move rfl (.t rfl rfl)) ?_
  refine s_valg hS (wanted_of (j := 2) (b := false) (d := 13) rfl rfl rfl rfl) rfl (r_move rfl (.t rfl rfl)) ?_
  by_cases c2 : x > 268435456
  ·
   refine s_valg hS (wanted_of (j := 2) (b := false) (d := 13) rfl rfl rfl rfl) rfl (r_cmp_t rfl rfl (.t rfl rfl) .c (show x > 268435456 from by omega)) ?_
   refine s_val hS rfl rfl (r_pick rfl (.t rfl rfl) (.t rfl rfl)) ?_
   refine wpList_nil ?_
   refine x_tn ?_
   refine k_reb [(0, .slice none 0 0), (1, .int .i64 x), (4, .pointer none), (5, .int .i64 0), (16, .bool true)] ⟨rfl, rfl, rfl, rfl, rfl, trivial⟩ fun G3 => ?_
   refine k_t (.t rfl rfl) ?_
   refine wp_seq ?_
   refine k_reg ?_
   refine s_val hS rfl rfl (r_assign rfl .c) ?_
   refine s_val hS rfl rfl (r_assign rfl .c) ?_
   refine wpList_nil ?_
   refine x_tn ?_
   refine k_reb [(0, .slice none 0 0), (1, .int .i64 x), (4, .pointer none), (5, .int .i64 100)] ⟨rfl, rfl, rfl, rfl, trivial⟩ fun G4 => ?_
   refine wp_ret ?_
   refine x_tr ?_
   refine k_ret2 Try.results53 rfl rfl rfl rfl ?_
   refine ⟨_, rfl, ?_⟩
   exact ⟨fun _ => ⟨rfl, hS⟩, fun h => absurd h (by omega)⟩
  ·
   refine s_valg hS (wanted_of (j := 2) (b := false) (d := 13) rfl rfl rfl rfl) rfl (r_cmp_f rfl rfl (.t rfl rfl) .c (show ¬ (x > 268435456) from by omega)) ?_
   refine s_val hS rfl rfl (r_pick rfl (.t rfl rfl) (.t rfl rfl)) ?_
   refine wpList_nil ?_
   refine x_tn ?_
   refine k_reb [(0, .slice none 0 0), (1, .int .i64 x), (4, .pointer none), (5, .int .i64 0), (16, .bool false)] ⟨rfl, rfl, rfl, rfl, rfl, trivial⟩ fun G5 => ?_
   refine k_f (.t rfl rfl) ?_
   refine wp_skip ?_
   refine x_tn ?_
   refine k_reb [(0, .slice none 0 0), (1, .int .i64 x), (4, .pointer none), (5, .int .i64 0)] ⟨rfl, rfl, rfl, rfl, trivial⟩ fun G6 => ?_
   refine wp_seq ?_
   refine wp_seq ?_
   refine k_reg ?_
   refine s_val hS rfl rfl (r_move rfl (.t rfl rfl)) ?_
   refine s_val hS rfl rfl (r_len rfl rfl Try.underlying108 (.t rfl rfl)) ?_
   refine s_val hS rfl rfl (r_cmp_f rfl rfl (.t rfl rfl) .c (show ¬ (0 > 256) from by omega)) ?_
   refine wpList_nil ?_
   refine x_tn ?_
   refine k_reb [(0, .slice none 0 0), (1, .int .i64 x), (4, .pointer none), (5, .int .i64 0), (19, .bool false)] ⟨rfl, rfl, rfl, rfl, rfl, trivial⟩ fun G7 => ?_
   refine k_f (.t rfl rfl) ?_
   refine wp_skip ?_
   refine x_tn ?_
   refine k_reb [(0, .slice none 0 0), (1, .int .i64 x), (4, .pointer none), (5, .int .i64 0)] ⟨rfl, rfl, rfl, rfl, trivial⟩ fun G8 => ?_
   refine wp_seq ?_
   refine k_reg ?_
   refine s_val hS rfl rfl (r_move rfl (.t rfl rfl)) ?_
   refine s_makeMap rfl rfl rfl hS fun m1 w1 hS1 => ?_
   obtain ⟨sm1, hM1, hS2⟩ : ∃ sm1 : Hp, MapH 5 m1 none [] sm1 ∧ St w0 [] (fl [sm1]) w1 := ⟨_, MapH.new, hS1.push 0 rfl⟩
   refine s_val hS2 rfl rfl (r_build rfl Try.underlying86 ti86 pl86 (vs := [(1, .int .i64 x), (3, .map (some m1))]) ⟨rfl, (.t rfl rfl), ⟨rfl, (.t rfl rfl), trivial⟩⟩ rfl) ?_
   refine s_box rfl rfl rfl (.t rfl rfl) (cs := #[.int .i32 0, .int .u32 0, .int .i64 x, .int .i64 0, .map (some m1), .bool false, .int .i64 0, .int .i64 0, .int .i64 0, .int .i64 0]) rfl hS2 fun blk1 w2 hb1 hB1 hS3 => ?_
   have hS4 : St w0 [] (fl [(pa blk1 0 x 0 m1 false 0 0 0 0), sm1]) w2 := hS3.push 0 rfl
   refine s_val hS4 rfl rfl (r_assign rfl (.t rfl rfl)) ?_
   refine wpList_nil ?_
   refine x_tn ?_
   refine k_reb [(0, .slice none 0 0), (1, .int .i64 x), (4, .pointer none), (5, .int .i64 0), (6, .pointer (some ⟨blk1, 0, none⟩))] ⟨rfl, rfl, rfl, rfl, rfl, trivial⟩ fun G9 => ?_
   refine wp_seq ?_
   refine wp_seq ?_
   refine k_reg ?_
   refine s_val hS4 rfl rfl (r_move rfl (.t rfl rfl)) ?_
   refine s_val hS4 rfl rfl (r_len rfl rfl Try.underlying108 (.t rfl rfl)) ?_
   refine s_val hS4 rfl rfl (r_move rfl .c) ?_
   refine wpList_nil ?_
   refine x_tn ?_
   refine k_reb [(1, .int .i64 x), (4, .pointer none), (5, .int .i64 0), (6, .pointer (some ⟨blk1, 0, none⟩)), (24, .slice none 0 0), (25, .int .i64 0), (26, .int .i64 0)] ⟨rfl, rfl, rfl, rfl, rfl, rfl, rfl, trivial⟩ fun G10 => ?_
   refine wp_block ?_
   refine wp_loop_rounds 1 ?_
   refine k_round ?_
   refine wp_seq ?_
   refine k_reg ?_
   refine s_val hS4 rfl rfl (r_cmp_f rfl rfl (.t rfl rfl) (.t rfl rfl) (show ¬ (0 < 0) from by omega)) ?_
   refine wpList_nil ?_
   refine x_tn ?_
   refine wp_seq ?_
   refine k_f (.t rfl rfl) ?_
   refine wp_exit ?_
   refine x_te ?_
   refine x_te ?_
   refine x_be ?_
   refine x_tn ?_
   refine k_reb [(4, .pointer none), (5, .int .i64 0), (6, .pointer (some ⟨blk1, 0, none⟩))] ⟨rfl, rfl, rfl, trivial⟩ fun G11 => ?_
   refine wp_seq ?_
   refine k_reg ?_
   refine s_val hS4 rfl rfl (r_move rfl (.t rfl rfl)) ?_
   refine s_val hS4 rfl rfl (r_assign rfl (.t rfl rfl)) ?_
   refine s_val hS4 rfl rfl (r_assign rfl .c) ?_
   refine wpList_nil ?_
   refine x_tn ?_
   refine k_reb [(4, .pointer (some ⟨blk1, 0, none⟩)), (5, .int .i64 0)] ⟨rfl, rfl, trivial⟩ fun G12 => ?_
   refine wp_ret ?_
   refine k_ret2 Try.results53 rfl rfl rfl rfl ?_
   refine ⟨_, rfl, ?_⟩
   obtain ⟨n, rfl⟩ : ∃ n : Nat, x = (n : Int) := ⟨x.toNat, by omega⟩
   exact ⟨fun h => absurd h (by omega), fun _ => ⟨_, _, _, rfl, hM1, hS4⟩⟩

end Go.Proofs.Ytdmiklegahdafaa

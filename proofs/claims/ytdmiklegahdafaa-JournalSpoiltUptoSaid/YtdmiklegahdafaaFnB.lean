/- Contracts of functions of the program, each walked once. -/
import Derived.Test.YtdmiklegahdafaaFnA
import Derived.Test.YtdmiklegahdafaaKIter
import Derived.Test.YtdmiklegahdafaaKHeld
namespace Go.Proofs.Ytdmiklegahdafaa
open Go Go.RowKit K
namespace FB
theorem mixed : Try.prog.follows .mixedOrders = true := by kernel_rfl
theorem agg88 : (match Try.prog.underlying 88 with | some (.struct _) | some (.array ..) => true | _ => false) = true := by kernel_rfl
theorem cb54 : callable Try.prog 54 = true := by kernel_rfl
theorem cb63 : callable Try.prog 63 = true := by kernel_rfl
theorem one22 : One Try.prog 22 = true := by kernel_rfl
theorem one3 : One Try.prog 3 = true := by kernel_rfl
theorem one4 : One Try.prog 4 = true := by kernel_rfl
theorem one84 : One Try.prog 84 = true := by kernel_rfl
theorem one9 : One Try.prog 9 = true := by kernel_rfl
theorem ti22 : (Try.prog.info? 22).map (fun i => (i.zero, i.size, i.bytes)) = some (some (.slice none 0 0), 1, 24) := by kernel_rfl
theorem ti3 : (Try.prog.info? 3).map (fun i => (i.zero, i.size, i.bytes)) = some (some (.int .i64 0), 1, 8) := by kernel_rfl
theorem ti4 : (Try.prog.info? 4).map (fun i => (i.zero, i.size, i.bytes)) = some (some (.bool false), 1, 1) := by kernel_rfl
theorem ti5 : (Try.prog.info? 5).map (fun i => (i.zero, i.size, i.bytes)) = some (some (.int .u8 0), 1, 1) := by kernel_rfl
theorem ti84 : (Try.prog.info? 84).map (fun i => (i.zero, i.size, i.bytes)) = some (some (.map none), 1, 8) := by kernel_rfl
theorem ti88 : (Try.prog.info? 88).map (fun i => (i.zero, i.size, i.bytes)) = some (some (.agg #[.slice none 0 0, .int .i64 0]), 2, 32) := by kernel_rfl
theorem ti9 : (Try.prog.info? 9).map (fun i => (i.zero, i.size, i.bytes)) = some (some (.string ⟨#[]⟩), 1, 16) := by kernel_rfl
theorem pl88 : ∀ w, (fieldPlaces (match Try.prog.underlying 88 with | some (.struct fs) => fs | _ => #[])).run Try.prog w = .ok #[(0, 1), (1, 1)] w := fun w => by kernel_rfl

end FB
open FB
attribute [local irreducible] Go.wpList Go.wpQuiet Go.wpStill Go.wpAny Go.Code.wp
set_option maxRecDepth 10000
set_option maxHeartbeats 8000000
set_option linter.unusedVariables false
set_option linter.unusedSimpArgs false
abbrev DT : TypeId := 86
abbrev FT : TypeId := 88
abbrev ST : TypeId := 9
abbrev pk (d m : Nat) (D : Dk) : Hp := [(d, .cells (dkC 0 m D) DT (0, 0))]
abbrev pk1 (d m : Nat) (D : Dk) : Hp := [(d, .cells (dkC 1 m D) DT (0, 0))]
abbrev pa (d : Nat) (lk a b : Int) (m : Nat) (o : Bool) (w r k l : Int) : Hp := [(d, .cells #[.int .i32 lk, .int .u32 0, .int .i64 a, .int .i64 b, .map (some m), .bool o, .int .i64 w, .int .i64 r, .int .i64 k, .int .i64 l] DT (0, 0))]
theorem refused_ok (w0 : World) (K : List Nat) (d m : Nat) (D : Dk) (ok : D.ok) (bs : Nat) (s : ByteArray) (ls : s.size ≤ 1000000000000) (hS0 : St w0 K (fl [[(d, .cells (dkC 1 m D) DT (0, 0))], [(bs, .cells #[.string s] ST (0, 0))]]) w0) :
  Calls Try.prog 54 #[.pointer (some ⟨d, 0, none⟩), .slice (some ⟨bs, 0, none⟩) 1 1] w0 (Ret fun v w' => (D.off = true ∧ v = .int .i64 104 ∨ D.off = false ∧ okName s = false ∧ v = .int .i64 101 ∨ D.off = false ∧ okName s = true ∧ v = .int .i64 0) ∧ St w0 K (fl [[(d, .cells (dkC 1 m D) DT (0, 0))], [(bs, .cells #[.string s] ST (0, 0))]]) w') := by
 refine k_enter (vs := [.pointer (some ⟨d, 0, none⟩), .slice (some ⟨bs, 0, none⟩) 1 1]) Try.func54 rfl Try.ntmps54 rfl ?_
 have hS : St w0 K (fl [(pk1 d m D), [(bs, .cells #[.string s] 9 (0, 0))]]) w0 := hS0
 refine wp_seq ?_
 refine k_reg ?_
 refine s_val hS rfl rfl (r_assign rfl .c) ?_
 refine wpList_nil ?_
 refine x_tn ?_
 refine wp_seq ?_
 refine wp_seq ?_
 refine k_reg ?_
 refine s_val hS rfl rfl (r_move rfl (.t rfl rfl)) ?_
 refine s_val hS rfl rfl (r_nilCheck rfl (.t rfl rfl)) ?_
 refine s_val hS rfl rfl (r_fieldN rfl Try.underlying86 rfl ti4 (by decide) (.t rfl rfl) (qq := 5) rfl) ?_
 refine s_val hS rfl rfl (r_load rfl one4 (.t rfl rfl) (St.cell_own (m := 0) rfl rfl)) ?_
 by_cases hoff : D.off = true
 ·
  refine s_asb (b' := true) (hoff) ?_
  refine wpList_nil ?_
  refine x_tn ?_
  refine k_reb [(1, .slice (some ⟨bs, 0, none⟩) 1 1), (4, .int .i64 0), (10, .bool true)] ⟨rfl, rfl, rfl, trivial⟩ fun G1 => ?_
  refine k_t (.t rfl rfl) ?_
  refine wp_seq ?_
  refine k_reg ?_
  refine s_val hS rfl rfl (r_assign rfl .c) ?_
  refine wpList_nil ?_
  refine x_tn ?_
  refine k_reb [(1, .slice (some ⟨bs, 0, none⟩) 1 1), (4, .int .i64 104)] ⟨rfl, rfl, trivial⟩ fun G2 => ?_
  refine wp_ret ?_
  refine x_tr ?_
  refine k_ret1 Try.results54 rfl rfl ?_
  refine ⟨_, rfl, ?_⟩
  exact ⟨.inl ⟨hoff, rfl⟩, hS⟩
 ·
  refine s_asb (b' := false) (Bool.eq_false_iff.2 hoff) ?_
  refine wpList_nil ?_
  refine x_tn ?_
  refine k_reb [(1, .slice (some ⟨bs, 0, none⟩) 1 1), (4, .int .i64 0), (10, .bool false)] ⟨rfl, rfl, rfl, trivial⟩ fun G3 => ?_
  refine k_f (.t rfl rfl) ?_
  refine wp_skip ?_
  refine x_tn ?_
  refine k_reb [(1, .slice (some ⟨bs, 0, none⟩) 1 1), (4, .int .i64 0)] ⟨rfl, rfl, trivial⟩ fun G4 => ?_
  refine wp_seq ?_
  refine wp_seq ?_
  refine k_reg ?_
  refine s_val hS rfl rfl (r_move rfl (.t rfl rfl)) ?_
  refine s_val hS rfl rfl (r_len rfl rfl Try.underlying107 (.t rfl rfl)) ?_
  refine s_val hS rfl rfl (r_move rfl .c) ?_
  refine wpList_nil ?_
  refine x_tn ?_
  refine k_reb [(4, .int .i64 0), (11, .slice (some ⟨bs, 0, none⟩) 1 1), (12, .int .i64 1), (13, .int .i64 0)] ⟨rfl, rfl, rfl, rfl, trivial⟩ fun G5 => ?_
  refine wp_block ?_
  refine wp_loop_rounds 2 ?_
  refine k_round ?_
  refine wp_seq ?_
  refine k_reg ?_
  refine s_val hS rfl rfl (r_cmp_t rfl rfl (.t rfl rfl) (.t rfl rfl) (show 0 < 1 from by omega)) ?_
  refine wpList_nil ?_
  refine x_tn ?_
  refine wp_seq ?_
  refine k_t (.t rfl rfl) ?_
  refine wp_skip ?_
  refine x_tn ?_
  refine wp_seq ?_
  refine wp_block ?_
  refine wp_seq ?_
  refine k_reg ?_
  refine s_val hS rfl rfl (r_ixs (j := 0) rfl Try.underlying107 ti9 (.t rfl rfl) (.t rfl rfl) rfl (by omega) (qq := 0) (by omega)) ?_
  refine s_val hS rfl rfl (r_load rfl one9 (.t rfl rfl) (St.cell_own (m := 1) rfl rfl)) ?_
  refine s_val hS rfl rfl (r_assign rfl (.t rfl rfl)) ?_
  refine wpList_nil ?_
  refine x_tn ?_
  refine wp_seq ?_
  refine k_reg ?_
  refine s_val hS rfl rfl (r_move rfl (.t rfl rfl)) ?_
  refine s_call rfl rfl rfl (vs := [.string s]) ⟨(.t rfl rfl), trivial⟩ cb63 (named_ok w0 s (by omega) ) ?_
  rintro _ w1 ⟨rfl, ht1⟩
  have hS1 : St w0 K (fl [(pk1 d m D), [(bs, .cells #[.string s] 9 (0, 0))]]) w1 := hS.callL (xs := []) (xs' := []) (zs := []) [] rfl (by decide) ht1 rfl rfl
  by_cases hnm : okName s = true
  ·
   refine s_asb (b' := true) (hnm) ?_
   refine s_val hS1 rfl rfl (r_lnot rfl (.t rfl rfl)) ?_
   refine wpList_nil ?_
   refine x_tn ?_
   refine k_f (.t rfl rfl) ?_
   refine wp_skip ?_
   refine x_bn ?_
   refine x_tn ?_
   refine k_reg ?_
   refine s_val hS1 rfl rfl (r_arith rfl rfl (.t rfl rfl) .c (c := ((1 : Nat) : Int)) (wn_i64 (by show (0 : Int) + 1 = _; omega) (by omega))) ?_
   refine s_val hS1 rfl rfl (r_move rfl (.t rfl rfl)) ?_
   refine wpList_nil ?_
   refine x_tn ?_
   refine k_round ?_
   refine wp_seq ?_
   refine k_reg ?_
   refine s_val hS1 rfl rfl (r_cmp_f rfl rfl (.t rfl rfl) (.t rfl rfl) (show ¬ (1 < 1) from by omega)) ?_
   refine wpList_nil ?_
   refine x_tn ?_
   refine wp_seq ?_
   refine k_f (.t rfl rfl) ?_
   refine wp_exit ?_
   refine x_te ?_
   refine x_te ?_
   refine x_be ?_
   refine x_tn ?_
   refine k_reb [(4, .int .i64 0)] ⟨rfl, trivial⟩ fun G6 => ?_
   refine wp_seq ?_
   refine k_reg ?_
   refine s_val hS1 rfl rfl (r_assign rfl .c) ?_
   refine wpList_nil ?_
   refine x_tn ?_
   refine wp_ret ?_
   refine k_ret1 Try.results54 rfl rfl ?_
   refine ⟨_, rfl, ?_⟩
   exact ⟨.inr (.inr ⟨by simpa using hoff, hnm, rfl⟩), hS1⟩
  ·
   refine s_asb (b' := false) (Bool.eq_false_iff.2 hnm) ?_
   refine s_val hS1 rfl rfl (r_lnot rfl (.t rfl rfl)) ?_
   refine wpList_nil ?_
   refine x_tn ?_
   refine k_t (.t rfl rfl) ?_
   refine wp_seq ?_
   refine k_reg ?_
   refine s_val hS1 rfl rfl (r_assign rfl .c) ?_
   refine wpList_nil ?_
   refine x_tn ?_
   refine wp_ret ?_
   refine x_br ?_
   refine x_tr ?_
   refine x_tr ?_
   refine x_br ?_
   refine x_tr ?_
   refine k_ret1 Try.results54 rfl rfl ?_
   refine ⟨_, rfl, ?_⟩
   exact ⟨.inr (.inl ⟨by simpa using hoff, by simpa using hnm, rfl⟩), hS1⟩

theorem torn_ok (w0 : World) (K : List Nat) (d m : Nat) (D : Dk) (ok : D.ok) (hw : D.writes ≤ 4611686018427387904) (hS0 : St w0 K (fl [[(d, .cells (dkC 1 m D) DT (0, 0))]]) w0) :
  Calls Try.prog 55 #[.pointer (some ⟨d, 0, none⟩)] w0 (Ret fun v w' => v = .bool (decide (D.armed = 1)) ∧ St w0 K (fl [[(d, .cells (dkC 1 m ({ D with writes := D.writes + 1, armed := D.armed - 1 })) DT (0, 0))]]) w') := by
 refine k_enter (vs := [.pointer (some ⟨d, 0, none⟩)]) Try.func55 rfl Try.ntmps55 rfl ?_
 have hS : St w0 K (fl [(pk1 d m D)]) w0 := hS0
 have ok1 := ok.room
 have ok2 := ok.fits
 have ok3 := ok.len
 have ok4 := ok.armed
 have ok5 := ok.keep
 have ok6 := ok.lose
 refine wp_seq ?_
 refine k_reg ?_
 refine s_val hS rfl rfl (r_assign rfl .c) ?_
 refine wpList_nil ?_
 refine x_tn ?_
 refine wp_seq ?_
 refine k_reg ?_
 refine s_val hS rfl rfl (r_move rfl (.t rfl rfl)) ?_
 refine s_val hS rfl rfl (r_nilCheck rfl (.t rfl rfl)) ?_
 refine s_val hS rfl rfl (r_fieldN rfl Try.underlying86 rfl ti3 (by decide) (.t rfl rfl) (qq := 6) rfl) ?_
 refine s_val hS rfl rfl (r_load rfl one3 (.t rfl rfl) (St.cell_own (m := 0) rfl rfl)) ?_
 refine s_val hS rfl rfl (r_arith rfl rfl (.t rfl rfl) .c (c := ((D.writes + 1 : Nat) : Int)) (wn_i64 (by show (((D.writes : Nat) : Int) : Int) + 1 = _; omega) (by omega))) ?_
 refine s_val hS rfl rfl (r_nilCheck rfl (.t rfl rfl)) ?_
 refine s_val hS rfl rfl (r_fieldN rfl Try.underlying86 rfl ti3 (by decide) (.t rfl rfl) (qq := 6) rfl) ?_
 refine s_storeB (m := 0) rfl rfl rfl one3 (.t rfl rfl) (.t rfl rfl) rfl hS rfl rfl (c' := #[.int .i32 1, .int .u32 0, .int .i64 (((D.room : Nat) : Int)), .int .i64 (((tot D.F : Nat) : Int)), .map (some m), .bool D.off, .int .i64 (((D.writes + 1 : Nat) : Int)), .int .i64 (((D.armed : Nat) : Int)), .int .i64 D.keep, .int .i64 D.lose]) rfl (h' := (fl [(pa d 1 (((D.room : Nat) : Int)) (((tot D.F : Nat) : Int)) m D.off (((D.writes + 1 : Nat) : Int)) (((D.armed : Nat) : Int)) D.keep D.lose)])) rfl fun w1 hS1 hB1 => ?_
 refine wpList_nil ?_
 refine x_tn ?_
 refine k_reb [(0, .pointer (some ⟨d, 0, none⟩)), (2, .bool false)] ⟨rfl, rfl, trivial⟩ fun G1 => ?_
 refine wp_seq ?_
 refine wp_seq ?_
 refine k_reg ?_
 refine s_val hS1 rfl rfl (r_move rfl (.t rfl rfl)) ?_
 refine s_val hS1 rfl rfl (r_nilCheck rfl (.t rfl rfl)) ?_
 refine s_val hS1 rfl rfl (r_fieldN rfl Try.underlying86 rfl ti3 (by decide) (.t rfl rfl) (qq := 7) rfl) ?_
 refine s_val hS1 rfl rfl (r_load rfl one3 (.t rfl rfl) (St.cell_own (m := 0) rfl rfl)) ?_
 by_cases c1 : D.armed = 0
 ·
  refine s_val hS1 rfl rfl (r_cmp_t rfl rfl (.t rfl rfl) .c (show ((D.armed : Nat) : Int) = 0 from by omega)) ?_
  refine wpList_nil ?_
  refine x_tn ?_
  refine k_reb [(0, .pointer (some ⟨d, 0, none⟩)), (2, .bool false), (14, .bool true)] ⟨rfl, rfl, rfl, trivial⟩ fun G2 => ?_
  refine k_t (.t rfl rfl) ?_
  refine wp_seq ?_
  refine k_reg ?_
  refine s_val hS1 rfl rfl (r_assign rfl .c) ?_
  refine wpList_nil ?_
  refine x_tn ?_
  refine k_reb [(0, .pointer (some ⟨d, 0, none⟩)), (2, .bool false)] ⟨rfl, rfl, trivial⟩ fun G3 => ?_
  refine wp_ret ?_
  refine x_tr ?_
  refine k_ret1 Try.results55 rfl rfl ?_
  refine ⟨_, rfl, ?_⟩
  exact ⟨by rw [decide_eq_false (by omega)], by have e : D.armed - 1 = D.armed := (by omega); rw [e]; exact hS1⟩
 ·
  refine s_val hS1 rfl rfl (r_cmp_f rfl rfl (.t rfl rfl) .c (show ¬ (((D.armed : Nat) : Int) = 0) from by omega)) ?_
  refine wpList_nil ?_
  refine x_tn ?_
  refine k_reb [(0, .pointer (some ⟨d, 0, none⟩)), (2, .bool false), (14, .bool false)] ⟨rfl, rfl, rfl, trivial⟩ fun G4 => ?_
  refine k_f (.t rfl rfl) ?_
  refine wp_skip ?_
  refine x_tn ?_
  refine k_reb [(0, .pointer (some ⟨d, 0, none⟩)), (2, .bool false)] ⟨rfl, rfl, trivial⟩ fun G5 => ?_
  refine wp_seq ?_
  refine k_reg ?_
  refine s_val hS1 rfl rfl (r_move rfl (.t rfl rfl)) ?_
  refine s_val hS1 rfl rfl (r_nilCheck rfl (.t rfl rfl)) ?_
  refine s_val hS1 rfl rfl (r_fieldN rfl Try.underlying86 rfl ti3 (by decide) (.t rfl rfl) (qq := 7) rfl) ?_
  refine s_val hS1 rfl rfl (r_load rfl one3 (.t rfl rfl) (St.cell_own (m := 0) rfl rfl)) ?_
  refine s_val hS1 rfl rfl (r_arith rfl rfl (.t rfl rfl) .c (c := ((D.armed - 1 : Nat) : Int)) (wn_i64 (by show (((D.armed : Nat) : Int) : Int) - 1 = _; omega) (by omega))) ?_
  refine s_val hS1 rfl rfl (r_nilCheck rfl (.t rfl rfl)) ?_
  refine s_val hS1 rfl rfl (r_fieldN rfl Try.underlying86 rfl ti3 (by decide) (.t rfl rfl) (qq := 7) rfl) ?_
  refine s_storeB (m := 0) rfl rfl rfl one3 (.t rfl rfl) (.t rfl rfl) rfl hS1 rfl rfl (c' := #[.int .i32 1, .int .u32 0, .int .i64 (((D.room : Nat) : Int)), .int .i64 (((tot D.F : Nat) : Int)), .map (some m), .bool D.off, .int .i64 (((D.writes + 1 : Nat) : Int)), .int .i64 (((D.armed - 1 : Nat) : Int)), .int .i64 D.keep, .int .i64 D.lose]) rfl (h' := (fl [(pa d 1 (((D.room : Nat) : Int)) (((tot D.F : Nat) : Int)) m D.off (((D.writes + 1 : Nat) : Int)) (((D.armed - 1 : Nat) : Int)) D.keep D.lose)])) rfl fun w2 hS2 hB2 => ?_
  refine wpList_nil ?_
  refine x_tn ?_
  refine k_reb [(0, .pointer (some ⟨d, 0, none⟩)), (2, .bool false)] ⟨rfl, rfl, trivial⟩ fun G6 => ?_
  refine wp_seq ?_
  refine k_reg ?_
  refine s_val hS2 rfl rfl (r_move rfl (.t rfl rfl)) ?_
  refine s_val hS2 rfl rfl (r_nilCheck rfl (.t rfl rfl)) ?_
  refine s_val hS2 rfl rfl (r_fieldN rfl Try.underlying86 rfl ti3 (by decide) (.t rfl rfl) (qq := 7) rfl) ?_
  refine s_val hS2 rfl rfl (r_load rfl one3 (.t rfl rfl) (St.cell_own (m := 0) rfl rfl)) ?_
  by_cases c2 : D.armed - 1 = 0
  ·
   refine s_val hS2 rfl rfl (r_cmp_t rfl rfl (.t rfl rfl) .c (show ((D.armed - 1 : Nat) : Int) = 0 from by omega)) ?_
   refine s_val hS2 rfl rfl (r_assign rfl (.t rfl rfl)) ?_
   refine wpList_nil ?_
   refine x_tn ?_
   refine k_reb [(2, .bool true)] ⟨rfl, trivial⟩ fun G7 => ?_
   refine wp_ret ?_
   refine k_ret1 Try.results55 rfl rfl ?_
   refine ⟨_, rfl, ?_⟩
   exact ⟨by rw [decide_eq_true (by omega)], hS2⟩
  ·
   refine s_val hS2 rfl rfl (r_cmp_f rfl rfl (.t rfl rfl) .c (show ¬ (((D.armed - 1 : Nat) : Int) = 0) from by omega)) ?_
   refine s_val hS2 rfl rfl (r_assign rfl (.t rfl rfl)) ?_
   refine wpList_nil ?_
   refine x_tn ?_
   refine k_reb [(2, .bool false)] ⟨rfl, trivial⟩ fun G8 => ?_
   refine wp_ret ?_
   refine k_ret1 Try.results55 rfl rfl ?_
   refine ⟨_, rfl, ?_⟩
   exact ⟨by rw [decide_eq_false (by omega)], hS2⟩

theorem missing_ok (w0 : World) (K : List Nat) (d m : Nat) (D : Dk) (ok : D.ok) (sm : Hp) (hM : MapH U8 m none D.F sm) (bs : Nat) (s : ByteArray) (ls : s.size ≤ 1000000000000) (hS0 : St w0 K (fl [[(d, .cells (dkC 1 m D) DT (0, 0))], [(bs, .cells #[.string s] ST (0, 0))], sm]) w0) :
  Calls Try.prog 44 #[.pointer (some ⟨d, 0, none⟩), .slice (some ⟨bs, 0, none⟩) 1 1] w0 (Ret fun v w' => (D.off = true ∧ v = .tuple #[.agg #[.slice none 0 0, .int .i64 0], .int .i64 104] ∨ D.off = false ∧ okName s = false ∧ v = .tuple #[.agg #[.slice none 0 0, .int .i64 0], .int .i64 101] ∨ D.off = false ∧ okName s = true ∧ lookF D.F s = none ∧ v = .tuple #[.agg #[.slice none 0 0, .int .i64 0], .int .i64 102] ∨ ∃ f ad cap, D.off = false ∧ okName s = true ∧ At U8 m D.F s f ad cap sm ∧ v = .tuple #[.agg #[.slice ad f.bytes.length cap, .int .i64 (f.sure : Nat)], .int .i64 0]) ∧ St w0 K (fl [[(d, .cells (dkC 1 m D) DT (0, 0))], [(bs, .cells #[.string s] ST (0, 0))], sm]) w') := by
 refine k_enter (vs := [.pointer (some ⟨d, 0, none⟩), .slice (some ⟨bs, 0, none⟩) 1 1]) Try.func44 rfl Try.ntmps44 rfl ?_
 have hS : St w0 K (fl [(pk1 d m D), [(bs, .cells #[.string s] 9 (0, 0))], sm]) w0 := hS0
 have ok1 := ok.room
 have ok2 := ok.fits
 have ok3 := ok.len
 have ok4 := ok.armed
 have ok5 := ok.keep
 have ok6 := ok.lose
 refine wp_seq ?_
 refine k_reg ?_
 refine s_alloc rfl rfl rfl ti88 (cs := #[.slice none 0 0, .int .i64 0]) rfl hS fun blk1 w1 hb1 hB1 hS1 => ?_
 have hS2 : St w0 K (fl [(pk1 d m D), [(bs, .cells #[.string s] 9 (0, 0))], [(blk1, .cells #[.slice none 0 0, .int .i64 0] 88 (0, 0))], sm]) w1 := hS1.push 2 rfl
 refine s_val hS2 rfl rfl (r_assign rfl .c) ?_
 refine wpList_nil ?_
 refine x_tn ?_
 refine wp_seq ?_
 refine wp_seq ?_
 refine k_reg ?_
 refine s_val hS2 rfl rfl (r_move rfl (.t rfl rfl)) ?_
 refine s_val hS2 rfl rfl (r_move rfl (.t rfl rfl)) ?_
 refine s_call rfl rfl rfl (vs := [.pointer (some ⟨d, 0, none⟩), .slice (some ⟨bs, 0, none⟩) 1 1]) ⟨(.t rfl rfl), (.t rfl rfl), trivial⟩ cb54 (refused_ok w1 _ d m D ok bs s (by omega) (hS2.give (xs := [(pk1 d m D), [(bs, .cells #[.string s] 9 (0, 0))]]) [0, 1] rfl (by decide))) ?_
 rintro v1 w2 ⟨hp1, ht1⟩
 have hS3 : St w0 K (fl [(pk1 d m D), [(bs, .cells #[.string s] 9 (0, 0))], [(blk1, .cells #[.slice none 0 0, .int .i64 0] 88 (0, 0))], sm]) w2 := hS2.callL (xs := [(pk1 d m D), [(bs, .cells #[.string s] 9 (0, 0))]]) (xs' := [(pk1 d m D), [(bs, .cells #[.string s] 9 (0, 0))]]) (zs := []) [0, 1] rfl (by decide) ht1 rfl rfl
 rcases hp1 with ⟨hoff, rfl⟩ | ⟨hoff, hnm, rfl⟩ | ⟨hoff, hnm, rfl⟩
 ·
  refine s_val hS3 rfl rfl (r_assign rfl (.t rfl rfl)) ?_
  refine wpList_nil ?_
  refine x_tn ?_
  refine k_reb [(0, .pointer (some ⟨d, 0, none⟩)), (1, .slice (some ⟨bs, 0, none⟩) 1 1), (4, .pointer (some ⟨blk1, 0, none⟩)), (5, .int .i64 0), (6, .int .i64 104)] ⟨rfl, rfl, rfl, rfl, rfl, trivial⟩ fun G1 => ?_
  refine wp_seq ?_
  refine k_reg ?_
  refine s_val hS3 rfl rfl (r_move rfl (.t rfl rfl)) ?_
  refine s_val hS3 rfl rfl (r_cmp_t rfl rfl (.t rfl rfl) .c (show ¬ 104 = 0 from by omega)) ?_
  refine wpList_nil ?_
  refine x_tn ?_
  refine k_reb [(0, .pointer (some ⟨d, 0, none⟩)), (1, .slice (some ⟨bs, 0, none⟩) 1 1), (4, .pointer (some ⟨blk1, 0, none⟩)), (5, .int .i64 0), (6, .int .i64 104), (13, .bool true)] ⟨rfl, rfl, rfl, rfl, rfl, rfl, trivial⟩ fun G2 => ?_
  refine k_t (.t rfl rfl) ?_
  refine wp_seq ?_
  refine k_reg ?_
  refine s_val hS3 rfl rfl (r_build rfl Try.underlying88 ti88 pl88 (vs := []) trivial rfl) ?_
  refine s_val hS3 rfl rfl (r_move rfl (.t rfl rfl)) ?_
  refine s_storeA (m := 2) rfl rfl rfl ti88 (.t rfl rfl) (vs := [.slice none 0 0, .int .i64 0]) (.t rfl rfl) rfl rfl hS3 rfl (show 2 ≤ 2 from by decide) (c' := #[.slice none 0 0, .int .i64 0]) rfl (h' := (fl [(pk1 d m D), [(bs, .cells #[.string s] 9 (0, 0))], [(blk1, .cells #[.slice none 0 0, .int .i64 0] 88 (0, 0))], sm])) rfl fun w3 hS4 => ?_
  refine s_val hS4 rfl rfl (r_assign rfl (.t rfl rfl)) ?_
  refine wpList_nil ?_
  refine x_tn ?_
  refine k_reb [(0, .pointer (some ⟨d, 0, none⟩)), (1, .slice (some ⟨bs, 0, none⟩) 1 1), (4, .pointer (some ⟨blk1, 0, none⟩)), (5, .int .i64 104)] ⟨rfl, rfl, rfl, rfl, trivial⟩ fun G3 => ?_
  refine wp_ret ?_
  refine x_tr ?_
  refine k_retc2 (m := 2) Try.results44 rfl rfl rfl rfl agg88 ti88 hS4 rfl rfl ?_
  refine ⟨_, rfl, ?_⟩
  have hS5 : St w0 K (fl [(pk1 d m D), [(bs, .cells #[.string s] 9 (0, 0))], sm]) w3 := hS4.pick [0, 1, 3] rfl (by decide)
  exact ⟨.inl ⟨hoff, rfl⟩, hS5⟩
 ·
  refine s_val hS3 rfl rfl (r_assign rfl (.t rfl rfl)) ?_
  refine wpList_nil ?_
  refine x_tn ?_
  refine k_reb [(0, .pointer (some ⟨d, 0, none⟩)), (1, .slice (some ⟨bs, 0, none⟩) 1 1), (4, .pointer (some ⟨blk1, 0, none⟩)), (5, .int .i64 0), (6, .int .i64 101)] ⟨rfl, rfl, rfl, rfl, rfl, trivial⟩ fun G4 => ?_
  refine wp_seq ?_
  refine k_reg ?_
  refine s_val hS3 rfl rfl (r_move rfl (.t rfl rfl)) ?_
  refine s_val hS3 rfl rfl (r_cmp_t rfl rfl (.t rfl rfl) .c (show ¬ 101 = 0 from by omega)) ?_
  refine wpList_nil ?_
  refine x_tn ?_
  refine k_reb [(0, .pointer (some ⟨d, 0, none⟩)), (1, .slice (some ⟨bs, 0, none⟩) 1 1), (4, .pointer (some ⟨blk1, 0, none⟩)), (5, .int .i64 0), (6, .int .i64 101), (13, .bool true)] ⟨rfl, rfl, rfl, rfl, rfl, rfl, trivial⟩ fun G5 => ?_
  refine k_t (.t rfl rfl) ?_
  refine wp_seq ?_
  refine k_reg ?_
  refine s_val hS3 rfl rfl (r_build rfl Try.underlying88 ti88 pl88 (vs := []) trivial rfl) ?_
  refine s_val hS3 rfl rfl (r_move rfl (.t rfl rfl)) ?_
  refine s_storeA (m := 2) rfl rfl rfl ti88 (.t rfl rfl) (vs := [.slice none 0 0, .int .i64 0]) (.t rfl rfl) rfl rfl hS3 rfl (show 2 ≤ 2 from by decide) (c' := #[.slice none 0 0, .int .i64 0]) rfl (h' := (fl [(pk1 d m D), [(bs, .cells #[.string s] 9 (0, 0))], [(blk1, .cells #[.slice none 0 0, .int .i64 0] 88 (0, 0))], sm])) rfl fun w4 hS6 => ?_
  refine s_val hS6 rfl rfl (r_assign rfl (.t rfl rfl)) ?_
  refine wpList_nil ?_
  refine x_tn ?_
  refine k_reb [(0, .pointer (some ⟨d, 0, none⟩)), (1, .slice (some ⟨bs, 0, none⟩) 1 1), (4, .pointer (some ⟨blk1, 0, none⟩)), (5, .int .i64 101)] ⟨rfl, rfl, rfl, rfl, trivial⟩ fun G6 => ?_
  refine wp_ret ?_
  refine x_tr ?_
  refine k_retc2 (m := 2) Try.results44 rfl rfl rfl rfl agg88 ti88 hS6 rfl rfl ?_
  refine ⟨_, rfl, ?_⟩
  have hS7 : St w0 K (fl [(pk1 d m D), [(bs, .cells #[.string s] 9 (0, 0))], sm]) w4 := hS6.pick [0, 1, 3] rfl (by decide)
  exact ⟨.inr (.inl ⟨hoff, hnm, rfl⟩), hS7⟩
 ·
  refine s_val hS3 rfl rfl (r_assign rfl (.t rfl rfl)) ?_
  refine wpList_nil ?_
  refine x_tn ?_
  refine k_reb [(0, .pointer (some ⟨d, 0, none⟩)), (1, .slice (some ⟨bs, 0, none⟩) 1 1), (4, .pointer (some ⟨blk1, 0, none⟩)), (5, .int .i64 0), (6, .int .i64 0)] ⟨rfl, rfl, rfl, rfl, rfl, trivial⟩ fun G7 => ?_
  refine wp_seq ?_
  refine k_reg ?_
  refine s_val hS3 rfl rfl (r_move rfl (.t rfl rfl)) ?_
  refine s_val hS3 rfl rfl (r_cmp_f rfl rfl (.t rfl rfl) .c (show ¬ (¬ 0 = 0) from by omega)) ?_
  refine wpList_nil ?_
  refine x_tn ?_
  refine k_reb [(0, .pointer (some ⟨d, 0, none⟩)), (1, .slice (some ⟨bs, 0, none⟩) 1 1), (4, .pointer (some ⟨blk1, 0, none⟩)), (5, .int .i64 0), (6, .int .i64 0), (13, .bool false)] ⟨rfl, rfl, rfl, rfl, rfl, rfl, trivial⟩ fun G8 => ?_
  refine k_f (.t rfl rfl) ?_
  refine wp_skip ?_
  refine x_tn ?_
  refine k_reb [(0, .pointer (some ⟨d, 0, none⟩)), (1, .slice (some ⟨bs, 0, none⟩) 1 1), (4, .pointer (some ⟨blk1, 0, none⟩)), (5, .int .i64 0)] ⟨rfl, rfl, rfl, rfl, trivial⟩ fun G9 => ?_
  refine wp_seq ?_
  refine k_only ?_
  refine h_start (C := fun x => Has x (fl [(pk1 d m D), [(bs, .cells #[.string s] 9 (0, 0))], [(blk1, .cells #[.slice none 0 0, .int .i64 0] 88 (0, 0))], sm])) mixed hS3 (L := [false, false, false, false, false, false, false, false, false, false, false, false, false, false]) rfl fun w5 hS8 => ?_
  have hH1 : Has w5 (fl [(pk1 d m D), [(bs, .cells #[.string s] 9 (0, 0))], [(blk1, .cells #[.slice none 0 0, .int .i64 0] 88 (0, 0))], sm]) := (Has.cons_ (hS8.has (i := 0) rfl) (Has.cons_ (hS8.has (i := 1) rfl) (Has.cons_ (hS8.has (i := 2) rfl) (Has.cons_ (hS8.has (i := 3) rfl) Has.nil_))))
  refine h_take (i := 0) NoP.only rfl rfl rfl (by kernel_rfl) (L' := [true, false, false, false, false, false, false, false, false, false, false, false, false, false]) rfl (r_move rfl (.t rfl rfl)) hH1 ?_
  refine h_take (i := 1) NoP.only rfl rfl rfl (by kernel_rfl) (L' := [true, true, false, false, false, false, false, false, false, false, false, false, false, false]) rfl (r_nilCheck rfl (.t rfl rfl)) hH1 ?_
  refine h_take (i := 2) NoP.only rfl rfl rfl (by kernel_rfl) (L' := [true, true, true, false, false, false, false, false, false, false, false, false, false, false]) rfl (r_fieldN rfl Try.underlying86 rfl ti84 (by decide) (.t rfl rfl) (qq := 4) rfl) hH1 ?_
  refine h_take (i := 3) NoP.only rfl rfl rfl (by kernel_rfl) (L' := [true, true, true, true, false, false, false, false, false, false, false, false, false, false]) rfl (r_load rfl one84 (.t rfl rfl) (Has.cell_own (i := 0) rfl rfl)) hH1 ?_
  refine h_take (i := 4) NoP.only rfl rfl rfl (by kernel_rfl) (L' := [true, true, true, true, true, false, false, false, false, false, false, false, false, false]) rfl (r_move rfl (.t rfl rfl)) hH1 ?_
  refine h_take (i := 5) NoP.only rfl rfl rfl (by kernel_rfl) (L' := [true, true, true, true, true, true, false, false, false, false, false, false, false, false]) rfl (r_ixs (j := 0) rfl Try.underlying107 ti9 (.t rfl rfl) .c rfl (by omega) (qq := 0) (by omega)) hH1 ?_
  refine h_take (i := 6) NoP.only rfl rfl rfl (by kernel_rfl) (L' := [true, true, true, true, true, true, true, false, false, false, false, false, false, false]) rfl (r_load rfl one9 (.t rfl rfl) (Has.cell_own (i := 1) rfl rfl)) hH1 ?_
  rcases hM.look s with hno1 | ⟨f, fa1, fc1, hA1⟩
  ·
   have hno := hno1
   refine h_take (i := 7) NoP.only rfl rfl rfl (by kernel_rfl) (L' := [true, true, true, true, true, true, true, true, false, false, false, false, false, false]) rfl (r_look_no rfl Try.underlying84 Try.underlying9 ti88 (.t rfl rfl) (.t rfl rfl) hM hno1 (fun _ s_ => Has.sub (i := 3) s_ rfl)) hH1 ?_
   refine h_take (i := 8) NoP.only rfl rfl rfl (by kernel_rfl) (L' := [true, true, true, true, true, true, true, true, true, false, false, false, false, false]) rfl (r_move rfl (.t rfl rfl)) hH1 ?_
   refine h_take (i := 9) NoP.only rfl rfl rfl (by kernel_rfl) (L' := [true, true, true, true, true, true, true, true, true, true, false, false, false, false]) rfl (r_extract rfl (.t rfl rfl) rfl) hH1 ?_
   refine h_take (i := 10) NoP.only rfl rfl rfl (by kernel_rfl) (L' := [true, true, true, true, true, true, true, true, true, true, true, false, false, false]) rfl (r_extract rfl (.t rfl rfl) rfl) hH1 ?_
   refine h_all (rs := [11]) (by kernel_rfl) (by simp) ?_
   refine List.forall_mem_cons.2 ⟨h_op rfl (wanted_none rfl) ?_, by simp⟩
   refine s_alloc rfl rfl rfl ti88 (cs := #[.slice none 0 0, .int .i64 0]) rfl hS8 fun blk2 w6 hb2 hB2 hS9 => ?_
   have hS10 : St w0 K (fl [(pk1 d m D), [(bs, .cells #[.string s] 9 (0, 0))], [(blk1, .cells #[.slice none 0 0, .int .i64 0] 88 (0, 0))], [(blk2, .cells #[.slice none 0 0, .int .i64 0] 88 (0, 0))], sm]) w6 := hS9.push 3 rfl
   refine wpList_nil ?_
   refine x_tn ?_
   have hH2 : Has w6 (fl [(pk1 d m D), [(bs, .cells #[.string s] 9 (0, 0))], [(blk1, .cells #[.slice none 0 0, .int .i64 0] 88 (0, 0))], sm]) := (Has.cons_ (hS10.has (i := 0) rfl) (Has.cons_ (hS10.has (i := 1) rfl) (Has.cons_ (hS10.has (i := 2) rfl) (Has.cons_ (hS10.has (i := 4) rfl) Has.nil_))))
   refine ⟨hH2, ?_⟩
   refine h_all (rs := [12]) (by kernel_rfl) (by simp) ?_
   refine List.forall_mem_cons.2 ⟨h_op rfl (wanted_none rfl) ?_, by simp⟩
   refine s_storeA (m := 3) rfl rfl rfl ti88 (.t rfl rfl) (vs := [.slice none 0 0, .int .i64 0]) (.t rfl rfl) rfl rfl hS10 rfl (show 2 ≤ 2 from by decide) (c' := #[.slice none 0 0, .int .i64 0]) rfl (h' := (fl [(pk1 d m D), [(bs, .cells #[.string s] 9 (0, 0))], [(blk1, .cells #[.slice none 0 0, .int .i64 0] 88 (0, 0))], [(blk2, .cells #[.slice none 0 0, .int .i64 0] 88 (0, 0))], sm])) rfl fun w7 hS11 => ?_
   refine wpList_nil ?_
   refine x_tn ?_
   have hH3 : Has w7 (fl [(pk1 d m D), [(bs, .cells #[.string s] 9 (0, 0))], [(blk1, .cells #[.slice none 0 0, .int .i64 0] 88 (0, 0))], sm]) := (Has.cons_ (hS11.has (i := 0) rfl) (Has.cons_ (hS11.has (i := 1) rfl) (Has.cons_ (hS11.has (i := 2) rfl) (Has.cons_ (hS11.has (i := 4) rfl) Has.nil_))))
   refine ⟨hH3, ?_⟩
   refine h_take (i := 13) NoP.only rfl rfl rfl (by kernel_rfl) (L' := [true, true, true, true, true, true, true, true, true, true, true, true, true, true]) rfl (r_assign rfl (.t rfl rfl)) hH3 ?_
   refine h_done (by kernel_rfl) ?_
   refine only_n ?_
   refine x_tn ?_
   refine k_reb [(4, .pointer (some ⟨blk1, 0, none⟩)), (5, .int .i64 0), (7, .pointer (some ⟨blk2, 0, none⟩)), (8, .bool false)] ⟨rfl, rfl, rfl, rfl, trivial⟩ fun G10 => ?_
   refine wp_seq ?_
   refine wp_seq ?_
   refine k_reg ?_
   refine s_val hS11 rfl rfl (r_move rfl (.t rfl rfl)) ?_
   refine s_val hS11 rfl rfl (r_lnot rfl (.t rfl rfl)) ?_
   refine wpList_nil ?_
   refine x_tn ?_
   refine k_reb [(4, .pointer (some ⟨blk1, 0, none⟩)), (5, .int .i64 0), (7, .pointer (some ⟨blk2, 0, none⟩)), (28, .bool true)] ⟨rfl, rfl, rfl, rfl, trivial⟩ fun G11 => ?_
   refine k_t (.t rfl rfl) ?_
   refine wp_seq ?_
   refine k_reg ?_
   refine s_val hS11 rfl rfl (r_build rfl Try.underlying88 ti88 pl88 (vs := []) trivial rfl) ?_
   refine s_storeA (m := 2) rfl rfl rfl ti88 (.t rfl rfl) (vs := [.slice none 0 0, .int .i64 0]) (.t rfl rfl) rfl rfl hS11 rfl (show 2 ≤ 2 from by decide) (c' := #[.slice none 0 0, .int .i64 0]) rfl (h' := (fl [(pk1 d m D), [(bs, .cells #[.string s] 9 (0, 0))], [(blk1, .cells #[.slice none 0 0, .int .i64 0] 88 (0, 0))], [(blk2, .cells #[.slice none 0 0, .int .i64 0] 88 (0, 0))], sm])) rfl fun w8 hS12 => ?_
   refine s_val hS12 rfl rfl (r_assign rfl .c) ?_
   refine wpList_nil ?_
   refine x_tn ?_
   refine k_reb [(4, .pointer (some ⟨blk1, 0, none⟩)), (5, .int .i64 102), (7, .pointer (some ⟨blk2, 0, none⟩))] ⟨rfl, rfl, rfl, trivial⟩ fun G12 => ?_
   refine wp_ret ?_
   refine x_tr ?_
   refine k_retc2 (m := 2) Try.results44 rfl rfl rfl rfl agg88 ti88 hS12 rfl rfl ?_
   refine ⟨_, rfl, ?_⟩
   have hS13 : St w0 K (fl [(pk1 d m D), [(bs, .cells #[.string s] 9 (0, 0))], sm]) w8 := hS12.pick [0, 1, 4] rfl (by decide)
   exact ⟨.inr (.inr (.inl ⟨hoff, hnm, hno, rfl⟩)), hS13⟩
  ·
   have hlk := hA1.1
   obtain ⟨hf1, hf2, hf3, hf4⟩ := ok.file hA1.1
   have hx1 := hA1.sl (by omega) (by assumption)
   refine h_take (i := 7) NoP.only rfl rfl rfl (by kernel_rfl) (L' := [true, true, true, true, true, true, true, true, false, false, false, false, false, false]) rfl (r_look_at rfl Try.underlying84 Try.underlying9 (.t rfl rfl) (.t rfl rfl) hA1 (fun _ s_ => Has.sub (i := 3) s_ rfl)) hH1 ?_
   refine h_take (i := 8) NoP.only rfl rfl rfl (by kernel_rfl) (L' := [true, true, true, true, true, true, true, true, true, false, false, false, false, false]) rfl (r_move rfl (.t rfl rfl)) hH1 ?_
   refine h_take (i := 9) NoP.only rfl rfl rfl (by kernel_rfl) (L' := [true, true, true, true, true, true, true, true, true, true, false, false, false, false]) rfl (r_extract rfl (.t rfl rfl) rfl) hH1 ?_
   refine h_take (i := 10) NoP.only rfl rfl rfl (by kernel_rfl) (L' := [true, true, true, true, true, true, true, true, true, true, true, false, false, false]) rfl (r_extract rfl (.t rfl rfl) rfl) hH1 ?_
   refine h_all (rs := [11]) (by kernel_rfl) (by simp) ?_
   refine List.forall_mem_cons.2 ⟨h_op rfl (wanted_none rfl) ?_, by simp⟩
   refine s_alloc rfl rfl rfl ti88 (cs := #[.slice none 0 0, .int .i64 0]) rfl hS8 fun blk3 w9 hb3 hB3 hS14 => ?_
   have hS15 : St w0 K (fl [(pk1 d m D), [(bs, .cells #[.string s] 9 (0, 0))], [(blk1, .cells #[.slice none 0 0, .int .i64 0] 88 (0, 0))], [(blk3, .cells #[.slice none 0 0, .int .i64 0] 88 (0, 0))], sm]) w9 := hS14.push 3 rfl
   refine wpList_nil ?_
   refine x_tn ?_
   have hH4 : Has w9 (fl [(pk1 d m D), [(bs, .cells #[.string s] 9 (0, 0))], [(blk1, .cells #[.slice none 0 0, .int .i64 0] 88 (0, 0))], sm]) := (Has.cons_ (hS15.has (i := 0) rfl) (Has.cons_ (hS15.has (i := 1) rfl) (Has.cons_ (hS15.has (i := 2) rfl) (Has.cons_ (hS15.has (i := 4) rfl) Has.nil_))))
   refine ⟨hH4, ?_⟩
   refine h_all (rs := [12]) (by kernel_rfl) (by simp) ?_
   refine List.forall_mem_cons.2 ⟨h_op rfl (wanted_none rfl) ?_, by simp⟩
   refine s_storeA (m := 3) rfl rfl rfl ti88 (.t rfl rfl) (vs := [.slice fa1 f.bytes.length fc1, .int .i64 (((f.sure : Nat) : Int))]) (.t rfl rfl) rfl rfl hS15 rfl (show 2 ≤ 2 from by decide) (c' := #[.slice fa1 f.bytes.length fc1, .int .i64 (((f.sure : Nat) : Int))]) rfl (h' := (fl [(pk1 d m D), [(bs, .cells #[.string s] 9 (0, 0))], [(blk1, .cells #[.slice none 0 0, .int .i64 0] 88 (0, 0))], [(blk3, .cells #[.slice fa1 f.bytes.length fc1, .int .i64 (((f.sure : Nat) : Int))] 88 (0, 0))], sm])) rfl fun w10 hS16 => ?_
   refine wpList_nil ?_
   refine x_tn ?_
   have hH5 : Has w10 (fl [(pk1 d m D), [(bs, .cells #[.string s] 9 (0, 0))], [(blk1, .cells #[.slice none 0 0, .int .i64 0] 88 (0, 0))], sm]) := (Has.cons_ (hS16.has (i := 0) rfl) (Has.cons_ (hS16.has (i := 1) rfl) (Has.cons_ (hS16.has (i := 2) rfl) (Has.cons_ (hS16.has (i := 4) rfl) Has.nil_))))
   refine ⟨hH5, ?_⟩
   refine h_take (i := 13) NoP.only rfl rfl rfl (by kernel_rfl) (L' := [true, true, true, true, true, true, true, true, true, true, true, true, true, true]) rfl (r_assign rfl (.t rfl rfl)) hH5 ?_
   refine h_done (by kernel_rfl) ?_
   refine only_n ?_
   refine x_tn ?_
   refine k_reb [(4, .pointer (some ⟨blk1, 0, none⟩)), (5, .int .i64 0), (7, .pointer (some ⟨blk3, 0, none⟩)), (8, .bool true)] ⟨rfl, rfl, rfl, rfl, trivial⟩ fun G13 => ?_
   refine wp_seq ?_
   refine wp_seq ?_
   refine k_reg ?_
   refine s_val hS16 rfl rfl (r_move rfl (.t rfl rfl)) ?_
   refine s_val hS16 rfl rfl (r_lnot rfl (.t rfl rfl)) ?_
   refine wpList_nil ?_
   refine x_tn ?_
   refine k_reb [(4, .pointer (some ⟨blk1, 0, none⟩)), (5, .int .i64 0), (7, .pointer (some ⟨blk3, 0, none⟩)), (28, .bool false)] ⟨rfl, rfl, rfl, rfl, trivial⟩ fun G14 => ?_
   refine k_f (.t rfl rfl) ?_
   refine wp_skip ?_
   refine x_tn ?_
   refine k_reb [(4, .pointer (some ⟨blk1, 0, none⟩)), (5, .int .i64 0), (7, .pointer (some ⟨blk3, 0, none⟩))] ⟨rfl, rfl, rfl, trivial⟩ fun G15 => ?_
   refine wp_seq ?_
   refine k_reg ?_
   refine s_val hS16 rfl rfl (r_loadA rfl agg88 ti88 rfl (.t rfl rfl) (St.block (m := 3) rfl)) ?_
   refine s_storeA (m := 2) rfl rfl rfl ti88 (.t rfl rfl) (vs := [.slice fa1 f.bytes.length fc1, .int .i64 (((f.sure : Nat) : Int))]) (.t rfl rfl) rfl rfl hS16 rfl (show 2 ≤ 2 from by decide) (c' := #[.slice fa1 f.bytes.length fc1, .int .i64 (((f.sure : Nat) : Int))]) rfl (h' := (fl [(pk1 d m D), [(bs, .cells #[.string s] 9 (0, 0))], [(blk1, .cells #[.slice fa1 f.bytes.length fc1, .int .i64 (((f.sure : Nat) : Int))] 88 (0, 0))], [(blk3, .cells #[.slice fa1 f.bytes.length fc1, .int .i64 (((f.sure : Nat) : Int))] 88 (0, 0))], sm])) rfl fun w11 hS17 => ?_
   refine s_val hS17 rfl rfl (r_assign rfl .c) ?_
   refine wpList_nil ?_
   refine x_tn ?_
   refine k_reb [(4, .pointer (some ⟨blk1, 0, none⟩)), (5, .int .i64 0)] ⟨rfl, rfl, trivial⟩ fun G16 => ?_
   refine wp_ret ?_
   refine k_retc2 (m := 2) Try.results44 rfl rfl rfl rfl agg88 ti88 hS17 rfl rfl ?_
   refine ⟨_, rfl, ?_⟩
   have hS18 : St w0 K (fl [(pk1 d m D), [(bs, .cells #[.string s] 9 (0, 0))], sm]) w11 := hS17.pick [0, 1, 4] rfl (by decide)
   exact ⟨.inr (.inr (.inr ⟨f, _, _, hoff, hnm, hA1, rfl⟩)), hS18⟩

theorem gone_ok (w0 : World) (K : List Nat) (d m : Nat) (D : Dk) (ok : D.ok) (sm : Hp) (hM : MapH U8 m none D.F sm) (hS0 : St w0 K (fl [[(d, .cells (dkC 1 m D) DT (0, 0))], sm]) w0) :
  Calls Try.prog 56 #[.pointer (some ⟨d, 0, none⟩)] w0 (Ret fun v w' => ∃ sm', v = .int .i64 104 ∧ MapH U8 m none (goneF D.lose D.F) sm' ∧ St w0 K (fl [[(d, .cells (dkC 1 m ({ D with off := true, F := goneF D.lose D.F })) DT (0, 0))], sm']) w') := by
 refine k_enter (vs := [.pointer (some ⟨d, 0, none⟩)]) Try.func56 rfl Try.ntmps56 rfl ?_
 have hS : St w0 K (fl [(pk1 d m D), sm]) w0 := hS0
 have ok1 := ok.room
 have ok2 := ok.fits
 have ok3 := ok.len
 have ok4 := ok.armed
 have ok5 := ok.keep
 have ok6 := ok.lose
 refine wp_seq ?_
 refine k_reg ?_
 refine s_val hS rfl rfl (r_assign rfl .c) ?_
 refine wpList_nil ?_
 refine x_tn ?_
 refine wp_seq ?_
 refine k_reg ?_
 refine s_val hS rfl rfl (r_move rfl (.t rfl rfl)) ?_
 refine s_val hS rfl rfl (r_nilCheck rfl (.t rfl rfl)) ?_
 refine s_val hS rfl rfl (r_fieldN rfl Try.underlying86 rfl ti4 (by decide) (.t rfl rfl) (qq := 5) rfl) ?_
 refine s_storeB (m := 0) rfl rfl rfl one4 (.t rfl rfl) .c rfl hS rfl rfl (c' := #[.int .i32 1, .int .u32 0, .int .i64 (((D.room : Nat) : Int)), .int .i64 (((tot D.F : Nat) : Int)), .map (some m), .bool true, .int .i64 (((D.writes : Nat) : Int)), .int .i64 (((D.armed : Nat) : Int)), .int .i64 D.keep, .int .i64 D.lose]) rfl (h' := (fl [(pa d 1 (((D.room : Nat) : Int)) (((tot D.F : Nat) : Int)) m true (((D.writes : Nat) : Int)) (((D.armed : Nat) : Int)) D.keep D.lose), sm])) rfl fun w1 hS1 hB1 => ?_
 refine wpList_nil ?_
 refine x_tn ?_
 refine k_reb [(0, .pointer (some ⟨d, 0, none⟩)), (2, .int .i64 0)] ⟨rfl, rfl, trivial⟩ fun G1 => ?_
 refine wp_seq ?_
 refine wp_seq ?_
 refine k_reg ?_
 refine s_val hS1 rfl rfl (r_move rfl (.t rfl rfl)) ?_
 refine s_val hS1 rfl rfl (r_nilCheck rfl (.t rfl rfl)) ?_
 refine s_val hS1 rfl rfl (r_fieldN rfl Try.underlying86 rfl ti84 (by decide) (.t rfl rfl) (qq := 4) rfl) ?_
 refine s_val hS1 rfl rfl (r_load rfl one84 (.t rfl rfl) (St.cell_own (m := 0) rfl rfl)) ?_
 obtain ⟨bs, clk, hB⟩ := hM.toB
 obtain ⟨hbl, hbn, hbf⟩ := hB.len
 refine s_range (i := 1) rfl rfl rfl Try.underlying84 (.t rfl rfl) hB hS1 rfl fun it1 w2 hS2 => ?_
 have hS3 : St w0 K (fl [(pa d 1 (((D.room : Nat) : Int)) (((tot D.F : Nat) : Int)) m true (((D.writes : Nat) : Int)) (((D.armed : Nat) : Int)) D.keep D.lose), [(it1, .mapIter (some m) clk #[] clk)], sm]) w2 := hS2.push 1 rfl
 refine wpList_nil ?_
 refine x_tn ?_
 refine k_reb [(0, .pointer (some ⟨d, 0, none⟩)), (2, .int .i64 0), (13, .pointer (some ⟨it1, 0, none⟩))] ⟨rfl, rfl, rfl, trivial⟩ fun G2 => ?_
 refine wp_block ?_
 refine wp_loop_ghost (fun (m1 : Nat) a w => ∃ (G : Nat → Value) (seen : List Nat) (smv : Hp), a = fr 54 [(0, .pointer (some ⟨d, 0, none⟩)), (2, .int .i64 0), (13, .pointer (some ⟨it1, 0, none⟩))] G ∧ St w0 K (fl [(pa d 1 (((D.room : Nat) : Int)) (((tot (updS (goneX D.lose) D.F bs seen) : Nat) : Int)) m true (((D.writes : Nat) : Int)) (((D.armed : Nat) : Int)) D.keep D.lose), [(it1, .mapIter (some m) clk seen.toArray clk)], smv]) w ∧ (m1 = bs.length - seen.length ∧ seen.Nodup ∧ (∀ x ∈ seen, x ∈ bs) ∧ MapB U8 m none (updS (goneX D.lose) D.F bs seen) bs clk smv)) (bs.length) ⟨_, [], sm, fr_reb _ ⟨rfl, rfl, rfl, trivial⟩, (by rw [updS_none]; exact hS3), ?_⟩ ?_
 ·
  exact ⟨rfl, by simp, by simp, by rw [updS_none]; exact hB⟩
 ·
  intro m1 _ w3 hI1
  obtain ⟨G3, seen, smv, rfl, hS4, ⟨hm, hsd, hss, hBv⟩⟩ := hI1
  have htl := tot_updS_le (u := (goneX D.lose)) (seen := seen) (goneX_le D.lose) D.F bs
  refine wp_seq ?_
  refine k_reg ?_
  refine s_next (u := (goneX D.lose)) (F := D.F) (i := 2) (j := 1) rfl rfl rfl (.t rfl rfl) (fun _ => rfl) hBv hS4 rfl rfl hss hbl (fun hall1 w4 hS5 => ?_) (fun q1 f1 b1 key1 val1 w5 hq1 hbq1 hnb1 hS6 => ?_)
  ·
   refine s_val hS5 rfl rfl (r_extract rfl (.t rfl rfl) rfl) ?_
   refine wpList_nil ?_
   refine x_tn ?_
   refine k_reb [(0, .pointer (some ⟨d, 0, none⟩)), (2, .int .i64 0), (13, .pointer (some ⟨it1, 0, none⟩)), (15, .bool false)] ⟨rfl, rfl, rfl, rfl, trivial⟩ fun G4 => ?_
   refine wp_seq ?_
   refine k_f (.t rfl rfl) ?_
   refine wp_exit ?_
   refine x_te ?_
   refine x_te ?_
   refine x_be ?_
   refine x_tn ?_
   refine k_reb [(2, .int .i64 0)] ⟨rfl, trivial⟩ fun G5 => ?_
   refine wp_seq ?_
   refine k_reg ?_
   refine s_val hS5 rfl rfl (r_assign rfl .c) ?_
   refine wpList_nil ?_
   refine x_tn ?_
   refine wp_ret ?_
   refine k_ret1 Try.results56 rfl rfl ?_
   refine ⟨_, rfl, ?_⟩
   have hS7 : St w0 K (fl [(pa d 1 (((D.room : Nat) : Int)) (((tot (updS (goneX D.lose) D.F bs seen) : Nat) : Int)) m true (((D.writes : Nat) : Int)) (((D.armed : Nat) : Int)) D.keep D.lose), smv]) w4 := hS5.pick [0, 2] rfl (by decide)
   have hga : updS (goneX D.lose) D.F bs seen = goneF D.lose D.F := updS_all hbl hall1
   rw [hga] at hBv hS7
   exact ⟨_, rfl, hBv.toH, hS7⟩
  ·
   have hS8 : St w0 K (fl [(pa d 1 (((D.room : Nat) : Int)) (((tot (updS (goneX D.lose) D.F bs seen) : Nat) : Int)) m true (((D.writes : Nat) : Int)) (((D.armed : Nat) : Int)) D.keep D.lose), [(it1, .mapIter (some m) clk (seen ++ [b1]).toArray clk)], smv]) w5 := hS6
   refine s_val hS8 rfl rfl (r_extract rfl (.t rfl rfl) rfl) ?_
   refine wpList_nil ?_
   refine x_tn ?_
   refine k_reb [(0, .pointer (some ⟨d, 0, none⟩)), (2, .int .i64 0), (13, .pointer (some ⟨it1, 0, none⟩)), (15, .bool true)] ⟨rfl, rfl, rfl, rfl, trivial⟩ fun G6 => ?_
   refine wp_seq ?_
   refine k_t (.t rfl rfl) ?_
   refine wp_skip ?_
   refine x_tn ?_
   refine k_reb [(0, .pointer (some ⟨d, 0, none⟩)), (2, .int .i64 0), (13, .pointer (some ⟨it1, 0, none⟩))] ⟨rfl, rfl, rfl, trivial⟩ fun G7 => ?_
   refine wp_block ?_
   refine wp_seq ?_
   refine k_reg ?_
   have hfm := updS_get (u := (goneX D.lose)) hq1 hbq1 hnb1
   have hft := tot_mem (List.mem_of_getElem? hfm)
   obtain ⟨-, hf2, hf3⟩ := ok.files _ (List.mem_of_getElem? hq1)
   have htu := tot_upd (u := (goneX D.lose)) (seen := seen) (fun _ => rfl) hbf hbn hq1 hbq1 hnb1
   refine s_entry (i := 2) (j := 1) rfl rfl rfl (.t rfl rfl) hBv hS8 rfl rfl hfm hbq1 fun fa1 fc1 hA1 => ?_
   have hx1 := hA1.sl (by omega) hf3
   obtain ⟨hsp1, hsp2, hsp3⟩ := seen_push hss hsd hbq1 hnb1
   have hgl := goneX_len D.lose f1
   refine s_val hS8 rfl rfl (r_extract rfl (.t rfl rfl) rfl) ?_
   refine s_val hS8 rfl rfl (r_extract rfl (.t rfl rfl) rfl) ?_
   refine s_alloc rfl rfl rfl ti88 (cs := #[.slice none 0 0, .int .i64 0]) rfl hS8 fun blk1 w6 hb1 hB2 hS9 => ?_
   have hS10 : St w0 K (fl [(pa d 1 (((D.room : Nat) : Int)) (((tot (updS (goneX D.lose) D.F bs seen) : Nat) : Int)) m true (((D.writes : Nat) : Int)) (((D.armed : Nat) : Int)) D.keep D.lose), [(it1, .mapIter (some m) clk (seen ++ [b1]).toArray clk)], [(blk1, .cells #[.slice none 0 0, .int .i64 0] 88 (0, 0))], smv]) w6 := hS9.push 2 rfl
   refine s_val hS10 rfl rfl (r_assign rfl (.t rfl rfl)) ?_
   refine s_storeA (m := 2) rfl rfl rfl ti88 (.t rfl rfl) (vs := [.slice fa1 f1.bytes.length fc1, .int .i64 (((f1.sure : Nat) : Int))]) (.t rfl rfl) rfl rfl hS10 rfl (show 2 ≤ 2 from by decide) (c' := #[.slice fa1 f1.bytes.length fc1, .int .i64 (((f1.sure : Nat) : Int))]) rfl (h' := (fl [(pa d 1 (((D.room : Nat) : Int)) (((tot (updS (goneX D.lose) D.F bs seen) : Nat) : Int)) m true (((D.writes : Nat) : Int)) (((D.armed : Nat) : Int)) D.keep D.lose), [(it1, .mapIter (some m) clk (seen ++ [b1]).toArray clk)], [(blk1, .cells #[.slice fa1 f1.bytes.length fc1, .int .i64 (((f1.sure : Nat) : Int))] 88 (0, 0))], smv])) rfl fun w7 hS11 => ?_
   refine wpList_nil ?_
   refine x_tn ?_
   refine k_reb [(0, .pointer (some ⟨d, 0, none⟩)), (2, .int .i64 0), (3, .string f1.name), (4, .pointer (some ⟨blk1, 0, none⟩)), (13, .pointer (some ⟨it1, 0, none⟩))] ⟨rfl, rfl, rfl, rfl, rfl, trivial⟩ fun G8 => ?_
   refine wp_seq ?_
   refine k_regq mixed (by kernel_rfl) hS11 ?_
   refine q_val rfl rfl (r_move rfl (.t rfl rfl)) ?_
   refine q_val rfl rfl (r_nilCheck rfl (.t rfl rfl)) ?_
   refine q_val rfl rfl (r_fieldN rfl Try.underlying86 rfl ti3 (by decide) (.t rfl rfl) (qq := 9) rfl) ?_
   refine q_val rfl rfl (r_load rfl one3 (.t rfl rfl) (St.cell_own (m := 0) rfl rfl)) ?_
   refine q_val rfl rfl (r_max rfl (.t rfl rfl) .c (c := ((D.lose.toNat : Nat) : Int)) (by split <;> omega)) ?_
   refine q_val rfl rfl (r_fieldN rfl Try.underlying88 rfl ti22 (by decide) (.t rfl rfl) (qq := 0) rfl) ?_
   refine q_val rfl rfl (r_load rfl one22 (.t rfl rfl) (St.cell_own (m := 2) rfl rfl)) ?_
   refine q_val rfl rfl (r_len rfl rfl Try.underlying22 (.t rfl rfl)) ?_
   refine q_val rfl rfl (r_fieldN rfl Try.underlying88 rfl ti3 (by decide) (.t rfl rfl) (qq := 1) rfl) ?_
   refine q_val rfl rfl (r_load rfl one3 (.t rfl rfl) (St.cell_own (m := 2) rfl rfl)) ?_
   refine q_val rfl rfl (r_arith rfl rfl (.t rfl rfl) (.t rfl rfl) (c := ((f1.bytes.length - f1.sure : Nat) : Int)) (wn_i64 (by show (((f1.bytes.length : Nat) : Int) : Int) - ((f1.sure : Nat) : Int) = _; omega) (by omega))) ?_
   refine q_val rfl rfl (r_min rfl (.t rfl rfl) (.t rfl rfl) (c := ((lostN D.lose f1 : Nat) : Int)) (by unfold lostN; split <;> omega)) ?_
   refine q_val rfl rfl (r_assign rfl (.t rfl rfl)) ?_
   refine q_nil ?_
   intro w8 hS12
   refine x_tn ?_
   refine k_reb [(0, .pointer (some ⟨d, 0, none⟩)), (2, .int .i64 0), (3, .string f1.name), (4, .pointer (some ⟨blk1, 0, none⟩)), (5, .int .i64 (((lostN D.lose f1 : Nat) : Int))), (13, .pointer (some ⟨it1, 0, none⟩))] ⟨rfl, rfl, rfl, rfl, rfl, rfl, trivial⟩ fun G9 => ?_
   refine wp_seq ?_
   refine k_reg ?_
   refine s_val hS12 rfl rfl (r_fieldN rfl Try.underlying88 rfl ti22 (by decide) (.t rfl rfl) (qq := 0) rfl) ?_
   refine s_val hS12 rfl rfl (r_load rfl one22 (.t rfl rfl) (St.cell_own (m := 2) rfl rfl)) ?_
   refine s_val hS12 rfl rfl (r_fieldN rfl Try.underlying88 rfl ti22 (by decide) (.t rfl rfl) (qq := 0) rfl) ?_
   refine s_val hS12 rfl rfl (r_load rfl one22 (.t rfl rfl) (St.cell_own (m := 2) rfl rfl)) ?_
   refine s_val hS12 rfl rfl (r_len rfl rfl Try.underlying22 (.t rfl rfl)) ?_
   refine s_val hS12 rfl rfl (r_move rfl (.t rfl rfl)) ?_
   have hll : lostN D.lose f1 ≤ f1.bytes.length := by unfold lostN; omega
   refine s_val hS12 rfl rfl (r_arith rfl rfl (.t rfl rfl) (.t rfl rfl) (c := ((f1.bytes.length - (lostN D.lose f1) : Nat) : Int)) (wn_i64 (by show (((f1.bytes.length : Nat) : Int) : Int) - ((lostN D.lose f1 : Nat) : Int) = _; omega) (by omega))) ?_
   have hq2 := (hx1).le
   have hx2 : Sl .u8 fa1 fc1 (f1.bytes.take (f1.bytes.length - (lostN D.lose f1))) smv := hx1.take_ (by omega) (by omega) (by omega)
   have hn1 : (f1.bytes.take (f1.bytes.length - (lostN D.lose f1))).length = f1.bytes.length - (lostN D.lose f1) := by rw [List.length_take]; omega
   refine s_val hS12 rfl rfl (Rn.asSl (ad' := fa1) (p' := (f1.bytes.take (f1.bytes.length - (lostN D.lose f1))).length) (q' := fc1) (by simp [cutA]) (by omega) (by omega) (r_cutl rfl Try.underlying22 ti5 (.t rfl rfl) hx1 rfl .n (.s (.t rfl rfl)) .n (lw := 0) (hh := f1.bytes.length - (lostN D.lose f1)) (m := fc1) (by omega) (by omega) (by omega) (by omega))) ?_
   refine s_val hS12 rfl rfl (r_fieldN rfl Try.underlying88 rfl ti22 (by decide) (.t rfl rfl) (qq := 0) rfl) ?_
   refine s_storeB (m := 2) rfl rfl rfl one22 (.t rfl rfl) (.t rfl rfl) rfl hS12 rfl rfl (c' := #[.slice fa1 ((f1.bytes.take (f1.bytes.length - (lostN D.lose f1))).length) fc1, .int .i64 (((f1.sure : Nat) : Int))]) rfl (h' := (fl [(pa d 1 (((D.room : Nat) : Int)) (((tot (updS (goneX D.lose) D.F bs seen) : Nat) : Int)) m true (((D.writes : Nat) : Int)) (((D.armed : Nat) : Int)) D.keep D.lose), [(it1, .mapIter (some m) clk (seen ++ [b1]).toArray clk)], [(blk1, .cells #[.slice fa1 ((f1.bytes.take (f1.bytes.length - (lostN D.lose f1))).length) fc1, .int .i64 (((f1.sure : Nat) : Int))] 88 (0, 0))], smv])) rfl fun w9 hS13 hB3 => ?_
   refine wpList_nil ?_
   refine x_tn ?_
   refine k_reb [(0, .pointer (some ⟨d, 0, none⟩)), (2, .int .i64 0), (3, .string f1.name), (4, .pointer (some ⟨blk1, 0, none⟩)), (5, .int .i64 (((lostN D.lose f1 : Nat) : Int))), (13, .pointer (some ⟨it1, 0, none⟩))] ⟨rfl, rfl, rfl, rfl, rfl, rfl, trivial⟩ fun G10 => ?_
   refine wp_seq ?_
   refine k_regt 6 mixed (by kernel_rfl) hS13 fun w10 hS14 hB4 => ?_
   refine t_val hS14 rfl rfl (r_move rfl (.t rfl rfl)) ?_
   refine t_val hS14 rfl rfl (r_nilCheck rfl (.t rfl rfl)) ?_
   refine t_val hS14 rfl rfl (r_fieldN rfl Try.underlying86 rfl ti84 (by decide) (.t rfl rfl) (qq := 4) rfl) ?_
   refine t_val hS14 rfl rfl (r_load rfl one84 (.t rfl rfl) (St.cell_own (m := 0) rfl rfl)) ?_
   refine t_val hS14 rfl rfl (r_move rfl (.t rfl rfl)) ?_
   refine t_val hS14 rfl rfl (r_loadA rfl agg88 ti88 rfl (.t rfl rfl) (St.block (m := 2) rfl)) ?_
   refine t_nil ?_
   obtain ⟨sm1, sg1, hB5, hG1, hS15⟩ := hA1.openB (i := 3) hBv hS14 rfl
   have hS16 : St w0 K (fl [(pa d 1 (((D.room : Nat) : Int)) (((tot (updS (goneX D.lose) D.F bs seen) : Nat) : Int)) m true (((D.writes : Nat) : Int)) (((D.armed : Nat) : Int)) D.keep D.lose), [(it1, .mapIter (some m) clk (seen ++ [b1]).toArray clk)], [(blk1, .cells #[.slice fa1 ((f1.bytes.take (f1.bytes.length - (lostN D.lose f1))).length) fc1, .int .i64 (((f1.sure : Nat) : Int))] 88 (0, 0))], sm1, sg1]) w10 := hS15
   refine s_putB (B := ((goneX D.lose f1).bytes)) (k := ((goneX D.lose f1).sure)) (i := 3) (j := 4) rfl rfl rfl Try.underlying84 Try.underlying9 (.t rfl rfl) (.t rfl rfl) (by rw [show ((goneX D.lose f1).bytes).length = (f1.bytes.take (f1.bytes.length - (lostN D.lose f1))).length from by first | rfl | assumption | omega | (simp; omega)]; exact (.t rfl rfl)) hB5 (hG1.take (by omega)) hS16 rfl rfl rfl fun sm2 w11 hB6 hS17 => ?_
   have hlk := lookF_get (by rw [updS_names (u := (goneX D.lose)) (fun _ => rfl)]; exact hbf) hfm
   rw [hlk] at hB6
   replace hB6 : MapB U8 m none (updS (goneX D.lose) D.F bs (seen ++ [b1])) bs clk sm2 := by
    have e := putF_updS (u := (goneX D.lose)) (fun _ => rfl) hbf hbn hq1 hbq1 hnb1
    rw [← e]; exact hB6
   have hS18 : St w0 K (fl [(pa d 1 (((D.room : Nat) : Int)) (((tot (updS (goneX D.lose) D.F bs seen) : Nat) : Int)) m true (((D.writes : Nat) : Int)) (((D.armed : Nat) : Int)) D.keep D.lose), [(it1, .mapIter (some m) clk (seen ++ [b1]).toArray clk)], [(blk1, .cells #[.slice fa1 ((f1.bytes.take (f1.bytes.length - (lostN D.lose f1))).length) fc1, .int .i64 (((f1.sure : Nat) : Int))] 88 (0, 0))], sm2]) w11 := St.pick (L := [(pa d 1 (((D.room : Nat) : Int)) (((tot (updS (goneX D.lose) D.F bs seen) : Nat) : Int)) m true (((D.writes : Nat) : Int)) (((D.armed : Nat) : Int)) D.keep D.lose), [(it1, .mapIter (some m) clk (seen ++ [b1]).toArray clk)], [(blk1, .cells #[.slice fa1 ((f1.bytes.take (f1.bytes.length - (lostN D.lose f1))).length) fc1, .int .i64 (((f1.sure : Nat) : Int))] 88 (0, 0))], sm2, []]) [0, 1, 2, 3] hS17 rfl (by decide)
   refine wpList_nil ?_
   refine x_tn ?_
   refine k_reb [(0, .pointer (some ⟨d, 0, none⟩)), (2, .int .i64 0), (5, .int .i64 (((lostN D.lose f1 : Nat) : Int))), (13, .pointer (some ⟨it1, 0, none⟩))] ⟨rfl, rfl, rfl, rfl, trivial⟩ fun G11 => ?_
   refine k_reg ?_
   refine s_val hS18 rfl rfl (r_move rfl (.t rfl rfl)) ?_
   refine s_val hS18 rfl rfl (r_nilCheck rfl (.t rfl rfl)) ?_
   refine s_val hS18 rfl rfl (r_fieldN rfl Try.underlying86 rfl ti3 (by decide) (.t rfl rfl) (qq := 3) rfl) ?_
   refine s_val hS18 rfl rfl (r_load rfl one3 (.t rfl rfl) (St.cell_own (m := 0) rfl rfl)) ?_
   refine s_val hS18 rfl rfl (r_move rfl (.t rfl rfl)) ?_
   refine s_val hS18 rfl rfl (r_arith rfl rfl (.t rfl rfl) (.t rfl rfl) (c := ((tot (updS (goneX D.lose) D.F bs (seen ++ [b1])) : Nat) : Int)) (wn_i64 (by show (((tot (updS (goneX D.lose) D.F bs seen) : Nat) : Int) : Int) - ((lostN D.lose f1 : Nat) : Int) = _; omega) (by omega))) ?_
   refine s_val hS18 rfl rfl (r_nilCheck rfl (.t rfl rfl)) ?_
   refine s_val hS18 rfl rfl (r_fieldN rfl Try.underlying86 rfl ti3 (by decide) (.t rfl rfl) (qq := 3) rfl) ?_
   refine s_storeB (m := 0) rfl rfl rfl one3 (.t rfl rfl) (.t rfl rfl) rfl hS18 rfl rfl (c' := #[.int .i32 1, .int .u32 0, .int .i64 (((D.room : Nat) : Int)), .int .i64 (((tot (updS (goneX D.lose) D.F bs (seen ++ [b1])) : Nat) : Int)), .map (some m), .bool true, .int .i64 (((D.writes : Nat) : Int)), .int .i64 (((D.armed : Nat) : Int)), .int .i64 D.keep, .int .i64 D.lose]) rfl (h' := (fl [(pa d 1 (((D.room : Nat) : Int)) (((tot (updS (goneX D.lose) D.F bs (seen ++ [b1])) : Nat) : Int)) m true (((D.writes : Nat) : Int)) (((D.armed : Nat) : Int)) D.keep D.lose), [(it1, .mapIter (some m) clk (seen ++ [b1]).toArray clk)], [(blk1, .cells #[.slice fa1 ((f1.bytes.take (f1.bytes.length - (lostN D.lose f1))).length) fc1, .int .i64 (((f1.sure : Nat) : Int))] 88 (0, 0))], sm2])) rfl fun w12 hS19 hB7 => ?_
   refine wpList_nil ?_
   refine x_bn ?_
   refine x_tn ?_
   have hS20 : St w0 K (fl [(pa d 1 (((D.room : Nat) : Int)) (((tot (updS (goneX D.lose) D.F bs (seen ++ [b1])) : Nat) : Int)) m true (((D.writes : Nat) : Int)) (((D.armed : Nat) : Int)) D.keep D.lose), [(it1, .mapIter (some m) clk (seen ++ [b1]).toArray clk)], sm2]) w12 := hS19.pick [0, 1, 3] rfl (by decide)
   refine ⟨bs.length - (seen ++ [b1]).length, by simp; omega, _, seen ++ [b1], sm2, fr_reb _ ⟨rfl, rfl, rfl, trivial⟩, hS20, ?_⟩
   exact ⟨rfl, hsp2, hsp1, hB6⟩

end Go.Proofs.Ytdmiklegahdafaa

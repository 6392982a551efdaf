/- Contracts of functions of the program, each walked once. -/
import Derived.Test.YtdmiklegahdafaaFnK
import Derived.Test.YtdmiklegahdafaaKLv
namespace Go.Proofs.Ytdmiklegahdafaa
open Go Go.RowKit K
namespace FL
theorem mixed : Try.prog.follows .mixedOrders = true := by kernel_rfl
theorem cb13 : callable Try.prog 13 = true := by kernel_rfl
theorem cb20 : callable Try.prog 20 = true := by kernel_rfl
theorem one22 : One Try.prog 22 = true := by kernel_rfl
theorem one56 : One Try.prog 56 = true := by kernel_rfl
theorem one9 : One Try.prog 9 = true := by kernel_rfl
theorem ti22 : (Try.prog.info? 22).map (fun i => (i.zero, i.size, i.bytes)) = some (some (.slice none 0 0), 1, 24) := by kernel_rfl
theorem ti56 : (Try.prog.info? 56).map (fun i => (i.zero, i.size, i.bytes)) = some (some (.slice none 0 0), 1, 24) := by kernel_rfl
theorem ti9 : (Try.prog.info? 9).map (fun i => (i.zero, i.size, i.bytes)) = some (some (.string ⟨#[]⟩), 1, 16) := by kernel_rfl

end FL
open FL
attribute [local irreducible] Go.wpList Go.wpQuiet Go.wpStill Go.wpAny Go.Code.wp
set_option maxRecDepth 10000
set_option maxHeartbeats 8000000
set_option linter.unusedVariables false
set_option linter.unusedSimpArgs false
abbrev lq (l d : Nat) (s : ByteArray) (R : List (List (List Nat))) : Hp := [(l, .cells #[.pointer (some ⟨d, 0, none⟩), .string s, .int .i64 ((lg R).size : Nat), .int .i64 ((lg R).count : Nat), .bool (lg R).off] LT (0, 0))]
abbrev noR : List (List (List Nat)) := []
structure NewD (D : Dk) (x : Nat) : Prop where
 lv : Lv D
 tot : tot D.F = 0
 len : D.F.length = 0
 wr : D.writes = 0
 room : D.room = x
 none : ∀ {s : ByteArray}, lookF D.F s = .none
theorem New_lv (w0 : World) (x : Nat) (hx : 1 ≤ x ∧ x ≤ 268435456) :
  Calls Try.prog 25 #[.int .i64 (x : Nat)] w0 (Ret fun v w' => ∃ d m D sm, NewD D x ∧ v = .tuple #[.pointer (some ⟨d, 0, none⟩), .int .i64 0] ∧ MapH U8 m none D.F sm ∧ St w0 [] (fl [[(d, .cells (dkC 0 m D) DT (0, 0))], sm]) w') := by
  refine Calls.mono (New_ok w0 x (by omega)) ?_
  rintro _ w' ⟨v, he, _, h2⟩
  obtain ⟨d, m, sm, hv, hM, hS⟩ := h2 (by omega)
  exact ⟨v, he, d, m, Dk.new x, sm, ⟨lv_new hx.2, rfl, rfl, rfl, rfl, rfl⟩, hv, hM, by simpa using hS⟩
theorem Open_new (w0 : World) (K : List Nat) (d m : Nat) (D : Dk) (h : Lv D) (sm : Hp) (hM : MapH U8 m none D.F sm) (s : ByteArray) (hs : okName s = true) (ha : lookF D.F s = none) (hl : D.F.length < 256) (hr : tot D.F + 8 ≤ D.room) (hw : D.writes ≤ 1000000000000) (hS0 : St w0 K (fl [[(d, .cells (dkC 0 m D) DT (0, 0))], sm]) w0) :
  Calls Try.prog 19 #[.pointer (some ⟨d, 0, none⟩), .string s] w0 (Ret fun v w' => ∃ D1 sm' l oa oc sgo, Up D D1 s [] (logL noR) 8 2 ∧ MapH U8 m none D1.F sm' ∧ v = .tuple #[.pointer (some ⟨l, 0, none⟩), .slice oa noR.length oc, .int .i64 0] ∧ GrP R2 56 oa oc noR sgo ∧ St w0 K (fl [[(d, .cells (dkC 0 m D1) DT (0, 0))], sm', [(l, .cells #[.pointer (some ⟨d, 0, none⟩), .string s, .int .i64 ((lg noR).size : Nat), .int .i64 ((lg noR).count : Nat), .bool (lg noR).off] LT (0, 0))], sgo]) w') := by
  refine Calls.mono (Open_ok w0 K d m D h.ok sm hM s (okName_size hs) hw hS0) ?_
  rintro _ w' ⟨v, he, e, D1, sm', RR, z, hO, _, _, _, hM1, hh⟩
  obtain ⟨rfl, rfl, rfl, hu⟩ := opn_new h hs ha hl hr hO
  rcases hh with ⟨q, -⟩ | ⟨-, l, oa, oc, sgo, hv, hG, hS⟩
  ·
   exact absurd rfl q
  ·
   exact ⟨v, he, D1, sm', l, oa, oc, sgo, hu, hM1, hv, hG, hS.pick [0, 2, 1, 3] rfl (by decide)⟩
theorem Open_full (w0 : World) (K : List Nat) (d m : Nat) (D : Dk) (h : Lv D) (sm : Hp) (hM : MapH U8 m none D.F sm) (s : ByteArray) {k : Nat} {RR : List (List (List Nat))} (ha : lookF D.F s = some ⟨s, logL RR, k⟩) (hg : ∀ LL ∈ RR, goodR LL) (hw : D.writes ≤ 1000000000000) (hS0 : St w0 K (fl [[(d, .cells (dkC 0 m D) DT (0, 0))], sm]) w0) :
  Calls Try.prog 19 #[.pointer (some ⟨d, 0, none⟩), .string s] w0 (Ret fun v w' => ∃ sm' l oa oc sgo, MapH U8 m none D.F sm' ∧ v = .tuple #[.pointer (some ⟨l, 0, none⟩), .slice oa RR.length oc, .int .i64 0] ∧ GrP R2 56 oa oc RR sgo ∧ St w0 K (fl [[(d, .cells (dkC 0 m D) DT (0, 0))], sm', [(l, .cells #[.pointer (some ⟨d, 0, none⟩), .string s, .int .i64 ((lg RR).size : Nat), .int .i64 ((lg RR).count : Nat), .bool (lg RR).off] LT (0, 0))], sgo]) w') := by
  refine Calls.mono (Open_ok w0 K d m D h.ok sm hM s (okName_size (h.file ha).1) hw hS0) ?_
  rintro _ w' ⟨v, he, e, D1, sm', RR', z, hO, _, _, _, hM1, hh⟩
  obtain ⟨rfl, rfl, rfl, rfl⟩ := opn_full h ha hg hO
  rcases hh with ⟨q, -⟩ | ⟨-, l, oa, oc, sgo, hv, hG, hS⟩
  ·
   exact absurd rfl q
  ·
   exact ⟨v, he, sm', l, oa, oc, sgo, hM1, hv, hG, hS.pick [0, 2, 1, 3] rfl (by decide)⟩
theorem LAppend_lv (w0 : World) (K : List Nat) (d m : Nat) (D : Dk) (h : Lv D) (l : Nat) (RR : List (List (List Nat))) (sm : Hp) (hM : MapH U8 m none D.F sm) (s : ByteArray) {k : Nat} (ha : lookF D.F s = some ⟨s, logL RR, k⟩) (aB : Option Addr) (cB : Nat) (uB : List Value) (B : List (List Nat)) (vB : Hp) (hB : RwV R1 aB cB uB B vB) (oB : Old w0 K vB) (hg : goodR B) (hr : tot D.F + (8 + (bodyL B).length) ≤ D.room) (hw : D.writes ≤ 1000000000000) (hz : (logL RR).length ≤ 1000000000000) (hz2 : RR.length ≤ 1000000000000) (hS0 : St w0 K (fl [[(l, .cells #[.pointer (some ⟨d, 0, none⟩), .string s, .int .i64 ((lg RR).size : Nat), .int .i64 ((lg RR).count : Nat), .bool (lg RR).off] LT (0, 0))], [(d, .cells (dkC 0 m D) DT (0, 0))], sm]) w0) :
  Calls Try.prog 27 #[.pointer (some ⟨l, 0, none⟩), .slice aB B.length cB] w0 (Ret fun v w' => ∃ D1 sm', UpA D D1 s (logL RR) (logL (RR ++ [B])) (logL (RR ++ [B])).length 2 ∧ v = .int .i64 0 ∧ MapH U8 m none D1.F sm' ∧ St w0 K (fl [[(l, .cells #[.pointer (some ⟨d, 0, none⟩), .string s, .int .i64 ((lg (RR ++ [B])).size : Nat), .int .i64 ((lg (RR ++ [B])).count : Nat), .bool (lg (RR ++ [B])).off] LT (0, 0))], [(d, .cells (dkC 0 m D1) DT (0, 0))], sm']) w') := by
  refine Calls.mono (LAppend_ok w0 K d m D h.ok l (lg RR) (by rw [logL_len] at hz; exact hz) hz2 sm hM s (okName_size (h.file ha).1) hw aB cB uB B vB hB oB (by have := hg.2; omega) hS0) ?_
  rintro _ w' ⟨v, he, e, z1, D1, sm', hL, hv, hM1, hS⟩
  obtain ⟨rfl, rfl, hu⟩ := lv_lappend h ha hB.fit hg hr hL
  exact ⟨v, he, D1, sm', hu, hv, hM1, hS⟩
theorem Sure_lv (w0 : World) (K : List Nat) (d m : Nat) (D : Dk) (h : Lv D) (sm : Hp) (hM : MapH U8 m none D.F sm) (s : ByteArray) {B : List Nat} {k : Nat} (ha : lookF D.F s = some ⟨s, B, k⟩) (hS0 : St w0 K (fl [[(d, .cells (dkC 0 m D) DT (0, 0))], sm]) w0) :
  Calls Try.prog 37 #[.pointer (some ⟨d, 0, none⟩), .string s] w0 (Ret fun v w' => v = .tuple #[.int .i64 (k : Nat), .int .i64 0] ∧ St w0 K (fl [[(d, .cells (dkC 0 m D) DT (0, 0))], sm]) w') := by
  refine Calls.mono (Sure_ok w0 K d m D h.ok sm hM s (okName_size (h.file ha).1) hS0) ?_
  rintro _ w' ⟨v, he, hv, hS⟩
  exact ⟨v, he, by rw [hv, (lv_read h ha).2]; rfl, hS⟩
theorem LClear_lv (w0 : World) (K : List Nat) (d m : Nat) (D : Dk) (h : Lv D) (l : Nat) (RR : List (List (List Nat))) (sm : Hp) (hM : MapH U8 m none D.F sm) (s : ByteArray) {k : Nat} (ha : lookF D.F s = some ⟨s, logL RR, k⟩) (hw : D.writes ≤ 1000000000000) (hz : (logL RR).length ≤ 1000000000000) (hz2 : RR.length ≤ 1000000000000) (hS0 : St w0 K (fl [[(l, .cells #[.pointer (some ⟨d, 0, none⟩), .string s, .int .i64 ((lg RR).size : Nat), .int .i64 ((lg RR).count : Nat), .bool (lg RR).off] LT (0, 0))], [(d, .cells (dkC 0 m D) DT (0, 0))], sm]) w0) :
  Calls Try.prog 36 #[.pointer (some ⟨l, 0, none⟩)] w0 (Ret fun v w' => ∃ D1 sm', UpA D D1 s (logL RR) (logL noR) (min k 8) 1 ∧ v = .int .i64 0 ∧ MapH U8 m none D1.F sm' ∧ St w0 K (fl [[(l, .cells #[.pointer (some ⟨d, 0, none⟩), .string s, .int .i64 ((lg noR).size : Nat), .int .i64 ((lg noR).count : Nat), .bool (lg noR).off] LT (0, 0))], [(d, .cells (dkC 0 m D1) DT (0, 0))], sm']) w') := by
  refine Calls.mono (LClear_ok w0 K d m D h.ok l (lg RR) (by rw [logL_len] at hz; exact hz) hz2 sm hM s (okName_size (h.file ha).1) hw hS0) ?_
  rintro _ w' ⟨v, he, e, z1, D1, sm', hL, hv, hM1, hS⟩
  obtain ⟨rfl, rfl, hu⟩ := lv_lclear h ha hL
  exact ⟨v, he, D1, sm', hu, hv, hM1, hS⟩
theorem size_ok (w0 : World) (aB : Option Addr) (cB : Nat) (uB : List Value) (B : List (List Nat)) (vB : Hp) (hB : RwV R1 aB cB uB B vB) (oB : Old w0 [] vB) (lB : ∀ r ∈ B, r.length ≤ 1000000000000) :
  Calls Try.prog 31 #[.agg #[.int .i64 0, .int .i64 0, .string ((⟨#[]⟩ : ByteArray)), .slice aB B.length cB, .slice none 0 0, .int .i64 0, .int .i64 0, .int .i64 0]] w0 (Ret fun v w' => ∃ k : Nat, (k ≤ 262144 → k = (bodyL B).length + 4 * B.length) ∧ k ≤ 2000000000000 ∧ v = .int .i64 (k : Int) ∧ St w0 [] (fl []) w') := by
 refine k_enter (vs := [.agg #[.int .i64 0, .int .i64 0, .string ((⟨#[]⟩ : ByteArray)), .slice aB B.length cB, .slice none 0 0, .int .i64 0, .int .i64 0, .int .i64 0]]) Try.func31 rfl Try.ntmps31 rfl ?_
 have hS : St w0 [] (fl []) w0 := St.init w0
 have mB := hB.most
 have hz0 : (⟨#[]⟩ : ByteArray).size = 0 := rfl
 refine wp_seq ?_
 refine k_reg ?_
 refine s_box rfl rfl rfl (.t rfl rfl) (cs := #[.int .i64 0, .int .i64 0, .string ((⟨#[]⟩ : ByteArray)), .slice aB B.length cB, .slice none 0 0, .int .i64 0, .int .i64 0, .int .i64 0]) rfl hS fun blk1 w1 hb1 hB1 hS1 => ?_
 have hS2 : St w0 [] (fl [[(blk1, .cells #[.int .i64 0, .int .i64 0, .string ((⟨#[]⟩ : ByteArray)), .slice aB B.length cB, .slice none 0 0, .int .i64 0, .int .i64 0, .int .i64 0] 63 (0, 0))]]) w1 := hS1.push 0 rfl
 refine s_val hS2 rfl rfl (r_assign rfl .c) ?_
 refine wpList_nil ?_
 refine x_tn ?_
 refine k_reb [(1, .pointer (some ⟨blk1, 0, none⟩)), (2, .int .i64 0)] ⟨rfl, rfl, trivial⟩ fun G1 => ?_
 refine wp_seq ?_
 refine k_reg ?_
 refine s_val hS2 rfl rfl (r_fieldN rfl Try.underlying63 rfl ti22 (by decide) (.t rfl rfl) (qq := 4) rfl) ?_
 refine s_val hS2 rfl rfl (r_load rfl one22 (.t rfl rfl) (St.cell_own (m := 0) rfl rfl)) ?_
 refine s_val hS2 rfl rfl (r_len rfl rfl Try.underlying22 (.t rfl rfl)) ?_
 refine s_val hS2 rfl rfl (r_fieldN rfl Try.underlying63 rfl ti9 (by decide) (.t rfl rfl) (qq := 2) rfl) ?_
 refine s_val hS2 rfl rfl (r_load rfl one9 (.t rfl rfl) (St.cell_own (m := 0) rfl rfl)) ?_
 refine s_val hS2 rfl rfl (r_lens rfl rfl Try.underlying9 (.t rfl rfl)) ?_
 refine s_val hS2 rfl rfl (r_arith rfl rfl (.t rfl rfl) (.t rfl rfl) (c := ((0 + (((⟨#[]⟩ : ByteArray)).size) : Nat) : Int)) (wn_i64 (by show (0 : Int) + ((((⟨#[]⟩ : ByteArray)).size : Nat) : Int) = _; omega) (by omega))) ?_
 refine s_val hS2 rfl rfl (r_assign rfl (.t rfl rfl)) ?_
 refine wpList_nil ?_
 refine x_tn ?_
 refine k_reb [(1, .pointer (some ⟨blk1, 0, none⟩)), (2, .int .i64 0), (3, .int .i64 (((0 + (((⟨#[]⟩ : ByteArray)).size) : Nat) : Int)))] ⟨rfl, rfl, rfl, trivial⟩ fun G2 => ?_
 refine wp_seq ?_
 refine wp_seq ?_
 refine k_reg ?_
 refine s_val hS2 rfl rfl (r_assign rfl .c) ?_
 refine wpList_nil ?_
 refine x_tn ?_
 refine wp_block ?_
 refine wp_loop_ghost (fun (m1 : Nat) a w => ∃ (G : Nat → Value) (i : Nat) (k : Nat), a = fr 33 [(1, .pointer (some ⟨blk1, 0, none⟩)), (2, .int .i64 0), (3, .int .i64 (((k : Nat) : Int))), (4, .int .i64 (((i : Nat) : Int)))] G ∧ St w0 [] (fl [[(blk1, .cells #[.int .i64 0, .int .i64 0, .string ((⟨#[]⟩ : ByteArray)), .slice aB B.length cB, .slice none 0 0, .int .i64 0, .int .i64 0, .int .i64 0] 63 (0, 0))]]) w ∧ (m1 = B.length - i ∧ i ≤ B.length ∧ k ≤ 1000000262152 ∧ k = (bodyL (B.take i)).length + 4 * i)) (B.length) ⟨_, 0, 0 + (((⟨#[]⟩ : ByteArray)).size), fr_reb _ ⟨rfl, rfl, rfl, rfl, trivial⟩, hS2, ?_⟩ ?_
 ·
  exact ⟨rfl, by omega, by omega, rfl⟩
 ·
  intro m1 _ w2 hI1
  obtain ⟨G3, i, k, rfl, hS3, ⟨hm, hi, hk1, hk⟩⟩ := hI1
  refine wp_seq ?_
  refine wp_seq ?_
  refine k_reg ?_
  refine s_val hS3 rfl rfl (r_move rfl (.t rfl rfl)) ?_
  refine s_val hS3 rfl rfl (r_fieldN rfl Try.underlying63 rfl ti56 (by decide) (.t rfl rfl) (qq := 3) rfl) ?_
  refine s_val hS3 rfl rfl (r_load rfl one56 (.t rfl rfl) (St.cell_own (m := 0) rfl rfl)) ?_
  refine s_val hS3 rfl rfl (r_len rfl rfl Try.underlying56 (.t rfl rfl)) ?_
  by_cases hil : i < B.length
  ·
   refine s_val hS3 rfl rfl (r_cmp_t rfl rfl (.t rfl rfl) (.t rfl rfl) (show ((i : Nat) : Int) < ((B.length : Nat) : Int) from by omega)) ?_
   refine s_val hS3 rfl rfl (r_move rfl (.t rfl rfl)) ?_
   refine s_valg hS3 (wanted_of (j := 5) (b := true) (d := 17) rfl rfl rfl rfl) rfl (r_move rfl (.t rfl rfl)) ?_
   by_cases c1 : k ≤ 262144
   ·
    refine s_valg hS3 (wanted_of (j := 5) (b := true) (d := 17) rfl rfl rfl rfl) rfl (r_cmp_t rfl rfl (.t rfl rfl) .c (show ((k : Nat) : Int) ≤ 262144 from by omega)) ?_
    refine s_val hS3 rfl rfl (r_pick rfl (.t rfl rfl) (.t rfl rfl)) ?_
    refine wpList_nil ?_
    refine x_tn ?_
    refine k_reb [(1, .pointer (some ⟨blk1, 0, none⟩)), (2, .int .i64 0), (3, .int .i64 (((k : Nat) : Int))), (4, .int .i64 (((i : Nat) : Int))), (20, .bool true)] ⟨rfl, rfl, rfl, rfl, rfl, trivial⟩ fun G4 => ?_
    refine k_t (.t rfl rfl) ?_
    refine wp_skip ?_
    refine x_tn ?_
    refine k_reb [(1, .pointer (some ⟨blk1, 0, none⟩)), (2, .int .i64 0), (3, .int .i64 (((k : Nat) : Int))), (4, .int .i64 (((i : Nat) : Int)))] ⟨rfl, rfl, rfl, rfl, trivial⟩ fun G5 => ?_
    refine wp_seq ?_
    refine wp_block ?_
    refine k_reg ?_
    refine s_val hS3 rfl rfl (r_move rfl (.t rfl rfl)) ?_
    refine s_val hS3 rfl rfl (r_fieldN rfl Try.underlying63 rfl ti56 (by decide) (.t rfl rfl) (qq := 3) rfl) ?_
    refine s_val hS3 rfl rfl (r_load rfl one56 (.t rfl rfl) (St.cell_own (m := 0) rfl rfl)) ?_
    refine s_val hS3 rfl rfl (r_move rfl (.t rfl rfl)) ?_
    refine s_val hS3 rfl rfl (r_ixv (j := i) rfl Try.underlying56 ti22 (.t rfl rfl) (.t rfl rfl) hB.sl (hB.len) rfl (by omega)) ?_
    obtain ⟨ea1, ec1, hv1, hx1⟩ := hB.get i (by omega)
    refine s_val hS3 rfl rfl (r_load rfl one22 (.t rfl rfl) (hB.sl.cell_o oB hv1)) ?_
    have hrw := lB _ (getD_mem (i := i) (by omega))
    refine s_val hS3 rfl rfl (r_len rfl rfl Try.underlying22 (.t rfl rfl)) ?_
    refine s_val hS3 rfl rfl (r_arith rfl rfl (.t rfl rfl) (.t rfl rfl) (c := ((k + ((B.getD i []).length) : Nat) : Int)) (wn_i64 (by show (((k : Nat) : Int) : Int) + (((B.getD i []).length : Nat) : Int) = _; omega) (by omega))) ?_
    refine s_val hS3 rfl rfl (r_arith rfl rfl (.t rfl rfl) .c (c := (((k + ((B.getD i []).length)) + 8 : Nat) : Int)) (wn_i64 (by show (((k + ((B.getD i []).length) : Nat) : Int) : Int) + 8 = _; omega) (by omega))) ?_
    refine s_val hS3 rfl rfl (r_assign rfl (.t rfl rfl)) ?_
    refine wpList_nil ?_
    refine x_bn ?_
    refine x_tn ?_
    refine k_reb [(1, .pointer (some ⟨blk1, 0, none⟩)), (2, .int .i64 0), (3, .int .i64 ((((k + ((B.getD i []).length)) + 8 : Nat) : Int))), (4, .int .i64 (((i : Nat) : Int)))] ⟨rfl, rfl, rfl, rfl, trivial⟩ fun G6 => ?_
    refine k_reg ?_
    refine s_val hS3 rfl rfl (r_move rfl (.t rfl rfl)) ?_
    refine s_val hS3 rfl rfl (r_arith rfl rfl (.t rfl rfl) .c (c := ((i + 1 : Nat) : Int)) (wn_i64 (by show (((i : Nat) : Int) : Int) + 1 = _; omega) (by omega))) ?_
    refine s_val hS3 rfl rfl (r_assign rfl (.t rfl rfl)) ?_
    refine wpList_nil ?_
    refine x_tn ?_
    refine ⟨B.length - (i + 1), by omega, _, i + 1, (k + ((B.getD i []).length)) + 8, fr_reb _ ⟨rfl, rfl, rfl, rfl, trivial⟩, hS3, ?_⟩
    exact ⟨by omega, by omega, by omega, by rw [bodyL_take (by omega), List.length_append, List.length_append, fourL_len]; omega⟩
   ·
    refine s_valg hS3 (wanted_of (j := 5) (b := true) (d := 17) rfl rfl rfl rfl) rfl (r_cmp_f rfl rfl (.t rfl rfl) .c (show ¬ (((k : Nat) : Int) ≤ 262144) from by omega)) ?_
    refine s_val hS3 rfl rfl (r_pick rfl (.t rfl rfl) (.t rfl rfl)) ?_
    refine wpList_nil ?_
    refine x_tn ?_
    refine k_reb [(1, .pointer (some ⟨blk1, 0, none⟩)), (2, .int .i64 0), (3, .int .i64 (((k : Nat) : Int))), (4, .int .i64 (((i : Nat) : Int))), (20, .bool false)] ⟨rfl, rfl, rfl, rfl, rfl, trivial⟩ fun G7 => ?_
    refine k_f (.t rfl rfl) ?_
    refine wp_exit ?_
    refine x_te ?_
    refine x_te ?_
    refine x_be ?_
    refine x_tn ?_
    refine k_reb [(2, .int .i64 0), (3, .int .i64 (((k : Nat) : Int)))] ⟨rfl, rfl, trivial⟩ fun G8 => ?_
    refine wp_seq ?_
    refine k_reg ?_
    refine s_val hS3 rfl rfl (r_move rfl (.t rfl rfl)) ?_
    refine s_val hS3 rfl rfl (r_assign rfl (.t rfl rfl)) ?_
    refine wpList_nil ?_
    refine x_tn ?_
    refine k_reb [(2, .int .i64 (((k : Nat) : Int)))] ⟨rfl, trivial⟩ fun G9 => ?_
    refine wp_ret ?_
    refine k_ret1 Try.results31 rfl rfl ?_
    refine ⟨_, rfl, ?_⟩
    have hS4 : St w0 [] (fl []) w2 := hS3.pick [] rfl (by decide)
    refine ⟨k, fun hle => ?_, by omega, rfl, hS4⟩
    have hie : i = B.length := by omega
    rw [hk, hie, List.take_length]
  ·
   refine s_val hS3 rfl rfl (r_cmp_f rfl rfl (.t rfl rfl) (.t rfl rfl) (show ¬ (((i : Nat) : Int) < ((B.length : Nat) : Int)) from by omega)) ?_
   refine s_val hS3 rfl rfl (r_move rfl (.t rfl rfl)) ?_
   refine s_skip (unwanted_of (j := 5) (b := true) (b' := false) (d := 17) rfl rfl rfl rfl rfl) rfl ?_
   refine s_skip (unwanted_of (j := 5) (b := true) (b' := false) (d := 17) rfl rfl rfl rfl rfl) rfl ?_
   refine s_val hS3 rfl rfl (r_pick rfl (.t rfl rfl) .c) ?_
   refine wpList_nil ?_
   refine x_tn ?_
   refine k_reb [(1, .pointer (some ⟨blk1, 0, none⟩)), (2, .int .i64 0), (3, .int .i64 (((k : Nat) : Int))), (4, .int .i64 (((i : Nat) : Int))), (20, .bool false)] ⟨rfl, rfl, rfl, rfl, rfl, trivial⟩ fun G10 => ?_
   refine k_f (.t rfl rfl) ?_
   refine wp_exit ?_
   refine x_te ?_
   refine x_te ?_
   refine x_be ?_
   refine x_tn ?_
   refine k_reb [(2, .int .i64 0), (3, .int .i64 (((k : Nat) : Int)))] ⟨rfl, rfl, trivial⟩ fun G11 => ?_
   refine wp_seq ?_
   refine k_reg ?_
   refine s_val hS3 rfl rfl (r_move rfl (.t rfl rfl)) ?_
   refine s_val hS3 rfl rfl (r_assign rfl (.t rfl rfl)) ?_
   refine wpList_nil ?_
   refine x_tn ?_
   refine k_reb [(2, .int .i64 (((k : Nat) : Int)))] ⟨rfl, trivial⟩ fun G12 => ?_
   refine wp_ret ?_
   refine k_ret1 Try.results31 rfl rfl ?_
   refine ⟨_, rfl, ?_⟩
   have hS5 : St w0 [] (fl []) w2 := hS3.pick [] rfl (by decide)
   refine ⟨k, fun hle => ?_, by omega, rfl, hS5⟩
   have hie : i = B.length := by omega
   rw [hk, hie, List.take_length]

theorem copied_ok (w0 : World) (aB : Option Addr) (cB : Nat) (uB : List Value) (B : List (List Nat)) (vB : Hp) (hB : RwV R1 aB cB uB B vB) (oB : Old w0 [] vB) (lB : ∀ r ∈ B, r.length ≤ 1000000000000) :
  Calls Try.prog 28 #[.slice aB B.length cB] w0 (Ret fun v w' => ∃ a c sg, v = .slice a (B.take 300).length c ∧ GrP R1 22 a c (B.take 300) sg ∧ St w0 [] (fl [sg]) w') := by
 refine k_enter (vs := [.slice aB B.length cB]) Try.func28 rfl Try.ntmps28 rfl ?_
 have hS : St w0 [] (fl []) w0 := St.init w0
 have mB := hB.most
 refine wp_seq ?_
 refine k_reg ?_
 refine s_val hS rfl rfl (r_assign rfl .c) ?_
 refine wpList_nil ?_
 refine x_tn ?_
 refine wp_seq ?_
 refine k_reg ?_
 refine s_val hS rfl rfl (r_assign rfl .c) ?_
 refine wpList_nil ?_
 refine x_tn ?_
 refine wp_seq ?_
 refine wp_seq ?_
 refine k_reg ?_
 refine s_val hS rfl rfl (r_assign rfl .c) ?_
 refine wpList_nil ?_
 refine x_tn ?_
 refine wp_block ?_
 refine wp_loop_ghost (fun (m1 : Nat) a w => ∃ (G : Nat → Value) (i : Nat) (ga : Option Addr) (gc : Nat) (sg : Hp), a = fr 24 [(0, .slice aB B.length cB), (2, .slice none 0 0), (3, .slice ga i gc), (4, .int .i64 (((i : Nat) : Int)))] G ∧ St w0 [] (fl [sg]) w ∧ (m1 = B.length - i ∧ i ≤ B.length ∧ i ≤ 300 ∧ GrP R1 22 ga gc (B.take i) sg)) (B.length) ⟨_, 0, none, 0, [], fr_reb _ ⟨rfl, rfl, rfl, rfl, trivial⟩, (St.re hS (by simp)), ?_⟩ ?_
 ·
  exact ⟨rfl, by omega, by omega, GrP.nil⟩
 ·
  intro m1 _ w1 hI1
  obtain ⟨G1, i, ga, gc, sg, rfl, hS1, ⟨hm, hi, hi3, hG⟩⟩ := hI1
  have htl : (B.take i).length = i := by rw [List.length_take]; omega
  refine wp_seq ?_
  refine wp_seq ?_
  refine k_reg ?_
  refine s_val hS1 rfl rfl (r_move rfl (.t rfl rfl)) ?_
  refine s_val hS1 rfl rfl (r_move rfl (.t rfl rfl)) ?_
  refine s_val hS1 rfl rfl (r_len rfl rfl Try.underlying56 (.t rfl rfl)) ?_
  by_cases hil : i < B.length
  ·
   refine s_val hS1 rfl rfl (r_cmp_t rfl rfl (.t rfl rfl) (.t rfl rfl) (show ((i : Nat) : Int) < ((B.length : Nat) : Int) from by omega)) ?_
   refine s_val hS1 rfl rfl (r_move rfl (.t rfl rfl)) ?_
   refine s_valg hS1 (wanted_of (j := 4) (b := true) (d := 9) rfl rfl rfl rfl) rfl (r_move rfl (.t rfl rfl)) ?_
   by_cases hi300 : i < 300
   ·
    refine s_valg hS1 (wanted_of (j := 4) (b := true) (d := 9) rfl rfl rfl rfl) rfl (r_cmp_t rfl rfl (.t rfl rfl) .c (show ((i : Nat) : Int) < 300 from by omega)) ?_
    refine s_val hS1 rfl rfl (r_pick rfl (.t rfl rfl) (.t rfl rfl)) ?_
    refine wpList_nil ?_
    refine x_tn ?_
    refine k_reb [(0, .slice aB B.length cB), (2, .slice none 0 0), (3, .slice ga i gc), (4, .int .i64 (((i : Nat) : Int))), (12, .bool true)] ⟨rfl, rfl, rfl, rfl, rfl, trivial⟩ fun G2 => ?_
    refine k_t (.t rfl rfl) ?_
    refine wp_skip ?_
    refine x_tn ?_
    refine k_reb [(0, .slice aB B.length cB), (2, .slice none 0 0), (3, .slice ga i gc), (4, .int .i64 (((i : Nat) : Int)))] ⟨rfl, rfl, rfl, rfl, trivial⟩ fun G3 => ?_
    refine wp_seq ?_
    refine wp_block ?_
    refine k_reg ?_
    refine s_val hS1 rfl rfl (r_move rfl (.t rfl rfl)) ?_
    refine s_val hS1 rfl rfl (r_move rfl (.t rfl rfl)) ?_
    refine s_val hS1 rfl rfl (r_move rfl (.t rfl rfl)) ?_
    refine s_val hS1 rfl rfl (r_ixv (j := i) rfl Try.underlying56 ti22 (.t rfl rfl) (.t rfl rfl) hB.sl (hB.len) rfl (by omega)) ?_
    obtain ⟨ea1, ec1, hv1, hx1⟩ := hB.get i (by omega)
    refine s_val hS1 rfl rfl (r_load rfl one22 (.t rfl rfl) (hB.sl.cell_o oB hv1)) ?_
    have hrw := lB _ (getD_mem (i := i) (by omega))
    have hrf := hB.fit _ (getD_mem (i := i) (by omega))
    refine s_call rfl rfl rfl (vs := [.slice ea1 ((B.getD i []).length) ec1]) ⟨(.t rfl rfl), trivial⟩ cb13 (Copy_ok w1 ea1 ec1 ((B.getD i [])) vB hx1 (Old.of_old (xs := []) [] oB hS1 rfl (by decide)) (by first | omega | simp) ) ?_
    rintro _ w2 ⟨ra1, rc1, sg1, rfl, hG1, ht1⟩
    have hS2 : St w0 [] (fl [sg, sg1]) w2 := hS1.callL (xs := []) (xs' := []) (zs := [sg1]) [] rfl (by decide) ht1 rfl rfl
    refine s_litV rfl rfl rfl Try.underlying56 ti22 rfl (vs := [(0, .slice ra1 ((((B.getD i []))).length) rc1)]) ⟨rfl, (.t rfl rfl), trivial⟩ (L := [.slice ra1 ((((B.getD i []))).length) rc1]) rfl (by decide) rfl hS2 fun blk1 w3 hb1 hB1 hS3 => ?_
    have hS4 : St w0 [] (fl [[(blk1, .cells #[.slice ra1 ((((B.getD i []))).length) rc1] 22 (0, 0))], sg, sg1]) w3 := hS3.push 0 rfl
    obtain ⟨vs1, hg1, hr1, gA1, gB1, gC1, hS5⟩ := GrP.open_ (i := 1) hG hS4 rfl
    have hS6 : St w0 [] (fl [[(blk1, .cells #[.slice ra1 ((((B.getD i []))).length) rc1] 22 (0, 0))], hg1, sg1, hr1]) w3 := hS5
    refine s_appendV (i := 1) (L := vs1) (A := [.slice ra1 ((((B.getD i []))).length) rc1]) rfl rfl rfl rfl ⟨_, _, rfl, Try.underlying56⟩ Try.underlying56 ti22 (by omega) (by omega) rfl (by simp [oneC]) (.t rfl rfl) (.t rfl rfl) rfl (by first | exact gC1 | (rw [gC1]; first | rfl | assumption | omega | (simp; done))) gA1 hS6 rfl (SlV.lit (by simp) (by simp)) (hS6.has (i := 0) rfl) (by rw [gC1]; first | (simp; done) | (simp only [List.length_cons, List.length_nil]; omega)) fun ga1 gc1 hg2 w4 hG2 hS7 => ?_
    have hS8 : St w0 [] (fl [[(blk1, .cells #[.slice ra1 ((((B.getD i []))).length) rc1] 22 (0, 0))], hg2, sg1, hr1]) w4 := hS7
    obtain ⟨sg2, hG3, hS9⟩ : ∃ sg2 : Hp, GrP R1 22 ga1 gc1 ((B.take i) ++ [((B.getD i []))]) sg2 ∧ St w0 [] (fl [sg2]) w4 := ⟨_, GrP.snoc R1.mono hG2 gB1 (R1.of_gr hG1 (by omega) hrf (by first | rfl | omega | (simp; done) | (simp; omega))), ((hS8.merge (L' := [[(blk1, .cells #[.slice ra1 ((((B.getD i []))).length) rc1] 22 (0, 0))], hg2, [], (hr1 ++ sg1)]) 3 2 rfl rfl rfl rfl).merge (L' := [[(blk1, .cells #[.slice ra1 ((((B.getD i []))).length) rc1] 22 (0, 0))], (hg2 ++ (hr1 ++ sg1)), [], []]) 1 3 rfl rfl rfl rfl).pick [1] rfl (by decide)⟩
    refine s_val hS9 rfl rfl (r_assign rfl (.t rfl rfl)) ?_
    refine wpList_nil ?_
    refine x_bn ?_
    refine x_tn ?_
    refine k_reb [(0, .slice aB B.length cB), (2, .slice none 0 0), (3, .slice ga1 (i + 1) gc1), (4, .int .i64 (((i : Nat) : Int)))] ⟨rfl, rfl, rfl, rfl, trivial⟩ fun G4 => ?_
    refine k_reg ?_
    refine s_val hS9 rfl rfl (r_move rfl (.t rfl rfl)) ?_
    refine s_val hS9 rfl rfl (r_arith rfl rfl (.t rfl rfl) .c (c := ((i + 1 : Nat) : Int)) (wn_i64 (by show (((i : Nat) : Int) : Int) + 1 = _; omega) (by omega))) ?_
    refine s_val hS9 rfl rfl (r_assign rfl (.t rfl rfl)) ?_
    refine wpList_nil ?_
    refine x_tn ?_
    refine ⟨B.length - (i + 1), by omega, _, i + 1, ga1, gc1, sg2, fr_reb _ ⟨rfl, rfl, rfl, rfl, trivial⟩, hS9, ?_⟩
    exact ⟨by omega, by omega, by omega, by rw [take_succ_getD (by omega)]; exact hG3⟩
   ·
    refine s_valg hS1 (wanted_of (j := 4) (b := true) (d := 9) rfl rfl rfl rfl) rfl (r_cmp_f rfl rfl (.t rfl rfl) .c (show ¬ (((i : Nat) : Int) < 300) from by omega)) ?_
    refine s_val hS1 rfl rfl (r_pick rfl (.t rfl rfl) (.t rfl rfl)) ?_
    refine wpList_nil ?_
    refine x_tn ?_
    refine k_reb [(0, .slice aB B.length cB), (2, .slice none 0 0), (3, .slice ga i gc), (4, .int .i64 (((i : Nat) : Int))), (12, .bool false)] ⟨rfl, rfl, rfl, rfl, rfl, trivial⟩ fun G5 => ?_
    refine k_f (.t rfl rfl) ?_
    refine wp_exit ?_
    refine x_te ?_
    refine x_te ?_
    refine x_be ?_
    refine x_tn ?_
    refine k_reb [(2, .slice none 0 0), (3, .slice ga i gc)] ⟨rfl, rfl, trivial⟩ fun G6 => ?_
    refine wp_seq ?_
    refine k_reg ?_
    refine s_val hS1 rfl rfl (r_move rfl (.t rfl rfl)) ?_
    refine s_val hS1 rfl rfl (r_assign rfl (.t rfl rfl)) ?_
    refine wpList_nil ?_
    refine x_tn ?_
    refine k_reb [(2, .slice ga i gc)] ⟨rfl, trivial⟩ fun G7 => ?_
    refine wp_ret ?_
    refine k_ret1 Try.results28 rfl rfl ?_
    refine ⟨_, rfl, ?_⟩
    have hie : B.take i = B.take 300 := take_both (by omega)
    rw [← hie, htl]
    exact ⟨_, _, _, rfl, hG, hS1⟩
  ·
   refine s_val hS1 rfl rfl (r_cmp_f rfl rfl (.t rfl rfl) (.t rfl rfl) (show ¬ (((i : Nat) : Int) < ((B.length : Nat) : Int)) from by omega)) ?_
   refine s_val hS1 rfl rfl (r_move rfl (.t rfl rfl)) ?_
   refine s_skip (unwanted_of (j := 4) (b := true) (b' := false) (d := 9) rfl rfl rfl rfl rfl) rfl ?_
   refine s_skip (unwanted_of (j := 4) (b := true) (b' := false) (d := 9) rfl rfl rfl rfl rfl) rfl ?_
   refine s_val hS1 rfl rfl (r_pick rfl (.t rfl rfl) .c) ?_
   refine wpList_nil ?_
   refine x_tn ?_
   refine k_reb [(0, .slice aB B.length cB), (2, .slice none 0 0), (3, .slice ga i gc), (4, .int .i64 (((i : Nat) : Int))), (12, .bool false)] ⟨rfl, rfl, rfl, rfl, rfl, trivial⟩ fun G8 => ?_
   refine k_f (.t rfl rfl) ?_
   refine wp_exit ?_
   refine x_te ?_
   refine x_te ?_
   refine x_be ?_
   refine x_tn ?_
   refine k_reb [(2, .slice none 0 0), (3, .slice ga i gc)] ⟨rfl, rfl, trivial⟩ fun G9 => ?_
   refine wp_seq ?_
   refine k_reg ?_
   refine s_val hS1 rfl rfl (r_move rfl (.t rfl rfl)) ?_
   refine s_val hS1 rfl rfl (r_assign rfl (.t rfl rfl)) ?_
   refine wpList_nil ?_
   refine x_tn ?_
   refine k_reb [(2, .slice ga i gc)] ⟨rfl, trivial⟩ fun G10 => ?_
   refine wp_ret ?_
   refine k_ret1 Try.results28 rfl rfl ?_
   refine ⟨_, rfl, ?_⟩
   have hie : B.take i = B.take 300 := take_both (by omega)
   rw [← hie, htl]
   exact ⟨_, _, _, rfl, hG, hS1⟩

theorem copied_q (w0 : World) (aB : Option Addr) (cB : Nat) (uB : List Value) (B : List (List Nat)) (vB : Hp) (hB : RwV R1 aB cB uB B vB) (oB : Old w0 [] vB) (lB : ∀ r ∈ B, r.length ≤ 1000000000000) :
  Calls Try.prog 28 #[.slice aB B.length cB] w0 (Ret fun v w' => ∃ Q a c sg, Q = B.take 300 ∧ Q.length ≤ 300 ∧ (∀ r ∈ Q, r.length ≤ 1000000000000) ∧ v = .slice a Q.length c ∧ GrP R1 22 a c Q sg ∧ St w0 [] (fl [sg]) w') := by
 refine Calls.mono (copied_ok w0 aB cB uB B vB hB oB lB) ?_
 rintro _ w' ⟨v, he, a, c, sg, hv, hG, hS⟩
 exact ⟨v, he, _, a, c, sg, rfl, List.length_take_le _ _, fun r hr => lB r (List.mem_of_mem_take hr), hv, hG, hS⟩
theorem copied_s (w0 : World) (aB : Option Addr) (cB : Nat) (uB : List Value) (B : List (List Nat)) (vB : Hp) (hB : RwV R1 aB cB uB B vB) (oB : Old w0 [] vB) (lB : ∀ r ∈ B, r.length ≤ 1000000000000) (l3 : B.length ≤ 300) :
  Calls Try.prog 28 #[.slice aB B.length cB] w0 (Ret fun v w' => ∃ a c sg, v = .slice a B.length c ∧ GrP R1 22 a c B sg ∧ St w0 [] (fl [sg]) w') := by
 refine Calls.mono (copied_ok w0 aB cB uB B vB hB oB lB) ?_
 rintro _ w' ⟨v, he, a, c, sg, hv, hG, hS⟩
 rw [List.take_of_length_le l3] at hv hG
 exact ⟨v, he, a, c, sg, hv, hG, hS⟩
theorem eqRows_ok (w0 : World) (aA : Option Addr) (cA : Nat) (uA : List Value) (A : List (List (List Nat))) (vA : Hp) (hA : RwV R2 aA cA uA A vA) (oA : Old w0 [] vA) (aB : Option Addr) (cB : Nat) (uB : List Value) (B : List (List (List Nat))) (vB : Hp) (hB : RwV R2 aB cB uB B vB) (oB : Old w0 [] vB) :
  Calls Try.prog 23 #[.slice aA A.length cA, .slice aB B.length cB] w0 (Ret fun v w' => v = .bool (decide (A = B)) ∧ St w0 [] (fl []) w') := by
 refine k_enter (vs := [.slice aA A.length cA, .slice aB B.length cB]) Try.func23 rfl Try.ntmps23 rfl ?_
 have hS : St w0 [] (fl []) w0 := St.init w0
 have mA := hA.most
 have mB := hB.most
 refine wp_seq ?_
 refine k_reg ?_
 refine s_val hS rfl rfl (r_assign rfl .c) ?_
 refine wpList_nil ?_
 refine x_tn ?_
 refine wp_seq ?_
 refine wp_seq ?_
 refine k_reg ?_
 refine s_val hS rfl rfl (r_move rfl (.t rfl rfl)) ?_
 refine s_val hS rfl rfl (r_len rfl rfl Try.underlying30 (.t rfl rfl)) ?_
 refine s_val hS rfl rfl (r_move rfl (.t rfl rfl)) ?_
 refine s_val hS rfl rfl (r_len rfl rfl Try.underlying30 (.t rfl rfl)) ?_
 by_cases c1 : A.length ≠ B.length
 ·
  refine s_val hS rfl rfl (r_cmp_t rfl rfl (.t rfl rfl) (.t rfl rfl) (show ¬ ((A.length : Nat) : Int) = ((B.length : Nat) : Int) from by omega)) ?_
  refine wpList_nil ?_
  refine x_tn ?_
  refine k_reb [(0, .slice aA A.length cA), (1, .slice aB B.length cB), (4, .bool false), (11, .bool true)] ⟨rfl, rfl, rfl, rfl, trivial⟩ fun G1 => ?_
  refine k_t (.t rfl rfl) ?_
  refine wp_seq ?_
  refine k_reg ?_
  refine s_val hS rfl rfl (r_assign rfl .c) ?_
  refine wpList_nil ?_
  refine x_tn ?_
  refine k_reb [(0, .slice aA A.length cA), (1, .slice aB B.length cB), (4, .bool false)] ⟨rfl, rfl, rfl, trivial⟩ fun G2 => ?_
  refine wp_ret ?_
  refine x_tr ?_
  refine k_ret1 Try.results23 rfl rfl ?_
  refine ⟨_, rfl, ?_⟩
  exact ⟨by rw [decide_eq_false (by rintro rfl; omega)], hS⟩
 ·
  refine s_val hS rfl rfl (r_cmp_f rfl rfl (.t rfl rfl) (.t rfl rfl) (show ¬ (¬ ((A.length : Nat) : Int) = ((B.length : Nat) : Int)) from by omega)) ?_
  refine wpList_nil ?_
  refine x_tn ?_
  refine k_reb [(0, .slice aA A.length cA), (1, .slice aB B.length cB), (4, .bool false), (11, .bool false)] ⟨rfl, rfl, rfl, rfl, trivial⟩ fun G3 => ?_
  refine k_f (.t rfl rfl) ?_
  refine wp_skip ?_
  refine x_tn ?_
  refine k_reb [(0, .slice aA A.length cA), (1, .slice aB B.length cB), (4, .bool false)] ⟨rfl, rfl, rfl, trivial⟩ fun G4 => ?_
  refine wp_seq ?_
  refine wp_seq ?_
  refine k_reg ?_
  refine s_val hS rfl rfl (r_assign rfl .c) ?_
  refine wpList_nil ?_
  refine x_tn ?_
  refine wp_block ?_
  refine wp_loop_ghost (fun (m1 : Nat) a w => ∃ (G : Nat → Value) (i : Nat), a = fr 54 [(0, .slice aA A.length cA), (1, .slice aB B.length cB), (4, .bool false), (5, .int .i64 (((i : Nat) : Int)))] G ∧ St w0 [] (fl []) w ∧ (m1 = A.length - i ∧ i ≤ A.length ∧ A.take i = B.take i)) (A.length) ⟨_, 0, fr_reb _ ⟨rfl, rfl, rfl, rfl, trivial⟩, hS, ?_⟩ ?_
  ·
   exact ⟨rfl, by omega, rfl⟩
  ·
   intro m1 _ w1 hI1
   obtain ⟨G5, i, rfl, hS1, ⟨hm, hi, hr⟩⟩ := hI1
   refine wp_seq ?_
   refine wp_seq ?_
   refine k_reg ?_
   refine s_val hS1 rfl rfl (r_move rfl (.t rfl rfl)) ?_
   refine s_val hS1 rfl rfl (r_move rfl (.t rfl rfl)) ?_
   refine s_val hS1 rfl rfl (r_len rfl rfl Try.underlying30 (.t rfl rfl)) ?_
   by_cases c2 : i < A.length
   ·
    refine s_val hS1 rfl rfl (r_cmp_t rfl rfl (.t rfl rfl) (.t rfl rfl) (show ((i : Nat) : Int) < ((A.length : Nat) : Int) from by omega)) ?_
    refine wpList_nil ?_
    refine x_tn ?_
    refine k_reb [(0, .slice aA A.length cA), (1, .slice aB B.length cB), (4, .bool false), (5, .int .i64 (((i : Nat) : Int))), (15, .bool true)] ⟨rfl, rfl, rfl, rfl, rfl, trivial⟩ fun G6 => ?_
    refine k_t (.t rfl rfl) ?_
    refine wp_skip ?_
    refine x_tn ?_
    refine k_reb [(0, .slice aA A.length cA), (1, .slice aB B.length cB), (4, .bool false), (5, .int .i64 (((i : Nat) : Int)))] ⟨rfl, rfl, rfl, rfl, trivial⟩ fun G7 => ?_
    refine wp_seq ?_
    refine wp_block ?_
    refine wp_seq ?_
    refine wp_seq ?_
    refine k_regq mixed (by kernel_rfl) hS1 ?_
    refine q_val rfl rfl (r_move rfl (.t rfl rfl)) ?_
    refine q_val rfl rfl (r_move rfl (.t rfl rfl)) ?_
    refine q_val rfl rfl (r_ixv (j := i) rfl Try.underlying30 ti56 (.t rfl rfl) (.t rfl rfl) hA.sl (hA.len) rfl (by omega)) ?_
    obtain ⟨ea1, ec1, us1, hv1, hx1⟩ := hA.get2 i (by omega)
    refine q_val rfl rfl (r_load rfl one56 (.t rfl rfl) (hA.sl.cell_o oA hv1)) ?_
    refine q_val rfl rfl (r_len rfl rfl Try.underlying56 (.t rfl rfl)) ?_
    refine q_val rfl rfl (r_move rfl (.t rfl rfl)) ?_
    refine q_val rfl rfl (r_move rfl (.t rfl rfl)) ?_
    refine q_val rfl rfl (r_ixv (j := i) rfl Try.underlying30 ti56 (.t rfl rfl) (.t rfl rfl) hB.sl (hB.len) rfl (by omega)) ?_
    obtain ⟨ea2, ec2, us2, hv2, hx2⟩ := hB.get2 i (by omega)
    refine q_val rfl rfl (r_load rfl one56 (.t rfl rfl) (hB.sl.cell_o oB hv2)) ?_
    refine q_val rfl rfl (r_len rfl rfl Try.underlying56 (.t rfl rfl)) ?_
    by_cases c3 : (A.getD i []).length ≠ (B.getD i []).length
    ·
     refine q_val rfl rfl (r_cmp_t rfl rfl (.t rfl rfl) (.t rfl rfl) (show ¬ (((A.getD i []).length : Nat) : Int) = (((B.getD i []).length : Nat) : Int) from by omega)) ?_
     refine q_nil ?_
     intro w2 hS2
     refine x_tn ?_
     refine k_reb [(0, .slice aA A.length cA), (1, .slice aB B.length cB), (4, .bool false), (5, .int .i64 (((i : Nat) : Int))), (28, .bool true)] ⟨rfl, rfl, rfl, rfl, rfl, trivial⟩ fun G8 => ?_
     refine k_t (.t rfl rfl) ?_
     refine wp_seq ?_
     refine k_reg ?_
     refine s_val hS2 rfl rfl (r_assign rfl .c) ?_
     refine wpList_nil ?_
     refine x_tn ?_
     refine k_reb [(0, .slice aA A.length cA), (1, .slice aB B.length cB), (4, .bool false), (5, .int .i64 (((i : Nat) : Int)))] ⟨rfl, rfl, rfl, rfl, trivial⟩ fun G9 => ?_
     refine wp_ret ?_
     refine x_tr ?_
     refine x_br ?_
     refine x_tr ?_
     refine x_tr ?_
     refine x_br ?_
     refine x_tr ?_
     refine k_ret1 Try.results23 rfl rfl ?_
     refine ⟨_, rfl, ?_⟩
     exact ⟨by rw [decide_eq_false (by rintro rfl; omega)], hS2⟩
    ·
     refine q_val rfl rfl (r_cmp_f rfl rfl (.t rfl rfl) (.t rfl rfl) (show ¬ (¬ (((A.getD i []).length : Nat) : Int) = (((B.getD i []).length : Nat) : Int)) from by omega)) ?_
     refine q_nil ?_
     intro w3 hS3
     refine x_tn ?_
     refine k_reb [(0, .slice aA A.length cA), (1, .slice aB B.length cB), (4, .bool false), (5, .int .i64 (((i : Nat) : Int))), (28, .bool false)] ⟨rfl, rfl, rfl, rfl, rfl, trivial⟩ fun G10 => ?_
     refine k_f (.t rfl rfl) ?_
     refine wp_skip ?_
     refine x_tn ?_
     refine k_reb [(0, .slice aA A.length cA), (1, .slice aB B.length cB), (4, .bool false), (5, .int .i64 (((i : Nat) : Int)))] ⟨rfl, rfl, rfl, rfl, trivial⟩ fun G11 => ?_
     refine wp_seq ?_
     refine k_reg ?_
     refine s_val hS3 rfl rfl (r_assign rfl .c) ?_
     refine wpList_nil ?_
     refine x_tn ?_
     refine wp_block ?_
     refine wp_loop_ghost (fun (m2 : Nat) a w => ∃ (G : Nat → Value) (k : Nat), a = fr 54 [(0, .slice aA A.length cA), (1, .slice aB B.length cB), (4, .bool false), (5, .int .i64 (((i : Nat) : Int))), (6, .int .i64 (((k : Nat) : Int)))] G ∧ St w0 [] (fl []) w ∧ (m2 = (A.getD i []).length - k ∧ k ≤ (A.getD i []).length ∧ (A.getD i []).take k = (B.getD i []).take k)) ((A.getD i []).length) ⟨_, 0, fr_reb _ ⟨rfl, rfl, rfl, rfl, rfl, trivial⟩, hS3, ?_⟩ ?_
     ·
      exact ⟨rfl, by omega, rfl⟩
     ·
      intro m2 _ w4 hI2
      obtain ⟨G12, k, rfl, hS4, ⟨hm2, hk, hr2⟩⟩ := hI2
      obtain ⟨_, _, _, -, hq1⟩ := hA.get2 i (by omega)
      have hmk := hq1.most
      refine wp_seq ?_
      refine wp_seq ?_
      refine k_reg ?_
      refine s_val hS4 rfl rfl (r_move rfl (.t rfl rfl)) ?_
      refine s_val hS4 rfl rfl (r_move rfl (.t rfl rfl)) ?_
      refine s_val hS4 rfl rfl (r_move rfl (.t rfl rfl)) ?_
      refine s_val hS4 rfl rfl (r_ixv (j := i) rfl Try.underlying30 ti56 (.t rfl rfl) (.t rfl rfl) hA.sl (hA.len) rfl (by omega)) ?_
      obtain ⟨ea3, ec3, us3, hv3, hx3⟩ := hA.get2 i (by omega)
      refine s_val hS4 rfl rfl (r_load rfl one56 (.t rfl rfl) (hA.sl.cell_o oA hv3)) ?_
      refine s_val hS4 rfl rfl (r_len rfl rfl Try.underlying56 (.t rfl rfl)) ?_
      by_cases c4 : k < (A.getD i []).length
      ·
       refine s_val hS4 rfl rfl (r_cmp_t rfl rfl (.t rfl rfl) (.t rfl rfl) (show ((k : Nat) : Int) < (((A.getD i []).length : Nat) : Int) from by omega)) ?_
       refine wpList_nil ?_
       refine x_tn ?_
       refine k_reb [(0, .slice aA A.length cA), (1, .slice aB B.length cB), (4, .bool false), (5, .int .i64 (((i : Nat) : Int))), (6, .int .i64 (((k : Nat) : Int))), (35, .bool true)] ⟨rfl, rfl, rfl, rfl, rfl, rfl, trivial⟩ fun G13 => ?_
       refine k_t (.t rfl rfl) ?_
       refine wp_skip ?_
       refine x_tn ?_
       refine k_reb [(0, .slice aA A.length cA), (1, .slice aB B.length cB), (4, .bool false), (5, .int .i64 (((i : Nat) : Int))), (6, .int .i64 (((k : Nat) : Int)))] ⟨rfl, rfl, rfl, rfl, rfl, trivial⟩ fun G14 => ?_
       refine wp_seq ?_
       refine wp_block ?_
       refine wp_seq ?_
       refine k_regt 14 mixed (by kernel_rfl) hS4 fun w5 hS5 hB1 => ?_
       refine t_val hS5 rfl rfl (r_move rfl (.t rfl rfl)) ?_
       refine t_val hS5 rfl rfl (r_move rfl (.t rfl rfl)) ?_
       refine t_val hS5 rfl rfl (r_ixv (j := i) rfl Try.underlying30 ti56 (.t rfl rfl) (.t rfl rfl) hA.sl (hA.len) rfl (by omega)) ?_
       obtain ⟨ea4, ec4, us4, hv4, hx4⟩ := hA.get2 i (by omega)
       refine t_val hS5 rfl rfl (r_load rfl one56 (.t rfl rfl) (hA.sl.cell_o oA hv4)) ?_
       refine t_val hS5 rfl rfl (r_move rfl (.t rfl rfl)) ?_
       refine t_val hS5 rfl rfl (r_ixv (j := k) rfl Try.underlying56 ti22 (.t rfl rfl) (.t rfl rfl) hx4.sl (hx4.len) rfl (by omega)) ?_
       obtain ⟨ea5, ec5, hv5, hx5⟩ := hx4.get k (by omega)
       refine t_val hS5 rfl rfl (r_load rfl one22 (.t rfl rfl) (hx4.sl.cell_o oA hv5)) ?_
       refine t_val hS5 rfl rfl (r_move rfl (.t rfl rfl)) ?_
       refine t_val hS5 rfl rfl (r_move rfl (.t rfl rfl)) ?_
       refine t_val hS5 rfl rfl (r_ixv (j := i) rfl Try.underlying30 ti56 (.t rfl rfl) (.t rfl rfl) hB.sl (hB.len) rfl (by omega)) ?_
       obtain ⟨ea6, ec6, us5, hv6, hx6⟩ := hB.get2 i (by omega)
       refine t_val hS5 rfl rfl (r_load rfl one56 (.t rfl rfl) (hB.sl.cell_o oB hv6)) ?_
       refine t_val hS5 rfl rfl (r_move rfl (.t rfl rfl)) ?_
       refine t_val hS5 rfl rfl (r_ixv (j := k) rfl Try.underlying56 ti22 (.t rfl rfl) (.t rfl rfl) hx6.sl (hx6.len) rfl (by omega)) ?_
       obtain ⟨ea7, ec7, hv7, hx7⟩ := hx6.get k (by omega)
       refine t_val hS5 rfl rfl (r_load rfl one22 (.t rfl rfl) (hx6.sl.cell_o oB hv7)) ?_
       refine t_nil ?_
       refine s_call rfl rfl rfl (vs := [.slice ea5 ((((A.getD i [])).getD k []).length) ec5, .slice ea7 ((((B.getD i [])).getD k []).length) ec7]) ⟨(.t rfl rfl), (.t rfl rfl), trivial⟩ cb20 (Eq_ok w5 ea5 ec5 ((((A.getD i [])).getD k [])) vA hx5 (Old.of_old (xs := []) [] oA hS5 rfl (by decide)) ea7 ec7 ((((B.getD i [])).getD k [])) vB hx7 (Old.of_old (xs := []) [] oB hS5 rfl (by decide)) ) ?_
       rintro _ w6 ⟨rfl, ht1⟩
       have hS6 : St w0 [] (fl []) w6 := hS5.callL (xs := []) (xs' := []) (zs := []) [] rfl (by decide) ht1 rfl rfl
       by_cases hEq : ((((A.getD i [])).getD k [])) = ((((B.getD i [])).getD k []))
       ·
        refine s_asb (b' := true) (decide_eq_true hEq) ?_
        refine s_val hS6 rfl rfl (r_lnot rfl (.t rfl rfl)) ?_
        refine wpList_nil ?_
        refine x_tn ?_
        refine k_reb [(0, .slice aA A.length cA), (1, .slice aB B.length cB), (4, .bool false), (5, .int .i64 (((i : Nat) : Int))), (6, .int .i64 (((k : Nat) : Int))), (53, .bool false)] ⟨rfl, rfl, rfl, rfl, rfl, rfl, trivial⟩ fun G15 => ?_
        refine k_f (.t rfl rfl) ?_
        refine wp_skip ?_
        refine x_bn ?_
        refine x_tn ?_
        refine k_reb [(0, .slice aA A.length cA), (1, .slice aB B.length cB), (4, .bool false), (5, .int .i64 (((i : Nat) : Int))), (6, .int .i64 (((k : Nat) : Int)))] ⟨rfl, rfl, rfl, rfl, rfl, trivial⟩ fun G16 => ?_
        refine k_reg ?_
        refine s_val hS6 rfl rfl (r_move rfl (.t rfl rfl)) ?_
        refine s_val hS6 rfl rfl (r_arith rfl rfl (.t rfl rfl) .c (c := ((k + 1 : Nat) : Int)) (wn_i64 (by show (((k : Nat) : Int) : Int) + 1 = _; omega) (by omega))) ?_
        refine s_val hS6 rfl rfl (r_assign rfl (.t rfl rfl)) ?_
        refine wpList_nil ?_
        refine x_tn ?_
        refine ⟨(A.getD i []).length - (k + 1), by omega, _, k + 1, fr_reb _ ⟨rfl, rfl, rfl, rfl, rfl, trivial⟩, hS6, ?_⟩
        exact ⟨by omega, by omega, take_succ_eq (by omega) (by omega) hr2 hEq⟩
       ·
        refine s_asb (b' := false) (decide_eq_false hEq) ?_
        refine s_val hS6 rfl rfl (r_lnot rfl (.t rfl rfl)) ?_
        refine wpList_nil ?_
        refine x_tn ?_
        refine k_reb [(0, .slice aA A.length cA), (1, .slice aB B.length cB), (4, .bool false), (5, .int .i64 (((i : Nat) : Int))), (6, .int .i64 (((k : Nat) : Int))), (53, .bool true)] ⟨rfl, rfl, rfl, rfl, rfl, rfl, trivial⟩ fun G17 => ?_
        refine k_t (.t rfl rfl) ?_
        refine wp_seq ?_
        refine k_reg ?_
        refine s_val hS6 rfl rfl (r_assign rfl .c) ?_
        refine wpList_nil ?_
        refine x_tn ?_
        refine k_reb [(0, .slice aA A.length cA), (1, .slice aB B.length cB), (4, .bool false), (5, .int .i64 (((i : Nat) : Int))), (6, .int .i64 (((k : Nat) : Int)))] ⟨rfl, rfl, rfl, rfl, rfl, trivial⟩ fun G18 => ?_
        refine wp_ret ?_
        refine x_br ?_
        refine x_tr ?_
        refine x_tr ?_
        refine x_br ?_
        refine x_br ?_
        refine x_tr ?_
        refine x_tr ?_
        refine x_br ?_
        refine x_tr ?_
        refine k_ret1 Try.results23 rfl rfl ?_
        refine ⟨_, rfl, ?_⟩
        exact ⟨by rw [decide_eq_false (by rintro rfl; exact hEq rfl)], hS6⟩
      ·
       refine s_val hS4 rfl rfl (r_cmp_f rfl rfl (.t rfl rfl) (.t rfl rfl) (show ¬ (((k : Nat) : Int) < (((A.getD i []).length : Nat) : Int)) from by omega)) ?_
       refine wpList_nil ?_
       refine x_tn ?_
       refine k_reb [(0, .slice aA A.length cA), (1, .slice aB B.length cB), (4, .bool false), (5, .int .i64 (((i : Nat) : Int))), (6, .int .i64 (((k : Nat) : Int))), (35, .bool false)] ⟨rfl, rfl, rfl, rfl, rfl, rfl, trivial⟩ fun G19 => ?_
       refine k_f (.t rfl rfl) ?_
       refine wp_exit ?_
       refine x_te ?_
       refine x_te ?_
       refine x_be ?_
       refine x_bn ?_
       refine x_tn ?_
       refine k_reb [(0, .slice aA A.length cA), (1, .slice aB B.length cB), (4, .bool false), (5, .int .i64 (((i : Nat) : Int)))] ⟨rfl, rfl, rfl, rfl, trivial⟩ fun G20 => ?_
       refine k_reg ?_
       refine s_val hS4 rfl rfl (r_move rfl (.t rfl rfl)) ?_
       refine s_val hS4 rfl rfl (r_arith rfl rfl (.t rfl rfl) .c (c := ((i + 1 : Nat) : Int)) (wn_i64 (by show (((i : Nat) : Int) : Int) + 1 = _; omega) (by omega))) ?_
       refine s_val hS4 rfl rfl (r_assign rfl (.t rfl rfl)) ?_
       refine wpList_nil ?_
       refine x_tn ?_
       refine ⟨A.length - (i + 1), by omega, _, i + 1, fr_reb _ ⟨rfl, rfl, rfl, rfl, trivial⟩, hS4, ?_⟩
       exact ⟨by omega, by omega, take_succ_eq (by omega) (by omega) hr (eq_of_takes (by omega) (by omega) hr2)⟩
   ·
    refine s_val hS1 rfl rfl (r_cmp_f rfl rfl (.t rfl rfl) (.t rfl rfl) (show ¬ (((i : Nat) : Int) < ((A.length : Nat) : Int)) from by omega)) ?_
    refine wpList_nil ?_
    refine x_tn ?_
    refine k_reb [(0, .slice aA A.length cA), (1, .slice aB B.length cB), (4, .bool false), (5, .int .i64 (((i : Nat) : Int))), (15, .bool false)] ⟨rfl, rfl, rfl, rfl, rfl, trivial⟩ fun G21 => ?_
    refine k_f (.t rfl rfl) ?_
    refine wp_exit ?_
    refine x_te ?_
    refine x_te ?_
    refine x_be ?_
    refine x_tn ?_
    refine k_reb [(4, .bool false)] ⟨rfl, trivial⟩ fun G22 => ?_
    refine wp_seq ?_
    refine k_reg ?_
    refine s_val hS1 rfl rfl (r_assign rfl .c) ?_
    refine wpList_nil ?_
    refine x_tn ?_
    refine wp_ret ?_
    refine k_ret1 Try.results23 rfl rfl ?_
    refine ⟨_, rfl, ?_⟩
    exact ⟨by rw [decide_eq_true (eq_of_takes (by omega) (by omega) hr)], hS1⟩

end Go.Proofs.Ytdmiklegahdafaa

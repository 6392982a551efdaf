/- Contracts of functions of the program, each walked once. -/
import Derived.Test.YtdmiklegahdafaaFnP
import Derived.Test.YtdmiklegahdafaaKLv2
namespace Go.Proofs.Ytdmiklegahdafaa
open Go Go.RowKit K
namespace FS
theorem mixed : Try.prog.follows .mixedOrders = true := by kernel_rfl
theorem cb12 : callable Try.prog 12 = true := by kernel_rfl
theorem cb13 : callable Try.prog 13 = true := by kernel_rfl
theorem cb15 : callable Try.prog 15 = true := by kernel_rfl
theorem cb16 : callable Try.prog 16 = true := by kernel_rfl
theorem cb19 : callable Try.prog 19 = true := by kernel_rfl
theorem cb20 : callable Try.prog 20 = true := by kernel_rfl
theorem cb25 : callable Try.prog 25 = true := by kernel_rfl
theorem cb26 : callable Try.prog 26 = true := by kernel_rfl
theorem cb27 : callable Try.prog 27 = true := by kernel_rfl
theorem cb28 : callable Try.prog 28 = true := by kernel_rfl
theorem cb29 : callable Try.prog 29 = true := by kernel_rfl
theorem cb30 : callable Try.prog 30 = true := by kernel_rfl
theorem one56 : One Try.prog 56 = true := by kernel_rfl
theorem ti5 : (Try.prog.info? 5).map (fun i => (i.zero, i.size, i.bytes)) = some (some (.int .u8 0), 1, 1) := by kernel_rfl
theorem ti56 : (Try.prog.info? 56).map (fun i => (i.zero, i.size, i.bytes)) = some (some (.slice none 0 0), 1, 24) := by kernel_rfl

end FS
open FS
attribute [local irreducible] Go.wpList Go.wpQuiet Go.wpStill Go.wpAny Go.Code.wp
set_option maxRecDepth 10000
set_option maxHeartbeats 8000000
set_option linter.unusedVariables false
set_option linter.unusedSimpArgs false
theorem Open_raw (w0 : World) (K : List Nat) (d m : Nat) (D : Dk) (h : Lv D) (sm : Hp) (hM : MapH U8 m none D.F sm) (s : ByteArray) {B : List Nat} {k : Nat} (ha : lookF D.F s = some ⟨s, B, k⟩) (hr : tot D.F + 8 ≤ D.room) (hw : D.writes ≤ 1000000000000) (hS0 : St w0 K (fl [[(d, .cells (dkC 0 m D) DT (0, 0))], sm]) w0) :
  Calls Try.prog 19 #[.pointer (some ⟨d, 0, none⟩), .string s] w0 (Ret fun v w' => (∃ sm', MapH U8 m none D.F sm' ∧ v = .tuple #[.pointer none, .slice none 0 0, .int .i64 111] ∧ St w0 K (fl [[(d, .cells (dkC 0 m D) DT (0, 0))], sm']) w') ∨ (∃ RR ks D1 sm' l oa oc sgo, (∀ LL ∈ RR, goodR LL) ∧ (logL RR).length ≤ B.length + 8 ∧ (∃ w, w ≤ 3 ∧ UpA D D1 s B (logL RR) ks w) ∧ MapH U8 m none D1.F sm' ∧ v = .tuple #[.pointer (some ⟨l, 0, none⟩), .slice oa RR.length oc, .int .i64 0] ∧ GrP R2 56 oa oc RR sgo ∧ St w0 K (fl [[(d, .cells (dkC 0 m D1) DT (0, 0))], sm', [(l, .cells #[.pointer (some ⟨d, 0, none⟩), .string s, .int .i64 ((lg RR).size : Nat), .int .i64 ((lg RR).count : Nat), .bool (lg RR).off] LT (0, 0))], sgo]) w')) := by
  refine Calls.mono (Open_ok w0 K d m D h.ok sm hM s (okName_size (h.file ha).1) hw hS0) ?_
  rintro _ w' ⟨v, he, e, D1, sm', RR, z, hO, _, _, _, hM1, hh⟩
  rcases opn_raw h ha hr hO with ⟨rfl, rfl⟩ | ⟨rfl, h1, rfl, h2, ks, w, h3, h4⟩
  ·
   rcases hh with ⟨-, hv, hS⟩ | ⟨q, -⟩
   ·
    exact ⟨v, he, .inl ⟨sm', hM1, hv, hS⟩⟩
   ·
    cases q
  ·
   rcases hh with ⟨q, -⟩ | ⟨-, l, oa, oc, sgo, hv, hG, hS⟩
   ·
    exact absurd rfl q
   ·
    exact ⟨v, he, .inr ⟨RR, ks, D1, sm', l, oa, oc, sgo, h1, h2, ⟨w, h3, h4⟩, hM1, hv, hG, hS.pick [0, 2, 1, 3] rfl (by decide)⟩⟩
theorem JournalRaw_ok (w0 : World) (aA : Option Addr) (cA : Nat) (A : List Nat) (vA : Hp) (hA : Sl .u8 aA cA A vA) (oA : Old w0 [] vA) :
  Calls Try.prog 6 #[.slice aA A.length cA] w0 (Ret fun v w' => v = .bool true ∧ St w0 [] (fl []) w') := by
 refine k_enter (vs := [.slice aA A.length cA]) Try.func6 rfl Try.ntmps6 rfl ?_
 have hS : St w0 [] (fl []) w0 := St.init w0
 refine wp_seq ?_
 refine k_reg ?_
 refine s_val hS rfl rfl (r_assign rfl .c) ?_
 refine wpList_nil ?_
 refine x_tn ?_
 refine wp_seq ?_
 refine wp_seq ?_
 refine k_reg ?_
 refine s_val hS rfl rfl (r_move rfl (.t rfl rfl)) ?_
 refine s_val hS rfl rfl (r_len rfl rfl Try.underlying22 (.t rfl rfl)) ?_
 refine s_val hS rfl rfl (r_cmp_d (p := A.length > 262144) rfl rfl (.t rfl rfl) .c (by show _ ↔ ((A.length : Nat) : Int) > 262144; omega)) ?_
 refine wpList_nil ?_
 refine x_tn ?_
 refine k_reb [(0, .slice aA A.length cA), (2, .bool false), (18, .bool (decide (A.length > 262144)))] ⟨rfl, rfl, rfl, trivial⟩ fun G1 => ?_
 refine k_join (fun a_ w_ => ∃ (G : Nat → Value) (X : List Nat), a_ = fr 156 [(0, .slice aA X.length cA), (2, .bool false)] G ∧ St w0 [] (fl []) w_ ∧ (Sl .u8 aA cA X vA ∧ X.length ≤ 262144)) ?_ ?_
 ·
  by_cases c1 : A.length > 262144
  ·
   refine k_t (Ev.asb (.t rfl rfl) (decide_eq_true c1)) ?_
   refine k_reb [(0, .slice aA A.length cA), (2, .bool false)] ⟨rfl, rfl, trivial⟩ fun G2 => ?_
   refine k_reg ?_
   refine s_val hS rfl rfl (r_move rfl (.t rfl rfl)) ?_
   have hq1 := (hA).le
   have hx1 : Sl .u8 aA cA (A.take 262144) vA := hA.take_ (by omega) (by omega) (by omega)
   have hn1 : (A.take 262144).length = 262144 := by rw [List.length_take]; omega
   refine s_val hS rfl rfl (Rn.asSl (ad' := aA) (p' := (A.take 262144).length) (q' := cA) (by simp [cutA]) (by omega) (by omega) (r_cutl rfl Try.underlying22 ti5 (.t rfl rfl) hA rfl .n (.s .c) .n (lw := 0) (hh := 262144) (m := cA) (by omega) (by omega) (by omega) (by omega))) ?_
   refine s_val hS rfl rfl (r_assign rfl (.t rfl rfl)) ?_
   refine wpList_nil ?_
   refine x_tn ?_
   refine ⟨_, A.take 262144, fr_reb _ ⟨rfl, rfl, trivial⟩, hS, ?_⟩
   exact ⟨hx1, by omega⟩
  ·
   refine k_f (Ev.asb (.t rfl rfl) (decide_eq_false c1)) ?_
   refine k_reb [(0, .slice aA A.length cA), (2, .bool false)] ⟨rfl, rfl, trivial⟩ fun G3 => ?_
   refine wp_skip ?_
   refine x_tn ?_
   refine ⟨_, A, fr_reb _ ⟨rfl, rfl, trivial⟩, hS, ?_⟩
   exact ⟨hA, by omega⟩
 ·
  rintro _ w1 ⟨G4, X, rfl, hS1, ⟨hX, lX⟩⟩
  refine x_tn ?_
  refine wp_seq ?_
  refine k_reg ?_
  refine s_call rfl rfl rfl (vs := [.int .i64 268435456]) ⟨.c, trivial⟩ cb25 (New_lv w1 268435456 (by omega) ) ?_
  rintro _ w2 ⟨d1, m1, D1, sm1, hN1, rfl, hM1, ht1⟩
  have hS4 : St w0 [] (fl [(pk d1 m1 D1), sm1]) w2 := hS1.callL (xs := []) (xs' := []) (zs := [(pk d1 m1 D1), sm1]) [] rfl (by decide) ht1 rfl rfl
  have hS3 : St w0 [] (fl [(pk d1 m1 D1), sm1]) w2 := hS4.pick [0, 1] rfl (by decide)
  have hu1 := hN1.tot
  have hu2 := hN1.len
  have hu3 := hN1.wr
  have hu4 := hN1.room
  refine s_val hS3 rfl rfl (r_move rfl (.t rfl rfl)) ?_
  refine s_val hS3 rfl rfl (r_extract rfl (.t rfl rfl) rfl) ?_
  refine s_val hS3 rfl rfl (r_extract rfl (.t rfl rfl) rfl) ?_
  refine s_val hS3 rfl rfl (r_assign rfl (.t rfl rfl)) ?_
  refine s_val hS3 rfl rfl (r_assign rfl (.t rfl rfl)) ?_
  refine wpList_nil ?_
  refine x_tn ?_
  refine k_reb [(0, .slice aA X.length cA), (2, .bool false), (3, .pointer (some ⟨d1, 0, none⟩)), (4, .int .i64 0)] ⟨rfl, rfl, rfl, rfl, trivial⟩ fun G5 => ?_
  refine wp_seq ?_
  refine wp_seq ?_
  refine k_reg ?_
  refine s_val hS3 rfl rfl (r_move rfl (.t rfl rfl)) ?_
  refine s_call rfl rfl rfl (vs := [.int .i64 0]) ⟨(.t rfl rfl), trivial⟩ cb16 (num_ok w2 0) ?_
  rintro _ w2 ⟨rfl, rfl⟩
  refine s_val hS3 rfl rfl (r_cmp_f rfl rfl (.t rfl rfl) .c (show ¬ (¬ 0 = 0) from by omega)) ?_
  refine s_val hS3 rfl rfl (r_move rfl (.t rfl rfl)) ?_
  refine s_valg hS3 (wanted_of (j := 3) (b := false) (d := 28) rfl rfl rfl rfl) rfl (r_move rfl (.t rfl rfl)) ?_
  refine s_valg hS3 (wanted_of (j := 3) (b := false) (d := 28) rfl rfl rfl rfl) rfl (r_eqnilp rfl Try.underlying33 (.t rfl rfl) .c rfl) ?_
  refine s_val hS3 rfl rfl (r_pick rfl (.t rfl rfl) (.t rfl rfl)) ?_
  refine s_val hS3 rfl rfl (r_move rfl (.t rfl rfl)) ?_
  refine s_valg hS3 (wanted_of (j := 7) (b := false) (d := 32) rfl rfl rfl rfl) rfl (r_move rfl (.t rfl rfl)) ?_
  refine s_valg hS3 (wanted_of (j := 7) (b := false) (d := 32) rfl rfl rfl rfl) rfl (r_move rfl (.t rfl rfl)) ?_
  refine s_callg (wanted_of (j := 7) (b := false) (d := 32) rfl rfl rfl rfl) rfl rfl (vs := [.slice aA X.length cA]) ⟨(.t rfl rfl), trivial⟩ cb13 (Copy_ok w2 aA cA X vA hX (Old.of_old (xs := []) [] oA hS3 rfl (by decide)) (by first | omega | simp) ) ?_
  rintro _ w3 ⟨ra1, rc1, sg1, rfl, hG1, ht2⟩
  have hS5 : St w0 [] (fl [(pk d1 m1 D1), sm1, sg1]) w3 := hS3.callL (xs := []) (xs' := []) (zs := [sg1]) [] rfl (by decide) ht2 rfl rfl
  refine s_callg (wanted_of (j := 7) (b := false) (d := 32) rfl rfl rfl rfl) rfl rfl (vs := [.pointer (some ⟨d1, 0, none⟩), .string (⟨#[106]⟩), .slice ra1 X.length rc1]) ⟨(.t rfl rfl), .c, (.t rfl rfl), trivial⟩ cb26 (DAppend_new w3 _ d1 m1 D1 hN1.lv sm1 hM1 (⟨#[106]⟩ : ByteArray) (by decide) hN1.none (by omega) ra1 rc1 X sg1 (hG1.sl (by omega) hX.fit) (Old.of_piece (i := 2) (xs := [(pk d1 m1 D1), sm1]) [0, 1] hS5 rfl rfl (by decide)) (by omega) (by omega) (hS5.give (xs := [(pk d1 m1 D1), sm1]) [0, 1] rfl (by decide))) ?_
  rintro _ w4 ⟨D2, sm2, hup1, rfl, hM2, ht3⟩
  have hS6 : St w0 [] (fl [(pk d1 m1 D2), sm2, sg1]) w4 := hS5.callL (xs := [(pk d1 m1 D1), sm1]) (xs' := [(pk d1 m1 D2), sm2]) (zs := []) [0, 1] rfl (by decide) ht3 rfl rfl
  have hat1 := (hup1.ne ⟨#[107]⟩ (by decide)).trans hN1.none
  have hu5 := hup1.tot
  have hu6 := hup1.wr
  have hu7 := hup1.room
  have hu8 := hup1.len
  have hnl1 : ([] : List Nat).length = 0 := rfl
  refine s_callg (wanted_of (j := 7) (b := false) (d := 32) rfl rfl rfl rfl) rfl rfl (vs := [.int .i64 0]) ⟨(.t rfl rfl), trivial⟩ cb16 (num_ok w4 0) ?_
  rintro _ w4 ⟨rfl, rfl⟩
  refine s_valg hS6 (wanted_of (j := 7) (b := false) (d := 32) rfl rfl rfl rfl) rfl (r_cmp_f rfl rfl (.t rfl rfl) .c (show ¬ (¬ 0 = 0) from by omega)) ?_
  refine s_val hS6 rfl rfl (r_pick rfl (.t rfl rfl) (.t rfl rfl)) ?_
  refine s_val hS6 rfl rfl (r_move rfl (.t rfl rfl)) ?_
  refine s_callg (wanted_of (j := 15) (b := false) (d := 40) rfl rfl rfl rfl) rfl rfl (vs := []) trivial cb12 (works_ok w4  ) ?_
  rintro _ w5 ⟨rfl, ht4⟩
  have hS7 : St w0 [] (fl [(pk d1 m1 D2), sm2, sg1]) w5 := hS6.callL (xs := []) (xs' := []) (zs := []) [] rfl (by decide) ht4 rfl rfl
  refine s_valg hS7 (wanted_of (j := 15) (b := false) (d := 40) rfl rfl rfl rfl) rfl (r_lnot rfl (.t rfl rfl)) ?_
  refine s_val hS7 rfl rfl (r_pick rfl (.t rfl rfl) (.t rfl rfl)) ?_
  refine wpList_nil ?_
  refine x_tn ?_
  refine k_reb [(0, .slice aA X.length cA), (2, .bool false), (3, .pointer (some ⟨d1, 0, none⟩)), (43, .bool false)] ⟨rfl, rfl, rfl, rfl, trivial⟩ fun G6 => ?_
  refine k_f (.t rfl rfl) ?_
  refine wp_skip ?_
  refine x_tn ?_
  refine k_reb [(0, .slice aA X.length cA), (2, .bool false), (3, .pointer (some ⟨d1, 0, none⟩))] ⟨rfl, rfl, rfl, trivial⟩ fun G7 => ?_
  refine wp_seq ?_
  refine k_reg ?_
  refine s_val hS7 rfl rfl (r_move rfl (.t rfl rfl)) ?_
  refine s_call rfl rfl rfl (vs := [.pointer (some ⟨d1, 0, none⟩), .string (⟨#[106]⟩)]) ⟨(.t rfl rfl), .c, trivial⟩ cb19 (Open_raw w5 _ d1 m1 D2 hup1.lv sm2 hM2 (⟨#[106]⟩ : ByteArray) hup1.at_ (by omega) (by omega) (hS7.give (xs := [(pk d1 m1 D2), sm2]) [0, 1] rfl (by decide))) ?_
  rintro _ w6 (⟨sm3, hM3, rfl, ht5⟩ | ⟨RR1, ks1, D3, sm4, l1, oa1, oc1, sg2, hgd1, hle1, ⟨tw1, htw1, hup2⟩, hM3, rfl, hO1, ht6⟩)
  ·
   have hS8 : St w0 [] (fl [(pk d1 m1 D2), sm3, sg1]) w6 := hS7.callL (xs := [(pk d1 m1 D2), sm2]) (xs' := [(pk d1 m1 D2), sm3]) (zs := []) [0, 1] rfl (by decide) ht5 rfl rfl
   refine s_val hS8 rfl rfl (r_move rfl (.t rfl rfl)) ?_
   refine s_val hS8 rfl rfl (r_extract rfl (.t rfl rfl) rfl) ?_
   refine s_val hS8 rfl rfl (r_extract rfl (.t rfl rfl) rfl) ?_
   refine s_val hS8 rfl rfl (r_extract rfl (.t rfl rfl) rfl) ?_
   refine s_val hS8 rfl rfl (r_assign rfl (.t rfl rfl)) ?_
   refine s_val hS8 rfl rfl (r_assign rfl (.t rfl rfl)) ?_
   refine s_val hS8 rfl rfl (r_assign rfl (.t rfl rfl)) ?_
   refine wpList_nil ?_
   refine x_tn ?_
   refine k_reb [(0, .slice aA X.length cA), (2, .bool false), (3, .pointer (some ⟨d1, 0, none⟩)), (5, .pointer none), (6, .slice none 0 0), (7, .int .i64 111)] ⟨rfl, rfl, rfl, rfl, rfl, rfl, trivial⟩ fun G8 => ?_
   refine wp_seq ?_
   refine k_reg ?_
   refine s_val hS8 rfl rfl (r_move rfl (.t rfl rfl)) ?_
   refine s_call rfl rfl rfl (vs := [.pointer (some ⟨d1, 0, none⟩), .string (⟨#[106]⟩)]) ⟨(.t rfl rfl), .c, trivial⟩ cb15 (Read_lv w6 _ d1 m1 D2 hup1.lv sm3 hM3 (⟨#[106]⟩ : ByteArray) hup1.at_ (hS8.give (xs := [(pk d1 m1 D2), sm3]) [0, 1] rfl (by decide))) ?_
   rintro _ w7 ⟨ra2, rc2, sg3, rfl, hG2, ht7⟩
   have hS9 : St w0 [] (fl [(pk d1 m1 D2), sm3, sg1, sg3]) w7 := hS8.callL (xs := [(pk d1 m1 D2), sm3]) (xs' := [(pk d1 m1 D2), sm3]) (zs := [sg3]) [0, 1] rfl (by decide) ht7 rfl rfl
   refine s_val hS9 rfl rfl (r_move rfl (.t rfl rfl)) ?_
   refine s_val hS9 rfl rfl (r_extract rfl (.t rfl rfl) rfl) ?_
   refine s_val hS9 rfl rfl (r_extract rfl (.t rfl rfl) rfl) ?_
   refine s_val hS9 rfl rfl (r_assign rfl (.t rfl rfl)) ?_
   refine s_val hS9 rfl rfl (r_assign rfl (.t rfl rfl)) ?_
   refine wpList_nil ?_
   refine x_tn ?_
   refine k_reb [(0, .slice aA X.length cA), (2, .bool false), (3, .pointer (some ⟨d1, 0, none⟩)), (5, .pointer none), (6, .slice none 0 0), (7, .int .i64 111), (8, .slice ra2 ((X).length) rc2), (9, .int .i64 0)] ⟨rfl, rfl, rfl, rfl, rfl, rfl, rfl, rfl, trivial⟩ fun G9 => ?_
   refine wp_seq ?_
   refine wp_seq ?_
   refine k_reg ?_
   refine s_val hS9 rfl rfl (r_move rfl (.t rfl rfl)) ?_
   refine s_call rfl rfl rfl (vs := [.int .i64 111]) ⟨(.t rfl rfl), trivial⟩ cb16 (num_ok w7 111) ?_
   rintro _ w7 ⟨rfl, rfl⟩
   refine s_val hS9 rfl rfl (r_cmp_t rfl rfl (.t rfl rfl) .c (show ¬ 111 = 0 from by omega)) ?_
   refine wpList_nil ?_
   refine x_tn ?_
   refine k_reb [(0, .slice aA X.length cA), (2, .bool false), (3, .pointer (some ⟨d1, 0, none⟩)), (5, .pointer none), (6, .slice none 0 0), (7, .int .i64 111), (8, .slice ra2 ((X).length) rc2), (9, .int .i64 0), (57, .bool true)] ⟨rfl, rfl, rfl, rfl, rfl, rfl, rfl, rfl, rfl, trivial⟩ fun G10 => ?_
   refine k_t (.t rfl rfl) ?_
   refine wp_seq ?_
   refine k_reg ?_
   refine s_val hS9 rfl rfl (r_move rfl (.t rfl rfl)) ?_
   refine s_call rfl rfl rfl (vs := [.int .i64 111]) ⟨(.t rfl rfl), trivial⟩ cb16 (num_ok w7 111) ?_
   rintro _ w7 ⟨rfl, rfl⟩
   refine s_val hS9 rfl rfl (r_cmp_t rfl rfl (.t rfl rfl) .c (show 111 = 111 from by omega)) ?_
   refine s_val hS9 rfl rfl (r_move rfl (.t rfl rfl)) ?_
   refine s_valg hS9 (wanted_of (j := 3) (b := true) (d := 61) rfl rfl rfl rfl) rfl (r_move rfl (.t rfl rfl)) ?_
   refine s_valg hS9 (wanted_of (j := 3) (b := true) (d := 61) rfl rfl rfl rfl) rfl (r_eqnilp rfl Try.underlying43 (.t rfl rfl) .c rfl) ?_
   refine s_val hS9 rfl rfl (r_pick rfl (.t rfl rfl) (.t rfl rfl)) ?_
   refine s_val hS9 rfl rfl (r_move rfl (.t rfl rfl)) ?_
   refine s_valg hS9 (wanted_of (j := 7) (b := true) (d := 65) rfl rfl rfl rfl) rfl (r_move rfl (.t rfl rfl)) ?_
   refine s_valg hS9 (wanted_of (j := 7) (b := true) (d := 65) rfl rfl rfl rfl) rfl (r_len rfl rfl Try.underlying30 (.t rfl rfl)) ?_
   refine s_valg hS9 (wanted_of (j := 7) (b := true) (d := 65) rfl rfl rfl rfl) rfl (r_cmp_t rfl rfl (.t rfl rfl) .c (show 0 = 0 from by omega)) ?_
   refine s_val hS9 rfl rfl (r_pick rfl (.t rfl rfl) (.t rfl rfl)) ?_
   refine s_val hS9 rfl rfl (r_move rfl (.t rfl rfl)) ?_
   refine s_valg hS9 (wanted_of (j := 12) (b := true) (d := 70) rfl rfl rfl rfl) rfl (r_move rfl (.t rfl rfl)) ?_
   refine s_callg (wanted_of (j := 12) (b := true) (d := 70) rfl rfl rfl rfl) rfl rfl (vs := [.int .i64 0]) ⟨(.t rfl rfl), trivial⟩ cb16 (num_ok w7 0) ?_
   rintro _ w7 ⟨rfl, rfl⟩
   refine s_valg hS9 (wanted_of (j := 12) (b := true) (d := 70) rfl rfl rfl rfl) rfl (r_cmp_t rfl rfl (.t rfl rfl) .c (show 0 = 0 from by omega)) ?_
   refine s_val hS9 rfl rfl (r_pick rfl (.t rfl rfl) (.t rfl rfl)) ?_
   refine s_val hS9 rfl rfl (r_move rfl (.t rfl rfl)) ?_
   refine s_valg hS9 (wanted_of (j := 17) (b := true) (d := 75) rfl rfl rfl rfl) rfl (r_move rfl (.t rfl rfl)) ?_
   refine s_valg hS9 (wanted_of (j := 17) (b := true) (d := 75) rfl rfl rfl rfl) rfl (r_move rfl (.t rfl rfl)) ?_
   refine s_callg (wanted_of (j := 17) (b := true) (d := 75) rfl rfl rfl rfl) rfl rfl (vs := [.slice ra2 ((X).length) rc2, .slice aA X.length cA]) ⟨(.t rfl rfl), (.t rfl rfl), trivial⟩ cb20 (Eq_ok w7 ra2 rc2 X sg3 (hG2.sl (by omega) (hup1.lv.file hup1.at_).2.2.2.2.1) (Old.of_piece (i := 3) (xs := []) [] hS9 rfl rfl (by decide)) aA cA X vA hX (Old.of_old (xs := []) [] oA hS9 rfl (by decide)) ) ?_
   rintro _ w8 ⟨rfl, ht8⟩
   have hS10 : St w0 [] (fl [(pk d1 m1 D2), sm3, sg1, sg3]) w8 := hS9.callL (xs := []) (xs' := []) (zs := []) [] rfl (by decide) ht8 rfl rfl
   by_cases he1 : X = X
   ·
    refine s_asb (b' := true) (decide_eq_true he1) ?_
    refine s_val hS10 rfl rfl (r_pick rfl (.t rfl rfl) (.t rfl rfl)) ?_
    refine s_val hS10 rfl rfl (r_assign rfl (.t rfl rfl)) ?_
    refine wpList_nil ?_
    refine x_tn ?_
    refine k_reb [(2, .bool true), (3, .pointer (some ⟨d1, 0, none⟩)), (5, .pointer none), (6, .slice none 0 0), (8, .slice ra2 ((X).length) rc2)] ⟨rfl, rfl, rfl, rfl, rfl, trivial⟩ fun G11 => ?_
    refine wp_ret ?_
    refine x_tr ?_
    refine k_ret1 Try.results6 rfl rfl ?_
    refine ⟨_, rfl, ?_⟩
    have hS11 : St w0 [] (fl []) w8 := hS10.pick [] rfl (by decide)
    exact ⟨rfl, hS11⟩
   ·
    exact absurd rfl he1
  ·
   have hS12 : St w0 [] (fl [(pk d1 m1 D3), sm4, sg1, (lq l1 d1 (⟨#[106]⟩) RR1), sg2]) w6 := hS7.callL (xs := [(pk d1 m1 D2), sm2]) (xs' := [(pk d1 m1 D3), sm4]) (zs := [(lq l1 d1 (⟨#[106]⟩) RR1), sg2]) [0, 1] rfl (by decide) ht6 rfl rfl
   have hS13 : St w0 [] (fl [(pk d1 m1 D3), (lq l1 d1 (⟨#[106]⟩) RR1), sm4, sg1, sg2]) w6 := hS12.pick [0, 3, 1, 2, 4] rfl (by decide)
   have hat2 := (hup2.ne ⟨#[107]⟩ (by decide)).trans hat1
   have hu9 := hup2.tot
   have hu10 := hup2.wr
   have hu11 := hup2.room
   have hu12 := hup2.same
   have hlr1 := logL_rows2 RR1
   refine s_val hS13 rfl rfl (r_move rfl (.t rfl rfl)) ?_
   refine s_val hS13 rfl rfl (r_extract rfl (.t rfl rfl) rfl) ?_
   refine s_val hS13 rfl rfl (r_extract rfl (.t rfl rfl) rfl) ?_
   refine s_val hS13 rfl rfl (r_extract rfl (.t rfl rfl) rfl) ?_
   refine s_val hS13 rfl rfl (r_assign rfl (.t rfl rfl)) ?_
   refine s_val hS13 rfl rfl (r_assign rfl (.t rfl rfl)) ?_
   refine s_val hS13 rfl rfl (r_assign rfl (.t rfl rfl)) ?_
   refine wpList_nil ?_
   refine x_tn ?_
   refine k_reb [(0, .slice aA X.length cA), (2, .bool false), (3, .pointer (some ⟨d1, 0, none⟩)), (5, .pointer (some ⟨l1, 0, none⟩)), (6, .slice oa1 RR1.length oc1), (7, .int .i64 0)] ⟨rfl, rfl, rfl, rfl, rfl, rfl, trivial⟩ fun G12 => ?_
   refine wp_seq ?_
   refine k_reg ?_
   refine s_val hS13 rfl rfl (r_move rfl (.t rfl rfl)) ?_
   refine s_call rfl rfl rfl (vs := [.pointer (some ⟨d1, 0, none⟩), .string (⟨#[106]⟩)]) ⟨(.t rfl rfl), .c, trivial⟩ cb15 (Read_lv w6 _ d1 m1 D3 hup2.lv sm4 hM3 (⟨#[106]⟩ : ByteArray) hup2.at_ (hS13.give (xs := [(pk d1 m1 D3), sm4]) [0, 2] rfl (by decide))) ?_
   rintro _ w9 ⟨ra3, rc3, sg4, rfl, hG3, ht9⟩
   have hS14 : St w0 [] (fl [(pk d1 m1 D3), (lq l1 d1 (⟨#[106]⟩) RR1), sm4, sg1, sg2, sg4]) w9 := hS13.callL (xs := [(pk d1 m1 D3), sm4]) (xs' := [(pk d1 m1 D3), sm4]) (zs := [sg4]) [0, 2] rfl (by decide) ht9 rfl rfl
   refine s_val hS14 rfl rfl (r_move rfl (.t rfl rfl)) ?_
   refine s_val hS14 rfl rfl (r_extract rfl (.t rfl rfl) rfl) ?_
   refine s_val hS14 rfl rfl (r_extract rfl (.t rfl rfl) rfl) ?_
   refine s_val hS14 rfl rfl (r_assign rfl (.t rfl rfl)) ?_
   refine s_val hS14 rfl rfl (r_assign rfl (.t rfl rfl)) ?_
   refine wpList_nil ?_
   refine x_tn ?_
   refine k_reb [(0, .slice aA X.length cA), (2, .bool false), (3, .pointer (some ⟨d1, 0, none⟩)), (5, .pointer (some ⟨l1, 0, none⟩)), (6, .slice oa1 RR1.length oc1), (7, .int .i64 0), (8, .slice ra3 ((logL RR1).length) rc3), (9, .int .i64 0)] ⟨rfl, rfl, rfl, rfl, rfl, rfl, rfl, rfl, trivial⟩ fun G13 => ?_
   refine wp_seq ?_
   refine wp_seq ?_
   refine k_reg ?_
   refine s_val hS14 rfl rfl (r_move rfl (.t rfl rfl)) ?_
   refine s_call rfl rfl rfl (vs := [.int .i64 0]) ⟨(.t rfl rfl), trivial⟩ cb16 (num_ok w9 0) ?_
   rintro _ w9 ⟨rfl, rfl⟩
   refine s_val hS14 rfl rfl (r_cmp_f rfl rfl (.t rfl rfl) .c (show ¬ (¬ 0 = 0) from by omega)) ?_
   refine wpList_nil ?_
   refine x_tn ?_
   refine k_reb [(0, .slice aA X.length cA), (2, .bool false), (3, .pointer (some ⟨d1, 0, none⟩)), (5, .pointer (some ⟨l1, 0, none⟩)), (6, .slice oa1 RR1.length oc1), (7, .int .i64 0), (8, .slice ra3 ((logL RR1).length) rc3), (9, .int .i64 0), (57, .bool false)] ⟨rfl, rfl, rfl, rfl, rfl, rfl, rfl, rfl, rfl, trivial⟩ fun G14 => ?_
   refine k_f (.t rfl rfl) ?_
   refine wp_skip ?_
   refine x_tn ?_
   refine k_reb [(2, .bool false), (3, .pointer (some ⟨d1, 0, none⟩)), (5, .pointer (some ⟨l1, 0, none⟩)), (6, .slice oa1 RR1.length oc1), (8, .slice ra3 ((logL RR1).length) rc3)] ⟨rfl, rfl, rfl, rfl, rfl, trivial⟩ fun G15 => ?_
   refine wp_seq ?_
   refine k_reg ?_
   refine s_val hS14 rfl rfl (r_move rfl (.t rfl rfl)) ?_
   refine s_call rfl rfl rfl (vs := [.pointer (some ⟨d1, 0, none⟩), .string (⟨#[107]⟩)]) ⟨(.t rfl rfl), .c, trivial⟩ cb19 (Open_new w9 _ d1 m1 D3 hup2.lv sm4 hM3 (⟨#[107]⟩ : ByteArray) (by decide) hat2 (by omega) (by omega) (by omega) (hS14.give (xs := [(pk d1 m1 D3), sm4]) [0, 2] rfl (by decide))) ?_
   rintro _ w10 ⟨D4, sm5, l2, oa2, oc2, sg5, hup3, hM4, rfl, hO2, ht10⟩
   have hS16 : St w0 [] (fl [(pk d1 m1 D4), (lq l1 d1 (⟨#[106]⟩) RR1), sm5, sg1, sg2, sg4, (lq l2 d1 (⟨#[107]⟩) noR), sg5]) w10 := hS14.callL (xs := [(pk d1 m1 D3), sm4]) (xs' := [(pk d1 m1 D4), sm5]) (zs := [(lq l2 d1 (⟨#[107]⟩) noR), sg5]) [0, 2] rfl (by decide) ht10 rfl rfl
   have hS17 : St w0 [] (fl [(pk d1 m1 D4), (lq l1 d1 (⟨#[106]⟩) RR1), (lq l2 d1 (⟨#[107]⟩) noR), sm5, sg1, sg2, sg4, sg5]) w10 := hS16.pick [0, 1, 6, 2, 3, 4, 5, 7] rfl (by decide)
   have hnr1 : noR.length = 0 := rfl
   have hnr2 : (logL noR).length = 8 := rfl
   have hat3 := (hup3.ne ⟨#[106]⟩ (by decide)).trans hup2.at_
   have hu13 := hup3.tot
   have hu14 := hup3.wr
   have hu15 := hup3.room
   have hu16 := hup3.len
   have hnl2 : ([] : List Nat).length = 0 := rfl
   refine s_val hS17 rfl rfl (r_move rfl (.t rfl rfl)) ?_
   refine s_val hS17 rfl rfl (r_extract rfl (.t rfl rfl) rfl) ?_
   refine s_val hS17 rfl rfl (r_extract rfl (.t rfl rfl) rfl) ?_
   refine s_val hS17 rfl rfl (r_extract rfl (.t rfl rfl) rfl) ?_
   refine s_val hS17 rfl rfl (r_assign rfl (.t rfl rfl)) ?_
   refine s_val hS17 rfl rfl (r_assign rfl (.t rfl rfl)) ?_
   refine s_val hS17 rfl rfl (r_assign rfl (.t rfl rfl)) ?_
   refine wpList_nil ?_
   refine x_tn ?_
   refine k_reb [(2, .bool false), (3, .pointer (some ⟨d1, 0, none⟩)), (5, .pointer (some ⟨l1, 0, none⟩)), (6, .slice oa1 RR1.length oc1), (8, .slice ra3 ((logL RR1).length) rc3), (10, .pointer (some ⟨l2, 0, none⟩)), (12, .int .i64 0)] ⟨rfl, rfl, rfl, rfl, rfl, rfl, rfl, trivial⟩ fun G16 => ?_
   refine wp_seq ?_
   refine wp_seq ?_
   refine k_reg ?_
   refine s_val hS17 rfl rfl (r_move rfl (.t rfl rfl)) ?_
   refine s_call rfl rfl rfl (vs := [.int .i64 0]) ⟨(.t rfl rfl), trivial⟩ cb16 (num_ok w10 0) ?_
   rintro _ w10 ⟨rfl, rfl⟩
   refine s_val hS17 rfl rfl (r_cmp_f rfl rfl (.t rfl rfl) .c (show ¬ (¬ 0 = 0) from by omega)) ?_
   refine s_val hS17 rfl rfl (r_move rfl (.t rfl rfl)) ?_
   refine s_valg hS17 (wanted_of (j := 3) (b := false) (d := 89) rfl rfl rfl rfl) rfl (r_move rfl (.t rfl rfl)) ?_
   refine s_valg hS17 (wanted_of (j := 3) (b := false) (d := 89) rfl rfl rfl rfl) rfl (r_eqnilp rfl Try.underlying43 (.t rfl rfl) .c rfl) ?_
   refine s_val hS17 rfl rfl (r_pick rfl (.t rfl rfl) (.t rfl rfl)) ?_
   refine s_val hS17 rfl rfl (r_move rfl (.t rfl rfl)) ?_
   refine s_valg hS17 (wanted_of (j := 7) (b := false) (d := 93) rfl rfl rfl rfl) rfl (r_move rfl (.t rfl rfl)) ?_
   refine s_valg hS17 (wanted_of (j := 7) (b := false) (d := 93) rfl rfl rfl rfl) rfl (r_eqnilp rfl Try.underlying43 (.t rfl rfl) .c rfl) ?_
   refine s_val hS17 rfl rfl (r_pick rfl (.t rfl rfl) (.t rfl rfl)) ?_
   refine wpList_nil ?_
   refine x_tn ?_
   refine k_reb [(2, .bool false), (3, .pointer (some ⟨d1, 0, none⟩)), (5, .pointer (some ⟨l1, 0, none⟩)), (6, .slice oa1 RR1.length oc1), (8, .slice ra3 ((logL RR1).length) rc3), (10, .pointer (some ⟨l2, 0, none⟩)), (96, .bool false)] ⟨rfl, rfl, rfl, rfl, rfl, rfl, rfl, trivial⟩ fun G17 => ?_
   refine k_f (.t rfl rfl) ?_
   refine wp_skip ?_
   refine x_tn ?_
   refine k_reb [(2, .bool false), (3, .pointer (some ⟨d1, 0, none⟩)), (5, .pointer (some ⟨l1, 0, none⟩)), (6, .slice oa1 RR1.length oc1), (8, .slice ra3 ((logL RR1).length) rc3), (10, .pointer (some ⟨l2, 0, none⟩))] ⟨rfl, rfl, rfl, rfl, rfl, rfl, trivial⟩ fun G18 => ?_
   refine wp_seq ?_
   refine wp_seq ?_
   refine k_reg ?_
   refine s_val hS17 rfl rfl (r_assign rfl .c) ?_
   refine wpList_nil ?_
   refine x_tn ?_
   refine wp_block ?_
   have hS18 : St w0 [] (fl [(pk d1 m1 D4), (lq l1 d1 (⟨#[106]⟩) RR1), (lq l2 d1 (⟨#[107]⟩) noR), sm5, sg2, sg4]) w10 := hS17.pick [0, 1, 2, 3, 5, 6] rfl (by decide)
   refine wp_loop_ghost (fun (m2 : Nat) a w => ∃ (G : Nat → Value) (i : Nat) (D : Dk) (sm : Hp) (kk : Nat), a = fr 156 [(2, .bool false), (3, .pointer (some ⟨d1, 0, none⟩)), (5, .pointer (some ⟨l1, 0, none⟩)), (6, .slice oa1 RR1.length oc1), (8, .slice ra3 ((logL RR1).length) rc3), (10, .pointer (some ⟨l2, 0, none⟩)), (13, .int .i64 (((i : Nat) : Int)))] G ∧ St w0 [] (fl [(pk d1 m1 D), (lq l1 d1 (⟨#[106]⟩) RR1), (lq l2 d1 (⟨#[107]⟩) ((RR1.take i))), sm, sg2, sg4]) w ∧ (m2 = RR1.length - i ∧ i ≤ RR1.length ∧ Lv D ∧ MapH U8 m1 none D.F sm ∧ lookF D.F (⟨#[107]⟩ : ByteArray) = some ⟨(⟨#[107]⟩ : ByteArray), logL (RR1.take i), kk⟩ ∧ tot D.F ≤ 262152 + (logL (RR1.take i)).length ∧ D.room = 268435456 ∧ D.writes ≤ 10 + 2 * i)) (RR1.length) ⟨_, 0, D4, sm5, 8, fr_reb _ ⟨rfl, rfl, rfl, rfl, rfl, rfl, rfl, trivial⟩, hS18, ?_⟩ ?_
   ·
    exact ⟨rfl, by omega, hup3.lv, hM4, hup3.at_, by show _ ≤ 262152 + 8; omega, by omega, by omega⟩
   ·
    intro m2 _ w11 hI1
    obtain ⟨G19, i, D, sm, kk, rfl, hS19, ⟨hm, hi, hlv, hM, hat, htt, hrm, hwr⟩⟩ := hI1
    have hpi : (logL (RR1.take i)).length ≤ (logL RR1).length := plc_le hi
    have hti : (RR1.take i).length = i := by rw [List.length_take]; omega
    refine wp_seq ?_
    refine wp_seq ?_
    refine k_reg ?_
    refine s_val hS19 rfl rfl (r_move rfl (.t rfl rfl)) ?_
    refine s_val hS19 rfl rfl (r_move rfl (.t rfl rfl)) ?_
    refine s_val hS19 rfl rfl (r_len rfl rfl Try.underlying30 (.t rfl rfl)) ?_
    by_cases c2 : i < RR1.length
    ·
     refine s_val hS19 rfl rfl (r_cmp_t rfl rfl (.t rfl rfl) (.t rfl rfl) (show ((i : Nat) : Int) < ((RR1.length : Nat) : Int) from by omega)) ?_
     refine wpList_nil ?_
     refine x_tn ?_
     refine k_reb [(2, .bool false), (3, .pointer (some ⟨d1, 0, none⟩)), (5, .pointer (some ⟨l1, 0, none⟩)), (6, .slice oa1 RR1.length oc1), (8, .slice ra3 ((logL RR1).length) rc3), (10, .pointer (some ⟨l2, 0, none⟩)), (13, .int .i64 (((i : Nat) : Int))), (100, .bool true)] ⟨rfl, rfl, rfl, rfl, rfl, rfl, rfl, rfl, trivial⟩ fun G20 => ?_
     refine k_t (.t rfl rfl) ?_
     refine wp_skip ?_
     refine x_tn ?_
     refine k_reb [(2, .bool false), (3, .pointer (some ⟨d1, 0, none⟩)), (5, .pointer (some ⟨l1, 0, none⟩)), (6, .slice oa1 RR1.length oc1), (8, .slice ra3 ((logL RR1).length) rc3), (10, .pointer (some ⟨l2, 0, none⟩)), (13, .int .i64 (((i : Nat) : Int)))] ⟨rfl, rfl, rfl, rfl, rfl, rfl, rfl, trivial⟩ fun G21 => ?_
     refine wp_seq ?_
     refine wp_block ?_
     refine wp_seq ?_
     refine k_reg ?_
     refine s_val hS19 rfl rfl (r_move rfl (.t rfl rfl)) ?_
     refine s_val hS19 rfl rfl (r_move rfl (.t rfl rfl)) ?_
     refine s_val hS19 rfl rfl (r_move rfl (.t rfl rfl)) ?_
     obtain ⟨us1, hw1⟩ := hO1.sl R2.mono (by first | omega | (simp; done))
     refine s_val hS19 rfl rfl (r_ixv (j := i) rfl Try.underlying30 ti56 (.t rfl rfl) (.t rfl rfl) hw1.sl (hw1.len) rfl (by omega)) ?_
     obtain ⟨ea1, ec1, us2, hv1, hx2⟩ := hw1.get2 i (by omega)
     refine s_val hS19 rfl rfl (r_load rfl one56 (.t rfl rfl) (hw1.sl.cell_p (i := 4) rfl hv1)) ?_
     refine s_call rfl rfl rfl (vs := [.slice ea1 ((RR1.getD i []).length) ec1]) ⟨(.t rfl rfl), trivial⟩ cb28 (copied_q w11 ea1 ec1 _ ((RR1.getD i [])) sg2 hx2 (Old.of_piece (i := 4) (xs := []) [] hS19 rfl rfl (by decide)) (fun r hr => Nat.le_trans (row_le hr) (by have := rec_le (RR := RR1) (i := i) (by omega); omega)) ) ?_
     rintro _ w12 ⟨Q, ra4, rc4, sg6, hQ1, hQ31, hQr1, rfl, hG4, ht11⟩
     have hS20 : St w0 [] (fl [(pk d1 m1 D), (lq l1 d1 (⟨#[106]⟩) RR1), (lq l2 d1 (⟨#[107]⟩) ((RR1.take i))), sm, sg2, sg4, sg6]) w12 := hS19.callL (xs := []) (xs' := []) (zs := [sg6]) [] rfl (by decide) ht11 rfl rfl
     have hre := rec_le (RR := RR1) (i := i) (by omega)
     have hbq : (bodyL Q).length ≤ (bodyL (RR1.getD i [])).length := by rw [hQ1]; exact bodyL_take_le _ _
     have hgi := (hgd1 _ (getD_mem (A := RR1) (i := i) (by omega))).2
     obtain ⟨us3, hw2⟩ := hG4.sl R1.mono (by omega)
     refine s_call rfl rfl rfl (vs := [.pointer (some ⟨l2, 0, none⟩), .slice ra4 Q.length rc4]) ⟨(.t rfl rfl), (.t rfl rfl), trivial⟩ cb27 (LAppend_lv w12 _ d1 m1 D hlv l2 ((RR1.take i)) sm hM (⟨#[107]⟩ : ByteArray) hat ra4 rc4 _ Q sg6 hw2 (Old.of_piece (i := 6) (xs := [(lq l2 d1 (⟨#[107]⟩) ((RR1.take i))), (pk d1 m1 D), sm]) [2, 0, 3] hS20 rfl rfl (by decide)) ⟨by omega, by omega⟩ (by omega) (by omega) (by omega) (by omega) (hS20.give (xs := [(lq l2 d1 (⟨#[107]⟩) ((RR1.take i))), (pk d1 m1 D), sm]) [2, 0, 3] rfl (by decide))) ?_
     rintro _ w13 ⟨D5, sm6, hup4, rfl, hM5, ht12⟩
     have hS21 : St w0 [] (fl [(pk d1 m1 D5), (lq l1 d1 (⟨#[106]⟩) RR1), (lq l2 d1 (⟨#[107]⟩) (((RR1.take i)) ++ [Q])), sm6, sg2, sg4, sg6]) w13 := hS20.callL (xs := [(lq l2 d1 (⟨#[107]⟩) ((RR1.take i))), (pk d1 m1 D), sm]) (xs' := [(lq l2 d1 (⟨#[107]⟩) (((RR1.take i)) ++ [Q])), (pk d1 m1 D5), sm6]) (zs := []) [2, 0, 3] rfl (by decide) ht12 rfl rfl
     have hu17 := hup4.tot
     have hu18 := hup4.wr
     have hu19 := hup4.room
     have hu20 := hup4.same
     have hln1 := logL_len_snoc ((RR1.take i)) Q
     refine s_call rfl rfl rfl (vs := [.int .i64 0]) ⟨(.t rfl rfl), trivial⟩ cb16 (num_ok w13 0) ?_
     rintro _ w13 ⟨rfl, rfl⟩
     refine s_val hS21 rfl rfl (r_cmp_f rfl rfl (.t rfl rfl) .c (show ¬ (¬ 0 = 0) from by omega)) ?_
     refine s_val hS21 rfl rfl (r_move rfl (.t rfl rfl)) ?_
     refine s_valg hS21 (wanted_of (j := 9) (b := false) (d := 112) rfl rfl rfl rfl) rfl (r_move rfl (.t rfl rfl)) ?_
     refine s_valg hS21 (wanted_of (j := 9) (b := false) (d := 112) rfl rfl rfl rfl) rfl (r_move rfl (.t rfl rfl)) ?_
     refine s_valg hS21 (wanted_of (j := 9) (b := false) (d := 112) rfl rfl rfl rfl) rfl (r_ixv (j := i) rfl Try.underlying30 ti56 (.t rfl rfl) (.t rfl rfl) hw1.sl (hw1.len) rfl (by omega)) ?_
     obtain ⟨ea2, ec2, us4, hv2, hx3⟩ := hw1.get2 i (by omega)
     refine s_valg hS21 (wanted_of (j := 9) (b := false) (d := 112) rfl rfl rfl rfl) rfl (r_load rfl one56 (.t rfl rfl) (hw1.sl.cell_p (i := 4) rfl hv2)) ?_
     refine s_valg hS21 (wanted_of (j := 9) (b := false) (d := 112) rfl rfl rfl rfl) rfl (r_len rfl rfl Try.underlying56 (.t rfl rfl)) ?_
     by_cases h300 : (RR1.getD i []).length > 300
     ·
      refine s_valg hS21 (wanted_of (j := 9) (b := false) (d := 112) rfl rfl rfl rfl) rfl (r_cmp_t rfl rfl (.t rfl rfl) .c (show (((RR1.getD i []).length : Nat) : Int) > 300 from by omega)) ?_
      refine s_val hS21 rfl rfl (r_pick rfl (.t rfl rfl) (.t rfl rfl)) ?_
      refine wpList_nil ?_
      refine x_tn ?_
      refine k_reb [(2, .bool false), (3, .pointer (some ⟨d1, 0, none⟩)), (5, .pointer (some ⟨l1, 0, none⟩)), (6, .slice oa1 RR1.length oc1), (8, .slice ra3 ((logL RR1).length) rc3), (10, .pointer (some ⟨l2, 0, none⟩)), (13, .int .i64 (((i : Nat) : Int))), (119, .bool true)] ⟨rfl, rfl, rfl, rfl, rfl, rfl, rfl, rfl, trivial⟩ fun G22 => ?_
      refine k_t (.t rfl rfl) ?_
      refine wp_seq ?_
      refine k_reg ?_
      refine s_val hS21 rfl rfl (r_move rfl (.t rfl rfl)) ?_
      refine s_val hS21 rfl rfl (r_move rfl (.t rfl rfl)) ?_
      refine s_val hS21 rfl rfl (r_ixv (j := i) rfl Try.underlying30 ti56 (.t rfl rfl) (.t rfl rfl) hw1.sl (hw1.len) rfl (by omega)) ?_
      obtain ⟨ea3, ec3, us5, hv3, hx4⟩ := hw1.get2 i (by omega)
      refine s_val hS21 rfl rfl (r_load rfl one56 (.t rfl rfl) (hw1.sl.cell_p (i := 4) rfl hv3)) ?_
      refine s_val hS21 rfl rfl (r_len rfl rfl Try.underlying56 (.t rfl rfl)) ?_
      refine s_val hS21 rfl rfl (r_cmp_t rfl rfl (.t rfl rfl) .c (show (((RR1.getD i []).length : Nat) : Int) > 300 from by omega)) ?_
      refine s_val hS21 rfl rfl (r_assign rfl (.t rfl rfl)) ?_
      refine wpList_nil ?_
      refine x_tn ?_
      refine k_reb [(2, .bool true), (3, .pointer (some ⟨d1, 0, none⟩)), (5, .pointer (some ⟨l1, 0, none⟩)), (6, .slice oa1 RR1.length oc1), (8, .slice ra3 ((logL RR1).length) rc3), (10, .pointer (some ⟨l2, 0, none⟩)), (13, .int .i64 (((i : Nat) : Int)))] ⟨rfl, rfl, rfl, rfl, rfl, rfl, rfl, trivial⟩ fun G23 => ?_
      refine wp_ret ?_
      refine x_br ?_
      refine x_tr ?_
      refine x_tr ?_
      refine x_br ?_
      refine x_tr ?_
      refine k_ret1 Try.results6 rfl rfl ?_
      refine ⟨_, rfl, ?_⟩
      have hS22 : St w0 [] (fl []) w13 := hS21.pick [] rfl (by decide)
      exact ⟨rfl, hS22⟩
     ·
      refine s_valg hS21 (wanted_of (j := 9) (b := false) (d := 112) rfl rfl rfl rfl) rfl (r_cmp_f rfl rfl (.t rfl rfl) .c (show ¬ ((((RR1.getD i []).length : Nat) : Int) > 300) from by omega)) ?_
      refine s_val hS21 rfl rfl (r_pick rfl (.t rfl rfl) (.t rfl rfl)) ?_
      refine wpList_nil ?_
      refine x_tn ?_
      refine k_reb [(2, .bool false), (3, .pointer (some ⟨d1, 0, none⟩)), (5, .pointer (some ⟨l1, 0, none⟩)), (6, .slice oa1 RR1.length oc1), (8, .slice ra3 ((logL RR1).length) rc3), (10, .pointer (some ⟨l2, 0, none⟩)), (13, .int .i64 (((i : Nat) : Int))), (119, .bool false)] ⟨rfl, rfl, rfl, rfl, rfl, rfl, rfl, rfl, trivial⟩ fun G24 => ?_
      refine k_f (.t rfl rfl) ?_
      refine wp_skip ?_
      refine x_bn ?_
      refine x_tn ?_
      refine k_reb [(2, .bool false), (3, .pointer (some ⟨d1, 0, none⟩)), (5, .pointer (some ⟨l1, 0, none⟩)), (6, .slice oa1 RR1.length oc1), (8, .slice ra3 ((logL RR1).length) rc3), (10, .pointer (some ⟨l2, 0, none⟩)), (13, .int .i64 (((i : Nat) : Int)))] ⟨rfl, rfl, rfl, rfl, rfl, rfl, rfl, trivial⟩ fun G25 => ?_
      refine k_reg ?_
      refine s_val hS21 rfl rfl (r_move rfl (.t rfl rfl)) ?_
      refine s_val hS21 rfl rfl (r_arith rfl rfl (.t rfl rfl) .c (c := ((i + 1 : Nat) : Int)) (wn_i64 (by show (((i : Nat) : Int) : Int) + 1 = _; omega) (by omega))) ?_
      refine s_val hS21 rfl rfl (r_assign rfl (.t rfl rfl)) ?_
      refine wpList_nil ?_
      refine x_tn ?_
      have hqe : Q = RR1.getD i [] := by rw [hQ1, List.take_of_length_le (by omega)]
      have hrq : RR1.take i ++ [Q] = RR1.take (i + 1) := by rw [hqe, take_succ_getD (by omega)]
      have hat4 := hup4.at_
      rw [hrq] at hat4
      have hS23 : St w0 [] (fl [(pk d1 m1 D5), (lq l1 d1 (⟨#[106]⟩) RR1), (lq l2 d1 (⟨#[107]⟩) ((RR1.take (i + 1)))), sm6, sg2, sg4, sg6]) w13 := by have q := hS21; rw [hrq] at q; exact q
      have hS24 : St w0 [] (fl [(pk d1 m1 D5), (lq l1 d1 (⟨#[106]⟩) RR1), (lq l2 d1 (⟨#[107]⟩) ((RR1.take (i + 1)))), sm6, sg2, sg4]) w13 := hS23.pick [0, 1, 2, 3, 4, 5] rfl (by decide)
      refine ⟨RR1.length - (i + 1), by omega, _, i + 1, D5, sm6, (logL (RR1.take (i + 1))).length, fr_reb _ ⟨rfl, rfl, rfl, rfl, rfl, rfl, rfl, trivial⟩, hS24, ?_⟩
      exact ⟨by omega, by omega, hup4.lv, hM5, hat4, by rw [← hrq]; omega, by omega, by omega⟩
    ·
     refine s_val hS19 rfl rfl (r_cmp_f rfl rfl (.t rfl rfl) (.t rfl rfl) (show ¬ (((i : Nat) : Int) < ((RR1.length : Nat) : Int)) from by omega)) ?_
     refine wpList_nil ?_
     refine x_tn ?_
     refine k_reb [(2, .bool false), (3, .pointer (some ⟨d1, 0, none⟩)), (5, .pointer (some ⟨l1, 0, none⟩)), (6, .slice oa1 RR1.length oc1), (8, .slice ra3 ((logL RR1).length) rc3), (10, .pointer (some ⟨l2, 0, none⟩)), (13, .int .i64 (((i : Nat) : Int))), (100, .bool false)] ⟨rfl, rfl, rfl, rfl, rfl, rfl, rfl, rfl, trivial⟩ fun G26 => ?_
     refine k_f (.t rfl rfl) ?_
     refine wp_exit ?_
     refine x_te ?_
     refine x_te ?_
     refine x_be ?_
     refine x_tn ?_
     refine k_reb [(2, .bool false), (3, .pointer (some ⟨d1, 0, none⟩)), (5, .pointer (some ⟨l1, 0, none⟩)), (6, .slice oa1 RR1.length oc1), (8, .slice ra3 ((logL RR1).length) rc3)] ⟨rfl, rfl, rfl, rfl, rfl, trivial⟩ fun G27 => ?_
     refine wp_seq ?_
     refine k_reg ?_
     refine s_val hS19 rfl rfl (r_move rfl (.t rfl rfl)) ?_
     have hie : i = RR1.length := by omega
     refine s_call rfl rfl rfl (vs := [.pointer (some ⟨d1, 0, none⟩), .string (⟨#[107]⟩)]) ⟨(.t rfl rfl), .c, trivial⟩ cb15 (Read_lv w11 _ d1 m1 D hlv sm hM (⟨#[107]⟩ : ByteArray) hat (hS19.give (xs := [(pk d1 m1 D), sm]) [0, 3] rfl (by decide))) ?_
     rintro _ w14 ⟨ra5, rc5, sg7, rfl, hG5, ht13⟩
     have hS25 : St w0 [] (fl [(pk d1 m1 D), (lq l1 d1 (⟨#[106]⟩) RR1), (lq l2 d1 (⟨#[107]⟩) ((RR1.take i))), sm, sg2, sg4, sg7]) w14 := hS19.callL (xs := [(pk d1 m1 D), sm]) (xs' := [(pk d1 m1 D), sm]) (zs := [sg7]) [0, 3] rfl (by decide) ht13 rfl rfl
     refine s_val hS25 rfl rfl (r_move rfl (.t rfl rfl)) ?_
     refine s_val hS25 rfl rfl (r_extract rfl (.t rfl rfl) rfl) ?_
     refine s_val hS25 rfl rfl (r_extract rfl (.t rfl rfl) rfl) ?_
     refine s_val hS25 rfl rfl (r_assign rfl (.t rfl rfl)) ?_
     refine s_val hS25 rfl rfl (r_assign rfl (.t rfl rfl)) ?_
     refine wpList_nil ?_
     refine x_tn ?_
     refine k_reb [(2, .bool false), (5, .pointer (some ⟨l1, 0, none⟩)), (6, .slice oa1 RR1.length oc1), (8, .slice ra3 ((logL RR1).length) rc3), (14, .slice ra5 ((logL (RR1.take i)).length) rc5), (15, .int .i64 0)] ⟨rfl, rfl, rfl, rfl, rfl, rfl, trivial⟩ fun G28 => ?_
     refine wp_seq ?_
     refine k_reg ?_
     refine s_val hS25 rfl rfl (r_move rfl (.t rfl rfl)) ?_
     refine s_call rfl rfl rfl (vs := [.int .i64 0]) ⟨(.t rfl rfl), trivial⟩ cb16 (num_ok w14 0) ?_
     rintro _ w14 ⟨rfl, rfl⟩
     refine s_val hS25 rfl rfl (r_cmp_t rfl rfl (.t rfl rfl) .c (show 0 = 0 from by omega)) ?_
     refine s_val hS25 rfl rfl (r_move rfl (.t rfl rfl)) ?_
     refine s_valg hS25 (wanted_of (j := 3) (b := true) (d := 134) rfl rfl rfl rfl) rfl (r_move rfl (.t rfl rfl)) ?_
     refine s_valg hS25 (wanted_of (j := 3) (b := true) (d := 134) rfl rfl rfl rfl) rfl (r_move rfl (.t rfl rfl)) ?_
     refine s_callg (wanted_of (j := 3) (b := true) (d := 134) rfl rfl rfl rfl) rfl rfl (vs := [.slice ra3 ((logL RR1).length) rc3, .slice ra5 ((logL (RR1.take i)).length) rc5]) ⟨(.t rfl rfl), (.t rfl rfl), trivial⟩ cb20 (Eq_ok w14 ra3 rc3 (logL RR1) sg4 (hG3.sl (by omega) (hup2.lv.file hup2.at_).2.2.2.2.1) (Old.of_piece (i := 5) (xs := []) [] hS25 rfl rfl (by decide)) ra5 rc5 (logL (RR1.take i)) sg7 (hG5.sl (by omega) (hlv.file hat).2.2.2.2.1) (Old.of_piece (i := 6) (xs := []) [] hS25 rfl rfl (by decide)) ) ?_
     rintro _ w15 ⟨rfl, ht14⟩
     have hS26 : St w0 [] (fl [(pk d1 m1 D), (lq l1 d1 (⟨#[106]⟩) RR1), (lq l2 d1 (⟨#[107]⟩) ((RR1.take i))), sm, sg2, sg4, sg7]) w15 := hS25.callL (xs := []) (xs' := []) (zs := []) [] rfl (by decide) ht14 rfl rfl
     by_cases he2 : (logL RR1) = (logL (RR1.take i))
     ·
      refine s_asb (b' := true) (decide_eq_true he2) ?_
      refine s_val hS26 rfl rfl (r_pick rfl (.t rfl rfl) (.t rfl rfl)) ?_
      refine s_val hS26 rfl rfl (r_move rfl (.t rfl rfl)) ?_
      refine s_valg hS26 (wanted_of (j := 8) (b := true) (d := 139) rfl rfl rfl rfl) rfl (r_move rfl (.t rfl rfl)) ?_
      refine s_callg (wanted_of (j := 8) (b := true) (d := 139) rfl rfl rfl rfl) rfl rfl (vs := [.pointer (some ⟨l1, 0, none⟩)]) ⟨(.t rfl rfl), trivial⟩ cb29 (LSize_ok w15 _ l1 d1 (⟨#[106]⟩ : ByteArray) (lg RR1) (hS26.give (xs := [(lq l1 d1 (⟨#[106]⟩) RR1)]) [1] rfl (by decide))) ?_
      rintro _ w16 ⟨rfl, ht15⟩
      have hS27 : St w0 [] (fl [(pk d1 m1 D), (lq l1 d1 (⟨#[106]⟩) RR1), (lq l2 d1 (⟨#[107]⟩) ((RR1.take i))), sm, sg2, sg4, sg7]) w16 := hS26.callL (xs := [(lq l1 d1 (⟨#[106]⟩) RR1)]) (xs' := [(lq l1 d1 (⟨#[106]⟩) RR1)]) (zs := []) [1] rfl (by decide) ht15 rfl rfl
      have hzq1 : (lg RR1).size = (logL RR1).length := (logL_len _).symm
      refine s_valg hS27 (wanted_of (j := 8) (b := true) (d := 139) rfl rfl rfl rfl) rfl (r_move rfl (.t rfl rfl)) ?_
      refine s_valg hS27 (wanted_of (j := 8) (b := true) (d := 139) rfl rfl rfl rfl) rfl (r_len rfl rfl Try.underlying22 (.t rfl rfl)) ?_
      refine s_valg hS27 (wanted_of (j := 8) (b := true) (d := 139) rfl rfl rfl rfl) rfl (r_cmp_t rfl rfl (.t rfl rfl) (.t rfl rfl) (show (((lg RR1).size : Nat) : Int) = (((logL RR1).length : Nat) : Int) from by omega)) ?_
      refine s_val hS27 rfl rfl (r_pick rfl (.t rfl rfl) (.t rfl rfl)) ?_
      refine s_val hS27 rfl rfl (r_move rfl (.t rfl rfl)) ?_
      refine s_valg hS27 (wanted_of (j := 15) (b := true) (d := 146) rfl rfl rfl rfl) rfl (r_move rfl (.t rfl rfl)) ?_
      refine s_callg (wanted_of (j := 15) (b := true) (d := 146) rfl rfl rfl rfl) rfl rfl (vs := [.pointer (some ⟨l1, 0, none⟩)]) ⟨(.t rfl rfl), trivial⟩ cb30 (LCount_ok w16 _ l1 d1 (⟨#[106]⟩ : ByteArray) (lg RR1) (hS27.give (xs := [(lq l1 d1 (⟨#[106]⟩) RR1)]) [1] rfl (by decide))) ?_
      rintro _ w17 ⟨rfl, ht16⟩
      have hS28 : St w0 [] (fl [(pk d1 m1 D), (lq l1 d1 (⟨#[106]⟩) RR1), (lq l2 d1 (⟨#[107]⟩) ((RR1.take i))), sm, sg2, sg4, sg7]) w17 := hS27.callL (xs := [(lq l1 d1 (⟨#[106]⟩) RR1)]) (xs' := [(lq l1 d1 (⟨#[106]⟩) RR1)]) (zs := []) [1] rfl (by decide) ht16 rfl rfl
      have hzq2 : (lg RR1).count = (RR1).length := rfl
      refine s_valg hS28 (wanted_of (j := 15) (b := true) (d := 146) rfl rfl rfl rfl) rfl (r_move rfl (.t rfl rfl)) ?_
      refine s_valg hS28 (wanted_of (j := 15) (b := true) (d := 146) rfl rfl rfl rfl) rfl (r_len rfl rfl Try.underlying30 (.t rfl rfl)) ?_
      refine s_valg hS28 (wanted_of (j := 15) (b := true) (d := 146) rfl rfl rfl rfl) rfl (r_cmp_t rfl rfl (.t rfl rfl) (.t rfl rfl) (show (((lg RR1).count : Nat) : Int) = ((RR1.length : Nat) : Int) from by omega)) ?_
      refine s_val hS28 rfl rfl (r_pick rfl (.t rfl rfl) (.t rfl rfl)) ?_
      refine s_val hS28 rfl rfl (r_move rfl (.t rfl rfl)) ?_
      refine s_callg (wanted_of (j := 22) (b := true) (d := 153) rfl rfl rfl rfl) rfl rfl (vs := []) trivial cb12 (works_ok w17  ) ?_
      rintro _ w18 ⟨rfl, ht17⟩
      have hS29 : St w0 [] (fl [(pk d1 m1 D), (lq l1 d1 (⟨#[106]⟩) RR1), (lq l2 d1 (⟨#[107]⟩) ((RR1.take i))), sm, sg2, sg4, sg7]) w18 := hS28.callL (xs := []) (xs' := []) (zs := []) [] rfl (by decide) ht17 rfl rfl
      refine s_val hS29 rfl rfl (r_pick rfl (.t rfl rfl) (.t rfl rfl)) ?_
      refine s_val hS29 rfl rfl (r_assign rfl (.t rfl rfl)) ?_
      refine wpList_nil ?_
      refine x_tn ?_
      refine k_reb [(2, .bool true)] ⟨rfl, trivial⟩ fun G29 => ?_
      refine wp_ret ?_
      refine k_ret1 Try.results6 rfl rfl ?_
      refine ⟨_, rfl, ?_⟩
      have hS30 : St w0 [] (fl []) w18 := hS29.pick [] rfl (by decide)
      exact ⟨rfl, hS30⟩
     ·
      exact absurd (by rw [hie, List.take_length]) he2

end Go.Proofs.Ytdmiklegahdafaa

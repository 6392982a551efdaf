/- Contracts of functions of the program, each walked once. -/
import Derived.Test.YtdmiklegahdafaaFnV
import Derived.Test.YtdmiklegahdafaaKSpo
namespace Go.Proofs.Ytdmiklegahdafaa
open Go Go.RowKit K
namespace FX
theorem mixed : Try.prog.follows .mixedOrders = true := by kernel_rfl
theorem cb11 : callable Try.prog 11 = true := by kernel_rfl
theorem cb13 : callable Try.prog 13 = true := by kernel_rfl
theorem cb16 : callable Try.prog 16 = true := by kernel_rfl
theorem cb24 : callable Try.prog 24 = true := by kernel_rfl
theorem cb26 : callable Try.prog 26 = true := by kernel_rfl
theorem one3 : One Try.prog 3 = true := by kernel_rfl
theorem one5 : One Try.prog 5 = true := by kernel_rfl
theorem ti3 : (Try.prog.info? 3).map (fun i => (i.zero, i.size, i.bytes)) = some (some (.int .i64 0), 1, 8) := by kernel_rfl
theorem ti5 : (Try.prog.info? 5).map (fun i => (i.zero, i.size, i.bytes)) = some (some (.int .u8 0), 1, 1) := by kernel_rfl

end FX
open FX
attribute [local irreducible] Go.wpList Go.wpQuiet Go.wpStill Go.wpAny Go.Code.wp
set_option maxRecDepth 10000
set_option maxHeartbeats 8000000
set_option linter.unusedVariables false
set_option linter.unusedSimpArgs false
theorem Open_spoil (w0 : World) (K : List Nat) (d m : Nat) (D : Dk) (h : Lv D) (sm : Hp) (hM : MapH U8 m none D.F sm) (s : ByteArray) {RR : Recs} {n by_ k : Nat} (ha : lookF D.F s = some ⟨s, (logL RR).set n ((logL RR).getD n 0 ^^^ by_), k⟩) (hg : ∀ LL ∈ RR, goodR LL) (hn : n < (logL RR).length) (hd : by_ ≤ 255) (hx : by_ ≠ 0 ∧ (∀ LL ∈ RR, ∀ r ∈ LL, ∀ x ∈ r, x ≤ 255)) (hw : D.writes ≤ 1000000000000) (hS0 : St w0 K (fl [[(d, .cells (dkC 0 m D) DT (0, 0))], sm]) w0) :
  Calls Try.prog 19 #[.pointer (some ⟨d, 0, none⟩), .string s] w0 (Ret fun v w' => (∃ sm', MapH U8 m none D.F sm' ∧ v = .tuple #[.pointer none, .slice none 0 0, .int .i64 111] ∧ St w0 K (fl [[(d, .cells (dkC 0 m D) DT (0, 0))], sm']) w') ∨ (∃ (q : Nat) (R' : Recs) (D1 : Dk) (z : Lg) (sm' : Hp) (l : Nat) (oa : Option Addr) (oc : Nat) (sgo : Hp), q < RR.length ∧ plc RR q ≤ n ∧ n < plc RR q + 4 ∧ (R' = RR.take q ∨ (q < R'.length ∧ SumsP (((logL RR).set n ((logL RR).getD n 0 ^^^ by_)).drop (plc RR q)))) ∧ D1.ok ∧ MapH U8 m none D1.F sm' ∧ v = .tuple #[.pointer (some ⟨l, 0, none⟩), .slice oa R'.length oc, .int .i64 0] ∧ GrP R2 56 oa oc R' sgo ∧ St w0 K (fl [[(d, .cells (dkC 0 m D1) DT (0, 0))], sm', [(l, .cells #[.pointer (some ⟨d, 0, none⟩), .string s, .int .i64 (z.size : Nat), .int .i64 (z.count : Nat), .bool z.off] LT (0, 0))], sgo]) w')) := by
  refine Calls.mono (Open_ok w0 K d m D h.ok sm hM s (okName_size (h.file ha).1) hw hS0) ?_
  rintro _ w' ⟨v, he, e, D1, sm', R', z, hO, hok, _, _, hM1, hh⟩
  rcases opn_spoil h ha hg hx.2 hn hd hx.1 hO with ⟨rfl, rfl⟩ | ⟨rfl, q, h1, h2, h3, h4⟩
  ·
   rcases hh with ⟨-, hv, hS⟩ | ⟨q, -⟩
   ·
    exact ⟨v, he, .inl ⟨sm', hM1, hv, hS⟩⟩
   ·
    cases q
  ·
   rcases hh with ⟨q, -⟩ | ⟨-, l, oa, oc, sgo, hv, hG, hS⟩
   ·
    exact absurd rfl q
   ·
    exact ⟨v, he, .inr ⟨q, R', D1, z, sm', l, oa, oc, sgo, h1, h2, h3, h4, hok, hM1, hv, hG, hS.pick [0, 2, 1, 3] rfl (by decide)⟩⟩
theorem rewritten_ok (w0 : World) (K : List Nat) (d m : Nat) (D : Dk) (h : Lv D) (sm : Hp) (hM : MapH U8 m none D.F sm) {B0 : List Nat} {k : Nat} (ha : lookF D.F (⟨#[106]⟩ : ByteArray) = some ⟨(⟨#[106]⟩ : ByteArray), B0, k⟩) (aB : Option Addr) (cB : Nat) (B : List Nat) (vB : Hp) (hB : Sl .u8 aB cB B vB) (oB : Old w0 K vB) (hr : tot D.F + B.length ≤ D.room + B0.length) (hrm : D.room ≤ 268435456) (hw : D.writes ≤ 1000000000) (hS0 : St w0 K (fl [[(d, .cells (dkC 0 m D) DT (0, 0))], sm]) w0) :
  Calls Try.prog 18 #[.pointer (some ⟨d, 0, none⟩), .slice aB B.length cB] w0 (Ret fun v w' => ∃ D1 sm' ks, UpA D D1 (⟨#[106]⟩ : ByteArray) B0 B ks 2 ∧ MapH U8 m none D1.F sm' ∧ v = .bool true ∧ St w0 K (fl [[(d, .cells (dkC 0 m D1) DT (0, 0))], sm']) w') := by
 refine k_enter (vs := [.pointer (some ⟨d, 0, none⟩), .slice aB B.length cB]) Try.func18 rfl Try.ntmps18 rfl ?_
 have hS : St w0 K (fl [(pk d m D), sm]) w0 := hS0
 have fB : ∀ x ∈ B, x ≤ 255 := hB.fit
 have hf0 := h.ok.fits
 have hfl := (h.file ha).2.2.2.2.2
 have htz : (B0.take 0).length = 0 := rfl
 refine wp_seq ?_
 refine k_reg ?_
 refine s_val hS rfl rfl (r_assign rfl .c) ?_
 refine wpList_nil ?_
 refine x_tn ?_
 refine wp_seq ?_
 refine k_reg ?_
 refine s_val hS rfl rfl (r_move rfl (.t rfl rfl)) ?_
 refine s_call rfl rfl rfl (vs := [.pointer (some ⟨d, 0, none⟩), .string (⟨#[106]⟩), .int .i64 0]) ⟨(.t rfl rfl), .c, .c, trivial⟩ cb24 (Cut_lv w0 _ d m D h sm hM (⟨#[106]⟩ : ByteArray) ha 0 (by omega) (by omega) (hS.give (xs := [(pk d m D), sm]) [0, 1] rfl (by decide))) ?_
 rintro _ w1 ⟨D1, sm1, hup1, rfl, hM1, ht1⟩
 have hS1 : St w0 K (fl [(pk d m D1), sm1]) w1 := hS.callL (xs := [(pk d m D), sm]) (xs' := [(pk d m D1), sm1]) (zs := []) [0, 1] rfl (by decide) ht1 rfl rfl
 have hu1 := hup1.tot
 have hu2 := hup1.wr
 have hu3 := hup1.room
 have hu4 := hup1.same
 have htk1 : ((B0).take 0).length = 0 := by rw [List.length_take]; omega
 refine s_call rfl rfl rfl (vs := [.int .i64 0]) ⟨(.t rfl rfl), trivial⟩ cb16 (num_ok w1 0) ?_
 rintro _ w1 ⟨rfl, rfl⟩
 refine s_val hS1 rfl rfl (r_cmp_t rfl rfl (.t rfl rfl) .c (show 0 = 0 from by omega)) ?_
 refine s_val hS1 rfl rfl (r_move rfl (.t rfl rfl)) ?_
 refine s_valg hS1 (wanted_of (j := 4) (b := true) (d := 9) rfl rfl rfl rfl) rfl (r_move rfl (.t rfl rfl)) ?_
 refine s_valg hS1 (wanted_of (j := 4) (b := true) (d := 9) rfl rfl rfl rfl) rfl (r_move rfl (.t rfl rfl)) ?_
 refine s_callg (wanted_of (j := 4) (b := true) (d := 9) rfl rfl rfl rfl) rfl rfl (vs := [.slice aB B.length cB]) ⟨(.t rfl rfl), trivial⟩ cb13 (Copy_ok w1 aB cB B vB hB (Old.of_old (xs := []) [] oB hS1 rfl (by decide)) (by first | omega | simp) ) ?_
 rintro _ w2 ⟨ra1, rc1, sg1, rfl, hG1, ht2⟩
 have hS2 : St w0 K (fl [(pk d m D1), sm1, sg1]) w2 := hS1.callL (xs := []) (xs' := []) (zs := [sg1]) [] rfl (by decide) ht2 rfl rfl
 refine s_callg (wanted_of (j := 4) (b := true) (d := 9) rfl rfl rfl rfl) rfl rfl (vs := [.pointer (some ⟨d, 0, none⟩), .string (⟨#[106]⟩), .slice ra1 B.length rc1]) ⟨(.t rfl rfl), .c, (.t rfl rfl), trivial⟩ cb26 (DAppend_lv w2 _ d m D1 hup1.lv sm1 hM1 (⟨#[106]⟩ : ByteArray) hup1.at_ ra1 rc1 B sg1 (hG1.sl (by omega) fB) (Old.of_piece (i := 2) (xs := [(pk d m D1), sm1]) [0, 1] hS2 rfl rfl (by decide)) (by omega) (by omega) (hS2.give (xs := [(pk d m D1), sm1]) [0, 1] rfl (by decide))) ?_
 rintro _ w3 ⟨D2, sm2, hup2, rfl, hM2, ht3⟩
 have hS3 : St w0 K (fl [(pk d m D2), sm2, sg1]) w3 := hS2.callL (xs := [(pk d m D1), sm1]) (xs' := [(pk d m D2), sm2]) (zs := []) [0, 1] rfl (by decide) ht3 rfl rfl
 have hu5 := hup2.tot
 have hu6 := hup2.wr
 have hu7 := hup2.room
 have hu8 := hup2.same
 refine s_callg (wanted_of (j := 4) (b := true) (d := 9) rfl rfl rfl rfl) rfl rfl (vs := [.int .i64 0]) ⟨(.t rfl rfl), trivial⟩ cb16 (num_ok w3 0) ?_
 rintro _ w3 ⟨rfl, rfl⟩
 refine s_valg hS3 (wanted_of (j := 4) (b := true) (d := 9) rfl rfl rfl rfl) rfl (r_cmp_t rfl rfl (.t rfl rfl) .c (show 0 = 0 from by omega)) ?_
 refine s_val hS3 rfl rfl (r_pick rfl (.t rfl rfl) (.t rfl rfl)) ?_
 refine s_val hS3 rfl rfl (r_assign rfl (.t rfl rfl)) ?_
 refine wpList_nil ?_
 refine x_tn ?_
 refine k_reb [(4, .bool true)] ⟨rfl, trivial⟩ fun G1 => ?_
 refine wp_ret ?_
 refine k_ret1 Try.results18 rfl rfl ?_
 refine ⟨_, rfl, ?_⟩
 have hS4 : St w0 K (fl [(pk d m D2), sm2]) w3 := hS3.pick [0, 1] rfl (by decide)
 have hux := hup1.trans hup2
 rw [List.take_zero, List.nil_append] at hux
 exact ⟨_, _, _, hux, hM2, rfl, hS4⟩

theorem length_ok (w0 : World) (aP : Option Addr) (cP : Nat) (P : List Nat) (vP : Hp) (hP : Sl .i64 aP cP P vP) (oP : Old w0 [] vP) (lP : P.length ≤ 1000000000000) (n : Nat) (hn : n ≤ 1000000000000) :
  Calls Try.prog 21 #[.slice aP P.length cP, .int .i64 (((n : Nat) : Int))] w0 (Ret fun v w' => ∃ b : Bool, ((∃ i, i + 1 < P.length ∧ P.getD i 0 ≤ n ∧ n < P.getD i 0 + 4 ∧ P.getD i 0 ≤ 1000000000000) → b = true) ∧ v = .bool b ∧ St w0 [] (fl []) w') := by
 refine k_enter (vs := [.slice aP P.length cP, .int .i64 (((n : Nat) : Int))]) Try.func21 rfl Try.ntmps21 rfl ?_
 have hS : St w0 [] (fl []) w0 := St.init w0
 have mP := hP.most
 refine wp_seq ?_
 refine k_reg ?_
 refine s_val hS rfl rfl (r_assign rfl .c) ?_
 refine wpList_nil ?_
 refine x_tn ?_
 refine wp_seq ?_
 refine wp_seq ?_
 refine k_reg ?_
 refine s_val hS rfl rfl (r_assign rfl .c) ?_
 refine wpList_nil ?_
 refine x_tn ?_
 refine wp_block ?_
 refine wp_loop_ghost (fun (m1 : Nat) a w => ∃ (G : Nat → Value) (i : Nat), a = fr 28 [(0, .slice aP P.length cP), (1, .int .i64 (((n : Nat) : Int))), (4, .bool false), (5, .int .i64 (((i : Nat) : Int)))] G ∧ St w0 [] (fl []) w ∧ (m1 = P.length - i ∧ i ≤ P.length ∧ ∀ j, j < i → ¬ (P.getD j 0 ≤ n ∧ n < P.getD j 0 + 4 ∧ P.getD j 0 ≤ 1000000000000))) (P.length) ⟨_, 0, fr_reb _ ⟨rfl, rfl, rfl, rfl, trivial⟩, hS, ?_⟩ ?_
 ·
  exact ⟨rfl, by omega, fun j hj => by omega⟩
 ·
  intro m1 _ w1 hI1
  obtain ⟨G1, i, rfl, hS1, ⟨hm, hi, hv⟩⟩ := hI1
  refine wp_seq ?_
  refine wp_seq ?_
  refine k_reg ?_
  refine s_val hS1 rfl rfl (r_move rfl (.t rfl rfl)) ?_
  refine s_val hS1 rfl rfl (r_arith rfl rfl (.t rfl rfl) .c (c := ((i + 1 : Nat) : Int)) (wn_i64 (by show (((i : Nat) : Int) : Int) + 1 = _; omega) (by omega))) ?_
  refine s_val hS1 rfl rfl (r_move rfl (.t rfl rfl)) ?_
  refine s_val hS1 rfl rfl (r_len rfl rfl Try.underlying34 (.t rfl rfl)) ?_
  by_cases c1 : i + 1 < P.length
  ·
   refine s_val hS1 rfl rfl (r_cmp_t rfl rfl (.t rfl rfl) (.t rfl rfl) (show ((i + 1 : Nat) : Int) < ((P.length : Nat) : Int) from by omega)) ?_
   refine wpList_nil ?_
   refine x_tn ?_
   refine k_reb [(0, .slice aP P.length cP), (1, .int .i64 (((n : Nat) : Int))), (4, .bool false), (5, .int .i64 (((i : Nat) : Int))), (10, .bool true)] ⟨rfl, rfl, rfl, rfl, rfl, trivial⟩ fun G2 => ?_
   refine k_t (.t rfl rfl) ?_
   refine wp_skip ?_
   refine x_tn ?_
   refine k_reb [(0, .slice aP P.length cP), (1, .int .i64 (((n : Nat) : Int))), (4, .bool false), (5, .int .i64 (((i : Nat) : Int)))] ⟨rfl, rfl, rfl, rfl, trivial⟩ fun G3 => ?_
   refine wp_seq ?_
   refine wp_block ?_
   refine wp_seq ?_
   refine k_reg ?_
   refine s_val hS1 rfl rfl (r_move rfl (.t rfl rfl)) ?_
   refine s_val hS1 rfl rfl (r_move rfl (.t rfl rfl)) ?_
   refine s_val hS1 rfl rfl (r_move rfl (.t rfl rfl)) ?_
   refine s_val hS1 rfl rfl (r_ixl (j := i) rfl Try.underlying34 ti3 (.t rfl rfl) (.t rfl rfl) hP rfl rfl (by omega)) ?_
   have b1 : P.getD i 0 ≤ 9223372036854775807 := hP.lt _
   refine s_val hS1 rfl rfl (r_load rfl one3 (.t rfl rfl) (hP.cell_o oP (by omega))) ?_
   by_cases hge : n ≥ P.getD i 0
   ·
    refine s_val hS1 rfl rfl (r_cmp_t rfl rfl (.t rfl rfl) (.t rfl rfl) (show ((n : Nat) : Int) ≥ ((P.getD i 0 : Nat) : Int) from by omega)) ?_
    refine s_val hS1 rfl rfl (r_move rfl (.t rfl rfl)) ?_
    refine s_valg hS1 (wanted_of (j := 6) (b := true) (d := 19) rfl rfl rfl rfl) rfl (r_move rfl (.t rfl rfl)) ?_
    refine s_valg hS1 (wanted_of (j := 6) (b := true) (d := 19) rfl rfl rfl rfl) rfl (r_move rfl (.t rfl rfl)) ?_
    refine s_valg hS1 (wanted_of (j := 6) (b := true) (d := 19) rfl rfl rfl rfl) rfl (r_move rfl (.t rfl rfl)) ?_
    refine s_valg hS1 (wanted_of (j := 6) (b := true) (d := 19) rfl rfl rfl rfl) rfl (r_ixl (j := i) rfl Try.underlying34 ti3 (.t rfl rfl) (.t rfl rfl) hP rfl rfl (by omega)) ?_
    have b2 : P.getD i 0 ≤ 9223372036854775807 := hP.lt _
    refine s_valg hS1 (wanted_of (j := 6) (b := true) (d := 19) rfl rfl rfl rfl) rfl (r_load rfl one3 (.t rfl rfl) (hP.cell_o oP (by omega))) ?_
    refine s_valg hS1 (wanted_of (j := 6) (b := true) (d := 19) rfl rfl rfl rfl) rfl (r_arith rfl rfl (.t rfl rfl) .c (c := (((P.getD i 0) + 4 : Nat) : Int)) (wn_i64 (by show (((P.getD i 0 : Nat) : Int) : Int) + 4 = _; omega) (by omega))) ?_
    by_cases c2 : n < (P.getD i 0) + 4
    ·
     refine s_valg hS1 (wanted_of (j := 6) (b := true) (d := 19) rfl rfl rfl rfl) rfl (r_cmp_t rfl rfl (.t rfl rfl) (.t rfl rfl) (show ((n : Nat) : Int) < (((P.getD i 0) + 4 : Nat) : Int) from by omega)) ?_
     refine s_val hS1 rfl rfl (r_pick rfl (.t rfl rfl) (.t rfl rfl)) ?_
     refine wpList_nil ?_
     refine x_tn ?_
     refine k_reb [(0, .slice aP P.length cP), (1, .int .i64 (((n : Nat) : Int))), (4, .bool false), (5, .int .i64 (((i : Nat) : Int))), (27, .bool true)] ⟨rfl, rfl, rfl, rfl, rfl, trivial⟩ fun G4 => ?_
     refine k_t (.t rfl rfl) ?_
     refine wp_seq ?_
     refine k_reg ?_
     refine s_val hS1 rfl rfl (r_assign rfl .c) ?_
     refine wpList_nil ?_
     refine x_tn ?_
     refine k_reb [(0, .slice aP P.length cP), (1, .int .i64 (((n : Nat) : Int))), (4, .bool true), (5, .int .i64 (((i : Nat) : Int)))] ⟨rfl, rfl, rfl, rfl, trivial⟩ fun G5 => ?_
     refine wp_ret ?_
     refine x_br ?_
     refine x_tr ?_
     refine x_tr ?_
     refine x_br ?_
     refine x_tr ?_
     refine k_ret1 Try.results21 rfl rfl ?_
     refine ⟨_, rfl, ?_⟩
     exact ⟨true, fun _ => rfl, rfl, hS1⟩
    ·
     refine s_valg hS1 (wanted_of (j := 6) (b := true) (d := 19) rfl rfl rfl rfl) rfl (r_cmp_f rfl rfl (.t rfl rfl) (.t rfl rfl) (show ¬ (((n : Nat) : Int) < (((P.getD i 0) + 4 : Nat) : Int)) from by omega)) ?_
     refine s_val hS1 rfl rfl (r_pick rfl (.t rfl rfl) (.t rfl rfl)) ?_
     refine wpList_nil ?_
     refine x_tn ?_
     refine k_reb [(0, .slice aP P.length cP), (1, .int .i64 (((n : Nat) : Int))), (4, .bool false), (5, .int .i64 (((i : Nat) : Int))), (27, .bool false)] ⟨rfl, rfl, rfl, rfl, rfl, trivial⟩ fun G6 => ?_
     refine k_f (.t rfl rfl) ?_
     refine wp_skip ?_
     refine x_bn ?_
     refine x_tn ?_
     refine k_reb [(0, .slice aP P.length cP), (1, .int .i64 (((n : Nat) : Int))), (4, .bool false), (5, .int .i64 (((i : Nat) : Int)))] ⟨rfl, rfl, rfl, rfl, trivial⟩ fun G7 => ?_
     refine k_reg ?_
     refine s_val hS1 rfl rfl (r_move rfl (.t rfl rfl)) ?_
     refine s_val hS1 rfl rfl (r_arith rfl rfl (.t rfl rfl) .c (c := ((i + 1 : Nat) : Int)) (wn_i64 (by show (((i : Nat) : Int) : Int) + 1 = _; omega) (by omega))) ?_
     refine s_val hS1 rfl rfl (r_assign rfl (.t rfl rfl)) ?_
     refine wpList_nil ?_
     refine x_tn ?_
     refine ⟨P.length - (i + 1), by omega, _, i + 1, fr_reb _ ⟨rfl, rfl, rfl, rfl, trivial⟩, hS1, ?_⟩
     exact ⟨by omega, by omega, fun j hj => by
      rcases Nat.lt_or_ge j i with q | q
      ·
       exact hv j q
      ·
       obtain rfl : j = i := (by omega)
       omega⟩
   ·
    refine s_val hS1 rfl rfl (r_cmp_f rfl rfl (.t rfl rfl) (.t rfl rfl) (show ¬ (((n : Nat) : Int) ≥ ((P.getD i 0 : Nat) : Int)) from by omega)) ?_
    refine s_val hS1 rfl rfl (r_move rfl (.t rfl rfl)) ?_
    refine s_skip (unwanted_of (j := 6) (b := true) (b' := false) (d := 19) rfl rfl rfl rfl rfl) rfl ?_
    refine s_skip (unwanted_of (j := 6) (b := true) (b' := false) (d := 19) rfl rfl rfl rfl rfl) rfl ?_
    refine s_skip (unwanted_of (j := 6) (b := true) (b' := false) (d := 19) rfl rfl rfl rfl rfl) rfl ?_
    refine s_skip (unwanted_of (j := 6) (b := true) (b' := false) (d := 19) rfl rfl rfl rfl rfl) rfl ?_
    refine s_skip (unwanted_of (j := 6) (b := true) (b' := false) (d := 19) rfl rfl rfl rfl rfl) rfl ?_
    refine s_skip (unwanted_of (j := 6) (b := true) (b' := false) (d := 19) rfl rfl rfl rfl rfl) rfl ?_
    refine s_skip (unwanted_of (j := 6) (b := true) (b' := false) (d := 19) rfl rfl rfl rfl rfl) rfl ?_
    refine s_val hS1 rfl rfl (r_pick rfl (.t rfl rfl) .c) ?_
    refine wpList_nil ?_
    refine x_tn ?_
    refine k_reb [(0, .slice aP P.length cP), (1, .int .i64 (((n : Nat) : Int))), (4, .bool false), (5, .int .i64 (((i : Nat) : Int))), (27, .bool false)] ⟨rfl, rfl, rfl, rfl, rfl, trivial⟩ fun G8 => ?_
    refine k_f (.t rfl rfl) ?_
    refine wp_skip ?_
    refine x_bn ?_
    refine x_tn ?_
    refine k_reb [(0, .slice aP P.length cP), (1, .int .i64 (((n : Nat) : Int))), (4, .bool false), (5, .int .i64 (((i : Nat) : Int)))] ⟨rfl, rfl, rfl, rfl, trivial⟩ fun G9 => ?_
    refine k_reg ?_
    refine s_val hS1 rfl rfl (r_move rfl (.t rfl rfl)) ?_
    refine s_val hS1 rfl rfl (r_arith rfl rfl (.t rfl rfl) .c (c := ((i + 1 : Nat) : Int)) (wn_i64 (by show (((i : Nat) : Int) : Int) + 1 = _; omega) (by omega))) ?_
    refine s_val hS1 rfl rfl (r_assign rfl (.t rfl rfl)) ?_
    refine wpList_nil ?_
    refine x_tn ?_
    refine ⟨P.length - (i + 1), by omega, _, i + 1, fr_reb _ ⟨rfl, rfl, rfl, rfl, trivial⟩, hS1, ?_⟩
    exact ⟨by omega, by omega, fun j hj => by
     rcases Nat.lt_or_ge j i with q | q
     ·
      exact hv j q
     ·
      obtain rfl : j = i := (by omega)
      omega⟩
  ·
   refine s_val hS1 rfl rfl (r_cmp_f rfl rfl (.t rfl rfl) (.t rfl rfl) (show ¬ (((i + 1 : Nat) : Int) < ((P.length : Nat) : Int)) from by omega)) ?_
   refine wpList_nil ?_
   refine x_tn ?_
   refine k_reb [(0, .slice aP P.length cP), (1, .int .i64 (((n : Nat) : Int))), (4, .bool false), (5, .int .i64 (((i : Nat) : Int))), (10, .bool false)] ⟨rfl, rfl, rfl, rfl, rfl, trivial⟩ fun G10 => ?_
   refine k_f (.t rfl rfl) ?_
   refine wp_exit ?_
   refine x_te ?_
   refine x_te ?_
   refine x_be ?_
   refine x_tn ?_
   refine k_reb [(4, .bool false)] ⟨rfl, trivial⟩ fun G11 => ?_
   refine wp_seq ?_
   refine k_reg ?_
   refine s_val hS1 rfl rfl (r_assign rfl .c) ?_
   refine wpList_nil ?_
   refine x_tn ?_
   refine wp_ret ?_
   refine k_ret1 Try.results21 rfl rfl ?_
   refine ⟨_, rfl, ?_⟩
   exact ⟨false, fun ⟨j, h1, h2, h3, h4⟩ => absurd ⟨h2, h3, h4⟩ (hv j (by omega)), rfl, hS1⟩

theorem Sums_ok (w0 : World) (aB : Option Addr) (cB : Nat) (B : List Nat) (vB : Hp) (hB : Sl .u8 aB cB B vB) (oB : Old w0 [] vB) (hs : SumsP B) (lB2 : B.length ≤ 1000000000000) :
  Calls Try.prog 22 #[.slice aB B.length cB] w0 (Ret fun v w' => v = .bool true ∧ St w0 [] (fl []) w') := by
 refine k_enter (vs := [.slice aB B.length cB]) Try.func22 rfl Try.ntmps22 rfl ?_
 have hS : St w0 [] (fl []) w0 := St.init w0
 have lB := hB.most
 have fB : ∀ x ∈ B, x ≤ 255 := hB.fit
 have hs1 : 8 ≤ B.length := hs.1
 refine wp_seq ?_
 refine k_reg ?_
 refine s_val hS rfl rfl (r_assign rfl .c) ?_
 refine wpList_nil ?_
 refine x_tn ?_
 refine wp_seq ?_
 refine wp_seq ?_
 refine k_reg ?_
 refine s_val hS rfl rfl (r_move rfl (.t rfl rfl)) ?_
 refine s_val hS rfl rfl (r_len rfl rfl Try.underlying22 (.t rfl rfl)) ?_
 refine s_val hS rfl rfl (r_cmp_f rfl rfl (.t rfl rfl) .c (show ¬ (((B.length : Nat) : Int) < 8) from by omega)) ?_
 refine wpList_nil ?_
 refine x_tn ?_
 refine k_reb [(0, .slice aB B.length cB), (2, .bool false), (7, .bool false)] ⟨rfl, rfl, rfl, trivial⟩ fun G1 => ?_
 refine k_f (.t rfl rfl) ?_
 refine wp_skip ?_
 refine x_tn ?_
 refine k_reb [(0, .slice aB B.length cB), (2, .bool false)] ⟨rfl, rfl, trivial⟩ fun G2 => ?_
 refine wp_seq ?_
 refine k_regq mixed (by kernel_rfl) hS ?_
 refine q_val rfl rfl (r_move rfl (.t rfl rfl)) ?_
 refine q_val rfl rfl (r_ixl (j := 0) rfl Try.underlying22 ti5 (.t rfl rfl) .c hB rfl rfl (by omega)) ?_
 have b1 : B.getD 0 0 ≤ 255 := hB.lt _
 refine q_val rfl rfl (r_load rfl one5 (.t rfl rfl) (hB.cell_o oB (by omega))) ?_
 refine q_val rfl rfl (r_conv rfl Try.underlying5 Try.underlying3 (.t rfl rfl) (c := ((B.getD 0 0 : Nat) : Int)) (wn_i64 rfl (by omega))) ?_
 refine q_val rfl rfl (r_shl rfl (.t rfl rfl) .c (by omega) (show (2 : Int) ^ _ = ((16777216 : Nat) : Int) from rfl) (c := (((B.getD 0 0) * 16777216 : Nat) : Int)) (wn_i64 (Int.natCast_mul _ _).symm (by omega))) ?_
 refine q_val rfl rfl (r_move rfl (.t rfl rfl)) ?_
 refine q_val rfl rfl (r_ixl (j := 1) rfl Try.underlying22 ti5 (.t rfl rfl) .c hB rfl rfl (by omega)) ?_
 have b2 : B.getD 1 0 ≤ 255 := hB.lt _
 refine q_val rfl rfl (r_load rfl one5 (.t rfl rfl) (hB.cell_o oB (by omega))) ?_
 refine q_val rfl rfl (r_conv rfl Try.underlying5 Try.underlying3 (.t rfl rfl) (c := ((B.getD 1 0 : Nat) : Int)) (wn_i64 rfl (by omega))) ?_
 refine q_val rfl rfl (r_shl rfl (.t rfl rfl) .c (by omega) (show (2 : Int) ^ _ = ((65536 : Nat) : Int) from rfl) (c := (((B.getD 1 0) * 65536 : Nat) : Int)) (wn_i64 (Int.natCast_mul _ _).symm (by omega))) ?_
 refine q_val rfl rfl (r_arith rfl rfl (.t rfl rfl) (.t rfl rfl) (c := ((((B.getD 0 0) * 16777216) + ((B.getD 1 0) * 65536) : Nat) : Int)) (wn_i64 (by show ((((B.getD 0 0) * 16777216 : Nat) : Int) : Int) + (((B.getD 1 0) * 65536 : Nat) : Int) = _; omega) (by omega))) ?_
 refine q_val rfl rfl (r_move rfl (.t rfl rfl)) ?_
 refine q_val rfl rfl (r_ixl (j := 2) rfl Try.underlying22 ti5 (.t rfl rfl) .c hB rfl rfl (by omega)) ?_
 have b3 : B.getD 2 0 ≤ 255 := hB.lt _
 refine q_val rfl rfl (r_load rfl one5 (.t rfl rfl) (hB.cell_o oB (by omega))) ?_
 refine q_val rfl rfl (r_conv rfl Try.underlying5 Try.underlying3 (.t rfl rfl) (c := ((B.getD 2 0 : Nat) : Int)) (wn_i64 rfl (by omega))) ?_
 refine q_val rfl rfl (r_shl rfl (.t rfl rfl) .c (by omega) (show (2 : Int) ^ _ = ((256 : Nat) : Int) from rfl) (c := (((B.getD 2 0) * 256 : Nat) : Int)) (wn_i64 (Int.natCast_mul _ _).symm (by omega))) ?_
 refine q_val rfl rfl (r_arith rfl rfl (.t rfl rfl) (.t rfl rfl) (c := (((((B.getD 0 0) * 16777216) + ((B.getD 1 0) * 65536)) + ((B.getD 2 0) * 256) : Nat) : Int)) (wn_i64 (by show (((((B.getD 0 0) * 16777216) + ((B.getD 1 0) * 65536) : Nat) : Int) : Int) + (((B.getD 2 0) * 256 : Nat) : Int) = _; omega) (by omega))) ?_
 refine q_val rfl rfl (r_move rfl (.t rfl rfl)) ?_
 refine q_val rfl rfl (r_ixl (j := 3) rfl Try.underlying22 ti5 (.t rfl rfl) .c hB rfl rfl (by omega)) ?_
 have b4 : B.getD 3 0 ≤ 255 := hB.lt _
 refine q_val rfl rfl (r_load rfl one5 (.t rfl rfl) (hB.cell_o oB (by omega))) ?_
 refine q_val rfl rfl (r_conv rfl Try.underlying5 Try.underlying3 (.t rfl rfl) (c := ((B.getD 3 0 : Nat) : Int)) (wn_i64 rfl (by omega))) ?_
 refine q_val rfl rfl (r_arith rfl rfl (.t rfl rfl) (.t rfl rfl) (c := ((((((B.getD 0 0) * 16777216) + ((B.getD 1 0) * 65536)) + ((B.getD 2 0) * 256)) + (B.getD 3 0) : Nat) : Int)) (wn_i64 (by show ((((((B.getD 0 0) * 16777216) + ((B.getD 1 0) * 65536)) + ((B.getD 2 0) * 256) : Nat) : Int) : Int) + ((B.getD 3 0 : Nat) : Int) = _; omega) (by omega))) ?_
 refine q_val rfl rfl (r_assign rfl (.t rfl rfl)) ?_
 refine q_nil ?_
 intro w1 hS1
 refine x_tn ?_
 refine k_reb [(0, .slice aB B.length cB), (2, .bool false), (3, .int .i64 (((((((B.getD 0 0) * 16777216) + ((B.getD 1 0) * 65536)) + ((B.getD 2 0) * 256)) + (B.getD 3 0) : Nat) : Int)))] ⟨rfl, rfl, rfl, trivial⟩ fun G3 => ?_
 refine wp_seq ?_
 refine wp_seq ?_
 refine k_reg ?_
 obtain ⟨q, hq⟩ : ∃ q : Nat, NumIs q B := ⟨_, rfl⟩
 have hsq := sums_q hs hq
 rw [show ((((B.getD 0 0) * 16777216) + ((B.getD 1 0) * 65536)) + ((B.getD 2 0) * 256)) + (B.getD 3 0) = q from hq.symm]
 refine s_val hS1 rfl rfl (r_move rfl (.t rfl rfl)) ?_
 refine s_val hS1 rfl rfl (r_move rfl (.t rfl rfl)) ?_
 refine s_val hS1 rfl rfl (r_len rfl rfl Try.underlying22 (.t rfl rfl)) ?_
 refine s_val hS1 rfl rfl (r_arith rfl rfl (.t rfl rfl) .c (c := ((B.length - 8 : Nat) : Int)) (wn_i64 (by show (((B.length : Nat) : Int) : Int) - 8 = _; omega) (by omega))) ?_
 refine s_val hS1 rfl rfl (r_cmp_f rfl rfl (.t rfl rfl) (.t rfl rfl) (show ¬ (((q : Nat) : Int) > ((B.length - 8 : Nat) : Int)) from by omega)) ?_
 refine wpList_nil ?_
 refine x_tn ?_
 refine k_reb [(0, .slice aB B.length cB), (2, .bool false), (3, .int .i64 (((q : Nat) : Int))), (34, .bool false)] ⟨rfl, rfl, rfl, rfl, trivial⟩ fun G4 => ?_
 refine k_f (.t rfl rfl) ?_
 refine wp_skip ?_
 refine x_tn ?_
 refine k_reb [(0, .slice aB B.length cB), (2, .bool false), (3, .int .i64 (((q : Nat) : Int)))] ⟨rfl, rfl, rfl, trivial⟩ fun G5 => ?_
 refine wp_seq ?_
 refine k_only ?_
 refine h_start (C := fun x => Has x (fl [])) mixed hS1 (L := [false, false, false, false, false, false, false, false, false, false]) rfl fun w2 hS2 => ?_
 have hH1 : Has w2 (fl []) := Has.nil_
 refine h_take (i := 0) NoP.only rfl rfl rfl (by kernel_rfl) (L' := [true, false, false, false, false, false, false, false, false, false]) rfl (r_move rfl (.t rfl rfl)) hH1 ?_
 have hq1 := (hB).le
 have hx1 : Sl .u8 aB cB (B.take 4) vB := hB.take_ (by omega) (by omega) (by omega)
 have hn1 : (B.take 4).length = 4 := by rw [List.length_take]; omega
 refine h_take (i := 1) NoP.only rfl rfl rfl (by kernel_rfl) (L' := [true, true, false, false, false, false, false, false, false, false]) rfl (Rn.asSl (ad' := aB) (p' := (B.take 4).length) (q' := cB) (by simp [cutA]) (by omega) (by omega) (r_cutl rfl Try.underlying22 ti5 (.t rfl rfl) hB rfl .n (.s .c) .n (lw := 0) (hh := 4) (m := cB) (by omega) (by omega) (by omega) (by omega))) hH1 ?_
 refine h_take (i := 3) NoP.only rfl rfl rfl (by kernel_rfl) (L' := [true, true, false, true, false, false, false, false, false, false]) rfl (r_move rfl (.t rfl rfl)) hH1 ?_
 refine h_take (i := 4) NoP.only rfl rfl rfl (by kernel_rfl) (L' := [true, true, false, true, true, false, false, false, false, false]) rfl (r_move rfl (.t rfl rfl)) hH1 ?_
 refine h_take (i := 5) NoP.only rfl rfl rfl (by kernel_rfl) (L' := [true, true, false, true, true, true, false, false, false, false]) rfl (r_arith rfl rfl .c (.t rfl rfl) (c := ((8 + q : Nat) : Int)) (wn_i64 (by show (8 : Int) + ((q : Nat) : Int) = _; omega) (by omega))) hH1 ?_
 have hq2 := (hB).le
 have hx2 : Sl .u8 (cutA aB 8 cB) (cB - 8) ((B.take (8 + q)).drop 8) vB := hB.cut (by omega) (by omega) (by omega) (by omega)
 have hn2 : ((B.take (8 + q)).drop 8).length = 8 + q - 8 := by simp only [List.length_drop, List.length_take] <;> omega
 refine h_take (i := 6) NoP.only rfl rfl rfl (by kernel_rfl) (L' := [true, true, false, true, true, true, true, false, false, false]) rfl (Rn.asSl (p' := ((B.take (8 + q)).drop 8).length) rfl (by omega) rfl (r_cutl rfl Try.underlying22 ti5 (.t rfl rfl) hB rfl (.s .c) (.s (.t rfl rfl)) .n (lw := 8) (hh := 8 + q) (m := cB) (by omega) (by omega) (by omega) (by omega))) hH1 ?_
 refine h_all (rs := [2]) (by kernel_rfl) (by simp) ?_
 refine List.forall_mem_cons.2 ⟨h_op rfl (wanted_none rfl) ?_, by simp⟩
 refine s_call rfl rfl rfl (vs := [.slice aB ((B.take 4).length) cB]) ⟨(.t rfl rfl), trivial⟩ cb13 (Copy_ok w2 aB cB (B.take 4) vB hx1 (Old.of_old (xs := []) [] oB hS2 rfl (by decide)) (by first | omega | simp) ) ?_
 rintro _ w3 ⟨ra1, rc1, sg1, rfl, hG1, ht1⟩
 have hS3 : St w0 [] (fl [sg1]) w3 := hS2.callL (xs := []) (xs' := []) (zs := [sg1]) [] rfl (by decide) ht1 rfl rfl
 refine wpList_nil ?_
 refine x_tn ?_
 have hH2 : Has w3 (fl []) := Has.nil_
 refine ⟨hH2, ?_⟩
 refine h_all (rs := [7]) (by kernel_rfl) (by simp) ?_
 refine List.forall_mem_cons.2 ⟨h_op rfl (wanted_none rfl) ?_, by simp⟩
 refine s_appendG (i := 0) rfl rfl rfl rfl ⟨_, _, rfl, Try.underlying22⟩ Try.underlying22 ti5 (by omega) (by omega) (.t rfl rfl) (.t rfl rfl) rfl hG1 hS3 (by first | rfl | assumption | omega | (simp; done) | (simp; omega)) hx2 (oB.has hS3) rfl (by first | omega | (simp; omega)) fun ga1 gc1 sg2 w4 hG2 hS4 => ?_
 have hS5 : St w0 [] (fl [sg2]) w4 := hS4
 have hla1 : (((B.take 4)) ++ (((B.take (8 + q)).drop 8))).length = (((B.take 4)).length) + (((B.take (8 + q)).drop 8).length) := List.length_append
 rw [show (((B.take 4)).length) + (((B.take (8 + q)).drop 8).length) = (((B.take 4)) ++ (((B.take (8 + q)).drop 8))).length from List.length_append.symm]
 refine wpList_nil ?_
 refine x_tn ?_
 have hH3 : Has w4 (fl []) := Has.nil_
 refine ⟨hH3, ?_⟩
 refine h_all (rs := [8]) (by kernel_rfl) (by simp) ?_
 refine List.forall_mem_cons.2 ⟨h_op rfl (wanted_none rfl) ?_, by simp⟩
 refine s_call rfl rfl rfl (vs := [.slice ga1 ((((B.take 4)) ++ (((B.take (8 + q)).drop 8))).length) gc1]) ⟨(.t rfl rfl), trivial⟩ cb11 (Sum_ok w4 ga1 gc1 (((B.take 4)) ++ (((B.take (8 + q)).drop 8))) sg2 (hG2.sl (by omega) (app_fit (fun x hx => fB x (List.mem_of_mem_take hx)) (fun x hx => fB x (List.mem_of_mem_take (List.mem_of_mem_drop hx))))) (Old.of_piece (i := 0) (xs := []) [] hS5 rfl rfl (by decide)) ) ?_
 rintro _ w5 ⟨rfl, ht2⟩
 have hS6 : St w0 [] (fl [sg2]) w5 := hS5.callL (xs := []) (xs' := []) (zs := []) [] rfl (by decide) ht2 rfl rfl
 refine wpList_nil ?_
 refine x_tn ?_
 have hH4 : Has w5 (fl []) := Has.nil_
 refine ⟨hH4, ?_⟩
 refine h_take (i := 9) NoP.only rfl rfl rfl (by kernel_rfl) (L' := [true, true, true, true, true, true, true, true, true, true]) rfl (r_assign rfl (.t rfl rfl)) hH4 ?_
 refine h_done (by kernel_rfl) ?_
 refine only_n ?_
 refine x_tn ?_
 refine k_reb [(0, .slice aB B.length cB), (2, .bool false), (4, .int .u32 (((crcM 0 ((((B.take 4)) ++ (((B.take (8 + q)).drop 8)))) : Nat) : Int)))] ⟨rfl, rfl, rfl, trivial⟩ fun G6 => ?_
 refine wp_seq ?_
 refine k_regq mixed (by kernel_rfl) hS6 ?_
 refine q_val rfl rfl (r_move rfl (.t rfl rfl)) ?_
 refine q_val rfl rfl (r_move rfl (.t rfl rfl)) ?_
 refine q_val rfl rfl (r_ixl (j := 4) rfl Try.underlying22 ti5 (.t rfl rfl) .c hB rfl rfl (by omega)) ?_
 have b5 : B.getD 4 0 ≤ 255 := hB.lt _
 refine q_val rfl rfl (r_load rfl one5 (.t rfl rfl) (hB.cell_o oB (by omega))) ?_
 refine q_val rfl rfl (r_conv rfl Try.underlying5 Try.underlying25 (.t rfl rfl) (c := ((B.getD 4 0 : Nat) : Int)) (wn_u32 rfl (by omega))) ?_
 refine q_val rfl rfl (r_shl rfl (.t rfl rfl) .c (by omega) (show (2 : Int) ^ _ = ((16777216 : Nat) : Int) from rfl) (c := (((B.getD 4 0) * 16777216 : Nat) : Int)) (wn_u32 (Int.natCast_mul _ _).symm (by omega))) ?_
 refine q_val rfl rfl (r_move rfl (.t rfl rfl)) ?_
 refine q_val rfl rfl (r_ixl (j := 5) rfl Try.underlying22 ti5 (.t rfl rfl) .c hB rfl rfl (by omega)) ?_
 have b6 : B.getD 5 0 ≤ 255 := hB.lt _
 refine q_val rfl rfl (r_load rfl one5 (.t rfl rfl) (hB.cell_o oB (by omega))) ?_
 refine q_val rfl rfl (r_conv rfl Try.underlying5 Try.underlying25 (.t rfl rfl) (c := ((B.getD 5 0 : Nat) : Int)) (wn_u32 rfl (by omega))) ?_
 refine q_val rfl rfl (r_shl rfl (.t rfl rfl) .c (by omega) (show (2 : Int) ^ _ = ((65536 : Nat) : Int) from rfl) (c := (((B.getD 5 0) * 65536 : Nat) : Int)) (wn_u32 (Int.natCast_mul _ _).symm (by omega))) ?_
 refine q_val rfl rfl (r_arith rfl rfl (.t rfl rfl) (.t rfl rfl) (c := ((((B.getD 4 0) * 16777216) + ((B.getD 5 0) * 65536) : Nat) : Int)) (wn_u32 (by show ((((B.getD 4 0) * 16777216 : Nat) : Int) : Int) + (((B.getD 5 0) * 65536 : Nat) : Int) = _; omega) (by omega))) ?_
 refine q_val rfl rfl (r_move rfl (.t rfl rfl)) ?_
 refine q_val rfl rfl (r_ixl (j := 6) rfl Try.underlying22 ti5 (.t rfl rfl) .c hB rfl rfl (by omega)) ?_
 have b7 : B.getD 6 0 ≤ 255 := hB.lt _
 refine q_val rfl rfl (r_load rfl one5 (.t rfl rfl) (hB.cell_o oB (by omega))) ?_
 refine q_val rfl rfl (r_conv rfl Try.underlying5 Try.underlying25 (.t rfl rfl) (c := ((B.getD 6 0 : Nat) : Int)) (wn_u32 rfl (by omega))) ?_
 refine q_val rfl rfl (r_shl rfl (.t rfl rfl) .c (by omega) (show (2 : Int) ^ _ = ((256 : Nat) : Int) from rfl) (c := (((B.getD 6 0) * 256 : Nat) : Int)) (wn_u32 (Int.natCast_mul _ _).symm (by omega))) ?_
 refine q_val rfl rfl (r_arith rfl rfl (.t rfl rfl) (.t rfl rfl) (c := (((((B.getD 4 0) * 16777216) + ((B.getD 5 0) * 65536)) + ((B.getD 6 0) * 256) : Nat) : Int)) (wn_u32 (by show (((((B.getD 4 0) * 16777216) + ((B.getD 5 0) * 65536) : Nat) : Int) : Int) + (((B.getD 6 0) * 256 : Nat) : Int) = _; omega) (by omega))) ?_
 refine q_val rfl rfl (r_move rfl (.t rfl rfl)) ?_
 refine q_val rfl rfl (r_ixl (j := 7) rfl Try.underlying22 ti5 (.t rfl rfl) .c hB rfl rfl (by omega)) ?_
 have b8 : B.getD 7 0 ≤ 255 := hB.lt _
 refine q_val rfl rfl (r_load rfl one5 (.t rfl rfl) (hB.cell_o oB (by omega))) ?_
 refine q_val rfl rfl (r_conv rfl Try.underlying5 Try.underlying25 (.t rfl rfl) (c := ((B.getD 7 0 : Nat) : Int)) (wn_u32 rfl (by omega))) ?_
 refine q_val rfl rfl (r_arith rfl rfl (.t rfl rfl) (.t rfl rfl) (c := ((((((B.getD 4 0) * 16777216) + ((B.getD 5 0) * 65536)) + ((B.getD 6 0) * 256)) + (B.getD 7 0) : Nat) : Int)) (wn_u32 (by show ((((((B.getD 4 0) * 16777216) + ((B.getD 5 0) * 65536)) + ((B.getD 6 0) * 256) : Nat) : Int) : Int) + ((B.getD 7 0 : Nat) : Int) = _; omega) (by omega))) ?_
 refine q_val rfl rfl (r_cmp_t rfl rfl (.t rfl rfl) (.t rfl rfl) (show ((crcM 0 ((((B.take 4)) ++ (((B.take (8 + q)).drop 8)))) : Nat) : Int) = ((((((B.getD 4 0) * 16777216) + ((B.getD 5 0) * 65536)) + ((B.getD 6 0) * 256)) + (B.getD 7 0) : Nat) : Int) from congrArg (fun n : Nat => (n : Int)) (sums_crc hs hq))) ?_
 refine q_val rfl rfl (r_assign rfl (.t rfl rfl)) ?_
 refine q_nil ?_
 intro w6 hS7
 refine x_tn ?_
 refine k_reb [(2, .bool true)] ⟨rfl, trivial⟩ fun G7 => ?_
 refine wp_ret ?_
 refine k_ret1 Try.results22 rfl rfl ?_
 refine ⟨_, rfl, ?_⟩
 have hS8 : St w0 [] (fl []) w6 := hS7.pick [] rfl (by decide)
 exact ⟨rfl, hS8⟩

end Go.Proofs.Ytdmiklegahdafaa

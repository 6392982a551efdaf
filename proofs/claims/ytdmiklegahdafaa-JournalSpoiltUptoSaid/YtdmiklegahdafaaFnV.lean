/- Contracts of functions of the program, each walked once. -/
import Derived.Test.YtdmiklegahdafaaFnP
import Derived.Test.YtdmiklegahdafaaKLv2
namespace Go.Proofs.Ytdmiklegahdafaa
open Go Go.RowKit K
namespace FV
theorem mixed : Try.prog.follows .mixedOrders = true := by kernel_rfl
theorem cb16 : callable Try.prog 16 = true := by kernel_rfl
theorem cb19 : callable Try.prog 19 = true := by kernel_rfl
theorem cb25 : callable Try.prog 25 = true := by kernel_rfl
theorem cb27 : callable Try.prog 27 = true := by kernel_rfl
theorem cb28 : callable Try.prog 28 = true := by kernel_rfl
theorem cb29 : callable Try.prog 29 = true := by kernel_rfl
theorem cb31 : callable Try.prog 31 = true := by kernel_rfl
theorem one56 : One Try.prog 56 = true := by kernel_rfl
theorem ti3 : (Try.prog.info? 3).map (fun i => (i.zero, i.size, i.bytes)) = some (some (.int .i64 0), 1, 8) := by kernel_rfl
theorem ti56 : (Try.prog.info? 56).map (fun i => (i.zero, i.size, i.bytes)) = some (some (.slice none 0 0), 1, 24) := by kernel_rfl
theorem ti63 : (Try.prog.info? 63).map (fun i => (i.zero, i.size, i.bytes)) = some (some (.agg #[.int .i64 0, .int .i64 0, .string ⟨#[]⟩, .slice none 0 0, .slice none 0 0, .int .i64 0, .int .i64 0, .int .i64 0]), 8, 104) := by kernel_rfl
theorem pl63 : ∀ w, (fieldPlaces (match Try.prog.underlying 63 with | some (.struct fs) => fs | _ => #[])).run Try.prog w = .ok #[(0, 1), (1, 1), (2, 1), (3, 1), (4, 1), (5, 1), (6, 1), (7, 1)] w := fun w => by kernel_rfl

end FV
open FV
attribute [local irreducible] Go.wpList Go.wpQuiet Go.wpStill Go.wpAny Go.Code.wp
set_option maxRecDepth 10000
set_option maxHeartbeats 8000000
set_option linter.unusedVariables false
set_option linter.unusedSimpArgs false
theorem Open_cut (w0 : World) (K : List Nat) (d m : Nat) (D : Dk) (h : Lv D) (sm : Hp) (hM : MapH U8 m none D.F sm) (s : ByteArray) {RR : Recs} {n k : Nat} (ha : lookF D.F s = some ⟨s, (logL RR).take n, k⟩) (hn : n ≤ (logL RR).length) (hg : ∀ LL ∈ RR, goodR LL) (hr : tot D.F + 8 ≤ D.room) (hw : D.writes ≤ 1000000000000) (hS0 : St w0 K (fl [[(d, .cells (dkC 0 m D) DT (0, 0))], sm]) w0) :
  Calls Try.prog 19 #[.pointer (some ⟨d, 0, none⟩), .string s] w0 (Ret fun v w' => ∃ q ks D1 sm' l oa oc sgo, q ≤ RR.length ∧ (plc RR q ≤ n ∨ q = 0) ∧ (q < RR.length → n < plc RR (q + 1)) ∧ (∃ w, UpA D D1 s ((logL RR).take n) (logL (RR.take q)) ks w) ∧ MapH U8 m none D1.F sm' ∧ v = .tuple #[.pointer (some ⟨l, 0, none⟩), .slice oa (RR.take q).length oc, .int .i64 0] ∧ GrP R2 56 oa oc (RR.take q) sgo ∧ St w0 K (fl [[(d, .cells (dkC 0 m D1) DT (0, 0))], sm', [(l, .cells #[.pointer (some ⟨d, 0, none⟩), .string s, .int .i64 ((lg (RR.take q)).size : Nat), .int .i64 ((lg (RR.take q)).count : Nat), .bool (lg (RR.take q)).off] LT (0, 0))], sgo]) w') := by
  refine Calls.mono (Open_ok w0 K d m D h.ok sm hM s (okName_size (h.file ha).1) hw hS0) ?_
  rintro _ w' ⟨v, he, e, D1, sm', RR', z, hO, _, _, _, hM1, hh⟩
  obtain ⟨q, q1, q2, q3, rfl, rfl, rfl, ks, w, -, hu⟩ := opn_cut h ha hn hg hr hO
  rcases hh with ⟨q, -⟩ | ⟨-, l, oa, oc, sgo, hv, hG, hS⟩
  ·
   exact absurd rfl q
  ·
   exact ⟨v, he, q, ks, D1, sm', l, oa, oc, sgo, q1, q2, q3, ⟨w, hu⟩, hM1, hv, hG, hS.pick [0, 2, 1, 3] rfl (by decide)⟩
structure LaidS (D : Dk) (RR : Recs) (k : Nat) : Prop where
 lv : Lv D
 at_ : lookF D.F (⟨#[106]⟩ : ByteArray) = some ⟨(⟨#[106]⟩ : ByteArray), logL RR, k⟩
 ks : k = (logL RR).length
 good : ∀ LL ∈ RR, goodR LL
 tot : tot D.F = (logL RR).length
 room : D.room = 268435456
 wr : D.writes ≤ 100
 len : (logL RR).length ≤ 34000
 rr : RR.length ≤ 30
 flen : D.F.length ≤ 1
 plen : (plcL RR).length = RR.length + 1
 pfit : ∀ x ∈ plcL RR, x ≤ 9223372036854775807
theorem plcL_fit {RR : Recs} (h : (logL RR).length ≤ 9223372036854775807) : ∀ x ∈ plcL RR, x ≤ 9223372036854775807 := by
 intro x hx
 obtain ⟨i, hi, rfl⟩ := List.mem_map.1 hx
 have := plc_le (RR := RR) (i := i) (by have := List.mem_range.1 hi; omega)
 omega
theorem laidlog_ok (w0 : World) (aPL : Option Addr) (cPL : Nat) (uPL : List Value) (PL : List (List (List Nat))) (vPL : Hp) (hPL : RwV R2 aPL cPL uPL PL vPL) (oPL : Old w0 [] vPL) (hPr : ∀ LL ∈ PL, ∀ r ∈ LL, r.length ≤ 1000000000000) :
  Calls Try.prog 14 #[.slice aPL PL.length cPL] w0 (Ret fun v w' => ∃ d m D sm RR ks a1 c1 sg1 a2 c2 sg2, LaidS D RR ks ∧ MapH U8 m none D.F sm ∧ v = .tuple #[.pointer (some ⟨d, 0, none⟩), .slice a1 RR.length c1, .slice a2 (RR.length + 1) c2] ∧ GrP R2 56 a1 c1 RR sg1 ∧ Gr .i64 3 a2 c2 (plcL RR) sg2 ∧ St w0 [] (fl [[(d, .cells (dkC 0 m D) DT (0, 0))], sm, sg1, sg2]) w') := by
 refine k_enter (vs := [.slice aPL PL.length cPL]) Try.func14 rfl Try.ntmps14 rfl ?_
 have hS : St w0 [] (fl []) w0 := St.init w0
 have mP := hPL.most
 refine wp_seq ?_
 refine k_reg ?_
 refine s_val hS rfl rfl (r_assign rfl .c) ?_
 refine s_val hS rfl rfl (r_assign rfl .c) ?_
 refine s_val hS rfl rfl (r_assign rfl .c) ?_
 refine wpList_nil ?_
 refine x_tn ?_
 refine wp_seq ?_
 refine k_reg ?_
 refine s_call rfl rfl rfl (vs := [.int .i64 268435456]) ⟨.c, trivial⟩ cb25 (New_lv w0 268435456 (by omega) ) ?_
 rintro _ w1 ⟨d1, m1, D1, sm1, hN1, rfl, hM1, ht1⟩
 have hS3 : St w0 [] (fl [(pk d1 m1 D1), sm1]) w1 := hS.callL (xs := []) (xs' := []) (zs := [(pk d1 m1 D1), sm1]) [] rfl (by decide) ht1 rfl rfl
 have hS2 : St w0 [] (fl [(pk d1 m1 D1), sm1]) w1 := hS3.pick [0, 1] rfl (by decide)
 have hu1 := hN1.tot
 have hu2 := hN1.len
 have hu3 := hN1.wr
 have hu4 := hN1.room
 refine s_val hS2 rfl rfl (r_move rfl (.t rfl rfl)) ?_
 refine s_val hS2 rfl rfl (r_extract rfl (.t rfl rfl) rfl) ?_
 refine s_val hS2 rfl rfl (r_extract rfl (.t rfl rfl) rfl) ?_
 refine s_val hS2 rfl rfl (r_assign rfl (.t rfl rfl)) ?_
 refine s_val hS2 rfl rfl (r_assign rfl (.t rfl rfl)) ?_
 refine wpList_nil ?_
 refine x_tn ?_
 refine k_reb [(0, .slice aPL PL.length cPL), (2, .pointer none), (3, .slice none 0 0), (4, .slice none 0 0), (5, .pointer (some ⟨d1, 0, none⟩)), (6, .int .i64 0)] ⟨rfl, rfl, rfl, rfl, rfl, rfl, trivial⟩ fun G1 => ?_
 refine wp_seq ?_
 refine wp_seq ?_
 refine k_reg ?_
 refine s_val hS2 rfl rfl (r_move rfl (.t rfl rfl)) ?_
 refine s_call rfl rfl rfl (vs := [.int .i64 0]) ⟨(.t rfl rfl), trivial⟩ cb16 (num_ok w1 0) ?_
 rintro _ w1 ⟨rfl, rfl⟩
 refine s_val hS2 rfl rfl (r_cmp_f rfl rfl (.t rfl rfl) .c (show ¬ (¬ 0 = 0) from by omega)) ?_
 refine s_val hS2 rfl rfl (r_move rfl (.t rfl rfl)) ?_
 refine s_valg hS2 (wanted_of (j := 3) (b := false) (d := 22) rfl rfl rfl rfl) rfl (r_move rfl (.t rfl rfl)) ?_
 refine s_valg hS2 (wanted_of (j := 3) (b := false) (d := 22) rfl rfl rfl rfl) rfl (r_eqnilp rfl Try.underlying33 (.t rfl rfl) .c rfl) ?_
 refine s_val hS2 rfl rfl (r_pick rfl (.t rfl rfl) (.t rfl rfl)) ?_
 refine wpList_nil ?_
 refine x_tn ?_
 refine k_reb [(0, .slice aPL PL.length cPL), (2, .pointer none), (3, .slice none 0 0), (4, .slice none 0 0), (5, .pointer (some ⟨d1, 0, none⟩)), (25, .bool false)] ⟨rfl, rfl, rfl, rfl, rfl, rfl, trivial⟩ fun G2 => ?_
 refine k_f (.t rfl rfl) ?_
 refine wp_skip ?_
 refine x_tn ?_
 refine k_reb [(0, .slice aPL PL.length cPL), (2, .pointer none), (3, .slice none 0 0), (4, .slice none 0 0), (5, .pointer (some ⟨d1, 0, none⟩))] ⟨rfl, rfl, rfl, rfl, rfl, trivial⟩ fun G3 => ?_
 refine wp_seq ?_
 refine k_reg ?_
 refine s_val hS2 rfl rfl (r_move rfl (.t rfl rfl)) ?_
 refine s_call rfl rfl rfl (vs := [.pointer (some ⟨d1, 0, none⟩), .string (⟨#[106]⟩)]) ⟨(.t rfl rfl), .c, trivial⟩ cb19 (Open_new w1 _ d1 m1 D1 hN1.lv sm1 hM1 (⟨#[106]⟩ : ByteArray) (by decide) hN1.none (by omega) (by omega) (by omega) (hS2.give (xs := [(pk d1 m1 D1), sm1]) [0, 1] rfl (by decide))) ?_
 rintro _ w2 ⟨D2, sm2, l1, oa1, oc1, sg1, hup1, hM2, rfl, hO1, ht2⟩
 have hS5 : St w0 [] (fl [(pk d1 m1 D2), sm2, (lq l1 d1 (⟨#[106]⟩) noR), sg1]) w2 := hS2.callL (xs := [(pk d1 m1 D1), sm1]) (xs' := [(pk d1 m1 D2), sm2]) (zs := [(lq l1 d1 (⟨#[106]⟩) noR), sg1]) [0, 1] rfl (by decide) ht2 rfl rfl
 have hS6 : St w0 [] (fl [(pk d1 m1 D2), (lq l1 d1 (⟨#[106]⟩) noR), sm2, sg1]) w2 := hS5.pick [0, 2, 1, 3] rfl (by decide)
 have hnr1 : noR.length = 0 := rfl
 have hnr2 : (logL noR).length = 8 := rfl
 have hu5 := hup1.tot
 have hu6 := hup1.wr
 have hu7 := hup1.room
 have hu8 := hup1.len
 have hnl1 : ([] : List Nat).length = 0 := rfl
 refine s_val hS6 rfl rfl (r_move rfl (.t rfl rfl)) ?_
 refine s_val hS6 rfl rfl (r_extract rfl (.t rfl rfl) rfl) ?_
 refine s_val hS6 rfl rfl (r_extract rfl (.t rfl rfl) rfl) ?_
 refine s_val hS6 rfl rfl (r_extract rfl (.t rfl rfl) rfl) ?_
 refine s_val hS6 rfl rfl (r_assign rfl (.t rfl rfl)) ?_
 refine s_val hS6 rfl rfl (r_assign rfl (.t rfl rfl)) ?_
 refine s_val hS6 rfl rfl (r_assign rfl (.t rfl rfl)) ?_
 refine wpList_nil ?_
 refine x_tn ?_
 refine k_reb [(0, .slice aPL PL.length cPL), (2, .pointer none), (3, .slice none 0 0), (4, .slice none 0 0), (5, .pointer (some ⟨d1, 0, none⟩)), (7, .pointer (some ⟨l1, 0, none⟩)), (9, .int .i64 0)] ⟨rfl, rfl, rfl, rfl, rfl, rfl, rfl, trivial⟩ fun G4 => ?_
 refine wp_seq ?_
 refine wp_seq ?_
 refine k_reg ?_
 refine s_val hS6 rfl rfl (r_move rfl (.t rfl rfl)) ?_
 refine s_call rfl rfl rfl (vs := [.int .i64 0]) ⟨(.t rfl rfl), trivial⟩ cb16 (num_ok w2 0) ?_
 rintro _ w2 ⟨rfl, rfl⟩
 refine s_val hS6 rfl rfl (r_cmp_f rfl rfl (.t rfl rfl) .c (show ¬ (¬ 0 = 0) from by omega)) ?_
 refine s_val hS6 rfl rfl (r_move rfl (.t rfl rfl)) ?_
 refine s_valg hS6 (wanted_of (j := 3) (b := false) (d := 35) rfl rfl rfl rfl) rfl (r_move rfl (.t rfl rfl)) ?_
 refine s_valg hS6 (wanted_of (j := 3) (b := false) (d := 35) rfl rfl rfl rfl) rfl (r_eqnilp rfl Try.underlying43 (.t rfl rfl) .c rfl) ?_
 refine s_val hS6 rfl rfl (r_pick rfl (.t rfl rfl) (.t rfl rfl)) ?_
 refine wpList_nil ?_
 refine x_tn ?_
 refine k_reb [(0, .slice aPL PL.length cPL), (2, .pointer none), (3, .slice none 0 0), (4, .slice none 0 0), (5, .pointer (some ⟨d1, 0, none⟩)), (7, .pointer (some ⟨l1, 0, none⟩)), (38, .bool false)] ⟨rfl, rfl, rfl, rfl, rfl, rfl, rfl, trivial⟩ fun G5 => ?_
 refine k_f (.t rfl rfl) ?_
 refine wp_skip ?_
 refine x_tn ?_
 refine k_reb [(0, .slice aPL PL.length cPL), (2, .pointer none), (3, .slice none 0 0), (4, .slice none 0 0), (5, .pointer (some ⟨d1, 0, none⟩)), (7, .pointer (some ⟨l1, 0, none⟩))] ⟨rfl, rfl, rfl, rfl, rfl, rfl, trivial⟩ fun G6 => ?_
 refine wp_seq ?_
 refine k_reg ?_
 refine s_val hS6 rfl rfl (r_assign rfl .c) ?_
 refine wpList_nil ?_
 refine x_tn ?_
 refine wp_seq ?_
 refine k_reg ?_
 refine s_lit rfl rfl rfl Try.underlying34 ti3 (vs := [(0, .int .i64 8)]) ⟨rfl, .c, trivial⟩ (L := [8]) rfl (by omega) rfl hS6 fun blk1 w3 hb1 hB1 hS7 => ?_
 have hS8 : St w0 [] (fl [(pk d1 m1 D2), (lq l1 d1 (⟨#[106]⟩) noR), [(blk1, .cells (encN .i64 ([8])) 3 (0, 0))], sm2, sg1]) w3 := hS7.push 2 rfl
 refine s_val hS8 rfl rfl (r_assign rfl (.t rfl rfl)) ?_
 refine wpList_nil ?_
 refine x_tn ?_
 refine k_reb [(0, .slice aPL PL.length cPL), (2, .pointer none), (3, .slice none 0 0), (4, .slice none 0 0), (5, .pointer (some ⟨d1, 0, none⟩)), (7, .pointer (some ⟨l1, 0, none⟩)), (10, .slice none 0 0), (11, .slice (some ⟨blk1, 0, none⟩) 1 1)] ⟨rfl, rfl, rfl, rfl, rfl, rfl, rfl, rfl, trivial⟩ fun G7 => ?_
 refine wp_seq ?_
 refine k_reg ?_
 refine s_val hS8 rfl rfl (r_assign rfl .c) ?_
 refine wpList_nil ?_
 refine x_tn ?_
 refine wp_seq ?_
 refine wp_seq ?_
 refine k_reg ?_
 refine s_val hS8 rfl rfl (r_assign rfl .c) ?_
 refine wpList_nil ?_
 refine x_tn ?_
 refine wp_block ?_
 obtain ⟨sg2, hG1, hS9⟩ : ∃ sg2 : Hp, Gr .i64 3 (some ⟨blk1, 0, none⟩) ([8]).length ([8]) sg2 ∧ St w0 [] (fl [(pk d1 m1 D2), (lq l1 d1 (⟨#[106]⟩) noR), sm2, sg1, sg2]) w3 := ⟨_, Gr.of_row (by first | rfl | (simp; done) | omega), hS8.pick [0, 1, 3, 4, 2] rfl (by decide)⟩
 have hS10 : St w0 [] (fl [(pk d1 m1 D2), (lq l1 d1 (⟨#[106]⟩) noR), sm2, sg2]) w3 := hS9.pick [0, 1, 2, 4] rfl (by decide)
 refine wp_loop_ghost (fun (m2 : Nat) a w => ∃ (G : Nat → Value) (i : Nat) (D : Dk) (RR : Recs) (sm : Hp) (ks : Nat) (lf : Int) (oa : Option Addr) (oc : Nat) (sgw : Hp) (pa : Option Addr) (pc : Nat) (sgp : Hp), a = fr 80 [(0, .slice aPL PL.length cPL), (2, .pointer none), (3, .slice none 0 0), (4, .slice none 0 0), (5, .pointer (some ⟨d1, 0, none⟩)), (7, .pointer (some ⟨l1, 0, none⟩)), (10, .slice oa RR.length oc), (11, .slice pa (RR.length + 1) pc), (12, .int .i64 lf), (13, .int .i64 (((i : Nat) : Int)))] G ∧ St w0 [] (fl [(pk d1 m1 D), (lq l1 d1 (⟨#[106]⟩) RR), sm, sgp, sgw]) w ∧ (m2 = PL.length - i ∧ i ≤ PL.length ∧ i ≤ 30 ∧ Lv D ∧ MapH U8 m1 none D.F sm ∧ lookF D.F (⟨#[106]⟩ : ByteArray) = some ⟨(⟨#[106]⟩ : ByteArray), logL RR, ks⟩ ∧ ks = (logL RR).length ∧ tot D.F = (logL RR).length ∧ D.room = 268435456 ∧ D.writes ≤ 2 + 2 * i ∧ D.F.length ≤ 1 ∧ 0 ≤ lf ∧ lf ≤ 32768 ∧ ((logL RR).length : Int) + lf ≤ 32776 + 8 * i ∧ RR.length ≤ i ∧ (∀ LL ∈ RR, goodR LL) ∧ GrP R2 56 oa oc RR sgw ∧ Gr .i64 3 pa pc (plcL RR) sgp)) (PL.length) ⟨_, 0, D2, noR, sm2, 8, 32768, none, 0, [], some ⟨blk1, 0, none⟩, 1, sg2, fr_reb _ ⟨rfl, rfl, rfl, rfl, rfl, rfl, rfl, rfl, rfl, rfl, trivial⟩, (St.re hS10 (by simp)), ?_⟩ ?_
 ·
  exact ⟨rfl, by omega, by omega, hup1.lv, hM2, hup1.at_, by omega, by omega, by omega, by omega, by omega, by omega, by omega, by omega, by omega, (fun LL h => nomatch h), GrP.nil, hG1⟩
 ·
  intro m2 _ w4 hI1
  obtain ⟨G8, i, D, RR, sm, ks, lf, oa, oc, sgw, pa, pc, sgp, rfl, hS11, ⟨hm, hi, hi30, hlv, hM, hat, hks, htt, hrm, hwr, hfl, hlf0, hlf1, hlf2, hrl, hgd, hW, hP⟩⟩ := hI1
  have hpl := plcL_len RR
  refine wp_seq ?_
  refine wp_seq ?_
  refine k_reg ?_
  refine s_val hS11 rfl rfl (r_move rfl (.t rfl rfl)) ?_
  refine s_val hS11 rfl rfl (r_move rfl (.t rfl rfl)) ?_
  refine s_val hS11 rfl rfl (r_len rfl rfl Try.underlying30 (.t rfl rfl)) ?_
  by_cases c1 : i < PL.length
  ·
   refine s_val hS11 rfl rfl (r_cmp_t rfl rfl (.t rfl rfl) (.t rfl rfl) (show ((i : Nat) : Int) < ((PL.length : Nat) : Int) from by omega)) ?_
   refine s_val hS11 rfl rfl (r_move rfl (.t rfl rfl)) ?_
   refine s_valg hS11 (wanted_of (j := 4) (b := true) (d := 44) rfl rfl rfl rfl) rfl (r_move rfl (.t rfl rfl)) ?_
   by_cases c2 : i < 30
   ·
    refine s_valg hS11 (wanted_of (j := 4) (b := true) (d := 44) rfl rfl rfl rfl) rfl (r_cmp_t rfl rfl (.t rfl rfl) .c (show ((i : Nat) : Int) < 30 from by omega)) ?_
    refine s_val hS11 rfl rfl (r_pick rfl (.t rfl rfl) (.t rfl rfl)) ?_
    refine wpList_nil ?_
    refine x_tn ?_
    refine k_reb [(0, .slice aPL PL.length cPL), (2, .pointer none), (3, .slice none 0 0), (4, .slice none 0 0), (5, .pointer (some ⟨d1, 0, none⟩)), (7, .pointer (some ⟨l1, 0, none⟩)), (10, .slice oa RR.length oc), (11, .slice pa (RR.length + 1) pc), (12, .int .i64 lf), (13, .int .i64 (((i : Nat) : Int))), (47, .bool true)] ⟨rfl, rfl, rfl, rfl, rfl, rfl, rfl, rfl, rfl, rfl, rfl, trivial⟩ fun G9 => ?_
    refine k_t (.t rfl rfl) ?_
    refine wp_skip ?_
    refine x_tn ?_
    refine k_reb [(0, .slice aPL PL.length cPL), (2, .pointer none), (3, .slice none 0 0), (4, .slice none 0 0), (5, .pointer (some ⟨d1, 0, none⟩)), (7, .pointer (some ⟨l1, 0, none⟩)), (10, .slice oa RR.length oc), (11, .slice pa (RR.length + 1) pc), (12, .int .i64 lf), (13, .int .i64 (((i : Nat) : Int)))] ⟨rfl, rfl, rfl, rfl, rfl, rfl, rfl, rfl, rfl, rfl, trivial⟩ fun G10 => ?_
    refine wp_seq ?_
    refine wp_block ?_
    refine wp_seq ?_
    refine k_reg ?_
    refine s_val hS11 rfl rfl (r_move rfl (.t rfl rfl)) ?_
    refine s_val hS11 rfl rfl (r_move rfl (.t rfl rfl)) ?_
    refine s_val hS11 rfl rfl (r_ixv (j := i) rfl Try.underlying30 ti56 (.t rfl rfl) (.t rfl rfl) hPL.sl (hPL.len) rfl (by omega)) ?_
    obtain ⟨ea1, ec1, us1, hv1, hx1⟩ := hPL.get2 i (by omega)
    refine s_val hS11 rfl rfl (r_load rfl one56 (.t rfl rfl) (hPL.sl.cell_o oPL hv1)) ?_
    refine s_call rfl rfl rfl (vs := [.slice ea1 ((PL.getD i []).length) ec1]) ⟨(.t rfl rfl), trivial⟩ cb28 (copied_q w4 ea1 ec1 _ ((PL.getD i [])) vPL hx1 (Old.of_old (xs := []) [] oPL hS11 rfl (by decide)) (fun r hr => hPr _ (getD_mem (by omega)) r hr) ) ?_
    rintro _ w5 ⟨Q, ra1, rc1, sg3, hQ1, hQ31, hQr1, rfl, hG2, ht3⟩
    have hS12 : St w0 [] (fl [(pk d1 m1 D), (lq l1 d1 (⟨#[106]⟩) RR), sm, sgp, sgw, sg3]) w5 := hS11.callL (xs := []) (xs' := []) (zs := [sg3]) [] rfl (by decide) ht3 rfl rfl
    refine s_val hS12 rfl rfl (r_assign rfl (.t rfl rfl)) ?_
    refine wpList_nil ?_
    refine x_tn ?_
    refine k_reb [(0, .slice aPL PL.length cPL), (2, .pointer none), (3, .slice none 0 0), (4, .slice none 0 0), (5, .pointer (some ⟨d1, 0, none⟩)), (7, .pointer (some ⟨l1, 0, none⟩)), (10, .slice oa RR.length oc), (11, .slice pa (RR.length + 1) pc), (12, .int .i64 lf), (13, .int .i64 (((i : Nat) : Int))), (14, .slice ra1 Q.length rc1)] ⟨rfl, rfl, rfl, rfl, rfl, rfl, rfl, rfl, rfl, rfl, rfl, trivial⟩ fun G11 => ?_
    refine wp_seq ?_
    refine k_reg ?_
    refine s_val hS12 rfl rfl (r_move rfl (.t rfl rfl)) ?_
    refine s_val hS12 rfl rfl (r_move rfl (.t rfl rfl)) ?_
    refine s_val hS12 rfl rfl (r_build rfl Try.underlying63 ti63 pl63 (vs := [(3, .slice ra1 Q.length rc1)]) ⟨rfl, (.t rfl rfl), trivial⟩ rfl) ?_
    obtain ⟨us2, hw1⟩ := hG2.sl R1.mono (by omega)
    refine s_call rfl rfl rfl (vs := [.agg #[.int .i64 0, .int .i64 0, .string ByteArray.empty, .slice ra1 Q.length rc1, .slice none 0 0, .int .i64 0, .int .i64 0, .int .i64 0]]) ⟨(.t rfl rfl), trivial⟩ cb31 (size_ok w5 ra1 rc1 _ Q sg3 hw1 (Old.of_piece (i := 5) (xs := []) [] hS12 rfl rfl (by decide)) hQr1 ) ?_
    rintro _ w6 ⟨sz1, hsz1, hsz2, rfl, ht4⟩
    have hS13 : St w0 [] (fl [(pk d1 m1 D), (lq l1 d1 (⟨#[106]⟩) RR), sm, sgp, sgw, sg3]) w6 := hS12.callL (xs := []) (xs' := []) (zs := []) [] rfl (by decide) ht4 rfl rfl
    refine s_val hS13 rfl rfl (r_arith rfl rfl (.t rfl rfl) (.t rfl rfl) (c := lf - (((sz1 : Nat) : Int))) (w_i64 rfl (by omega) (by omega))) ?_
    refine s_val hS13 rfl rfl (r_assign rfl (.t rfl rfl)) ?_
    refine wpList_nil ?_
    refine x_tn ?_
    refine k_reb [(0, .slice aPL PL.length cPL), (2, .pointer none), (3, .slice none 0 0), (4, .slice none 0 0), (5, .pointer (some ⟨d1, 0, none⟩)), (7, .pointer (some ⟨l1, 0, none⟩)), (10, .slice oa RR.length oc), (11, .slice pa (RR.length + 1) pc), (12, .int .i64 (lf - (((sz1 : Nat) : Int)))), (13, .int .i64 (((i : Nat) : Int))), (14, .slice ra1 Q.length rc1)] ⟨rfl, rfl, rfl, rfl, rfl, rfl, rfl, rfl, rfl, rfl, rfl, trivial⟩ fun G12 => ?_
    refine wp_seq ?_
    refine wp_seq ?_
    refine k_reg ?_
    refine s_val hS13 rfl rfl (r_move rfl (.t rfl rfl)) ?_
    by_cases c3 : lf - (((sz1 : Nat) : Int)) < 0
    ·
     refine s_val hS13 rfl rfl (r_cmp_t rfl rfl (.t rfl rfl) .c (show lf - (((sz1 : Nat) : Int)) < 0 from by omega)) ?_
     refine wpList_nil ?_
     refine x_tn ?_
     refine k_reb [(0, .slice aPL PL.length cPL), (2, .pointer none), (3, .slice none 0 0), (4, .slice none 0 0), (5, .pointer (some ⟨d1, 0, none⟩)), (7, .pointer (some ⟨l1, 0, none⟩)), (10, .slice oa RR.length oc), (11, .slice pa (RR.length + 1) pc), (12, .int .i64 (lf - (((sz1 : Nat) : Int)))), (13, .int .i64 (((i : Nat) : Int))), (14, .slice ra1 Q.length rc1), (61, .bool true)] ⟨rfl, rfl, rfl, rfl, rfl, rfl, rfl, rfl, rfl, rfl, rfl, rfl, trivial⟩ fun G13 => ?_
     refine k_t (.t rfl rfl) ?_
     refine wp_exit ?_
     refine x_te ?_
     refine x_bne rfl ?_
     refine x_te ?_
     refine x_te ?_
     refine x_be ?_
     refine x_tn ?_
     refine k_reb [(2, .pointer none), (3, .slice none 0 0), (4, .slice none 0 0), (5, .pointer (some ⟨d1, 0, none⟩)), (10, .slice oa RR.length oc), (11, .slice pa (RR.length + 1) pc)] ⟨rfl, rfl, rfl, rfl, rfl, rfl, trivial⟩ fun G14 => ?_
     refine wp_seq ?_
     refine k_reg ?_
     refine s_val hS13 rfl rfl (r_move rfl (.t rfl rfl)) ?_
     refine s_val hS13 rfl rfl (r_move rfl (.t rfl rfl)) ?_
     refine s_val hS13 rfl rfl (r_move rfl (.t rfl rfl)) ?_
     refine s_val hS13 rfl rfl (r_assign rfl (.t rfl rfl)) ?_
     refine s_val hS13 rfl rfl (r_assign rfl (.t rfl rfl)) ?_
     refine s_val hS13 rfl rfl (r_assign rfl (.t rfl rfl)) ?_
     refine wpList_nil ?_
     refine x_tn ?_
     refine k_reb [(2, .pointer (some ⟨d1, 0, none⟩)), (3, .slice oa RR.length oc), (4, .slice pa (RR.length + 1) pc)] ⟨rfl, rfl, rfl, trivial⟩ fun G15 => ?_
     refine wp_ret ?_
     refine k_ret3 Try.results14 rfl rfl rfl rfl rfl rfl ?_
     refine ⟨_, rfl, ?_⟩
     have hS14 : St w0 [] (fl [(pk d1 m1 D), sm, sgw, sgp]) w6 := hS13.pick [0, 2, 4, 3] rfl (by decide)
     exact ⟨d1, m1, D, sm, RR, ks, _, _, _, _, _, _, ⟨hlv, hat, hks, hgd, htt, hrm, by omega, by omega, by omega, hfl, plcL_len RR, plcL_fit (by omega)⟩, hM, rfl, hW, hP, hS14⟩
    ·
     refine s_val hS13 rfl rfl (r_cmp_f rfl rfl (.t rfl rfl) .c (show ¬ (lf - (((sz1 : Nat) : Int)) < 0) from by omega)) ?_
     refine wpList_nil ?_
     refine x_tn ?_
     refine k_reb [(0, .slice aPL PL.length cPL), (2, .pointer none), (3, .slice none 0 0), (4, .slice none 0 0), (5, .pointer (some ⟨d1, 0, none⟩)), (7, .pointer (some ⟨l1, 0, none⟩)), (10, .slice oa RR.length oc), (11, .slice pa (RR.length + 1) pc), (12, .int .i64 (lf - (((sz1 : Nat) : Int)))), (13, .int .i64 (((i : Nat) : Int))), (14, .slice ra1 Q.length rc1), (61, .bool false)] ⟨rfl, rfl, rfl, rfl, rfl, rfl, rfl, rfl, rfl, rfl, rfl, rfl, trivial⟩ fun G16 => ?_
     refine k_f (.t rfl rfl) ?_
     refine wp_skip ?_
     refine x_tn ?_
     refine k_reb [(0, .slice aPL PL.length cPL), (2, .pointer none), (3, .slice none 0 0), (4, .slice none 0 0), (5, .pointer (some ⟨d1, 0, none⟩)), (7, .pointer (some ⟨l1, 0, none⟩)), (10, .slice oa RR.length oc), (11, .slice pa (RR.length + 1) pc), (12, .int .i64 (lf - (((sz1 : Nat) : Int)))), (13, .int .i64 (((i : Nat) : Int))), (14, .slice ra1 Q.length rc1)] ⟨rfl, rfl, rfl, rfl, rfl, rfl, rfl, rfl, rfl, rfl, rfl, trivial⟩ fun G17 => ?_
     refine wp_seq ?_
     refine wp_seq ?_
     refine k_reg ?_
     have hszq := hsz1 (by omega)
     refine s_val hS13 rfl rfl (r_move rfl (.t rfl rfl)) ?_
     refine s_val hS13 rfl rfl (r_move rfl (.t rfl rfl)) ?_
     obtain ⟨us3, hw2⟩ := hG2.sl R1.mono (by omega)
     refine s_call rfl rfl rfl (vs := [.slice ra1 Q.length rc1]) ⟨(.t rfl rfl), trivial⟩ cb28 (copied_s w6 ra1 rc1 _ Q sg3 hw2 (Old.of_piece (i := 5) (xs := []) [] hS13 rfl rfl (by decide)) hQr1 (by omega) ) ?_
     rintro _ w7 ⟨ra2, rc2, sg4, rfl, hG3, ht5⟩
     have hS15 : St w0 [] (fl [(pk d1 m1 D), (lq l1 d1 (⟨#[106]⟩) RR), sm, sgp, sgw, sg3, sg4]) w7 := hS13.callL (xs := []) (xs' := []) (zs := [sg4]) [] rfl (by decide) ht5 rfl rfl
     obtain ⟨us4, hw3⟩ := hG3.sl R1.mono (by omega)
     refine s_call rfl rfl rfl (vs := [.pointer (some ⟨l1, 0, none⟩), .slice ra2 Q.length rc2]) ⟨(.t rfl rfl), (.t rfl rfl), trivial⟩ cb27 (LAppend_lv w7 _ d1 m1 D hlv l1 RR sm hM (⟨#[106]⟩ : ByteArray) hat ra2 rc2 _ Q sg4 hw3 (Old.of_piece (i := 6) (xs := [(lq l1 d1 (⟨#[106]⟩) RR), (pk d1 m1 D), sm]) [1, 0, 2] hS15 rfl rfl (by decide)) ⟨by omega, by omega⟩ (by omega) (by omega) (by omega) (by omega) (hS15.give (xs := [(lq l1 d1 (⟨#[106]⟩) RR), (pk d1 m1 D), sm]) [1, 0, 2] rfl (by decide))) ?_
     rintro _ w8 ⟨D3, sm3, hup2, rfl, hM3, ht6⟩
     have hS16 : St w0 [] (fl [(pk d1 m1 D3), (lq l1 d1 (⟨#[106]⟩) (RR ++ [Q])), sm3, sgp, sgw, sg3, sg4]) w8 := hS15.callL (xs := [(lq l1 d1 (⟨#[106]⟩) RR), (pk d1 m1 D), sm]) (xs' := [(lq l1 d1 (⟨#[106]⟩) (RR ++ [Q])), (pk d1 m1 D3), sm3]) (zs := []) [1, 0, 2] rfl (by decide) ht6 rfl rfl
     have hu9 := hup2.tot
     have hu10 := hup2.wr
     have hu11 := hup2.room
     have hu12 := hup2.same
     have hln1 := logL_len_snoc RR Q
     have hlm1 : (RR ++ [Q]).length = RR.length + 1 := by rw [List.length_append]; rfl
     refine s_call rfl rfl rfl (vs := [.int .i64 0]) ⟨(.t rfl rfl), trivial⟩ cb16 (num_ok w8 0) ?_
     rintro _ w8 ⟨rfl, rfl⟩
     refine s_val hS16 rfl rfl (r_cmp_f rfl rfl (.t rfl rfl) .c (show ¬ (¬ 0 = 0) from by omega)) ?_
     refine wpList_nil ?_
     refine x_tn ?_
     refine k_reb [(0, .slice aPL PL.length cPL), (2, .pointer none), (3, .slice none 0 0), (4, .slice none 0 0), (5, .pointer (some ⟨d1, 0, none⟩)), (7, .pointer (some ⟨l1, 0, none⟩)), (10, .slice oa RR.length oc), (11, .slice pa (RR.length + 1) pc), (12, .int .i64 (lf - (((sz1 : Nat) : Int)))), (13, .int .i64 (((i : Nat) : Int))), (14, .slice ra1 Q.length rc1), (67, .bool false)] ⟨rfl, rfl, rfl, rfl, rfl, rfl, rfl, rfl, rfl, rfl, rfl, rfl, trivial⟩ fun G18 => ?_
     refine k_f (.t rfl rfl) ?_
     refine wp_skip ?_
     refine x_tn ?_
     refine k_reb [(0, .slice aPL PL.length cPL), (2, .pointer none), (3, .slice none 0 0), (4, .slice none 0 0), (5, .pointer (some ⟨d1, 0, none⟩)), (7, .pointer (some ⟨l1, 0, none⟩)), (10, .slice oa RR.length oc), (11, .slice pa (RR.length + 1) pc), (12, .int .i64 (lf - (((sz1 : Nat) : Int)))), (13, .int .i64 (((i : Nat) : Int))), (14, .slice ra1 Q.length rc1)] ⟨rfl, rfl, rfl, rfl, rfl, rfl, rfl, rfl, rfl, rfl, rfl, trivial⟩ fun G19 => ?_
     refine wp_seq ?_
     refine k_reg ?_
     refine s_val hS16 rfl rfl (r_move rfl (.t rfl rfl)) ?_
     refine s_val hS16 rfl rfl (r_move rfl (.t rfl rfl)) ?_
     refine s_litV rfl rfl rfl Try.underlying30 ti56 rfl (vs := [(0, .slice ra1 Q.length rc1)]) ⟨rfl, (.t rfl rfl), trivial⟩ (L := [.slice ra1 Q.length rc1]) rfl (by decide) rfl hS16 fun blk2 w9 hb2 hB2 hS17 => ?_
     have hS18 : St w0 [] (fl [(pk d1 m1 D3), (lq l1 d1 (⟨#[106]⟩) (RR ++ [Q])), (bk blk2 56 (.slice ra1 Q.length rc1)), sm3, sgp, sgw, sg3, sg4]) w9 := hS17.push 2 rfl
     obtain ⟨vs1, hg1, hr1, gA1, gB1, gC1, hS19⟩ := GrP.open_ (i := 5) hW hS18 rfl
     have hS20 : St w0 [] (fl [(pk d1 m1 D3), (lq l1 d1 (⟨#[106]⟩) (RR ++ [Q])), (bk blk2 56 (.slice ra1 Q.length rc1)), sm3, sgp, hg1, sg3, sg4, hr1]) w9 := hS19
     obtain ⟨us5, hw4⟩ := hG2.sl R1.mono (by omega)
     refine s_appendV (i := 5) (L := vs1) (A := [.slice ra1 Q.length rc1]) rfl rfl rfl rfl ⟨_, _, rfl, Try.underlying30⟩ Try.underlying30 ti56 (by omega) (by omega) rfl (by simp [oneC]) (.t rfl rfl) (.t rfl rfl) rfl (by first | exact gC1 | (rw [gC1]; first | rfl | assumption | omega | (simp; done))) gA1 hS20 rfl (SlV.lit (by simp) (by simp)) (hS20.has (i := 2) rfl) (by rw [gC1]; first | (simp; done) | (simp only [List.length_cons, List.length_nil]; omega)) fun ga1 gc1 hg2 w10 hG4 hS21 => ?_
     have hS22 : St w0 [] (fl [(pk d1 m1 D3), (lq l1 d1 (⟨#[106]⟩) (RR ++ [Q])), (bk blk2 56 (.slice ra1 Q.length rc1)), sm3, sgp, hg2, sg3, sg4, hr1]) w10 := hS21
     obtain ⟨sg5, hG5, hw5, hS23⟩ : ∃ sg5 : Hp, GrP R2 56 ga1 gc1 (RR ++ [Q]) sg5 ∧ RwV R1 ra1 rc1 us5 Q sg5 ∧ St w0 [] (fl [(pk d1 m1 D3), (lq l1 d1 (⟨#[106]⟩) (RR ++ [Q])), sm3, sgp, sg5, sg4]) w10 := ⟨_, GrP.snoc R2.mono hG4 gB1 (R2.of_gr hG2 (by omega)  (by first | rfl | omega | (simp; done) | (simp; omega))), hw4.mono R1.mono (fun p hp => by simp [List.mem_append, hp]), ((hS22.merge (L' := [(pk d1 m1 D3), (lq l1 d1 (⟨#[106]⟩) (RR ++ [Q])), (bk blk2 56 (.slice ra1 Q.length rc1)), sm3, sgp, hg2, [], sg4, (hr1 ++ sg3)]) 8 6 rfl rfl rfl rfl).merge (L' := [(pk d1 m1 D3), (lq l1 d1 (⟨#[106]⟩) (RR ++ [Q])), (bk blk2 56 (.slice ra1 Q.length rc1)), sm3, sgp, (hg2 ++ (hr1 ++ sg3)), [], sg4, []]) 5 8 rfl rfl rfl rfl).pick [0, 1, 3, 4, 5, 7] rfl (by decide)⟩
     have hlq71 : (RR ++ [Q]).length = RR.length + 1 := by rw [List.length_append]; rfl
     refine s_val hS23 rfl rfl (Rn.asS (p' := (RR ++ [Q]).length) (q' := gc1) (by omega) (by omega) (r_assign rfl (.t rfl rfl))) ?_
     refine wpList_nil ?_
     refine x_tn ?_
     refine k_reb [(0, .slice aPL PL.length cPL), (2, .pointer none), (3, .slice none 0 0), (4, .slice none 0 0), (5, .pointer (some ⟨d1, 0, none⟩)), (7, .pointer (some ⟨l1, 0, none⟩)), (10, .slice ga1 ((RR ++ [Q]).length) gc1), (11, .slice pa (RR.length + 1) pc), (12, .int .i64 (lf - (((sz1 : Nat) : Int)))), (13, .int .i64 (((i : Nat) : Int)))] ⟨rfl, rfl, rfl, rfl, rfl, rfl, rfl, rfl, rfl, rfl, trivial⟩ fun G20 => ?_
     refine k_reg ?_
     refine s_val hS23 rfl rfl (r_move rfl (.t rfl rfl)) ?_
     refine s_val hS23 rfl rfl (r_move rfl (.t rfl rfl)) ?_
     refine s_call rfl rfl rfl (vs := [.pointer (some ⟨l1, 0, none⟩)]) ⟨(.t rfl rfl), trivial⟩ cb29 (LSize_ok w10 _ l1 d1 (⟨#[106]⟩ : ByteArray) (lg (RR ++ [Q])) (hS23.give (xs := [(lq l1 d1 (⟨#[106]⟩) (RR ++ [Q]))]) [1] rfl (by decide))) ?_
     rintro _ w11 ⟨rfl, ht7⟩
     have hS24 : St w0 [] (fl [(pk d1 m1 D3), (lq l1 d1 (⟨#[106]⟩) (RR ++ [Q])), sm3, sgp, sg5, sg4]) w11 := hS23.callL (xs := [(lq l1 d1 (⟨#[106]⟩) (RR ++ [Q]))]) (xs' := [(lq l1 d1 (⟨#[106]⟩) (RR ++ [Q]))]) (zs := []) [1] rfl (by decide) ht7 rfl rfl
     have hzq1 : (lg (RR ++ [Q])).size = (logL (RR ++ [Q])).length := (logL_len _).symm
     refine s_lit rfl rfl rfl Try.underlying34 ti3 (vs := [(0, .int .i64 ((((lg (RR ++ [Q])).size : Nat) : Int)))]) ⟨rfl, (.t rfl rfl), trivial⟩ (L := [(lg (RR ++ [Q])).size]) rfl (by omega) rfl hS24 fun blk3 w12 hb3 hB3 hS25 => ?_
     have hS26 : St w0 [] (fl [(pk d1 m1 D3), (lq l1 d1 (⟨#[106]⟩) (RR ++ [Q])), [(blk3, .cells (encN .i64 ([(lg (RR ++ [Q])).size])) 3 (0, 0))], sm3, sgp, sg5, sg4]) w12 := hS25.push 2 rfl
     obtain ⟨sg6, hG6, hS27⟩ : ∃ sg6 : Hp, Gr .i64 3 (some ⟨blk3, 0, none⟩) ([(lg (RR ++ [Q])).size]).length ([(lg (RR ++ [Q])).size]) sg6 ∧ St w0 [] (fl [(pk d1 m1 D3), (lq l1 d1 (⟨#[106]⟩) (RR ++ [Q])), sm3, sgp, sg5, sg4, sg6]) w12 := ⟨_, Gr.of_row (by first | rfl | (simp; done) | omega), hS26.pick [0, 1, 3, 4, 5, 6, 2] rfl (by decide)⟩
     refine s_appendG (i := 3) rfl rfl rfl rfl ⟨_, _, rfl, Try.underlying34⟩ Try.underlying34 ti3 (by omega) (by omega) (.t rfl rfl) (.t rfl rfl) rfl hP hS27 (by first | rfl | assumption | omega | (simp; done) | (simp; omega)) (hG6.sl (by simp) (by intro x hx; rw [List.mem_singleton.1 hx]; show _ ≤ 9223372036854775807; omega)) (hS27.has (i := 6) rfl) rfl (by rw [hpl]; simp only [List.length_cons, List.length_nil]; omega) fun ga2 gc2 sg7 w13 hG7 hS28 => ?_
     have hS29 : St w0 [] (fl [(pk d1 m1 D3), (lq l1 d1 (⟨#[106]⟩) (RR ++ [Q])), sm3, sg7, sg5, sg4, sg6]) w13 := hS28
     have hlq76 : (RR ++ [Q]).length = RR.length + 1 := by rw [List.length_append]; rfl
     refine s_val hS29 rfl rfl (Rn.asS (p' := (RR ++ [Q]).length + 1) (q' := gc2) (by omega) (by omega) (r_assign rfl (.t rfl rfl))) ?_
     refine wpList_nil ?_
     refine x_bn ?_
     refine x_tn ?_
     refine k_reb [(0, .slice aPL PL.length cPL), (2, .pointer none), (3, .slice none 0 0), (4, .slice none 0 0), (5, .pointer (some ⟨d1, 0, none⟩)), (7, .pointer (some ⟨l1, 0, none⟩)), (10, .slice ga1 ((RR ++ [Q]).length) gc1), (11, .slice ga2 ((RR ++ [Q]).length + 1) gc2), (12, .int .i64 (lf - (((sz1 : Nat) : Int)))), (13, .int .i64 (((i : Nat) : Int)))] ⟨rfl, rfl, rfl, rfl, rfl, rfl, rfl, rfl, rfl, rfl, trivial⟩ fun G21 => ?_
     refine k_reg ?_
     refine s_val hS29 rfl rfl (r_move rfl (.t rfl rfl)) ?_
     refine s_val hS29 rfl rfl (r_arith rfl rfl (.t rfl rfl) .c (c := ((i + 1 : Nat) : Int)) (wn_i64 (by show (((i : Nat) : Int) : Int) + 1 = _; omega) (by omega))) ?_
     refine s_val hS29 rfl rfl (r_assign rfl (.t rfl rfl)) ?_
     refine wpList_nil ?_
     refine x_tn ?_
     have hgq : ∀ LL ∈ (RR ++ [Q]), goodR LL := fun LL h => by
      rcases List.mem_append.1 h with h | h
      ·
       exact hgd LL h
      ·
       rw [List.mem_singleton.1 h]; exact ⟨by omega, by omega⟩
     have hpx : (plcL RR) ++ (([(lg (RR ++ [Q])).size])) = plcL (RR ++ [Q]) := by rw [plcL_snoc, logL_len]; rfl
     rw [hpx] at hG7
     have hS30 : St w0 [] (fl [(pk d1 m1 D3), (lq l1 d1 (⟨#[106]⟩) (RR ++ [Q])), sm3, sg7, sg5]) w13 := hS29.pick [0, 1, 2, 3, 4] rfl (by decide)
     refine ⟨PL.length - (i + 1), by omega, _, i + 1, D3, (RR ++ [Q]), sm3, ((logL (RR ++ [Q])).length), (lf - (((sz1 : Nat) : Int))), ga1, gc1, sg5, ga2, gc2, sg7, fr_reb _ ⟨rfl, rfl, rfl, rfl, rfl, rfl, rfl, rfl, rfl, rfl, trivial⟩, hS30, ?_⟩
     exact ⟨by omega, by omega, by omega, hup2.lv, hM3, hup2.at_, by omega, by omega, by omega, by omega, by omega, by omega, by omega, by omega, by omega, hgq, hG5, hG7⟩
   ·
    refine s_valg hS11 (wanted_of (j := 4) (b := true) (d := 44) rfl rfl rfl rfl) rfl (r_cmp_f rfl rfl (.t rfl rfl) .c (show ¬ (((i : Nat) : Int) < 30) from by omega)) ?_
    refine s_val hS11 rfl rfl (r_pick rfl (.t rfl rfl) (.t rfl rfl)) ?_
    refine wpList_nil ?_
    refine x_tn ?_
    refine k_reb [(0, .slice aPL PL.length cPL), (2, .pointer none), (3, .slice none 0 0), (4, .slice none 0 0), (5, .pointer (some ⟨d1, 0, none⟩)), (7, .pointer (some ⟨l1, 0, none⟩)), (10, .slice oa RR.length oc), (11, .slice pa (RR.length + 1) pc), (12, .int .i64 lf), (13, .int .i64 (((i : Nat) : Int))), (47, .bool false)] ⟨rfl, rfl, rfl, rfl, rfl, rfl, rfl, rfl, rfl, rfl, rfl, trivial⟩ fun G22 => ?_
    refine k_f (.t rfl rfl) ?_
    refine wp_exit ?_
    refine x_te ?_
    refine x_te ?_
    refine x_be ?_
    refine x_tn ?_
    refine k_reb [(2, .pointer none), (3, .slice none 0 0), (4, .slice none 0 0), (5, .pointer (some ⟨d1, 0, none⟩)), (10, .slice oa RR.length oc), (11, .slice pa (RR.length + 1) pc)] ⟨rfl, rfl, rfl, rfl, rfl, rfl, trivial⟩ fun G23 => ?_
    refine wp_seq ?_
    refine k_reg ?_
    refine s_val hS11 rfl rfl (r_move rfl (.t rfl rfl)) ?_
    refine s_val hS11 rfl rfl (r_move rfl (.t rfl rfl)) ?_
    refine s_val hS11 rfl rfl (r_move rfl (.t rfl rfl)) ?_
    refine s_val hS11 rfl rfl (r_assign rfl (.t rfl rfl)) ?_
    refine s_val hS11 rfl rfl (r_assign rfl (.t rfl rfl)) ?_
    refine s_val hS11 rfl rfl (r_assign rfl (.t rfl rfl)) ?_
    refine wpList_nil ?_
    refine x_tn ?_
    refine k_reb [(2, .pointer (some ⟨d1, 0, none⟩)), (3, .slice oa RR.length oc), (4, .slice pa (RR.length + 1) pc)] ⟨rfl, rfl, rfl, trivial⟩ fun G24 => ?_
    refine wp_ret ?_
    refine k_ret3 Try.results14 rfl rfl rfl rfl rfl rfl ?_
    refine ⟨_, rfl, ?_⟩
    have hS31 : St w0 [] (fl [(pk d1 m1 D), sm, sgw, sgp]) w4 := hS11.pick [0, 2, 4, 3] rfl (by decide)
    exact ⟨d1, m1, D, sm, RR, ks, _, _, _, _, _, _, ⟨hlv, hat, hks, hgd, htt, hrm, by omega, by omega, by omega, hfl, plcL_len RR, plcL_fit (by omega)⟩, hM, rfl, hW, hP, hS31⟩
  ·
   refine s_val hS11 rfl rfl (r_cmp_f rfl rfl (.t rfl rfl) (.t rfl rfl) (show ¬ (((i : Nat) : Int) < ((PL.length : Nat) : Int)) from by omega)) ?_
   refine s_val hS11 rfl rfl (r_move rfl (.t rfl rfl)) ?_
   refine s_skip (unwanted_of (j := 4) (b := true) (b' := false) (d := 44) rfl rfl rfl rfl rfl) rfl ?_
   refine s_skip (unwanted_of (j := 4) (b := true) (b' := false) (d := 44) rfl rfl rfl rfl rfl) rfl ?_
   refine s_val hS11 rfl rfl (r_pick rfl (.t rfl rfl) .c) ?_
   refine wpList_nil ?_
   refine x_tn ?_
   refine k_reb [(0, .slice aPL PL.length cPL), (2, .pointer none), (3, .slice none 0 0), (4, .slice none 0 0), (5, .pointer (some ⟨d1, 0, none⟩)), (7, .pointer (some ⟨l1, 0, none⟩)), (10, .slice oa RR.length oc), (11, .slice pa (RR.length + 1) pc), (12, .int .i64 lf), (13, .int .i64 (((i : Nat) : Int))), (47, .bool false)] ⟨rfl, rfl, rfl, rfl, rfl, rfl, rfl, rfl, rfl, rfl, rfl, trivial⟩ fun G25 => ?_
   refine k_f (.t rfl rfl) ?_
   refine wp_exit ?_
   refine x_te ?_
   refine x_te ?_
   refine x_be ?_
   refine x_tn ?_
   refine k_reb [(2, .pointer none), (3, .slice none 0 0), (4, .slice none 0 0), (5, .pointer (some ⟨d1, 0, none⟩)), (10, .slice oa RR.length oc), (11, .slice pa (RR.length + 1) pc)] ⟨rfl, rfl, rfl, rfl, rfl, rfl, trivial⟩ fun G26 => ?_
   refine wp_seq ?_
   refine k_reg ?_
   refine s_val hS11 rfl rfl (r_move rfl (.t rfl rfl)) ?_
   refine s_val hS11 rfl rfl (r_move rfl (.t rfl rfl)) ?_
   refine s_val hS11 rfl rfl (r_move rfl (.t rfl rfl)) ?_
   refine s_val hS11 rfl rfl (r_assign rfl (.t rfl rfl)) ?_
   refine s_val hS11 rfl rfl (r_assign rfl (.t rfl rfl)) ?_
   refine s_val hS11 rfl rfl (r_assign rfl (.t rfl rfl)) ?_
   refine wpList_nil ?_
   refine x_tn ?_
   refine k_reb [(2, .pointer (some ⟨d1, 0, none⟩)), (3, .slice oa RR.length oc), (4, .slice pa (RR.length + 1) pc)] ⟨rfl, rfl, rfl, trivial⟩ fun G27 => ?_
   refine wp_ret ?_
   refine k_ret3 Try.results14 rfl rfl rfl rfl rfl rfl ?_
   refine ⟨_, rfl, ?_⟩
   have hS32 : St w0 [] (fl [(pk d1 m1 D), sm, sgw, sgp]) w4 := hS11.pick [0, 2, 4, 3] rfl (by decide)
   exact ⟨d1, m1, D, sm, RR, ks, _, _, _, _, _, _, ⟨hlv, hat, hks, hgd, htt, hrm, by omega, by omega, by omega, hfl, plcL_len RR, plcL_fit (by omega)⟩, hM, rfl, hW, hP, hS32⟩

end Go.Proofs.Ytdmiklegahdafaa

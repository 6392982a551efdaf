/- Contracts of functions of the program, each walked once. -/
import Derived.Test.YtdmiklegahdafaaFnP
namespace Go.Proofs.Ytdmiklegahdafaa
open Go Go.RowKit K
namespace FR
theorem mixed : Try.prog.follows .mixedOrders = true := by kernel_rfl
theorem cb12 : callable Try.prog 12 = true := by kernel_rfl
theorem cb14 : callable Try.prog 14 = true := by kernel_rfl
theorem cb15 : callable Try.prog 15 = true := by kernel_rfl
theorem cb16 : callable Try.prog 16 = true := by kernel_rfl
theorem cb17 : callable Try.prog 17 = true := by kernel_rfl
theorem cb19 : callable Try.prog 19 = true := by kernel_rfl
theorem cb20 : callable Try.prog 20 = true := by kernel_rfl
theorem cb23 : callable Try.prog 23 = true := by kernel_rfl
theorem cb24 : callable Try.prog 24 = true := by kernel_rfl
theorem one3 : One Try.prog 3 = true := by kernel_rfl
theorem one30 : One Try.prog 30 = true := by kernel_rfl
theorem ti3 : (Try.prog.info? 3).map (fun i => (i.zero, i.size, i.bytes)) = some (some (.int .i64 0), 1, 8) := by kernel_rfl
theorem ti30 : (Try.prog.info? 30).map (fun i => (i.zero, i.size, i.bytes)) = some (some (.slice none 0 0), 1, 24) := by kernel_rfl
theorem ti5 : (Try.prog.info? 5).map (fun i => (i.zero, i.size, i.bytes)) = some (some (.int .u8 0), 1, 1) := by kernel_rfl
theorem ti56 : (Try.prog.info? 56).map (fun i => (i.zero, i.size, i.bytes)) = some (some (.slice none 0 0), 1, 24) := by kernel_rfl

end FR
open FR
attribute [local irreducible] Go.wpList Go.wpQuiet Go.wpStill Go.wpAny Go.Code.wp
set_option maxRecDepth 10000
set_option maxHeartbeats 8000000
set_option linter.unusedVariables false
set_option linter.unusedSimpArgs false
theorem JournalCut_ok (w0 : World) (aPL : Option Addr) (cPL : Nat) (uPL : List Value) (PL : List (List (List Nat))) (vPL : Hp) (hPL : RwV R2 aPL cPL uPL PL vPL) (oPL : Old w0 [] vPL) (x y : Int) (by_ : Nat) (hPr : ∀ LL ∈ PL, ∀ r ∈ LL, r.length ≤ 1000000000000) (hx : -9223372036854775808 ≤ x ∧ x ≤ 9223372036854775807) (hy : -9223372036854775808 ≤ y ∧ y ≤ 9223372036854775807) (hb : by_ ≤ 255) :
  Calls Try.prog 5 #[.agg #[.slice aPL PL.length cPL, .int .i64 x, .int .i64 y, .int .u8 (((by_ : Nat) : Int))]] w0 (Ret fun v w' => v = .bool true ∧ St w0 [] (fl []) w') := by
 refine k_enter (vs := [.agg #[.slice aPL PL.length cPL, .int .i64 x, .int .i64 y, .int .u8 (((by_ : Nat) : Int))]]) Try.func5 rfl Try.ntmps5 rfl ?_
 have hS : St w0 [] (fl []) w0 := St.init w0
 refine wp_seq ?_
 refine k_reg ?_
 refine s_box rfl rfl rfl (.t rfl rfl) (cs := #[.slice aPL PL.length cPL, .int .i64 x, .int .i64 y, .int .u8 (((by_ : Nat) : Int))]) rfl hS fun blk1 w1 hb1 hB1 hS1 => ?_
 have hS2 : St w0 [] (fl [[(blk1, .cells #[.slice aPL PL.length cPL, .int .i64 x, .int .i64 y, .int .u8 (((by_ : Nat) : Int))] 32 (0, 0))]]) w1 := hS1.push 0 rfl
 refine s_val hS2 rfl rfl (r_assign rfl .c) ?_
 refine wpList_nil ?_
 refine x_tn ?_
 refine k_reb [(1, .pointer (some ⟨blk1, 0, none⟩)), (2, .bool false)] ⟨rfl, rfl, trivial⟩ fun G1 => ?_
 refine wp_seq ?_
 refine k_reg ?_
 refine s_val hS2 rfl rfl (r_fieldN rfl Try.underlying32 rfl ti30 (by decide) (.t rfl rfl) (qq := 0) rfl) ?_
 refine s_val hS2 rfl rfl (r_load rfl one30 (.t rfl rfl) (St.cell_own (m := 0) rfl rfl)) ?_
 refine s_call rfl rfl rfl (vs := [.slice aPL PL.length cPL]) ⟨(.t rfl rfl), trivial⟩ cb14 (laidlog_ok w1 aPL cPL _ PL vPL hPL (Old.of_old (xs := []) [] oPL hS2 rfl (by decide)) hPr ) ?_
 rintro _ w2 ⟨d1, m1, D1, sm1, RR1, ks1, oa1, oc1, sg1, pa1, pc1, sg2, hLd1, hM1, rfl, hO1, hP1, ht1⟩
 have hS4 : St w0 [] (fl [[(blk1, .cells #[.slice aPL PL.length cPL, .int .i64 x, .int .i64 y, .int .u8 (((by_ : Nat) : Int))] 32 (0, 0))], (pk d1 m1 D1), sm1, sg1, sg2]) w2 := hS2.callL (xs := []) (xs' := []) (zs := [(pk d1 m1 D1), sm1, sg1, sg2]) [] rfl (by decide) ht1 rfl rfl
 have hS5 : St w0 [] (fl [[(blk1, .cells #[.slice aPL PL.length cPL, .int .i64 x, .int .i64 y, .int .u8 (((by_ : Nat) : Int))] 32 (0, 0))], (pk d1 m1 D1), sm1, sg1, sg2]) w2 := hS4.pick [0, 1, 2, 3, 4] rfl (by decide)
 have hu1 := hLd1.ks
 have hu2 := hLd1.tot
 have hu3 := hLd1.room
 have hu4 := hLd1.wr
 have hu5 := hLd1.len
 have hu6 := hLd1.rr
 have hu7 := hLd1.flen
 have hu8 := hLd1.plen
 refine s_val hS5 rfl rfl (r_move rfl (.t rfl rfl)) ?_
 refine s_val hS5 rfl rfl (r_extract rfl (.t rfl rfl) rfl) ?_
 refine s_val hS5 rfl rfl (r_extract rfl (.t rfl rfl) rfl) ?_
 refine s_val hS5 rfl rfl (r_extract rfl (.t rfl rfl) rfl) ?_
 refine s_val hS5 rfl rfl (r_assign rfl (.t rfl rfl)) ?_
 refine s_val hS5 rfl rfl (r_assign rfl (.t rfl rfl)) ?_
 refine s_val hS5 rfl rfl (r_assign rfl (.t rfl rfl)) ?_
 refine wpList_nil ?_
 refine x_tn ?_
 refine k_reb [(1, .pointer (some ⟨blk1, 0, none⟩)), (2, .bool false), (3, .pointer (some ⟨d1, 0, none⟩)), (4, .slice oa1 RR1.length oc1), (5, .slice pa1 (RR1.length + 1) pc1)] ⟨rfl, rfl, rfl, rfl, rfl, trivial⟩ fun G2 => ?_
 refine wp_seq ?_
 refine wp_seq ?_
 refine k_reg ?_
 refine s_val hS5 rfl rfl (r_move rfl (.t rfl rfl)) ?_
 refine s_val hS5 rfl rfl (r_eqnilp rfl Try.underlying33 (.t rfl rfl) .c rfl) ?_
 refine s_val hS5 rfl rfl (r_move rfl (.t rfl rfl)) ?_
 refine s_callg (wanted_of (j := 2) (b := false) (d := 24) rfl rfl rfl rfl) rfl rfl (vs := []) trivial cb12 (works_ok w2  ) ?_
 rintro _ w3 ⟨rfl, ht2⟩
 have hS6 : St w0 [] (fl [[(blk1, .cells #[.slice aPL PL.length cPL, .int .i64 x, .int .i64 y, .int .u8 (((by_ : Nat) : Int))] 32 (0, 0))], (pk d1 m1 D1), sm1, sg1, sg2]) w3 := hS5.callL (xs := []) (xs' := []) (zs := []) [] rfl (by decide) ht2 rfl rfl
 refine s_valg hS6 (wanted_of (j := 2) (b := false) (d := 24) rfl rfl rfl rfl) rfl (r_lnot rfl (.t rfl rfl)) ?_
 refine s_val hS6 rfl rfl (r_pick rfl (.t rfl rfl) (.t rfl rfl)) ?_
 refine wpList_nil ?_
 refine x_tn ?_
 refine k_reb [(1, .pointer (some ⟨blk1, 0, none⟩)), (2, .bool false), (3, .pointer (some ⟨d1, 0, none⟩)), (4, .slice oa1 RR1.length oc1), (5, .slice pa1 (RR1.length + 1) pc1), (27, .bool false)] ⟨rfl, rfl, rfl, rfl, rfl, rfl, trivial⟩ fun G3 => ?_
 refine k_f (.t rfl rfl) ?_
 refine wp_skip ?_
 refine x_tn ?_
 refine k_reb [(1, .pointer (some ⟨blk1, 0, none⟩)), (2, .bool false), (3, .pointer (some ⟨d1, 0, none⟩)), (4, .slice oa1 RR1.length oc1), (5, .slice pa1 (RR1.length + 1) pc1)] ⟨rfl, rfl, rfl, rfl, rfl, trivial⟩ fun G4 => ?_
 refine wp_seq ?_
 refine k_reg ?_
 refine s_val hS6 rfl rfl (r_move rfl (.t rfl rfl)) ?_
 refine s_call rfl rfl rfl (vs := [.pointer (some ⟨d1, 0, none⟩), .string (⟨#[106]⟩)]) ⟨(.t rfl rfl), .c, trivial⟩ cb15 (Read_lv w3 _ d1 m1 D1 hLd1.lv sm1 hM1 (⟨#[106]⟩ : ByteArray) hLd1.at_ (hS6.give (xs := [(pk d1 m1 D1), sm1]) [1, 2] rfl (by decide))) ?_
 rintro _ w4 ⟨ra1, rc1, sg3, rfl, hG1, ht3⟩
 have hS7 : St w0 [] (fl [[(blk1, .cells #[.slice aPL PL.length cPL, .int .i64 x, .int .i64 y, .int .u8 (((by_ : Nat) : Int))] 32 (0, 0))], (pk d1 m1 D1), sm1, sg1, sg2, sg3]) w4 := hS6.callL (xs := [(pk d1 m1 D1), sm1]) (xs' := [(pk d1 m1 D1), sm1]) (zs := [sg3]) [1, 2] rfl (by decide) ht3 rfl rfl
 refine s_val hS7 rfl rfl (r_move rfl (.t rfl rfl)) ?_
 refine s_val hS7 rfl rfl (r_extract rfl (.t rfl rfl) rfl) ?_
 refine s_val hS7 rfl rfl (r_extract rfl (.t rfl rfl) rfl) ?_
 refine s_val hS7 rfl rfl (r_assign rfl (.t rfl rfl)) ?_
 refine s_val hS7 rfl rfl (r_assign rfl (.t rfl rfl)) ?_
 refine wpList_nil ?_
 refine x_tn ?_
 refine k_reb [(1, .pointer (some ⟨blk1, 0, none⟩)), (2, .bool false), (3, .pointer (some ⟨d1, 0, none⟩)), (4, .slice oa1 RR1.length oc1), (5, .slice pa1 (RR1.length + 1) pc1), (6, .slice ra1 ((logL RR1).length) rc1), (7, .int .i64 0)] ⟨rfl, rfl, rfl, rfl, rfl, rfl, rfl, trivial⟩ fun G5 => ?_
 refine wp_seq ?_
 refine k_reg ?_
 refine s_val hS7 rfl rfl (r_fieldN rfl Try.underlying32 rfl ti3 (by decide) (.t rfl rfl) (qq := 2) rfl) ?_
 refine s_val hS7 rfl rfl (r_load rfl one3 (.t rfl rfl) (St.cell_own (m := 0) rfl rfl)) ?_
 refine s_val hS7 rfl rfl (r_move rfl (.t rfl rfl)) ?_
 refine s_val hS7 rfl rfl (r_len rfl rfl Try.underlying22 (.t rfl rfl)) ?_
 refine s_val hS7 rfl rfl (r_arith rfl rfl (.t rfl rfl) .c (c := ((((logL RR1).length) + 1 : Nat) : Int)) (wn_i64 (by show ((((logL RR1).length : Nat) : Int) : Int) + 1 = _; omega) (by omega))) ?_
 refine s_call rfl rfl rfl (vs := [.int .i64 y, .int .i64 (((((logL RR1).length) + 1 : Nat) : Int))]) ⟨(.t rfl rfl), (.t rfl rfl), trivial⟩ cb17 (Within_ok w4 y (((logL RR1).length) + 1) (by omega) (by omega) ) ?_
 rintro _ w5 ⟨k1, rfl, hk1l, ht4⟩
 have hS8 : St w0 [] (fl [[(blk1, .cells #[.slice aPL PL.length cPL, .int .i64 x, .int .i64 y, .int .u8 (((by_ : Nat) : Int))] 32 (0, 0))], (pk d1 m1 D1), sm1, sg1, sg2, sg3]) w5 := hS7.callL (xs := []) (xs' := []) (zs := []) [] rfl (by decide) ht4 rfl rfl
 refine s_val hS8 rfl rfl (r_assign rfl (.t rfl rfl)) ?_
 refine wpList_nil ?_
 refine x_tn ?_
 refine k_reb [(2, .bool false), (3, .pointer (some ⟨d1, 0, none⟩)), (4, .slice oa1 RR1.length oc1), (5, .slice pa1 (RR1.length + 1) pc1), (6, .slice ra1 ((logL RR1).length) rc1), (7, .int .i64 0), (8, .int .i64 (((k1 : Nat) : Int)))] ⟨rfl, rfl, rfl, rfl, rfl, rfl, rfl, trivial⟩ fun G6 => ?_
 refine wp_seq ?_
 refine wp_seq ?_
 refine k_reg ?_
 refine s_val hS8 rfl rfl (r_move rfl (.t rfl rfl)) ?_
 refine s_call rfl rfl rfl (vs := [.int .i64 0]) ⟨(.t rfl rfl), trivial⟩ cb16 (num_ok w5 0) ?_
 rintro _ w5 ⟨rfl, rfl⟩
 refine s_val hS8 rfl rfl (r_cmp_f rfl rfl (.t rfl rfl) .c (show ¬ (¬ 0 = 0) from by omega)) ?_
 refine s_val hS8 rfl rfl (r_move rfl (.t rfl rfl)) ?_
 refine s_valg hS8 (wanted_of (j := 3) (b := false) (d := 42) rfl rfl rfl rfl) rfl (r_move rfl (.t rfl rfl)) ?_
 refine s_valg hS8 (wanted_of (j := 3) (b := false) (d := 42) rfl rfl rfl rfl) rfl (r_move rfl (.t rfl rfl)) ?_
 refine s_callg (wanted_of (j := 3) (b := false) (d := 42) rfl rfl rfl rfl) rfl rfl (vs := [.pointer (some ⟨d1, 0, none⟩), .string (⟨#[106]⟩), .int .i64 (((k1 : Nat) : Int))]) ⟨(.t rfl rfl), .c, (.t rfl rfl), trivial⟩ cb24 (Cut_lv w5 _ d1 m1 D1 hLd1.lv sm1 hM1 (⟨#[106]⟩ : ByteArray) hLd1.at_ k1 (by omega) (by omega) (hS8.give (xs := [(pk d1 m1 D1), sm1]) [1, 2] rfl (by decide))) ?_
 rintro _ w6 ⟨D2, sm2, hup1, rfl, hM2, ht5⟩
 have hS9 : St w0 [] (fl [[(blk1, .cells #[.slice aPL PL.length cPL, .int .i64 x, .int .i64 y, .int .u8 (((by_ : Nat) : Int))] 32 (0, 0))], (pk d1 m1 D2), sm2, sg1, sg2, sg3]) w6 := hS8.callL (xs := [(pk d1 m1 D1), sm1]) (xs' := [(pk d1 m1 D2), sm2]) (zs := []) [1, 2] rfl (by decide) ht5 rfl rfl
 have hu9 := hup1.tot
 have hu10 := hup1.wr
 have hu11 := hup1.room
 have hu12 := hup1.same
 have htk1 : ((logL RR1).take k1).length = k1 := by rw [List.length_take]; omega
 refine s_callg (wanted_of (j := 3) (b := false) (d := 42) rfl rfl rfl rfl) rfl rfl (vs := [.int .i64 0]) ⟨(.t rfl rfl), trivial⟩ cb16 (num_ok w6 0) ?_
 rintro _ w6 ⟨rfl, rfl⟩
 refine s_valg hS9 (wanted_of (j := 3) (b := false) (d := 42) rfl rfl rfl rfl) rfl (r_cmp_f rfl rfl (.t rfl rfl) .c (show ¬ (¬ 0 = 0) from by omega)) ?_
 refine s_val hS9 rfl rfl (r_pick rfl (.t rfl rfl) (.t rfl rfl)) ?_
 refine wpList_nil ?_
 refine x_tn ?_
 refine k_reb [(2, .bool false), (3, .pointer (some ⟨d1, 0, none⟩)), (4, .slice oa1 RR1.length oc1), (5, .slice pa1 (RR1.length + 1) pc1), (6, .slice ra1 ((logL RR1).length) rc1), (8, .int .i64 (((k1 : Nat) : Int))), (48, .bool false)] ⟨rfl, rfl, rfl, rfl, rfl, rfl, rfl, trivial⟩ fun G7 => ?_
 refine k_f (.t rfl rfl) ?_
 refine wp_skip ?_
 refine x_tn ?_
 refine k_reb [(2, .bool false), (3, .pointer (some ⟨d1, 0, none⟩)), (4, .slice oa1 RR1.length oc1), (5, .slice pa1 (RR1.length + 1) pc1), (6, .slice ra1 ((logL RR1).length) rc1), (8, .int .i64 (((k1 : Nat) : Int)))] ⟨rfl, rfl, rfl, rfl, rfl, rfl, trivial⟩ fun G8 => ?_
 refine wp_seq ?_
 refine k_reg ?_
 refine s_val hS9 rfl rfl (r_move rfl (.t rfl rfl)) ?_
 refine s_call rfl rfl rfl (vs := [.pointer (some ⟨d1, 0, none⟩), .string (⟨#[106]⟩)]) ⟨(.t rfl rfl), .c, trivial⟩ cb19 (Open_cut w6 _ d1 m1 D2 hup1.lv sm2 hM2 (⟨#[106]⟩ : ByteArray) (n := k1) hup1.at_ (by omega) hLd1.good (by omega) (by omega) (hS9.give (xs := [(pk d1 m1 D2), sm2]) [1, 2] rfl (by decide))) ?_
 rintro _ w7 ⟨q1, ks2, D3, sm3, l1, oa2, oc2, sg4, hq1, hqa1, hqb1, ⟨_, hup2⟩, hM3, rfl, hO2, ht6⟩
 have hS11 : St w0 [] (fl [[(blk1, .cells #[.slice aPL PL.length cPL, .int .i64 x, .int .i64 y, .int .u8 (((by_ : Nat) : Int))] 32 (0, 0))], (pk d1 m1 D3), sm3, sg1, sg2, sg3, [(l1, .cells #[.pointer (some ⟨d1, 0, none⟩), .string (⟨#[106]⟩), .int .i64 ((((lg (RR1.take q1)).size : Nat) : Int)), .int .i64 ((((lg (RR1.take q1)).count : Nat) : Int)), .bool ((lg (RR1.take q1)).off)] 92 (0, 0))], sg4]) w7 := hS9.callL (xs := [(pk d1 m1 D2), sm2]) (xs' := [(pk d1 m1 D3), sm3]) (zs := [[(l1, .cells #[.pointer (some ⟨d1, 0, none⟩), .string (⟨#[106]⟩), .int .i64 ((((lg (RR1.take q1)).size : Nat) : Int)), .int .i64 ((((lg (RR1.take q1)).count : Nat) : Int)), .bool ((lg (RR1.take q1)).off)] 92 (0, 0))], sg4]) [1, 2] rfl (by decide) ht6 rfl rfl
 have hS12 : St w0 [] (fl [[(blk1, .cells #[.slice aPL PL.length cPL, .int .i64 x, .int .i64 y, .int .u8 (((by_ : Nat) : Int))] 32 (0, 0))], (pk d1 m1 D3), [(l1, .cells #[.pointer (some ⟨d1, 0, none⟩), .string (⟨#[106]⟩), .int .i64 ((((lg (RR1.take q1)).size : Nat) : Int)), .int .i64 ((((lg (RR1.take q1)).count : Nat) : Int)), .bool ((lg (RR1.take q1)).off)] 92 (0, 0))], sm3, sg1, sg2, sg3, sg4]) w7 := hS11.pick [0, 1, 6, 2, 3, 4, 5, 7] rfl (by decide)
 have hu13 := hup2.tot
 have hu14 := hup2.wr
 have hu15 := hup2.room
 have hu16 := hup2.same
 have htl1 : (RR1.take q1).length ≤ RR1.length := by rw [List.length_take]; omega
 have htl2 : (logL (RR1.take q1)).length ≤ (logL RR1).length := plc_le hq1
 refine s_val hS12 rfl rfl (r_move rfl (.t rfl rfl)) ?_
 refine s_val hS12 rfl rfl (r_extract rfl (.t rfl rfl) rfl) ?_
 refine s_val hS12 rfl rfl (r_extract rfl (.t rfl rfl) rfl) ?_
 refine s_val hS12 rfl rfl (r_extract rfl (.t rfl rfl) rfl) ?_
 refine s_val hS12 rfl rfl (r_assign rfl (.t rfl rfl)) ?_
 refine s_val hS12 rfl rfl (r_assign rfl (.t rfl rfl)) ?_
 refine s_val hS12 rfl rfl (r_assign rfl (.t rfl rfl)) ?_
 refine wpList_nil ?_
 refine x_tn ?_
 refine k_reb [(2, .bool false), (3, .pointer (some ⟨d1, 0, none⟩)), (4, .slice oa1 RR1.length oc1), (5, .slice pa1 (RR1.length + 1) pc1), (6, .slice ra1 ((logL RR1).length) rc1), (8, .int .i64 (((k1 : Nat) : Int))), (10, .slice oa2 ((RR1.take q1).length) oc2), (11, .int .i64 0)] ⟨rfl, rfl, rfl, rfl, rfl, rfl, rfl, rfl, trivial⟩ fun G9 => ?_
 refine wp_seq ?_
 refine k_reg ?_
 refine s_val hS12 rfl rfl (r_move rfl (.t rfl rfl)) ?_
 refine s_call rfl rfl rfl (vs := [.pointer (some ⟨d1, 0, none⟩), .string (⟨#[106]⟩)]) ⟨(.t rfl rfl), .c, trivial⟩ cb15 (Read_lv w7 _ d1 m1 D3 hup2.lv sm3 hM3 (⟨#[106]⟩ : ByteArray) hup2.at_ (hS12.give (xs := [(pk d1 m1 D3), sm3]) [1, 3] rfl (by decide))) ?_
 rintro _ w8 ⟨ra2, rc2, sg5, rfl, hG2, ht7⟩
 have hS13 : St w0 [] (fl [[(blk1, .cells #[.slice aPL PL.length cPL, .int .i64 x, .int .i64 y, .int .u8 (((by_ : Nat) : Int))] 32 (0, 0))], (pk d1 m1 D3), [(l1, .cells #[.pointer (some ⟨d1, 0, none⟩), .string (⟨#[106]⟩), .int .i64 ((((lg (RR1.take q1)).size : Nat) : Int)), .int .i64 ((((lg (RR1.take q1)).count : Nat) : Int)), .bool ((lg (RR1.take q1)).off)] 92 (0, 0))], sm3, sg1, sg2, sg3, sg4, sg5]) w8 := hS12.callL (xs := [(pk d1 m1 D3), sm3]) (xs' := [(pk d1 m1 D3), sm3]) (zs := [sg5]) [1, 3] rfl (by decide) ht7 rfl rfl
 refine s_val hS13 rfl rfl (r_move rfl (.t rfl rfl)) ?_
 refine s_val hS13 rfl rfl (r_extract rfl (.t rfl rfl) rfl) ?_
 refine s_val hS13 rfl rfl (r_extract rfl (.t rfl rfl) rfl) ?_
 refine s_val hS13 rfl rfl (r_assign rfl (.t rfl rfl)) ?_
 refine s_val hS13 rfl rfl (r_assign rfl (.t rfl rfl)) ?_
 refine wpList_nil ?_
 refine x_tn ?_
 refine k_reb [(2, .bool false), (4, .slice oa1 RR1.length oc1), (5, .slice pa1 (RR1.length + 1) pc1), (6, .slice ra1 ((logL RR1).length) rc1), (8, .int .i64 (((k1 : Nat) : Int))), (10, .slice oa2 ((RR1.take q1).length) oc2), (11, .int .i64 0), (12, .slice ra2 ((logL (RR1.take q1)).length) rc2), (13, .int .i64 0)] ⟨rfl, rfl, rfl, rfl, rfl, rfl, rfl, rfl, rfl, trivial⟩ fun G10 => ?_
 refine wp_seq ?_
 refine k_reg ?_
 refine s_val hS13 rfl rfl (r_assign rfl .c) ?_
 refine wpList_nil ?_
 refine x_tn ?_
 refine wp_seq ?_
 refine wp_block ?_
 refine wp_loop_ghost (fun (m2 : Nat) a w => ∃ (G : Nat → Value) (c : Nat), a = fr 104 [(2, .bool false), (4, .slice oa1 RR1.length oc1), (5, .slice pa1 (RR1.length + 1) pc1), (6, .slice ra1 ((logL RR1).length) rc1), (8, .int .i64 (((k1 : Nat) : Int))), (10, .slice oa2 ((RR1.take q1).length) oc2), (11, .int .i64 0), (12, .slice ra2 ((logL (RR1.take q1)).length) rc2), (13, .int .i64 0), (14, .int .i64 (((c : Nat) : Int)))] G ∧ St w0 [] (fl [[(blk1, .cells #[.slice aPL PL.length cPL, .int .i64 x, .int .i64 y, .int .u8 (((by_ : Nat) : Int))] 32 (0, 0))], (pk d1 m1 D3), [(l1, .cells #[.pointer (some ⟨d1, 0, none⟩), .string (⟨#[106]⟩), .int .i64 ((((lg (RR1.take q1)).size : Nat) : Int)), .int .i64 ((((lg (RR1.take q1)).count : Nat) : Int)), .bool ((lg (RR1.take q1)).off)] 92 (0, 0))], sm3, sg1, sg2, sg3, sg4, sg5]) w ∧ (m2 = RR1.length - c ∧ c ≤ RR1.length ∧ (plc RR1 c ≤ k1 ∨ c = 0))) (RR1.length) ⟨_, 0, fr_reb _ ⟨rfl, rfl, rfl, rfl, rfl, rfl, rfl, rfl, rfl, rfl, trivial⟩, hS13, ?_⟩ ?_
 ·
  exact ⟨rfl, by omega, .inr rfl⟩
 ·
  intro m2 _ w9 hI1
  obtain ⟨G11, c, rfl, hS14, ⟨hm, hc, hcn⟩⟩ := hI1
  refine wp_seq ?_
  refine wp_seq ?_
  refine k_reg ?_
  refine s_val hS14 rfl rfl (r_move rfl (.t rfl rfl)) ?_
  refine s_val hS14 rfl rfl (r_arith rfl rfl (.t rfl rfl) .c (c := ((c + 1 : Nat) : Int)) (wn_i64 (by show (((c : Nat) : Int) : Int) + 1 = _; omega) (by omega))) ?_
  refine s_val hS14 rfl rfl (r_move rfl (.t rfl rfl)) ?_
  refine s_val hS14 rfl rfl (r_len rfl rfl Try.underlying34 (.t rfl rfl)) ?_
  by_cases c1 : c + 1 < RR1.length + 1
  ·
   refine s_val hS14 rfl rfl (r_cmp_t rfl rfl (.t rfl rfl) (.t rfl rfl) (show ((c + 1 : Nat) : Int) < ((RR1.length + 1 : Nat) : Int) from by omega)) ?_
   refine s_val hS14 rfl rfl (r_move rfl (.t rfl rfl)) ?_
   refine s_valg hS14 (wanted_of (j := 5) (b := true) (d := 65) rfl rfl rfl rfl) rfl (r_move rfl (.t rfl rfl)) ?_
   refine s_valg hS14 (wanted_of (j := 5) (b := true) (d := 65) rfl rfl rfl rfl) rfl (r_move rfl (.t rfl rfl)) ?_
   refine s_valg hS14 (wanted_of (j := 5) (b := true) (d := 65) rfl rfl rfl rfl) rfl (r_arith rfl rfl (.t rfl rfl) .c (c := ((c + 1 : Nat) : Int)) (wn_i64 (by show (((c : Nat) : Int) : Int) + 1 = _; omega) (by omega))) ?_
   refine s_valg hS14 (wanted_of (j := 5) (b := true) (d := 65) rfl rfl rfl rfl) rfl (r_ixl (j := c + 1) rfl Try.underlying34 ti3 (.t rfl rfl) (.t rfl rfl) (hP1.sl (by omega) hLd1.pfit) hLd1.plen rfl (by omega)) ?_
   have b1 : ((plcL RR1)).getD (c + 1) 0 ≤ 9223372036854775807 := (hP1.sl (by omega) hLd1.pfit).lt _
   refine s_valg hS14 (wanted_of (j := 5) (b := true) (d := 65) rfl rfl rfl rfl) rfl (r_load rfl one3 (.t rfl rfl) ((hP1.sl (by omega) hLd1.pfit).cell_p (i := 5) rfl (by omega))) ?_
   refine s_valg hS14 (wanted_of (j := 5) (b := true) (d := 65) rfl rfl rfl rfl) rfl (r_move rfl (.t rfl rfl)) ?_
   by_cases hle : ((plcL RR1)).getD (c + 1) 0 ≤ k1
   ·
    refine s_valg hS14 (wanted_of (j := 5) (b := true) (d := 65) rfl rfl rfl rfl) rfl (r_cmp_t rfl rfl (.t rfl rfl) (.t rfl rfl) (show ((((plcL RR1)).getD (c + 1) 0 : Nat) : Int) ≤ ((k1 : Nat) : Int) from by omega)) ?_
    refine s_val hS14 rfl rfl (r_pick rfl (.t rfl rfl) (.t rfl rfl)) ?_
    refine wpList_nil ?_
    refine x_tn ?_
    refine k_reb [(2, .bool false), (4, .slice oa1 RR1.length oc1), (5, .slice pa1 (RR1.length + 1) pc1), (6, .slice ra1 ((logL RR1).length) rc1), (8, .int .i64 (((k1 : Nat) : Int))), (10, .slice oa2 ((RR1.take q1).length) oc2), (11, .int .i64 0), (12, .slice ra2 ((logL (RR1.take q1)).length) rc2), (13, .int .i64 0), (14, .int .i64 (((c : Nat) : Int))), (73, .bool true)] ⟨rfl, rfl, rfl, rfl, rfl, rfl, rfl, rfl, rfl, rfl, rfl, trivial⟩ fun G12 => ?_
    refine k_t (.t rfl rfl) ?_
    refine wp_skip ?_
    refine x_tn ?_
    refine k_reb [(2, .bool false), (4, .slice oa1 RR1.length oc1), (5, .slice pa1 (RR1.length + 1) pc1), (6, .slice ra1 ((logL RR1).length) rc1), (8, .int .i64 (((k1 : Nat) : Int))), (10, .slice oa2 ((RR1.take q1).length) oc2), (11, .int .i64 0), (12, .slice ra2 ((logL (RR1.take q1)).length) rc2), (13, .int .i64 0), (14, .int .i64 (((c : Nat) : Int)))] ⟨rfl, rfl, rfl, rfl, rfl, rfl, rfl, rfl, rfl, rfl, trivial⟩ fun G13 => ?_
    refine wp_block ?_
    refine k_reg ?_
    refine s_val hS14 rfl rfl (r_move rfl (.t rfl rfl)) ?_
    refine s_val hS14 rfl rfl (r_arith rfl rfl (.t rfl rfl) .c (c := ((c + 1 : Nat) : Int)) (wn_i64 (by show (((c : Nat) : Int) : Int) + 1 = _; omega) (by omega))) ?_
    refine s_val hS14 rfl rfl (r_assign rfl (.t rfl rfl)) ?_
    refine wpList_nil ?_
    refine x_bn ?_
    refine x_tn ?_
    refine ⟨RR1.length - (c + 1), by omega, _, c + 1, fr_reb _ ⟨rfl, rfl, rfl, rfl, rfl, rfl, rfl, rfl, rfl, rfl, trivial⟩, hS14, ?_⟩
    exact ⟨by omega, by omega, .inl (by rw [← plcL_get (by omega)]; exact hle)⟩
   ·
    refine s_valg hS14 (wanted_of (j := 5) (b := true) (d := 65) rfl rfl rfl rfl) rfl (r_cmp_f rfl rfl (.t rfl rfl) (.t rfl rfl) (show ¬ (((((plcL RR1)).getD (c + 1) 0 : Nat) : Int) ≤ ((k1 : Nat) : Int)) from by omega)) ?_
    refine s_val hS14 rfl rfl (r_pick rfl (.t rfl rfl) (.t rfl rfl)) ?_
    refine wpList_nil ?_
    refine x_tn ?_
    refine k_reb [(2, .bool false), (4, .slice oa1 RR1.length oc1), (5, .slice pa1 (RR1.length + 1) pc1), (6, .slice ra1 ((logL RR1).length) rc1), (8, .int .i64 (((k1 : Nat) : Int))), (10, .slice oa2 ((RR1.take q1).length) oc2), (11, .int .i64 0), (12, .slice ra2 ((logL (RR1.take q1)).length) rc2), (13, .int .i64 0), (14, .int .i64 (((c : Nat) : Int))), (73, .bool false)] ⟨rfl, rfl, rfl, rfl, rfl, rfl, rfl, rfl, rfl, rfl, rfl, trivial⟩ fun G14 => ?_
    refine k_f (.t rfl rfl) ?_
    refine wp_exit ?_
    refine x_te ?_
    refine x_te ?_
    refine x_be ?_
    refine x_tn ?_
    refine k_reb [(2, .bool false), (4, .slice oa1 RR1.length oc1), (5, .slice pa1 (RR1.length + 1) pc1), (6, .slice ra1 ((logL RR1).length) rc1), (10, .slice oa2 ((RR1.take q1).length) oc2), (11, .int .i64 0), (12, .slice ra2 ((logL (RR1.take q1)).length) rc2), (13, .int .i64 0), (14, .int .i64 (((c : Nat) : Int)))] ⟨rfl, rfl, rfl, rfl, rfl, rfl, rfl, rfl, rfl, trivial⟩ fun G15 => ?_
    refine wp_seq ?_
    refine k_reg ?_
    have hcq : c = q1 := cut_same hq1 hqa1 hqb1 hc hcn (fun hlt => by rw [← plcL_get (by omega)]; omega)
    refine s_val hS14 rfl rfl (r_move rfl (.t rfl rfl)) ?_
    refine s_call rfl rfl rfl (vs := [.int .i64 0]) ⟨(.t rfl rfl), trivial⟩ cb16 (num_ok w9 0) ?_
    rintro _ w9 ⟨rfl, rfl⟩
    refine s_val hS14 rfl rfl (r_cmp_t rfl rfl (.t rfl rfl) .c (show 0 = 0 from by omega)) ?_
    refine s_val hS14 rfl rfl (r_move rfl (.t rfl rfl)) ?_
    refine s_valg hS14 (wanted_of (j := 3) (b := true) (d := 79) rfl rfl rfl rfl) rfl (r_move rfl (.t rfl rfl)) ?_
    refine s_callg (wanted_of (j := 3) (b := true) (d := 79) rfl rfl rfl rfl) rfl rfl (vs := [.int .i64 0]) ⟨(.t rfl rfl), trivial⟩ cb16 (num_ok w9 0) ?_
    rintro _ w9 ⟨rfl, rfl⟩
    refine s_valg hS14 (wanted_of (j := 3) (b := true) (d := 79) rfl rfl rfl rfl) rfl (r_cmp_t rfl rfl (.t rfl rfl) .c (show 0 = 0 from by omega)) ?_
    refine s_val hS14 rfl rfl (r_pick rfl (.t rfl rfl) (.t rfl rfl)) ?_
    refine s_val hS14 rfl rfl (r_move rfl (.t rfl rfl)) ?_
    refine s_valg hS14 (wanted_of (j := 8) (b := true) (d := 84) rfl rfl rfl rfl) rfl (r_move rfl (.t rfl rfl)) ?_
    refine s_valg hS14 (wanted_of (j := 8) (b := true) (d := 84) rfl rfl rfl rfl) rfl (r_move rfl (.t rfl rfl)) ?_
    refine s_valg hS14 (wanted_of (j := 8) (b := true) (d := 84) rfl rfl rfl rfl) rfl (r_move rfl (.t rfl rfl)) ?_
    obtain ⟨us1, hw1⟩ := hO1.sl R2.mono (by first | omega | (simp; done))
    have hw2 := hw1.take (n := c)
    have hq2 := (hw1).le
    refine s_valg hS14 (wanted_of (j := 8) (b := true) (d := 84) rfl rfl rfl rfl) rfl (Rn.asSl (ad' := oa1) (p' := (RR1.take c).length) (q' := oc1) rfl (by rw [List.length_take]; omega) rfl (r_cut0 rfl Try.underlying30 ti56 (.t rfl rfl) (hh := c) (.s (.t rfl rfl)) .n (by omega) (by first | omega | exact Nat.le_refl _))) ?_
    obtain ⟨us2, hw3⟩ := hO2.sl R2.mono (by omega)
    refine s_callg (wanted_of (j := 8) (b := true) (d := 84) rfl rfl rfl rfl) rfl rfl (vs := [.slice oa2 ((RR1.take q1).length) oc2, .slice oa1 ((RR1.take c).length) oc1]) ⟨(.t rfl rfl), (.t rfl rfl), trivial⟩ cb23 (eqRows_ok w9 oa2 oc2 _ (RR1.take q1) sg4 hw3 (Old.of_piece (i := 7) (xs := []) [] hS14 rfl rfl (by decide)) oa1 oc1 _ (RR1.take c) sg1 hw2 (Old.of_piece (i := 4) (xs := []) [] hS14 rfl rfl (by decide)) ) ?_
    rintro _ w10 ⟨rfl, ht8⟩
    have hS15 : St w0 [] (fl [[(blk1, .cells #[.slice aPL PL.length cPL, .int .i64 x, .int .i64 y, .int .u8 (((by_ : Nat) : Int))] 32 (0, 0))], (pk d1 m1 D3), [(l1, .cells #[.pointer (some ⟨d1, 0, none⟩), .string (⟨#[106]⟩), .int .i64 ((((lg (RR1.take q1)).size : Nat) : Int)), .int .i64 ((((lg (RR1.take q1)).count : Nat) : Int)), .bool ((lg (RR1.take q1)).off)] 92 (0, 0))], sm3, sg1, sg2, sg3, sg4, sg5]) w10 := hS14.callL (xs := []) (xs' := []) (zs := []) [] rfl (by decide) ht8 rfl rfl
    by_cases he1 : (RR1.take q1) = (RR1.take c)
    ·
     refine s_asb (b' := true) (decide_eq_true he1) ?_
     refine s_val hS15 rfl rfl (r_pick rfl (.t rfl rfl) (.t rfl rfl)) ?_
     refine s_val hS15 rfl rfl (r_move rfl (.t rfl rfl)) ?_
     refine s_valg hS15 (wanted_of (j := 15) (b := true) (d := 91) rfl rfl rfl rfl) rfl (r_move rfl (.t rfl rfl)) ?_
     refine s_valg hS15 (wanted_of (j := 15) (b := true) (d := 91) rfl rfl rfl rfl) rfl (r_move rfl (.t rfl rfl)) ?_
     refine s_valg hS15 (wanted_of (j := 15) (b := true) (d := 91) rfl rfl rfl rfl) rfl (r_move rfl (.t rfl rfl)) ?_
     refine s_valg hS15 (wanted_of (j := 15) (b := true) (d := 91) rfl rfl rfl rfl) rfl (r_move rfl (.t rfl rfl)) ?_
     refine s_valg hS15 (wanted_of (j := 15) (b := true) (d := 91) rfl rfl rfl rfl) rfl (r_ixl (j := c) rfl Try.underlying34 ti3 (.t rfl rfl) (.t rfl rfl) (hP1.sl (by omega) hLd1.pfit) hLd1.plen rfl (by omega)) ?_
     have b2 : ((plcL RR1)).getD c 0 ≤ 9223372036854775807 := (hP1.sl (by omega) hLd1.pfit).lt _
     refine s_valg hS15 (wanted_of (j := 15) (b := true) (d := 91) rfl rfl rfl rfl) rfl (r_load rfl one3 (.t rfl rfl) ((hP1.sl (by omega) hLd1.pfit).cell_p (i := 5) rfl (by omega))) ?_
     have hpg := plcL_get (RR := RR1) (i := c) hc
     have hpb := plc_le (RR := RR1) (i := c) hc
     have hq3 := ((hG1.sl (by omega) (hLd1.lv.file hLd1.at_).2.2.2.2.1)).le
     have hx1 : Sl .u8 ra1 rc1 (((logL RR1)).take (((plcL RR1)).getD c 0)) sg3 := (hG1.sl (by omega) (hLd1.lv.file hLd1.at_).2.2.2.2.1).take_ (by omega) (by omega) (by omega)
     have hn1 : (((logL RR1)).take (((plcL RR1)).getD c 0)).length = ((plcL RR1)).getD c 0 := by rw [List.length_take]; omega
     refine s_valg hS15 (wanted_of (j := 15) (b := true) (d := 91) rfl rfl rfl rfl) rfl (Rn.asSl (ad' := ra1) (p' := (((logL RR1)).take (((plcL RR1)).getD c 0)).length) (q' := rc1) (by simp [cutA]) (by omega) (by omega) (r_cutl rfl Try.underlying22 ti5 (.t rfl rfl) (hG1.sl (by omega) (hLd1.lv.file hLd1.at_).2.2.2.2.1) rfl .n (.s (.t rfl rfl)) .n (lw := 0) (hh := ((plcL RR1)).getD c 0) (m := rc1) (by omega) (by omega) (by omega) (by omega))) ?_
     refine s_callg (wanted_of (j := 15) (b := true) (d := 91) rfl rfl rfl rfl) rfl rfl (vs := [.slice ra2 ((logL (RR1.take q1)).length) rc2, .slice ra1 ((((logL RR1)).take (((plcL RR1)).getD c 0)).length) rc1]) ⟨(.t rfl rfl), (.t rfl rfl), trivial⟩ cb20 (Eq_ok w10 ra2 rc2 (logL (RR1.take q1)) sg5 (hG2.sl (by omega) (hup2.lv.file hup2.at_).2.2.2.2.1) (Old.of_piece (i := 8) (xs := []) [] hS15 rfl rfl (by decide)) ra1 rc1 (((logL RR1)).take (((plcL RR1)).getD c 0)) sg3 hx1 (Old.of_piece (i := 6) (xs := []) [] hS15 rfl rfl (by decide)) ) ?_
     rintro _ w11 ⟨rfl, ht9⟩
     have hS16 : St w0 [] (fl [[(blk1, .cells #[.slice aPL PL.length cPL, .int .i64 x, .int .i64 y, .int .u8 (((by_ : Nat) : Int))] 32 (0, 0))], (pk d1 m1 D3), [(l1, .cells #[.pointer (some ⟨d1, 0, none⟩), .string (⟨#[106]⟩), .int .i64 ((((lg (RR1.take q1)).size : Nat) : Int)), .int .i64 ((((lg (RR1.take q1)).count : Nat) : Int)), .bool ((lg (RR1.take q1)).off)] 92 (0, 0))], sm3, sg1, sg2, sg3, sg4, sg5]) w11 := hS15.callL (xs := []) (xs' := []) (zs := []) [] rfl (by decide) ht9 rfl rfl
     by_cases he2 : (logL (RR1.take q1)) = (((logL RR1)).take (((plcL RR1)).getD c 0))
     ·
      refine s_asb (b' := true) (decide_eq_true he2) ?_
      refine s_val hS16 rfl rfl (r_pick rfl (.t rfl rfl) (.t rfl rfl)) ?_
      refine s_val hS16 rfl rfl (r_move rfl (.t rfl rfl)) ?_
      refine s_callg (wanted_of (j := 25) (b := true) (d := 101) rfl rfl rfl rfl) rfl rfl (vs := []) trivial cb12 (works_ok w11  ) ?_
      rintro _ w12 ⟨rfl, ht10⟩
      have hS17 : St w0 [] (fl [[(blk1, .cells #[.slice aPL PL.length cPL, .int .i64 x, .int .i64 y, .int .u8 (((by_ : Nat) : Int))] 32 (0, 0))], (pk d1 m1 D3), [(l1, .cells #[.pointer (some ⟨d1, 0, none⟩), .string (⟨#[106]⟩), .int .i64 ((((lg (RR1.take q1)).size : Nat) : Int)), .int .i64 ((((lg (RR1.take q1)).count : Nat) : Int)), .bool ((lg (RR1.take q1)).off)] 92 (0, 0))], sm3, sg1, sg2, sg3, sg4, sg5]) w12 := hS16.callL (xs := []) (xs' := []) (zs := []) [] rfl (by decide) ht10 rfl rfl
      refine s_val hS17 rfl rfl (r_pick rfl (.t rfl rfl) (.t rfl rfl)) ?_
      refine s_val hS17 rfl rfl (r_assign rfl (.t rfl rfl)) ?_
      refine wpList_nil ?_
      refine x_tn ?_
      refine k_reb [(2, .bool true)] ⟨rfl, trivial⟩ fun G16 => ?_
      refine wp_ret ?_
      refine k_ret1 Try.results5 rfl rfl ?_
      refine ⟨_, rfl, ?_⟩
      have hS18 : St w0 [] (fl []) w12 := hS17.pick [] rfl (by decide)
      exact ⟨rfl, hS18⟩
     ·
      exact absurd (by rw [hpg, logL_take, hcq]) he2
    ·
     exact absurd (by rw [hcq]) he1
  ·
   refine s_val hS14 rfl rfl (r_cmp_f rfl rfl (.t rfl rfl) (.t rfl rfl) (show ¬ (((c + 1 : Nat) : Int) < ((RR1.length + 1 : Nat) : Int)) from by omega)) ?_
   refine s_val hS14 rfl rfl (r_move rfl (.t rfl rfl)) ?_
   refine s_skip (unwanted_of (j := 5) (b := true) (b' := false) (d := 65) rfl rfl rfl rfl rfl) rfl ?_
   refine s_skip (unwanted_of (j := 5) (b := true) (b' := false) (d := 65) rfl rfl rfl rfl rfl) rfl ?_
   refine s_skip (unwanted_of (j := 5) (b := true) (b' := false) (d := 65) rfl rfl rfl rfl rfl) rfl ?_
   refine s_skip (unwanted_of (j := 5) (b := true) (b' := false) (d := 65) rfl rfl rfl rfl rfl) rfl ?_
   refine s_skip (unwanted_of (j := 5) (b := true) (b' := false) (d := 65) rfl rfl rfl rfl rfl) rfl ?_
   refine s_skip (unwanted_of (j := 5) (b := true) (b' := false) (d := 65) rfl rfl rfl rfl rfl) rfl ?_
   refine s_skip (unwanted_of (j := 5) (b := true) (b' := false) (d := 65) rfl rfl rfl rfl rfl) rfl ?_
   refine s_val hS14 rfl rfl (r_pick rfl (.t rfl rfl) .c) ?_
   refine wpList_nil ?_
   refine x_tn ?_
   refine k_reb [(2, .bool false), (4, .slice oa1 RR1.length oc1), (5, .slice pa1 (RR1.length + 1) pc1), (6, .slice ra1 ((logL RR1).length) rc1), (8, .int .i64 (((k1 : Nat) : Int))), (10, .slice oa2 ((RR1.take q1).length) oc2), (11, .int .i64 0), (12, .slice ra2 ((logL (RR1.take q1)).length) rc2), (13, .int .i64 0), (14, .int .i64 (((c : Nat) : Int))), (73, .bool false)] ⟨rfl, rfl, rfl, rfl, rfl, rfl, rfl, rfl, rfl, rfl, rfl, trivial⟩ fun G17 => ?_
   refine k_f (.t rfl rfl) ?_
   refine wp_exit ?_
   refine x_te ?_
   refine x_te ?_
   refine x_be ?_
   refine x_tn ?_
   refine k_reb [(2, .bool false), (4, .slice oa1 RR1.length oc1), (5, .slice pa1 (RR1.length + 1) pc1), (6, .slice ra1 ((logL RR1).length) rc1), (10, .slice oa2 ((RR1.take q1).length) oc2), (11, .int .i64 0), (12, .slice ra2 ((logL (RR1.take q1)).length) rc2), (13, .int .i64 0), (14, .int .i64 (((c : Nat) : Int)))] ⟨rfl, rfl, rfl, rfl, rfl, rfl, rfl, rfl, rfl, trivial⟩ fun G18 => ?_
   refine wp_seq ?_
   refine k_reg ?_
   have hcq : c = q1 := cut_same hq1 hqa1 hqb1 hc hcn (fun hlt => by omega)
   refine s_val hS14 rfl rfl (r_move rfl (.t rfl rfl)) ?_
   refine s_call rfl rfl rfl (vs := [.int .i64 0]) ⟨(.t rfl rfl), trivial⟩ cb16 (num_ok w9 0) ?_
   rintro _ w9 ⟨rfl, rfl⟩
   refine s_val hS14 rfl rfl (r_cmp_t rfl rfl (.t rfl rfl) .c (show 0 = 0 from by omega)) ?_
   refine s_val hS14 rfl rfl (r_move rfl (.t rfl rfl)) ?_
   refine s_valg hS14 (wanted_of (j := 3) (b := true) (d := 79) rfl rfl rfl rfl) rfl (r_move rfl (.t rfl rfl)) ?_
   refine s_callg (wanted_of (j := 3) (b := true) (d := 79) rfl rfl rfl rfl) rfl rfl (vs := [.int .i64 0]) ⟨(.t rfl rfl), trivial⟩ cb16 (num_ok w9 0) ?_
   rintro _ w9 ⟨rfl, rfl⟩
   refine s_valg hS14 (wanted_of (j := 3) (b := true) (d := 79) rfl rfl rfl rfl) rfl (r_cmp_t rfl rfl (.t rfl rfl) .c (show 0 = 0 from by omega)) ?_
   refine s_val hS14 rfl rfl (r_pick rfl (.t rfl rfl) (.t rfl rfl)) ?_
   refine s_val hS14 rfl rfl (r_move rfl (.t rfl rfl)) ?_
   refine s_valg hS14 (wanted_of (j := 8) (b := true) (d := 84) rfl rfl rfl rfl) rfl (r_move rfl (.t rfl rfl)) ?_
   refine s_valg hS14 (wanted_of (j := 8) (b := true) (d := 84) rfl rfl rfl rfl) rfl (r_move rfl (.t rfl rfl)) ?_
   refine s_valg hS14 (wanted_of (j := 8) (b := true) (d := 84) rfl rfl rfl rfl) rfl (r_move rfl (.t rfl rfl)) ?_
   obtain ⟨us3, hw4⟩ := hO1.sl R2.mono (by first | omega | (simp; done))
   have hw5 := hw4.take (n := c)
   have hq4 := (hw4).le
   refine s_valg hS14 (wanted_of (j := 8) (b := true) (d := 84) rfl rfl rfl rfl) rfl (Rn.asSl (ad' := oa1) (p' := (RR1.take c).length) (q' := oc1) rfl (by rw [List.length_take]; omega) rfl (r_cut0 rfl Try.underlying30 ti56 (.t rfl rfl) (hh := c) (.s (.t rfl rfl)) .n (by omega) (by first | omega | exact Nat.le_refl _))) ?_
   obtain ⟨us4, hw6⟩ := hO2.sl R2.mono (by omega)
   refine s_callg (wanted_of (j := 8) (b := true) (d := 84) rfl rfl rfl rfl) rfl rfl (vs := [.slice oa2 ((RR1.take q1).length) oc2, .slice oa1 ((RR1.take c).length) oc1]) ⟨(.t rfl rfl), (.t rfl rfl), trivial⟩ cb23 (eqRows_ok w9 oa2 oc2 _ (RR1.take q1) sg4 hw6 (Old.of_piece (i := 7) (xs := []) [] hS14 rfl rfl (by decide)) oa1 oc1 _ (RR1.take c) sg1 hw5 (Old.of_piece (i := 4) (xs := []) [] hS14 rfl rfl (by decide)) ) ?_
   rintro _ w13 ⟨rfl, ht11⟩
   have hS19 : St w0 [] (fl [[(blk1, .cells #[.slice aPL PL.length cPL, .int .i64 x, .int .i64 y, .int .u8 (((by_ : Nat) : Int))] 32 (0, 0))], (pk d1 m1 D3), [(l1, .cells #[.pointer (some ⟨d1, 0, none⟩), .string (⟨#[106]⟩), .int .i64 ((((lg (RR1.take q1)).size : Nat) : Int)), .int .i64 ((((lg (RR1.take q1)).count : Nat) : Int)), .bool ((lg (RR1.take q1)).off)] 92 (0, 0))], sm3, sg1, sg2, sg3, sg4, sg5]) w13 := hS14.callL (xs := []) (xs' := []) (zs := []) [] rfl (by decide) ht11 rfl rfl
   by_cases he1 : (RR1.take q1) = (RR1.take c)
   ·
    refine s_asb (b' := true) (decide_eq_true he1) ?_
    refine s_val hS19 rfl rfl (r_pick rfl (.t rfl rfl) (.t rfl rfl)) ?_
    refine s_val hS19 rfl rfl (r_move rfl (.t rfl rfl)) ?_
    refine s_valg hS19 (wanted_of (j := 15) (b := true) (d := 91) rfl rfl rfl rfl) rfl (r_move rfl (.t rfl rfl)) ?_
    refine s_valg hS19 (wanted_of (j := 15) (b := true) (d := 91) rfl rfl rfl rfl) rfl (r_move rfl (.t rfl rfl)) ?_
    refine s_valg hS19 (wanted_of (j := 15) (b := true) (d := 91) rfl rfl rfl rfl) rfl (r_move rfl (.t rfl rfl)) ?_
    refine s_valg hS19 (wanted_of (j := 15) (b := true) (d := 91) rfl rfl rfl rfl) rfl (r_move rfl (.t rfl rfl)) ?_
    refine s_valg hS19 (wanted_of (j := 15) (b := true) (d := 91) rfl rfl rfl rfl) rfl (r_ixl (j := c) rfl Try.underlying34 ti3 (.t rfl rfl) (.t rfl rfl) (hP1.sl (by omega) hLd1.pfit) hLd1.plen rfl (by omega)) ?_
    have b3 : ((plcL RR1)).getD c 0 ≤ 9223372036854775807 := (hP1.sl (by omega) hLd1.pfit).lt _
    refine s_valg hS19 (wanted_of (j := 15) (b := true) (d := 91) rfl rfl rfl rfl) rfl (r_load rfl one3 (.t rfl rfl) ((hP1.sl (by omega) hLd1.pfit).cell_p (i := 5) rfl (by omega))) ?_
    have hpg := plcL_get (RR := RR1) (i := c) hc
    have hpb := plc_le (RR := RR1) (i := c) hc
    have hq5 := ((hG1.sl (by omega) (hLd1.lv.file hLd1.at_).2.2.2.2.1)).le
    have hx2 : Sl .u8 ra1 rc1 (((logL RR1)).take (((plcL RR1)).getD c 0)) sg3 := (hG1.sl (by omega) (hLd1.lv.file hLd1.at_).2.2.2.2.1).take_ (by omega) (by omega) (by omega)
    have hn2 : (((logL RR1)).take (((plcL RR1)).getD c 0)).length = ((plcL RR1)).getD c 0 := by rw [List.length_take]; omega
    refine s_valg hS19 (wanted_of (j := 15) (b := true) (d := 91) rfl rfl rfl rfl) rfl (Rn.asSl (ad' := ra1) (p' := (((logL RR1)).take (((plcL RR1)).getD c 0)).length) (q' := rc1) (by simp [cutA]) (by omega) (by omega) (r_cutl rfl Try.underlying22 ti5 (.t rfl rfl) (hG1.sl (by omega) (hLd1.lv.file hLd1.at_).2.2.2.2.1) rfl .n (.s (.t rfl rfl)) .n (lw := 0) (hh := ((plcL RR1)).getD c 0) (m := rc1) (by omega) (by omega) (by omega) (by omega))) ?_
    refine s_callg (wanted_of (j := 15) (b := true) (d := 91) rfl rfl rfl rfl) rfl rfl (vs := [.slice ra2 ((logL (RR1.take q1)).length) rc2, .slice ra1 ((((logL RR1)).take (((plcL RR1)).getD c 0)).length) rc1]) ⟨(.t rfl rfl), (.t rfl rfl), trivial⟩ cb20 (Eq_ok w13 ra2 rc2 (logL (RR1.take q1)) sg5 (hG2.sl (by omega) (hup2.lv.file hup2.at_).2.2.2.2.1) (Old.of_piece (i := 8) (xs := []) [] hS19 rfl rfl (by decide)) ra1 rc1 (((logL RR1)).take (((plcL RR1)).getD c 0)) sg3 hx2 (Old.of_piece (i := 6) (xs := []) [] hS19 rfl rfl (by decide)) ) ?_
    rintro _ w14 ⟨rfl, ht12⟩
    have hS20 : St w0 [] (fl [[(blk1, .cells #[.slice aPL PL.length cPL, .int .i64 x, .int .i64 y, .int .u8 (((by_ : Nat) : Int))] 32 (0, 0))], (pk d1 m1 D3), [(l1, .cells #[.pointer (some ⟨d1, 0, none⟩), .string (⟨#[106]⟩), .int .i64 ((((lg (RR1.take q1)).size : Nat) : Int)), .int .i64 ((((lg (RR1.take q1)).count : Nat) : Int)), .bool ((lg (RR1.take q1)).off)] 92 (0, 0))], sm3, sg1, sg2, sg3, sg4, sg5]) w14 := hS19.callL (xs := []) (xs' := []) (zs := []) [] rfl (by decide) ht12 rfl rfl
    by_cases he2 : (logL (RR1.take q1)) = (((logL RR1)).take (((plcL RR1)).getD c 0))
    ·
     refine s_asb (b' := true) (decide_eq_true he2) ?_
     refine s_val hS20 rfl rfl (r_pick rfl (.t rfl rfl) (.t rfl rfl)) ?_
     refine s_val hS20 rfl rfl (r_move rfl (.t rfl rfl)) ?_
     refine s_callg (wanted_of (j := 25) (b := true) (d := 101) rfl rfl rfl rfl) rfl rfl (vs := []) trivial cb12 (works_ok w14  ) ?_
     rintro _ w15 ⟨rfl, ht13⟩
     have hS21 : St w0 [] (fl [[(blk1, .cells #[.slice aPL PL.length cPL, .int .i64 x, .int .i64 y, .int .u8 (((by_ : Nat) : Int))] 32 (0, 0))], (pk d1 m1 D3), [(l1, .cells #[.pointer (some ⟨d1, 0, none⟩), .string (⟨#[106]⟩), .int .i64 ((((lg (RR1.take q1)).size : Nat) : Int)), .int .i64 ((((lg (RR1.take q1)).count : Nat) : Int)), .bool ((lg (RR1.take q1)).off)] 92 (0, 0))], sm3, sg1, sg2, sg3, sg4, sg5]) w15 := hS20.callL (xs := []) (xs' := []) (zs := []) [] rfl (by decide) ht13 rfl rfl
     refine s_val hS21 rfl rfl (r_pick rfl (.t rfl rfl) (.t rfl rfl)) ?_
     refine s_val hS21 rfl rfl (r_assign rfl (.t rfl rfl)) ?_
     refine wpList_nil ?_
     refine x_tn ?_
     refine k_reb [(2, .bool true)] ⟨rfl, trivial⟩ fun G19 => ?_
     refine wp_ret ?_
     refine k_ret1 Try.results5 rfl rfl ?_
     refine ⟨_, rfl, ?_⟩
     have hS22 : St w0 [] (fl []) w15 := hS21.pick [] rfl (by decide)
     exact ⟨rfl, hS22⟩
    ·
     exact absurd (by rw [hpg, logL_take, hcq]) he2
   ·
    exact absurd (by rw [hcq]) he1

end Go.Proofs.Ytdmiklegahdafaa

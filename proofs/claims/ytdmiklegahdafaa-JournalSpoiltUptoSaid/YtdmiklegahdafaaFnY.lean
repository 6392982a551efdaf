/- Contracts of functions of the program, each walked once. -/
import Derived.Test.YtdmiklegahdafaaFnX
namespace Go.Proofs.Ytdmiklegahdafaa
open Go Go.RowKit K
namespace FY
theorem mixed : Try.prog.follows .mixedOrders = true := by kernel_rfl
theorem cb12 : callable Try.prog 12 = true := by kernel_rfl
theorem cb13 : callable Try.prog 13 = true := by kernel_rfl
theorem cb14 : callable Try.prog 14 = true := by kernel_rfl
theorem cb15 : callable Try.prog 15 = true := by kernel_rfl
theorem cb16 : callable Try.prog 16 = true := by kernel_rfl
theorem cb17 : callable Try.prog 17 = true := by kernel_rfl
theorem cb18 : callable Try.prog 18 = true := by kernel_rfl
theorem cb19 : callable Try.prog 19 = true := by kernel_rfl
theorem cb20 : callable Try.prog 20 = true := by kernel_rfl
theorem cb21 : callable Try.prog 21 = true := by kernel_rfl
theorem cb22 : callable Try.prog 22 = true := by kernel_rfl
theorem cb23 : callable Try.prog 23 = true := by kernel_rfl
theorem one3 : One Try.prog 3 = true := by kernel_rfl
theorem one30 : One Try.prog 30 = true := by kernel_rfl
theorem one5 : One Try.prog 5 = true := by kernel_rfl
theorem ti3 : (Try.prog.info? 3).map (fun i => (i.zero, i.size, i.bytes)) = some (some (.int .i64 0), 1, 8) := by kernel_rfl
theorem ti30 : (Try.prog.info? 30).map (fun i => (i.zero, i.size, i.bytes)) = some (some (.slice none 0 0), 1, 24) := by kernel_rfl
theorem ti5 : (Try.prog.info? 5).map (fun i => (i.zero, i.size, i.bytes)) = some (some (.int .u8 0), 1, 1) := by kernel_rfl
theorem ti56 : (Try.prog.info? 56).map (fun i => (i.zero, i.size, i.bytes)) = some (some (.slice none 0 0), 1, 24) := by kernel_rfl

end FY
open FY
attribute [local irreducible] Go.wpList Go.wpQuiet Go.wpStill Go.wpAny Go.Code.wp
set_option maxRecDepth 10000
set_option maxHeartbeats 8000000
set_option linter.unusedVariables false
set_option linter.unusedSimpArgs false
theorem JournalSpoilt_ok (w0 : World) (aPL : Option Addr) (cPL : Nat) (uPL : List Value) (PL : List (List (List Nat))) (vPL : Hp) (hPL : RwV R2 aPL cPL uPL PL vPL) (oPL : Old w0 [] vPL) (x y : Int) (by_ : Nat) (hPr : ∀ LL ∈ PL, ∀ r ∈ LL, r.length ≤ 1000000000000) (hx : -9223372036854775808 ≤ x ∧ x ≤ 9223372036854775807) (hy : -9223372036854775808 ≤ y ∧ y ≤ 9223372036854775807) (hb : by_ ≤ 255) :
  Calls Try.prog 4 #[.agg #[.slice aPL PL.length cPL, .int .i64 x, .int .i64 y, .int .u8 (((by_ : Nat) : Int))]] w0 (Ret fun v w' => v = .bool true ∧ St w0 [] (fl []) w') := by
 refine k_enter (vs := [.agg #[.slice aPL PL.length cPL, .int .i64 x, .int .i64 y, .int .u8 (((by_ : Nat) : Int))]]) Try.func4 rfl Try.ntmps4 rfl ?_
 have hS : St w0 [] (fl []) w0 := St.init w0
 refine wp_seq ?_
 refine k_reg ?_
 refine s_box rfl rfl rfl (.t rfl rfl) (cs := #[.slice aPL PL.length cPL, .int .i64 x, .int .i64 y, .int .u8 (((by_ : Nat) : Int))]) rfl hS fun blk1 w1 hb1 hB1 hS1 => ?_
 have hS2 : St w0 [] (fl [[(blk1, .cells #[.slice aPL PL.length cPL, .int .i64 x, .int .i64 y, .int .u8 (((by_ : Nat) : Int))] 32 (0, 0))]]) w1 := hS1.push 0 rfl
 refine s_val hS2 rfl rfl (r_assign rfl .c) ?_
 refine wpList_nil ?_
 refine x_tn ?_
 refine k_reb [(1, .pointer (some ⟨blk1, 0, none⟩)), (2, .bool false)] ⟨rfl, rfl, trivial⟩ fun G1 => ?_
 refine wp_seq ?_
 refine k_reg ?_
 refine s_val hS2 rfl rfl (r_fieldN rfl Try.underlying32 rfl ti30 (by decide) (.t rfl rfl) (qq := 0) rfl) ?_
 refine s_val hS2 rfl rfl (r_load rfl one30 (.t rfl rfl) (St.cell_own (m := 0) rfl rfl)) ?_
 refine s_call rfl rfl rfl (vs := [.slice aPL PL.length cPL]) ⟨(.t rfl rfl), trivial⟩ cb14 (laidlog_ok w1 aPL cPL _ PL vPL hPL (Old.of_old (xs := []) [] oPL hS2 rfl (by decide)) hPr ) ?_
 rintro _ w2 ⟨d1, m1, D1, sm1, RR1, ks1, oa1, oc1, sg1, pa1, pc1, sg2, hLd1, hM1, rfl, hO1, hP1, ht1⟩
 have hS4 : St w0 [] (fl [[(blk1, .cells #[.slice aPL PL.length cPL, .int .i64 x, .int .i64 y, .int .u8 (((by_ : Nat) : Int))] 32 (0, 0))], (pk d1 m1 D1), sm1, sg1, sg2]) w2 := hS2.callL (xs := []) (xs' := []) (zs := [(pk d1 m1 D1), sm1, sg1, sg2]) [] rfl (by decide) ht1 rfl rfl
 have hS5 : St w0 [] (fl [[(blk1, .cells #[.slice aPL PL.length cPL, .int .i64 x, .int .i64 y, .int .u8 (((by_ : Nat) : Int))] 32 (0, 0))], (pk d1 m1 D1), sm1, sg1, sg2]) w2 := hS4.pick [0, 1, 2, 3, 4] rfl (by decide)
 have hu1 := hLd1.ks
 have hu2 := hLd1.tot
 have hu3 := hLd1.room
 have hu4 := hLd1.wr
 have hu5 := hLd1.len
 have hu6 := hLd1.rr
 have hu7 := hLd1.flen
 have hu8 := hLd1.plen
 refine s_val hS5 rfl rfl (r_move rfl (.t rfl rfl)) ?_
 refine s_val hS5 rfl rfl (r_extract rfl (.t rfl rfl) rfl) ?_
 refine s_val hS5 rfl rfl (r_extract rfl (.t rfl rfl) rfl) ?_
 refine s_val hS5 rfl rfl (r_extract rfl (.t rfl rfl) rfl) ?_
 refine s_val hS5 rfl rfl (r_assign rfl (.t rfl rfl)) ?_
 refine s_val hS5 rfl rfl (r_assign rfl (.t rfl rfl)) ?_
 refine s_val hS5 rfl rfl (r_assign rfl (.t rfl rfl)) ?_
 refine wpList_nil ?_
 refine x_tn ?_
 refine k_reb [(1, .pointer (some ⟨blk1, 0, none⟩)), (2, .bool false), (3, .pointer (some ⟨d1, 0, none⟩)), (4, .slice oa1 RR1.length oc1), (5, .slice pa1 (RR1.length + 1) pc1)] ⟨rfl, rfl, rfl, rfl, rfl, trivial⟩ fun G2 => ?_
 refine wp_seq ?_
 refine wp_seq ?_
 refine k_reg ?_
 refine s_val hS5 rfl rfl (r_move rfl (.t rfl rfl)) ?_
 refine s_val hS5 rfl rfl (r_eqnilp rfl Try.underlying33 (.t rfl rfl) .c rfl) ?_
 refine s_val hS5 rfl rfl (r_move rfl (.t rfl rfl)) ?_
 refine s_callg (wanted_of (j := 2) (b := false) (d := 25) rfl rfl rfl rfl) rfl rfl (vs := []) trivial cb12 (works_ok w2  ) ?_
 rintro _ w3 ⟨rfl, ht2⟩
 have hS6 : St w0 [] (fl [[(blk1, .cells #[.slice aPL PL.length cPL, .int .i64 x, .int .i64 y, .int .u8 (((by_ : Nat) : Int))] 32 (0, 0))], (pk d1 m1 D1), sm1, sg1, sg2]) w3 := hS5.callL (xs := []) (xs' := []) (zs := []) [] rfl (by decide) ht2 rfl rfl
 refine s_valg hS6 (wanted_of (j := 2) (b := false) (d := 25) rfl rfl rfl rfl) rfl (r_lnot rfl (.t rfl rfl)) ?_
 refine s_val hS6 rfl rfl (r_pick rfl (.t rfl rfl) (.t rfl rfl)) ?_
 refine wpList_nil ?_
 refine x_tn ?_
 refine k_reb [(1, .pointer (some ⟨blk1, 0, none⟩)), (2, .bool false), (3, .pointer (some ⟨d1, 0, none⟩)), (4, .slice oa1 RR1.length oc1), (5, .slice pa1 (RR1.length + 1) pc1), (28, .bool false)] ⟨rfl, rfl, rfl, rfl, rfl, rfl, trivial⟩ fun G3 => ?_
 refine k_f (.t rfl rfl) ?_
 refine wp_skip ?_
 refine x_tn ?_
 refine k_reb [(1, .pointer (some ⟨blk1, 0, none⟩)), (2, .bool false), (3, .pointer (some ⟨d1, 0, none⟩)), (4, .slice oa1 RR1.length oc1), (5, .slice pa1 (RR1.length + 1) pc1)] ⟨rfl, rfl, rfl, rfl, rfl, trivial⟩ fun G4 => ?_
 refine wp_seq ?_
 refine k_reg ?_
 refine s_val hS6 rfl rfl (r_move rfl (.t rfl rfl)) ?_
 refine s_call rfl rfl rfl (vs := [.pointer (some ⟨d1, 0, none⟩), .string (⟨#[106]⟩)]) ⟨(.t rfl rfl), .c, trivial⟩ cb15 (Read_lv w3 _ d1 m1 D1 hLd1.lv sm1 hM1 (⟨#[106]⟩ : ByteArray) hLd1.at_ (hS6.give (xs := [(pk d1 m1 D1), sm1]) [1, 2] rfl (by decide))) ?_
 rintro _ w4 ⟨ra1, rc1, sg3, rfl, hG1, ht3⟩
 have hS7 : St w0 [] (fl [[(blk1, .cells #[.slice aPL PL.length cPL, .int .i64 x, .int .i64 y, .int .u8 (((by_ : Nat) : Int))] 32 (0, 0))], (pk d1 m1 D1), sm1, sg1, sg2, sg3]) w4 := hS6.callL (xs := [(pk d1 m1 D1), sm1]) (xs' := [(pk d1 m1 D1), sm1]) (zs := [sg3]) [1, 2] rfl (by decide) ht3 rfl rfl
 refine s_val hS7 rfl rfl (r_move rfl (.t rfl rfl)) ?_
 refine s_val hS7 rfl rfl (r_extract rfl (.t rfl rfl) rfl) ?_
 refine s_val hS7 rfl rfl (r_extract rfl (.t rfl rfl) rfl) ?_
 refine s_val hS7 rfl rfl (r_assign rfl (.t rfl rfl)) ?_
 refine s_val hS7 rfl rfl (r_assign rfl (.t rfl rfl)) ?_
 refine wpList_nil ?_
 refine x_tn ?_
 refine k_reb [(1, .pointer (some ⟨blk1, 0, none⟩)), (2, .bool false), (3, .pointer (some ⟨d1, 0, none⟩)), (4, .slice oa1 RR1.length oc1), (5, .slice pa1 (RR1.length + 1) pc1), (6, .slice ra1 ((logL RR1).length) rc1), (7, .int .i64 0)] ⟨rfl, rfl, rfl, rfl, rfl, rfl, rfl, trivial⟩ fun G5 => ?_
 refine wp_seq ?_
 refine wp_seq ?_
 refine k_reg ?_
 refine s_val hS7 rfl rfl (r_move rfl (.t rfl rfl)) ?_
 refine s_call rfl rfl rfl (vs := [.int .i64 0]) ⟨(.t rfl rfl), trivial⟩ cb16 (num_ok w4 0) ?_
 rintro _ w4 ⟨rfl, rfl⟩
 refine s_val hS7 rfl rfl (r_cmp_f rfl rfl (.t rfl rfl) .c (show ¬ (¬ 0 = 0) from by omega)) ?_
 refine s_val hS7 rfl rfl (r_move rfl (.t rfl rfl)) ?_
 refine s_valg hS7 (wanted_of (j := 3) (b := false) (d := 37) rfl rfl rfl rfl) rfl (r_fieldN rfl Try.underlying32 rfl ti5 (by decide) (.t rfl rfl) (qq := 3) rfl) ?_
 refine s_valg hS7 (wanted_of (j := 3) (b := false) (d := 37) rfl rfl rfl rfl) rfl (r_load rfl one5 (.t rfl rfl) (St.cell_own (m := 0) rfl rfl)) ?_
 by_cases hby : by_ = 0
 ·
  refine s_valg hS7 (wanted_of (j := 3) (b := false) (d := 37) rfl rfl rfl rfl) rfl (r_cmp_t rfl rfl (.t rfl rfl) .c (show ((by_ : Nat) : Int) = 0 from by omega)) ?_
  refine s_val hS7 rfl rfl (r_pick rfl (.t rfl rfl) (.t rfl rfl)) ?_
  refine wpList_nil ?_
  refine x_tn ?_
  refine k_reb [(1, .pointer (some ⟨blk1, 0, none⟩)), (2, .bool false), (3, .pointer (some ⟨d1, 0, none⟩)), (4, .slice oa1 RR1.length oc1), (5, .slice pa1 (RR1.length + 1) pc1), (6, .slice ra1 ((logL RR1).length) rc1), (7, .int .i64 0), (41, .bool true)] ⟨rfl, rfl, rfl, rfl, rfl, rfl, rfl, rfl, trivial⟩ fun G6 => ?_
  refine k_t (.t rfl rfl) ?_
  refine wp_seq ?_
  refine k_reg ?_
  refine s_val hS7 rfl rfl (r_move rfl (.t rfl rfl)) ?_
  refine s_call rfl rfl rfl (vs := [.int .i64 0]) ⟨(.t rfl rfl), trivial⟩ cb16 (num_ok w4 0) ?_
  rintro _ w4 ⟨rfl, rfl⟩
  refine s_val hS7 rfl rfl (r_cmp_t rfl rfl (.t rfl rfl) .c (show 0 = 0 from by omega)) ?_
  refine s_val hS7 rfl rfl (r_assign rfl (.t rfl rfl)) ?_
  refine wpList_nil ?_
  refine x_tn ?_
  refine k_reb [(1, .pointer (some ⟨blk1, 0, none⟩)), (2, .bool true), (3, .pointer (some ⟨d1, 0, none⟩)), (4, .slice oa1 RR1.length oc1), (5, .slice pa1 (RR1.length + 1) pc1), (6, .slice ra1 ((logL RR1).length) rc1)] ⟨rfl, rfl, rfl, rfl, rfl, rfl, trivial⟩ fun G7 => ?_
  refine wp_ret ?_
  refine x_tr ?_
  refine k_ret1 Try.results4 rfl rfl ?_
  refine ⟨_, rfl, ?_⟩
  have hS8 : St w0 [] (fl []) w4 := hS7.pick [] rfl (by decide)
  exact ⟨rfl, hS8⟩
 ·
  refine s_valg hS7 (wanted_of (j := 3) (b := false) (d := 37) rfl rfl rfl rfl) rfl (r_cmp_f rfl rfl (.t rfl rfl) .c (show ¬ (((by_ : Nat) : Int) = 0) from by omega)) ?_
  refine s_val hS7 rfl rfl (r_pick rfl (.t rfl rfl) (.t rfl rfl)) ?_
  refine wpList_nil ?_
  refine x_tn ?_
  refine k_reb [(1, .pointer (some ⟨blk1, 0, none⟩)), (2, .bool false), (3, .pointer (some ⟨d1, 0, none⟩)), (4, .slice oa1 RR1.length oc1), (5, .slice pa1 (RR1.length + 1) pc1), (6, .slice ra1 ((logL RR1).length) rc1), (7, .int .i64 0), (41, .bool false)] ⟨rfl, rfl, rfl, rfl, rfl, rfl, rfl, rfl, trivial⟩ fun G8 => ?_
  refine k_f (.t rfl rfl) ?_
  refine wp_skip ?_
  refine x_tn ?_
  refine k_reb [(1, .pointer (some ⟨blk1, 0, none⟩)), (2, .bool false), (3, .pointer (some ⟨d1, 0, none⟩)), (4, .slice oa1 RR1.length oc1), (5, .slice pa1 (RR1.length + 1) pc1), (6, .slice ra1 ((logL RR1).length) rc1)] ⟨rfl, rfl, rfl, rfl, rfl, rfl, trivial⟩ fun G9 => ?_
  refine wp_seq ?_
  refine k_reg ?_
  refine s_val hS7 rfl rfl (r_fieldN rfl Try.underlying32 rfl ti3 (by decide) (.t rfl rfl) (qq := 1) rfl) ?_
  refine s_val hS7 rfl rfl (r_load rfl one3 (.t rfl rfl) (St.cell_own (m := 0) rfl rfl)) ?_
  refine s_val hS7 rfl rfl (r_move rfl (.t rfl rfl)) ?_
  refine s_val hS7 rfl rfl (r_len rfl rfl Try.underlying22 (.t rfl rfl)) ?_
  have hlg8 := logL_rows2 RR1
  refine s_call rfl rfl rfl (vs := [.int .i64 x, .int .i64 ((((logL RR1).length : Nat) : Int))]) ⟨(.t rfl rfl), (.t rfl rfl), trivial⟩ cb17 (Within_ok w4 x ((logL RR1).length) (by omega) (by omega) ) ?_
  rintro _ w5 ⟨k1, rfl, hk1l, ht4⟩
  have hS9 : St w0 [] (fl [[(blk1, .cells #[.slice aPL PL.length cPL, .int .i64 x, .int .i64 y, .int .u8 (((by_ : Nat) : Int))] 32 (0, 0))], (pk d1 m1 D1), sm1, sg1, sg2, sg3]) w5 := hS7.callL (xs := []) (xs' := []) (zs := []) [] rfl (by decide) ht4 rfl rfl
  refine s_val hS9 rfl rfl (r_assign rfl (.t rfl rfl)) ?_
  refine wpList_nil ?_
  refine x_tn ?_
  refine k_reb [(1, .pointer (some ⟨blk1, 0, none⟩)), (2, .bool false), (3, .pointer (some ⟨d1, 0, none⟩)), (4, .slice oa1 RR1.length oc1), (5, .slice pa1 (RR1.length + 1) pc1), (6, .slice ra1 ((logL RR1).length) rc1), (8, .int .i64 (((k1 : Nat) : Int)))] ⟨rfl, rfl, rfl, rfl, rfl, rfl, rfl, trivial⟩ fun G10 => ?_
  refine wp_seq ?_
  refine k_reg ?_
  refine s_val hS9 rfl rfl (r_move rfl (.t rfl rfl)) ?_
  refine s_call rfl rfl rfl (vs := [.slice ra1 ((logL RR1).length) rc1]) ⟨(.t rfl rfl), trivial⟩ cb13 (Copy_ok w5 ra1 rc1 (logL RR1) sg3 (hG1.sl (by omega) (hLd1.lv.file hLd1.at_).2.2.2.2.1) (Old.of_piece (i := 5) (xs := []) [] hS9 rfl rfl (by decide)) (by first | omega | simp) ) ?_
  rintro _ w6 ⟨ra2, rc2, sg4, rfl, hG2, ht5⟩
  have hS10 : St w0 [] (fl [[(blk1, .cells #[.slice aPL PL.length cPL, .int .i64 x, .int .i64 y, .int .u8 (((by_ : Nat) : Int))] 32 (0, 0))], (pk d1 m1 D1), sm1, sg1, sg2, sg3, sg4]) w6 := hS9.callL (xs := []) (xs' := []) (zs := [sg4]) [] rfl (by decide) ht5 rfl rfl
  refine s_val hS10 rfl rfl (r_assign rfl (.t rfl rfl)) ?_
  refine wpList_nil ?_
  refine x_tn ?_
  refine k_reb [(1, .pointer (some ⟨blk1, 0, none⟩)), (2, .bool false), (3, .pointer (some ⟨d1, 0, none⟩)), (4, .slice oa1 RR1.length oc1), (5, .slice pa1 (RR1.length + 1) pc1), (8, .int .i64 (((k1 : Nat) : Int))), (9, .slice ra2 (((logL RR1)).length) rc2)] ⟨rfl, rfl, rfl, rfl, rfl, rfl, rfl, trivial⟩ fun G11 => ?_
  refine wp_seq ?_
  refine k_regt 10 mixed (by kernel_rfl) hS10 fun w7 hS11 hB2 => ?_
  have hCf := spoil_fit (B := logL RR1) (i := k1) (d := by_) (hLd1.lv.file hLd1.at_).2.2.2.2.1 hb
  refine t_val hS11 rfl rfl (r_move rfl (.t rfl rfl)) ?_
  refine t_val hS11 rfl rfl (r_move rfl (.t rfl rfl)) ?_
  refine t_val hS11 rfl rfl (r_move rfl (.t rfl rfl)) ?_
  refine t_val hS11 rfl rfl (r_move rfl (.t rfl rfl)) ?_
  refine t_val hS11 rfl rfl (r_ixl (j := k1) rfl Try.underlying22 ti5 (.t rfl rfl) (.t rfl rfl) (hG2.sl (by omega) (hLd1.lv.file hLd1.at_).2.2.2.2.1) rfl rfl (by omega)) ?_
  have b1 : (((logL RR1))).getD k1 0 ≤ 255 := (hG2.sl (by omega) (hLd1.lv.file hLd1.at_).2.2.2.2.1).lt _
  refine t_val hS11 rfl rfl (r_load rfl one5 (.t rfl rfl) ((hG2.sl (by omega) (hLd1.lv.file hLd1.at_).2.2.2.2.1).cell_p (i := 6) rfl (by omega))) ?_
  refine t_val hS11 rfl rfl (r_fieldN rfl Try.underlying32 rfl ti5 (by decide) (.t rfl rfl) (qq := 3) rfl) ?_
  refine t_val hS11 rfl rfl (r_load rfl one5 (.t rfl rfl) (St.cell_own (m := 0) rfl rfl)) ?_
  have hb2 : ((((logL RR1))).getD k1 0) ^^^ by_ < 256 := Nat.xor_lt_two_pow (n := 8) (show (((logL RR1))).getD k1 0 < 256 from by omega) (show by_ < 256 from by omega)
  refine t_val hS11 rfl rfl (r_xor rfl (.t rfl rfl) (.t rfl rfl) (show (((logL RR1))).getD k1 0 < 256 from by omega) (show by_ < 256 from by omega) (c := ((((logL RR1))).getD k1 0) ^^^ by_) rfl (wn_u8 rfl (Nat.le_of_lt_succ hb2))) ?_
  refine t_val hS11 rfl rfl (r_ixl (j := k1) rfl Try.underlying22 ti5 (.t rfl rfl) (.t rfl rfl) (hG2.sl (by omega) (hLd1.lv.file hLd1.at_).2.2.2.2.1) rfl rfl (by omega)) ?_
  refine t_nil ?_
  refine s_storeG (i := 6) (j := k1) (z := ((((logL RR1))).getD k1 0) ^^^ by_) rfl rfl rfl one5 (.t rfl rfl) (.t rfl rfl) hG2 (by omega) hS11 rfl fun sg5 w8 hG3 hS12 => ?_
  have hS13 : St w0 [] (fl [[(blk1, .cells #[.slice aPL PL.length cPL, .int .i64 x, .int .i64 y, .int .u8 (((by_ : Nat) : Int))] 32 (0, 0))], (pk d1 m1 D1), sm1, sg1, sg2, sg3, sg5]) w8 := hS12
  refine wpList_nil ?_
  refine x_tn ?_
  refine k_reb [(2, .bool false), (3, .pointer (some ⟨d1, 0, none⟩)), (4, .slice oa1 RR1.length oc1), (5, .slice pa1 (RR1.length + 1) pc1), (8, .int .i64 (((k1 : Nat) : Int))), (9, .slice ra2 (((logL RR1)).length) rc2)] ⟨rfl, rfl, rfl, rfl, rfl, rfl, trivial⟩ fun G12 => ?_
  refine wp_seq ?_
  refine wp_seq ?_
  refine k_reg ?_
  refine s_val hS13 rfl rfl (r_move rfl (.t rfl rfl)) ?_
  have hsl : (((logL RR1).set k1 (((logL RR1).getD k1 0) ^^^ by_))).length = (logL RR1).length := List.length_set
  refine s_val hS13 rfl rfl (Rn.asS (p' := (((logL RR1).set k1 (((logL RR1).getD k1 0) ^^^ by_))).length) (q' := rc2) (by omega) (by omega) (r_move rfl (.t rfl rfl))) ?_
  refine s_call rfl rfl rfl (vs := [.pointer (some ⟨d1, 0, none⟩), .slice ra2 ((((logL RR1).set k1 (((logL RR1).getD k1 0) ^^^ by_))).length) rc2]) ⟨(.t rfl rfl), (.t rfl rfl), trivial⟩ cb18 (rewritten_ok w8 _ d1 m1 D1 hLd1.lv sm1 hM1 hLd1.at_ ra2 rc2 (((logL RR1)).set k1 (((((logL RR1))).getD k1 0) ^^^ by_)) sg5 (hG3.sl (by omega) hCf) (Old.of_piece (i := 6) (xs := [(pk d1 m1 D1), sm1]) [1, 2] hS13 rfl rfl (by decide)) (by omega) (by omega) (by omega) (hS13.give (xs := [(pk d1 m1 D1), sm1]) [1, 2] rfl (by decide))) ?_
  rintro _ w9 ⟨D2, sm2, ks2, hup1, hM2, rfl, ht6⟩
  have hS14 : St w0 [] (fl [[(blk1, .cells #[.slice aPL PL.length cPL, .int .i64 x, .int .i64 y, .int .u8 (((by_ : Nat) : Int))] 32 (0, 0))], (pk d1 m1 D2), sm2, sg1, sg2, sg3, sg5]) w9 := hS13.callL (xs := [(pk d1 m1 D1), sm1]) (xs' := [(pk d1 m1 D2), sm2]) (zs := []) [1, 2] rfl (by decide) ht6 rfl rfl
  have hu9 := hup1.tot
  have hu10 := hup1.wr
  have hu11 := hup1.room
  have hu12 := hup1.same
  refine s_val hS14 rfl rfl (r_lnot rfl (.t rfl rfl)) ?_
  refine wpList_nil ?_
  refine x_tn ?_
  refine k_reb [(2, .bool false), (3, .pointer (some ⟨d1, 0, none⟩)), (4, .slice oa1 RR1.length oc1), (5, .slice pa1 (RR1.length + 1) pc1), (8, .int .i64 (((k1 : Nat) : Int))), (9, .slice ra2 (((logL RR1)).length) rc2), (65, .bool false)] ⟨rfl, rfl, rfl, rfl, rfl, rfl, rfl, trivial⟩ fun G13 => ?_
  refine k_f (.t rfl rfl) ?_
  refine wp_skip ?_
  refine x_tn ?_
  refine k_reb [(2, .bool false), (3, .pointer (some ⟨d1, 0, none⟩)), (4, .slice oa1 RR1.length oc1), (5, .slice pa1 (RR1.length + 1) pc1), (8, .int .i64 (((k1 : Nat) : Int))), (9, .slice ra2 (((logL RR1)).length) rc2)] ⟨rfl, rfl, rfl, rfl, rfl, rfl, trivial⟩ fun G14 => ?_
  refine wp_seq ?_
  refine k_reg ?_
  refine s_val hS14 rfl rfl (r_move rfl (.t rfl rfl)) ?_
  have hrf := log_rows (RR := RR1) (hLd1.lv.file hLd1.at_).2.2.2.2.1
  refine s_call rfl rfl rfl (vs := [.pointer (some ⟨d1, 0, none⟩), .string (⟨#[106]⟩)]) ⟨(.t rfl rfl), .c, trivial⟩ cb19 (Open_spoil w9 _ d1 m1 D2 hup1.lv sm2 hM2 (⟨#[106]⟩ : ByteArray) (RR := RR1) (n := k1) (by_ := by_) hup1.at_ hLd1.good (by omega) (by omega) ⟨by omega, hrf⟩ (by omega) (hS14.give (xs := [(pk d1 m1 D2), sm2]) [1, 2] rfl (by decide))) ?_
  rintro _ w10 (⟨sm3, hM3, rfl, ht7⟩ | ⟨q1, RX1, D3, z1, sm4, l1, oa2, oc2, sg6, hqa1, hqb1, hqc1, hqd1, okD1, hM4, rfl, hO2, ht8⟩)
  ·
   have hS15 : St w0 [] (fl [[(blk1, .cells #[.slice aPL PL.length cPL, .int .i64 x, .int .i64 y, .int .u8 (((by_ : Nat) : Int))] 32 (0, 0))], (pk d1 m1 D2), sm3, sg1, sg2, sg3, sg5]) w10 := hS14.callL (xs := [(pk d1 m1 D2), sm2]) (xs' := [(pk d1 m1 D2), sm3]) (zs := []) [1, 2] rfl (by decide) ht7 rfl rfl
   refine s_val hS15 rfl rfl (r_move rfl (.t rfl rfl)) ?_
   refine s_val hS15 rfl rfl (r_extract rfl (.t rfl rfl) rfl) ?_
   refine s_val hS15 rfl rfl (r_extract rfl (.t rfl rfl) rfl) ?_
   refine s_val hS15 rfl rfl (r_extract rfl (.t rfl rfl) rfl) ?_
   refine s_val hS15 rfl rfl (r_assign rfl (.t rfl rfl)) ?_
   refine s_val hS15 rfl rfl (r_assign rfl (.t rfl rfl)) ?_
   refine s_val hS15 rfl rfl (r_assign rfl (.t rfl rfl)) ?_
   refine wpList_nil ?_
   refine x_tn ?_
   refine k_reb [(2, .bool false), (3, .pointer (some ⟨d1, 0, none⟩)), (4, .slice oa1 RR1.length oc1), (5, .slice pa1 (RR1.length + 1) pc1), (8, .int .i64 (((k1 : Nat) : Int))), (9, .slice ra2 (((logL RR1)).length) rc2), (11, .slice none 0 0), (12, .int .i64 111)] ⟨rfl, rfl, rfl, rfl, rfl, rfl, rfl, rfl, trivial⟩ fun G15 => ?_
   refine wp_seq ?_
   refine k_reg ?_
   refine s_val hS15 rfl rfl (r_move rfl (.t rfl rfl)) ?_
   refine s_call rfl rfl rfl (vs := [.pointer (some ⟨d1, 0, none⟩), .string (⟨#[106]⟩)]) ⟨(.t rfl rfl), .c, trivial⟩ cb15 (Read_lv w10 _ d1 m1 D2 hup1.lv sm3 hM3 (⟨#[106]⟩ : ByteArray) hup1.at_ (hS15.give (xs := [(pk d1 m1 D2), sm3]) [1, 2] rfl (by decide))) ?_
   rintro _ w11 ⟨ra3, rc3, sg7, rfl, hG4, ht9⟩
   have hS16 : St w0 [] (fl [[(blk1, .cells #[.slice aPL PL.length cPL, .int .i64 x, .int .i64 y, .int .u8 (((by_ : Nat) : Int))] 32 (0, 0))], (pk d1 m1 D2), sm3, sg1, sg2, sg3, sg5, sg7]) w11 := hS15.callL (xs := [(pk d1 m1 D2), sm3]) (xs' := [(pk d1 m1 D2), sm3]) (zs := [sg7]) [1, 2] rfl (by decide) ht9 rfl rfl
   refine s_val hS16 rfl rfl (r_move rfl (.t rfl rfl)) ?_
   refine s_val hS16 rfl rfl (r_extract rfl (.t rfl rfl) rfl) ?_
   refine s_val hS16 rfl rfl (r_extract rfl (.t rfl rfl) rfl) ?_
   refine s_val hS16 rfl rfl (r_assign rfl (.t rfl rfl)) ?_
   refine s_val hS16 rfl rfl (r_assign rfl (.t rfl rfl)) ?_
   refine wpList_nil ?_
   refine x_tn ?_
   refine k_reb [(2, .bool false), (4, .slice oa1 RR1.length oc1), (5, .slice pa1 (RR1.length + 1) pc1), (8, .int .i64 (((k1 : Nat) : Int))), (9, .slice ra2 (((logL RR1)).length) rc2), (11, .slice none 0 0), (12, .int .i64 111), (13, .slice ra3 (((((logL RR1)).set k1 (((((logL RR1))).getD k1 0) ^^^ by_))).length) rc3), (14, .int .i64 0)] ⟨rfl, rfl, rfl, rfl, rfl, rfl, rfl, rfl, rfl, trivial⟩ fun G16 => ?_
   refine wp_seq ?_
   refine wp_seq ?_
   refine k_reg ?_
   refine s_val hS16 rfl rfl (r_move rfl (.t rfl rfl)) ?_
   refine s_call rfl rfl rfl (vs := [.int .i64 111]) ⟨(.t rfl rfl), trivial⟩ cb16 (num_ok w11 111) ?_
   rintro _ w11 ⟨rfl, rfl⟩
   refine s_val hS16 rfl rfl (r_cmp_t rfl rfl (.t rfl rfl) .c (show 111 = 111 from by omega)) ?_
   refine wpList_nil ?_
   refine x_tn ?_
   refine k_reb [(2, .bool false), (4, .slice oa1 RR1.length oc1), (5, .slice pa1 (RR1.length + 1) pc1), (8, .int .i64 (((k1 : Nat) : Int))), (9, .slice ra2 (((logL RR1)).length) rc2), (11, .slice none 0 0), (12, .int .i64 111), (13, .slice ra3 (((((logL RR1)).set k1 (((((logL RR1))).getD k1 0) ^^^ by_))).length) rc3), (14, .int .i64 0), (79, .bool true)] ⟨rfl, rfl, rfl, rfl, rfl, rfl, rfl, rfl, rfl, rfl, trivial⟩ fun G17 => ?_
   refine k_t (.t rfl rfl) ?_
   refine wp_seq ?_
   refine k_reg ?_
   refine s_val hS16 rfl rfl (r_move rfl (.t rfl rfl)) ?_
   refine s_call rfl rfl rfl (vs := [.int .i64 0]) ⟨(.t rfl rfl), trivial⟩ cb16 (num_ok w11 0) ?_
   rintro _ w11 ⟨rfl, rfl⟩
   refine s_val hS16 rfl rfl (r_cmp_t rfl rfl (.t rfl rfl) .c (show 0 = 0 from by omega)) ?_
   refine s_val hS16 rfl rfl (r_move rfl (.t rfl rfl)) ?_
   refine s_valg hS16 (wanted_of (j := 3) (b := true) (d := 83) rfl rfl rfl rfl) rfl (r_move rfl (.t rfl rfl)) ?_
   refine s_valg hS16 (wanted_of (j := 3) (b := true) (d := 83) rfl rfl rfl rfl) rfl (Rn.asS (p' := (((logL RR1).set k1 (((logL RR1).getD k1 0) ^^^ by_))).length) (q' := rc2) (by omega) (by omega) (r_move rfl (.t rfl rfl))) ?_
   refine s_callg (wanted_of (j := 3) (b := true) (d := 83) rfl rfl rfl rfl) rfl rfl (vs := [.slice ra3 (((((logL RR1)).set k1 (((((logL RR1))).getD k1 0) ^^^ by_))).length) rc3, .slice ra2 ((((logL RR1).set k1 (((logL RR1).getD k1 0) ^^^ by_))).length) rc2]) ⟨(.t rfl rfl), (.t rfl rfl), trivial⟩ cb20 (Eq_ok w11 ra3 rc3 ((((logL RR1)).set k1 (((((logL RR1))).getD k1 0) ^^^ by_))) sg7 (hG4.sl (by omega) (hup1.lv.file hup1.at_).2.2.2.2.1) (Old.of_piece (i := 7) (xs := []) [] hS16 rfl rfl (by decide)) ra2 rc2 (((logL RR1)).set k1 (((((logL RR1))).getD k1 0) ^^^ by_)) sg5 (hG3.sl (by omega) hCf) (Old.of_piece (i := 6) (xs := []) [] hS16 rfl rfl (by decide)) ) ?_
   rintro _ w12 ⟨rfl, ht10⟩
   have hS17 : St w0 [] (fl [[(blk1, .cells #[.slice aPL PL.length cPL, .int .i64 x, .int .i64 y, .int .u8 (((by_ : Nat) : Int))] 32 (0, 0))], (pk d1 m1 D2), sm3, sg1, sg2, sg3, sg5, sg7]) w12 := hS16.callL (xs := []) (xs' := []) (zs := []) [] rfl (by decide) ht10 rfl rfl
   by_cases he1 : ((((logL RR1)).set k1 (((((logL RR1))).getD k1 0) ^^^ by_))) = (((logL RR1)).set k1 (((((logL RR1))).getD k1 0) ^^^ by_))
   ·
    refine s_asb (b' := true) (decide_eq_true he1) ?_
    refine s_val hS17 rfl rfl (r_pick rfl (.t rfl rfl) (.t rfl rfl)) ?_
    refine s_val hS17 rfl rfl (r_move rfl (.t rfl rfl)) ?_
    refine s_valg hS17 (wanted_of (j := 8) (b := true) (d := 88) rfl rfl rfl rfl) rfl (r_move rfl (.t rfl rfl)) ?_
    refine s_valg hS17 (wanted_of (j := 8) (b := true) (d := 88) rfl rfl rfl rfl) rfl (r_len rfl rfl Try.underlying30 (.t rfl rfl)) ?_
    refine s_valg hS17 (wanted_of (j := 8) (b := true) (d := 88) rfl rfl rfl rfl) rfl (r_cmp_t rfl rfl (.t rfl rfl) .c (show 0 = 0 from by omega)) ?_
    refine s_val hS17 rfl rfl (r_pick rfl (.t rfl rfl) (.t rfl rfl)) ?_
    refine s_val hS17 rfl rfl (r_move rfl (.t rfl rfl)) ?_
    refine s_callg (wanted_of (j := 13) (b := true) (d := 93) rfl rfl rfl rfl) rfl rfl (vs := []) trivial cb12 (works_ok w12  ) ?_
    rintro _ w13 ⟨rfl, ht11⟩
    have hS18 : St w0 [] (fl [[(blk1, .cells #[.slice aPL PL.length cPL, .int .i64 x, .int .i64 y, .int .u8 (((by_ : Nat) : Int))] 32 (0, 0))], (pk d1 m1 D2), sm3, sg1, sg2, sg3, sg5, sg7]) w13 := hS17.callL (xs := []) (xs' := []) (zs := []) [] rfl (by decide) ht11 rfl rfl
    refine s_val hS18 rfl rfl (r_pick rfl (.t rfl rfl) (.t rfl rfl)) ?_
    refine s_val hS18 rfl rfl (r_assign rfl (.t rfl rfl)) ?_
    refine wpList_nil ?_
    refine x_tn ?_
    refine k_reb [(2, .bool true), (4, .slice oa1 RR1.length oc1), (5, .slice pa1 (RR1.length + 1) pc1), (8, .int .i64 (((k1 : Nat) : Int))), (9, .slice ra2 (((logL RR1)).length) rc2), (11, .slice none 0 0), (12, .int .i64 111)] ⟨rfl, rfl, rfl, rfl, rfl, rfl, rfl, trivial⟩ fun G18 => ?_
    refine wp_ret ?_
    refine x_tr ?_
    refine k_ret1 Try.results4 rfl rfl ?_
    refine ⟨_, rfl, ?_⟩
    have hS19 : St w0 [] (fl []) w13 := hS18.pick [] rfl (by decide)
    exact ⟨rfl, hS19⟩
   ·
    exact absurd rfl he1
  ·
   have hS20 : St w0 [] (fl [[(blk1, .cells #[.slice aPL PL.length cPL, .int .i64 x, .int .i64 y, .int .u8 (((by_ : Nat) : Int))] 32 (0, 0))], (pk d1 m1 D3), sm4, sg1, sg2, sg3, sg5, [(l1, .cells #[.pointer (some ⟨d1, 0, none⟩), .string (⟨#[106]⟩), .int .i64 (((z1.size : Nat) : Int)), .int .i64 (((z1.count : Nat) : Int)), .bool z1.off] 92 (0, 0))], sg6]) w10 := hS14.callL (xs := [(pk d1 m1 D2), sm2]) (xs' := [(pk d1 m1 D3), sm4]) (zs := [[(l1, .cells #[.pointer (some ⟨d1, 0, none⟩), .string (⟨#[106]⟩), .int .i64 (((z1.size : Nat) : Int)), .int .i64 (((z1.count : Nat) : Int)), .bool z1.off] 92 (0, 0))], sg6]) [1, 2] rfl (by decide) ht8 rfl rfl
   have hS21 : St w0 [] (fl [[(blk1, .cells #[.slice aPL PL.length cPL, .int .i64 x, .int .i64 y, .int .u8 (((by_ : Nat) : Int))] 32 (0, 0))], (pk d1 m1 D3), [(l1, .cells #[.pointer (some ⟨d1, 0, none⟩), .string (⟨#[106]⟩), .int .i64 (((z1.size : Nat) : Int)), .int .i64 (((z1.count : Nat) : Int)), .bool z1.off] 92 (0, 0))], sm4, sg1, sg2, sg3, sg5, sg6]) w10 := hS20.pick [0, 1, 7, 2, 3, 4, 5, 6, 8] rfl (by decide)
   refine s_val hS21 rfl rfl (r_move rfl (.t rfl rfl)) ?_
   refine s_val hS21 rfl rfl (r_extract rfl (.t rfl rfl) rfl) ?_
   refine s_val hS21 rfl rfl (r_extract rfl (.t rfl rfl) rfl) ?_
   refine s_val hS21 rfl rfl (r_extract rfl (.t rfl rfl) rfl) ?_
   refine s_val hS21 rfl rfl (r_assign rfl (.t rfl rfl)) ?_
   refine s_val hS21 rfl rfl (r_assign rfl (.t rfl rfl)) ?_
   refine s_val hS21 rfl rfl (r_assign rfl (.t rfl rfl)) ?_
   refine wpList_nil ?_
   refine x_tn ?_
   refine k_reb [(2, .bool false), (3, .pointer (some ⟨d1, 0, none⟩)), (4, .slice oa1 RR1.length oc1), (5, .slice pa1 (RR1.length + 1) pc1), (8, .int .i64 (((k1 : Nat) : Int))), (9, .slice ra2 (((logL RR1)).length) rc2), (11, .slice oa2 RX1.length oc2), (12, .int .i64 0)] ⟨rfl, rfl, rfl, rfl, rfl, rfl, rfl, rfl, trivial⟩ fun G19 => ?_
   refine wp_seq ?_
   refine k_reg ?_
   refine s_val hS21 rfl rfl (r_move rfl (.t rfl rfl)) ?_
   refine s_call rfl rfl rfl (vs := [.pointer (some ⟨d1, 0, none⟩), .string (⟨#[106]⟩)]) ⟨(.t rfl rfl), .c, trivial⟩ cb15 (Read_st w10 _ d1 m1 D3 okD1 sm4 hM4 (⟨#[106]⟩ : ByteArray) (by decide) (hS21.give (xs := [(pk d1 m1 D3), sm4]) [1, 3] rfl (by decide))) ?_
   rintro _ w14 ⟨B1, e1, ra4, rc4, sg8, hrd1, rfl, hG5, ht12⟩
   have hS22 : St w0 [] (fl [[(blk1, .cells #[.slice aPL PL.length cPL, .int .i64 x, .int .i64 y, .int .u8 (((by_ : Nat) : Int))] 32 (0, 0))], (pk d1 m1 D3), [(l1, .cells #[.pointer (some ⟨d1, 0, none⟩), .string (⟨#[106]⟩), .int .i64 (((z1.size : Nat) : Int)), .int .i64 (((z1.count : Nat) : Int)), .bool z1.off] 92 (0, 0))], sm4, sg1, sg2, sg3, sg5, sg6, sg8]) w14 := hS21.callL (xs := [(pk d1 m1 D3), sm4]) (xs' := [(pk d1 m1 D3), sm4]) (zs := [sg8]) [1, 3] rfl (by decide) ht12 rfl rfl
   refine s_val hS22 rfl rfl (r_move rfl (.t rfl rfl)) ?_
   refine s_val hS22 rfl rfl (r_extract rfl (.t rfl rfl) rfl) ?_
   refine s_val hS22 rfl rfl (r_extract rfl (.t rfl rfl) rfl) ?_
   refine s_val hS22 rfl rfl (r_assign rfl (.t rfl rfl)) ?_
   refine s_val hS22 rfl rfl (r_assign rfl (.t rfl rfl)) ?_
   refine wpList_nil ?_
   refine x_tn ?_
   refine k_reb [(2, .bool false), (4, .slice oa1 RR1.length oc1), (5, .slice pa1 (RR1.length + 1) pc1), (8, .int .i64 (((k1 : Nat) : Int))), (9, .slice ra2 (((logL RR1)).length) rc2), (11, .slice oa2 RX1.length oc2), (12, .int .i64 0), (13, .slice ra4 B1.length rc4), (14, .int .i64 (((e1 : Nat) : Int)))] ⟨rfl, rfl, rfl, rfl, rfl, rfl, rfl, rfl, rfl, trivial⟩ fun G20 => ?_
   refine wp_seq ?_
   refine wp_seq ?_
   refine k_reg ?_
   refine s_val hS22 rfl rfl (r_move rfl (.t rfl rfl)) ?_
   refine s_call rfl rfl rfl (vs := [.int .i64 0]) ⟨(.t rfl rfl), trivial⟩ cb16 (num_ok w14 0) ?_
   rintro _ w14 ⟨rfl, rfl⟩
   refine s_val hS22 rfl rfl (r_cmp_f rfl rfl (.t rfl rfl) .c (show ¬ (0 = 111) from by omega)) ?_
   refine wpList_nil ?_
   refine x_tn ?_
   refine k_reb [(2, .bool false), (4, .slice oa1 RR1.length oc1), (5, .slice pa1 (RR1.length + 1) pc1), (8, .int .i64 (((k1 : Nat) : Int))), (9, .slice ra2 (((logL RR1)).length) rc2), (11, .slice oa2 RX1.length oc2), (12, .int .i64 0), (13, .slice ra4 B1.length rc4), (14, .int .i64 (((e1 : Nat) : Int))), (79, .bool false)] ⟨rfl, rfl, rfl, rfl, rfl, rfl, rfl, rfl, rfl, rfl, trivial⟩ fun G21 => ?_
   refine k_f (.t rfl rfl) ?_
   refine wp_skip ?_
   refine x_tn ?_
   refine k_reb [(2, .bool false), (4, .slice oa1 RR1.length oc1), (5, .slice pa1 (RR1.length + 1) pc1), (8, .int .i64 (((k1 : Nat) : Int))), (9, .slice ra2 (((logL RR1)).length) rc2), (11, .slice oa2 RX1.length oc2), (12, .int .i64 0)] ⟨rfl, rfl, rfl, rfl, rfl, rfl, rfl, trivial⟩ fun G22 => ?_
   refine wp_seq ?_
   refine wp_seq ?_
   refine k_reg ?_
   refine s_val hS22 rfl rfl (r_move rfl (.t rfl rfl)) ?_
   refine s_call rfl rfl rfl (vs := [.int .i64 0]) ⟨(.t rfl rfl), trivial⟩ cb16 (num_ok w14 0) ?_
   rintro _ w14 ⟨rfl, rfl⟩
   refine s_val hS22 rfl rfl (r_cmp_f rfl rfl (.t rfl rfl) .c (show ¬ (¬ 0 = 0) from by omega)) ?_
   refine s_val hS22 rfl rfl (r_move rfl (.t rfl rfl)) ?_
   refine s_valg hS22 (wanted_of (j := 3) (b := false) (d := 99) rfl rfl rfl rfl) rfl (Rn.asS (p' := (plcL RR1).length) (q' := pc1) (by omega) (by omega) (r_move rfl (.t rfl rfl))) ?_
   refine s_valg hS22 (wanted_of (j := 3) (b := false) (d := 99) rfl rfl rfl rfl) rfl (r_move rfl (.t rfl rfl)) ?_
   refine s_callg (wanted_of (j := 3) (b := false) (d := 99) rfl rfl rfl rfl) rfl rfl (vs := [.slice pa1 ((plcL RR1).length) pc1, .int .i64 (((k1 : Nat) : Int))]) ⟨(.t rfl rfl), (.t rfl rfl), trivial⟩ cb21 (length_ok w14 pa1 pc1 (plcL RR1) sg2 (hP1.sl (by omega) hLd1.pfit) (Old.of_piece (i := 5) (xs := []) [] hS22 rfl rfl (by decide)) (by omega) k1 (by omega) ) ?_
   rintro _ w15 ⟨b2, hb3, rfl, ht13⟩
   have hS23 : St w0 [] (fl [[(blk1, .cells #[.slice aPL PL.length cPL, .int .i64 x, .int .i64 y, .int .u8 (((by_ : Nat) : Int))] 32 (0, 0))], (pk d1 m1 D3), [(l1, .cells #[.pointer (some ⟨d1, 0, none⟩), .string (⟨#[106]⟩), .int .i64 (((z1.size : Nat) : Int)), .int .i64 (((z1.count : Nat) : Int)), .bool z1.off] 92 (0, 0))], sm4, sg1, sg2, sg3, sg5, sg6, sg8]) w15 := hS22.callL (xs := []) (xs' := []) (zs := []) [] rfl (by decide) ht13 rfl rfl
   obtain rfl : b2 = true := hb3 ⟨q1, by rw [hLd1.plen]; omega, by rw [plcL_get (by omega)]; exact hqb1, by rw [plcL_get (by omega)]; exact hqc1, by rw [plcL_get (by omega)]; have := plc_le (RR := RR1) (i := q1) (by omega); omega⟩
   refine s_valg hS23 (wanted_of (j := 3) (b := false) (d := 99) rfl rfl rfl rfl) rfl (r_lnot rfl (.t rfl rfl)) ?_
   refine s_val hS23 rfl rfl (r_pick rfl (.t rfl rfl) (.t rfl rfl)) ?_
   refine wpList_nil ?_
   refine x_tn ?_
   refine k_reb [(2, .bool false), (4, .slice oa1 RR1.length oc1), (5, .slice pa1 (RR1.length + 1) pc1), (8, .int .i64 (((k1 : Nat) : Int))), (9, .slice ra2 (((logL RR1)).length) rc2), (11, .slice oa2 RX1.length oc2), (104, .bool false)] ⟨rfl, rfl, rfl, rfl, rfl, rfl, rfl, trivial⟩ fun G23 => ?_
   refine k_f (.t rfl rfl) ?_
   refine wp_skip ?_
   refine x_tn ?_
   refine k_reb [(2, .bool false), (4, .slice oa1 RR1.length oc1), (5, .slice pa1 (RR1.length + 1) pc1), (8, .int .i64 (((k1 : Nat) : Int))), (9, .slice ra2 (((logL RR1)).length) rc2), (11, .slice oa2 RX1.length oc2)] ⟨rfl, rfl, rfl, rfl, rfl, rfl, trivial⟩ fun G24 => ?_
   refine wp_seq ?_
   refine k_reg ?_
   refine s_val hS23 rfl rfl (r_assign rfl .c) ?_
   refine wpList_nil ?_
   refine x_tn ?_
   refine wp_seq ?_
   refine wp_block ?_
   refine wp_loop_ghost (fun (m2 : Nat) a w => ∃ (G : Nat → Value) (c : Nat), a = fr 150 [(2, .bool false), (4, .slice oa1 RR1.length oc1), (5, .slice pa1 (RR1.length + 1) pc1), (8, .int .i64 (((k1 : Nat) : Int))), (9, .slice ra2 (((logL RR1)).length) rc2), (11, .slice oa2 RX1.length oc2), (15, .int .i64 (((c : Nat) : Int)))] G ∧ St w0 [] (fl [[(blk1, .cells #[.slice aPL PL.length cPL, .int .i64 x, .int .i64 y, .int .u8 (((by_ : Nat) : Int))] 32 (0, 0))], (pk d1 m1 D3), [(l1, .cells #[.pointer (some ⟨d1, 0, none⟩), .string (⟨#[106]⟩), .int .i64 (((z1.size : Nat) : Int)), .int .i64 (((z1.count : Nat) : Int)), .bool z1.off] 92 (0, 0))], sm4, sg1, sg2, sg3, sg5, sg6, sg8]) w ∧ (m2 = RR1.length - c ∧ c < RR1.length ∧ plc RR1 c ≤ k1)) (RR1.length) ⟨_, 0, fr_reb _ ⟨rfl, rfl, rfl, rfl, rfl, rfl, rfl, trivial⟩, hS23, ?_⟩ ?_
   ·
    exact ⟨rfl, by omega, by have := plc_zero RR1; have := plc_ge RR1 q1; omega⟩
   ·
    intro m2 _ w16 hI1
    obtain ⟨G25, c, rfl, hS24, ⟨hm, hc, hcn⟩⟩ := hI1
    refine wp_seq ?_
    refine wp_seq ?_
    refine k_reg ?_
    refine s_val hS24 rfl rfl (r_move rfl (.t rfl rfl)) ?_
    refine s_val hS24 rfl rfl (r_arith rfl rfl (.t rfl rfl) .c (c := ((c + 2 : Nat) : Int)) (wn_i64 (by show (((c : Nat) : Int) : Int) + 2 = _; omega) (by omega))) ?_
    refine s_val hS24 rfl rfl (r_move rfl (.t rfl rfl)) ?_
    refine s_val hS24 rfl rfl (r_len rfl rfl Try.underlying34 (.t rfl rfl)) ?_
    by_cases c1 : c + 2 < RR1.length + 1
    ·
     refine s_val hS24 rfl rfl (r_cmp_t rfl rfl (.t rfl rfl) (.t rfl rfl) (show ((c + 2 : Nat) : Int) < ((RR1.length + 1 : Nat) : Int) from by omega)) ?_
     refine s_val hS24 rfl rfl (r_move rfl (.t rfl rfl)) ?_
     refine s_valg hS24 (wanted_of (j := 5) (b := true) (d := 110) rfl rfl rfl rfl) rfl (r_move rfl (.t rfl rfl)) ?_
     refine s_valg hS24 (wanted_of (j := 5) (b := true) (d := 110) rfl rfl rfl rfl) rfl (r_move rfl (.t rfl rfl)) ?_
     refine s_valg hS24 (wanted_of (j := 5) (b := true) (d := 110) rfl rfl rfl rfl) rfl (r_arith rfl rfl (.t rfl rfl) .c (c := ((c + 1 : Nat) : Int)) (wn_i64 (by show (((c : Nat) : Int) : Int) + 1 = _; omega) (by omega))) ?_
     refine s_valg hS24 (wanted_of (j := 5) (b := true) (d := 110) rfl rfl rfl rfl) rfl (r_ixl (j := c + 1) rfl Try.underlying34 ti3 (.t rfl rfl) (.t rfl rfl) (hP1.sl (by omega) hLd1.pfit) hLd1.plen rfl (by omega)) ?_
     have b3 : ((plcL RR1)).getD (c + 1) 0 ≤ 9223372036854775807 := (hP1.sl (by omega) hLd1.pfit).lt _
     refine s_valg hS24 (wanted_of (j := 5) (b := true) (d := 110) rfl rfl rfl rfl) rfl (r_load rfl one3 (.t rfl rfl) ((hP1.sl (by omega) hLd1.pfit).cell_p (i := 5) rfl (by omega))) ?_
     refine s_valg hS24 (wanted_of (j := 5) (b := true) (d := 110) rfl rfl rfl rfl) rfl (r_move rfl (.t rfl rfl)) ?_
     by_cases hle : ((plcL RR1)).getD (c + 1) 0 ≤ k1
     ·
      refine s_valg hS24 (wanted_of (j := 5) (b := true) (d := 110) rfl rfl rfl rfl) rfl (r_cmp_t rfl rfl (.t rfl rfl) (.t rfl rfl) (show ((((plcL RR1)).getD (c + 1) 0 : Nat) : Int) ≤ ((k1 : Nat) : Int) from by omega)) ?_
      refine s_val hS24 rfl rfl (r_pick rfl (.t rfl rfl) (.t rfl rfl)) ?_
      refine wpList_nil ?_
      refine x_tn ?_
      refine k_reb [(2, .bool false), (4, .slice oa1 RR1.length oc1), (5, .slice pa1 (RR1.length + 1) pc1), (8, .int .i64 (((k1 : Nat) : Int))), (9, .slice ra2 (((logL RR1)).length) rc2), (11, .slice oa2 RX1.length oc2), (15, .int .i64 (((c : Nat) : Int))), (118, .bool true)] ⟨rfl, rfl, rfl, rfl, rfl, rfl, rfl, rfl, trivial⟩ fun G26 => ?_
      refine k_t (.t rfl rfl) ?_
      refine wp_skip ?_
      refine x_tn ?_
      refine k_reb [(2, .bool false), (4, .slice oa1 RR1.length oc1), (5, .slice pa1 (RR1.length + 1) pc1), (8, .int .i64 (((k1 : Nat) : Int))), (9, .slice ra2 (((logL RR1)).length) rc2), (11, .slice oa2 RX1.length oc2), (15, .int .i64 (((c : Nat) : Int)))] ⟨rfl, rfl, rfl, rfl, rfl, rfl, rfl, trivial⟩ fun G27 => ?_
      refine wp_block ?_
      refine k_reg ?_
      refine s_val hS24 rfl rfl (r_move rfl (.t rfl rfl)) ?_
      refine s_val hS24 rfl rfl (r_arith rfl rfl (.t rfl rfl) .c (c := ((c + 1 : Nat) : Int)) (wn_i64 (by show (((c : Nat) : Int) : Int) + 1 = _; omega) (by omega))) ?_
      refine s_val hS24 rfl rfl (r_assign rfl (.t rfl rfl)) ?_
      refine wpList_nil ?_
      refine x_bn ?_
      refine x_tn ?_
      refine ⟨RR1.length - (c + 1), by omega, _, c + 1, fr_reb _ ⟨rfl, rfl, rfl, rfl, rfl, rfl, rfl, trivial⟩, hS24, ?_⟩
      exact ⟨by omega, by omega, by rw [← plcL_get (by omega)]; exact hle⟩
     ·
      refine s_valg hS24 (wanted_of (j := 5) (b := true) (d := 110) rfl rfl rfl rfl) rfl (r_cmp_f rfl rfl (.t rfl rfl) (.t rfl rfl) (show ¬ (((((plcL RR1)).getD (c + 1) 0 : Nat) : Int) ≤ ((k1 : Nat) : Int)) from by omega)) ?_
      refine s_val hS24 rfl rfl (r_pick rfl (.t rfl rfl) (.t rfl rfl)) ?_
      refine wpList_nil ?_
      refine x_tn ?_
      refine k_reb [(2, .bool false), (4, .slice oa1 RR1.length oc1), (5, .slice pa1 (RR1.length + 1) pc1), (8, .int .i64 (((k1 : Nat) : Int))), (9, .slice ra2 (((logL RR1)).length) rc2), (11, .slice oa2 RX1.length oc2), (15, .int .i64 (((c : Nat) : Int))), (118, .bool false)] ⟨rfl, rfl, rfl, rfl, rfl, rfl, rfl, rfl, trivial⟩ fun G28 => ?_
      refine k_f (.t rfl rfl) ?_
      refine wp_exit ?_
      refine x_te ?_
      refine x_te ?_
      refine x_be ?_
      refine x_tn ?_
      refine k_reb [(2, .bool false), (4, .slice oa1 RR1.length oc1), (5, .slice pa1 (RR1.length + 1) pc1), (9, .slice ra2 (((logL RR1)).length) rc2), (11, .slice oa2 RX1.length oc2), (15, .int .i64 (((c : Nat) : Int)))] ⟨rfl, rfl, rfl, rfl, rfl, rfl, trivial⟩ fun G29 => ?_
      refine wp_seq ?_
      refine wp_seq ?_
      refine k_reg ?_
      have hcq : c = q1 := spo_same hqa1 hqb1 hqc1 hc hcn (.inr (by rw [← plcL_get (by omega)]; omega))
      have htq : (RR1.take q1).length = q1 := by rw [List.length_take]; omega
      refine s_val hS24 rfl rfl (r_move rfl (.t rfl rfl)) ?_
      refine s_val hS24 rfl rfl (r_len rfl rfl Try.underlying30 (.t rfl rfl)) ?_
      refine s_val hS24 rfl rfl (r_move rfl (.t rfl rfl)) ?_
      by_cases hgt : RX1.length > c
      ·
       refine s_val hS24 rfl rfl (r_cmp_t rfl rfl (.t rfl rfl) (.t rfl rfl) (show ((RX1.length : Nat) : Int) > ((c : Nat) : Int) from by omega)) ?_
       refine wpList_nil ?_
       refine x_tn ?_
       refine k_reb [(2, .bool false), (4, .slice oa1 RR1.length oc1), (5, .slice pa1 (RR1.length + 1) pc1), (9, .slice ra2 (((logL RR1)).length) rc2), (11, .slice oa2 RX1.length oc2), (15, .int .i64 (((c : Nat) : Int))), (124, .bool true)] ⟨rfl, rfl, rfl, rfl, rfl, rfl, rfl, trivial⟩ fun G30 => ?_
       refine k_t (.t rfl rfl) ?_
       refine wp_seq ?_
       refine k_reg ?_
       refine s_val hS24 rfl rfl (Rn.asS (p' := (((logL RR1).set k1 (((logL RR1).getD k1 0) ^^^ by_))).length) (q' := rc2) (by omega) (by omega) (r_move rfl (.t rfl rfl))) ?_
       refine s_val hS24 rfl rfl (r_move rfl (.t rfl rfl)) ?_
       refine s_val hS24 rfl rfl (r_move rfl (.t rfl rfl)) ?_
       refine s_val hS24 rfl rfl (r_ixl (j := c) rfl Try.underlying34 ti3 (.t rfl rfl) (.t rfl rfl) (hP1.sl (by omega) hLd1.pfit) hLd1.plen rfl (by omega)) ?_
       have b4 : ((plcL RR1)).getD c 0 ≤ 9223372036854775807 := (hP1.sl (by omega) hLd1.pfit).lt _
       refine s_val hS24 rfl rfl (r_load rfl one3 (.t rfl rfl) ((hP1.sl (by omega) hLd1.pfit).cell_p (i := 5) rfl (by omega))) ?_
       have hpb := plcL_get (RR := RR1) (i := c) (by omega)
       have hpc := plc_le (RR := RR1) (i := c) (by omega)
       have hq1 := ((hG3.sl (by omega) hCf)).le
       have hx1 : Sl .u8 (cutA ra2 (((plcL RR1)).getD c 0) rc2) (rc2 - (((plcL RR1)).getD c 0)) (((((logL RR1)).set k1 (((((logL RR1))).getD k1 0) ^^^ by_))).drop (((plcL RR1)).getD c 0)) sg5 := (hG3.sl (by omega) hCf).drop_ (by omega)
       have hn1 : (((((logL RR1)).set k1 (((((logL RR1))).getD k1 0) ^^^ by_))).drop (((plcL RR1)).getD c 0)).length = (((logL RR1).set k1 (((logL RR1).getD k1 0) ^^^ by_))).length - (((plcL RR1)).getD c 0) := by simp only [List.length_drop, List.length_take] <;> omega
       refine s_val hS24 rfl rfl (Rn.asSl (p' := (((((logL RR1)).set k1 (((((logL RR1))).getD k1 0) ^^^ by_))).drop (((plcL RR1)).getD c 0)).length) rfl (by omega) rfl (r_cutl rfl Try.underlying22 ti5 (.t rfl rfl) (hG3.sl (by omega) hCf) rfl (.s (.t rfl rfl)) .n .n (lw := ((plcL RR1)).getD c 0) (hh := (((logL RR1).set k1 (((logL RR1).getD k1 0) ^^^ by_))).length) (m := rc2) (by omega) (by omega) (by omega) (by omega))) ?_
       have hsp : SumsP (((logL RR1).set k1 (((logL RR1).getD k1 0) ^^^ by_)).drop ((plcL RR1).getD c 0)) := by
        rw [plcL_get (by omega), hcq]
        rcases hqd1 with r | r
        ·
         rw [r] at hgt; omega
        ·
         exact r.2
       refine s_call rfl rfl rfl (vs := [.slice (cutA ra2 (((plcL RR1)).getD c 0) rc2) ((((((logL RR1)).set k1 (((((logL RR1))).getD k1 0) ^^^ by_))).drop (((plcL RR1)).getD c 0)).length) (rc2 - (((plcL RR1)).getD c 0))]) ⟨(.t rfl rfl), trivial⟩ cb22 (Sums_ok w16 (cutA ra2 (((plcL RR1)).getD c 0) rc2) (rc2 - (((plcL RR1)).getD c 0)) (((((logL RR1)).set k1 (((((logL RR1))).getD k1 0) ^^^ by_))).drop (((plcL RR1)).getD c 0)) sg5 hx1 (Old.of_piece (i := 7) (xs := []) [] hS24 rfl rfl (by decide)) hsp (by omega) ) ?_
       rintro _ w17 ⟨rfl, ht14⟩
       have hS25 : St w0 [] (fl [[(blk1, .cells #[.slice aPL PL.length cPL, .int .i64 x, .int .i64 y, .int .u8 (((by_ : Nat) : Int))] 32 (0, 0))], (pk d1 m1 D3), [(l1, .cells #[.pointer (some ⟨d1, 0, none⟩), .string (⟨#[106]⟩), .int .i64 (((z1.size : Nat) : Int)), .int .i64 (((z1.count : Nat) : Int)), .bool z1.off] 92 (0, 0))], sm4, sg1, sg2, sg3, sg5, sg6, sg8]) w17 := hS24.callL (xs := []) (xs' := []) (zs := []) [] rfl (by decide) ht14 rfl rfl
       refine s_val hS25 rfl rfl (r_move rfl (.t rfl rfl)) ?_
       refine s_callg (wanted_of (j := 7) (b := true) (d := 132) rfl rfl rfl rfl) rfl rfl (vs := []) trivial cb12 (works_ok w17  ) ?_
       rintro _ w18 ⟨rfl, ht15⟩
       have hS26 : St w0 [] (fl [[(blk1, .cells #[.slice aPL PL.length cPL, .int .i64 x, .int .i64 y, .int .u8 (((by_ : Nat) : Int))] 32 (0, 0))], (pk d1 m1 D3), [(l1, .cells #[.pointer (some ⟨d1, 0, none⟩), .string (⟨#[106]⟩), .int .i64 (((z1.size : Nat) : Int)), .int .i64 (((z1.count : Nat) : Int)), .bool z1.off] 92 (0, 0))], sm4, sg1, sg2, sg3, sg5, sg6, sg8]) w18 := hS25.callL (xs := []) (xs' := []) (zs := []) [] rfl (by decide) ht15 rfl rfl
       refine s_val hS26 rfl rfl (r_pick rfl (.t rfl rfl) (.t rfl rfl)) ?_
       refine s_val hS26 rfl rfl (r_assign rfl (.t rfl rfl)) ?_
       refine wpList_nil ?_
       refine x_tn ?_
       refine k_reb [(2, .bool true), (4, .slice oa1 RR1.length oc1), (11, .slice oa2 RX1.length oc2), (15, .int .i64 (((c : Nat) : Int)))] ⟨rfl, rfl, rfl, rfl, trivial⟩ fun G31 => ?_
       refine wp_ret ?_
       refine x_tr ?_
       refine k_ret1 Try.results4 rfl rfl ?_
       refine ⟨_, rfl, ?_⟩
       have hS27 : St w0 [] (fl []) w18 := hS26.pick [] rfl (by decide)
       exact ⟨rfl, hS27⟩
      ·
       refine s_val hS24 rfl rfl (r_cmp_f rfl rfl (.t rfl rfl) (.t rfl rfl) (show ¬ (((RX1.length : Nat) : Int) > ((c : Nat) : Int)) from by omega)) ?_
       refine wpList_nil ?_
       refine x_tn ?_
       refine k_reb [(2, .bool false), (4, .slice oa1 RR1.length oc1), (5, .slice pa1 (RR1.length + 1) pc1), (9, .slice ra2 (((logL RR1)).length) rc2), (11, .slice oa2 RX1.length oc2), (15, .int .i64 (((c : Nat) : Int))), (124, .bool false)] ⟨rfl, rfl, rfl, rfl, rfl, rfl, rfl, trivial⟩ fun G32 => ?_
       refine k_f (.t rfl rfl) ?_
       refine wp_skip ?_
       refine x_tn ?_
       refine k_reb [(2, .bool false), (4, .slice oa1 RR1.length oc1), (11, .slice oa2 RX1.length oc2), (15, .int .i64 (((c : Nat) : Int)))] ⟨rfl, rfl, rfl, rfl, trivial⟩ fun G33 => ?_
       refine wp_seq ?_
       refine k_reg ?_
       refine s_val hS24 rfl rfl (r_move rfl (.t rfl rfl)) ?_
       have hRq : RX1 = RR1.take q1 := by
        rcases hqd1 with r | r
        ·
         exact r
        ·
         omega
       have hRl : RX1.length = q1 := by rw [hRq]; exact htq
       refine s_val hS24 rfl rfl (r_move rfl (.t rfl rfl)) ?_
       refine s_val hS24 rfl rfl (r_move rfl (.t rfl rfl)) ?_
       refine s_val hS24 rfl rfl (r_len rfl rfl Try.underlying30 (.t rfl rfl)) ?_
       obtain ⟨us1, hw1⟩ := hO1.sl R2.mono (by first | omega | (simp; done))
       have hw2 := hw1.take (n := RX1.length)
       have hq2 := (hw1).le
       refine s_val hS24 rfl rfl (Rn.asSl (ad' := oa1) (p' := (RR1.take RX1.length).length) (q' := oc1) rfl (by rw [List.length_take]; omega) rfl (r_cut0 rfl Try.underlying30 ti56 (.t rfl rfl) (hh := RX1.length) (.s (.t rfl rfl)) .n (by omega) (by first | omega | exact Nat.le_refl _))) ?_
       obtain ⟨us2, hw3⟩ := hO2.sl R2.mono (by omega)
       refine s_call rfl rfl rfl (vs := [.slice oa2 RX1.length oc2, .slice oa1 ((RR1.take RX1.length).length) oc1]) ⟨(.t rfl rfl), (.t rfl rfl), trivial⟩ cb23 (eqRows_ok w16 oa2 oc2 _ RX1 sg6 hw3 (Old.of_piece (i := 8) (xs := []) [] hS24 rfl rfl (by decide)) oa1 oc1 _ (RR1.take RX1.length) sg1 hw2 (Old.of_piece (i := 4) (xs := []) [] hS24 rfl rfl (by decide)) ) ?_
       rintro _ w19 ⟨rfl, ht16⟩
       have hS28 : St w0 [] (fl [[(blk1, .cells #[.slice aPL PL.length cPL, .int .i64 x, .int .i64 y, .int .u8 (((by_ : Nat) : Int))] 32 (0, 0))], (pk d1 m1 D3), [(l1, .cells #[.pointer (some ⟨d1, 0, none⟩), .string (⟨#[106]⟩), .int .i64 (((z1.size : Nat) : Int)), .int .i64 (((z1.count : Nat) : Int)), .bool z1.off] 92 (0, 0))], sm4, sg1, sg2, sg3, sg5, sg6, sg8]) w19 := hS24.callL (xs := []) (xs' := []) (zs := []) [] rfl (by decide) ht16 rfl rfl
       by_cases he2 : RX1 = (RR1.take RX1.length)
       ·
        refine s_asb (b' := true) (decide_eq_true he2) ?_
        refine s_val hS28 rfl rfl (r_move rfl (.t rfl rfl)) ?_
        refine s_valg hS28 (wanted_of (j := 6) (b := true) (d := 141) rfl rfl rfl rfl) rfl (r_move rfl (.t rfl rfl)) ?_
        refine s_valg hS28 (wanted_of (j := 6) (b := true) (d := 141) rfl rfl rfl rfl) rfl (r_len rfl rfl Try.underlying30 (.t rfl rfl)) ?_
        refine s_valg hS28 (wanted_of (j := 6) (b := true) (d := 141) rfl rfl rfl rfl) rfl (r_move rfl (.t rfl rfl)) ?_
        refine s_valg hS28 (wanted_of (j := 6) (b := true) (d := 141) rfl rfl rfl rfl) rfl (r_cmp_t rfl rfl (.t rfl rfl) (.t rfl rfl) (show ((RX1.length : Nat) : Int) = ((c : Nat) : Int) from by omega)) ?_
        refine s_val hS28 rfl rfl (r_pick rfl (.t rfl rfl) (.t rfl rfl)) ?_
        refine s_val hS28 rfl rfl (r_move rfl (.t rfl rfl)) ?_
        refine s_callg (wanted_of (j := 12) (b := true) (d := 147) rfl rfl rfl rfl) rfl rfl (vs := []) trivial cb12 (works_ok w19  ) ?_
        rintro _ w20 ⟨rfl, ht17⟩
        have hS29 : St w0 [] (fl [[(blk1, .cells #[.slice aPL PL.length cPL, .int .i64 x, .int .i64 y, .int .u8 (((by_ : Nat) : Int))] 32 (0, 0))], (pk d1 m1 D3), [(l1, .cells #[.pointer (some ⟨d1, 0, none⟩), .string (⟨#[106]⟩), .int .i64 (((z1.size : Nat) : Int)), .int .i64 (((z1.count : Nat) : Int)), .bool z1.off] 92 (0, 0))], sm4, sg1, sg2, sg3, sg5, sg6, sg8]) w20 := hS28.callL (xs := []) (xs' := []) (zs := []) [] rfl (by decide) ht17 rfl rfl
        refine s_val hS29 rfl rfl (r_pick rfl (.t rfl rfl) (.t rfl rfl)) ?_
        refine s_val hS29 rfl rfl (r_assign rfl (.t rfl rfl)) ?_
        refine wpList_nil ?_
        refine x_tn ?_
        refine k_reb [(2, .bool true)] ⟨rfl, trivial⟩ fun G34 => ?_
        refine wp_ret ?_
        refine k_ret1 Try.results4 rfl rfl ?_
        refine ⟨_, rfl, ?_⟩
        have hS30 : St w0 [] (fl []) w20 := hS29.pick [] rfl (by decide)
        exact ⟨rfl, hS30⟩
       ·
        exact absurd (by rw [hRl]; exact hRq) he2
    ·
     refine s_val hS24 rfl rfl (r_cmp_f rfl rfl (.t rfl rfl) (.t rfl rfl) (show ¬ (((c + 2 : Nat) : Int) < ((RR1.length + 1 : Nat) : Int)) from by omega)) ?_
     refine s_val hS24 rfl rfl (r_move rfl (.t rfl rfl)) ?_
     refine s_skip (unwanted_of (j := 5) (b := true) (b' := false) (d := 110) rfl rfl rfl rfl rfl) rfl ?_
     refine s_skip (unwanted_of (j := 5) (b := true) (b' := false) (d := 110) rfl rfl rfl rfl rfl) rfl ?_
     refine s_skip (unwanted_of (j := 5) (b := true) (b' := false) (d := 110) rfl rfl rfl rfl rfl) rfl ?_
     refine s_skip (unwanted_of (j := 5) (b := true) (b' := false) (d := 110) rfl rfl rfl rfl rfl) rfl ?_
     refine s_skip (unwanted_of (j := 5) (b := true) (b' := false) (d := 110) rfl rfl rfl rfl rfl) rfl ?_
     refine s_skip (unwanted_of (j := 5) (b := true) (b' := false) (d := 110) rfl rfl rfl rfl rfl) rfl ?_
     refine s_skip (unwanted_of (j := 5) (b := true) (b' := false) (d := 110) rfl rfl rfl rfl rfl) rfl ?_
     refine s_val hS24 rfl rfl (r_pick rfl (.t rfl rfl) .c) ?_
     refine wpList_nil ?_
     refine x_tn ?_
     refine k_reb [(2, .bool false), (4, .slice oa1 RR1.length oc1), (5, .slice pa1 (RR1.length + 1) pc1), (8, .int .i64 (((k1 : Nat) : Int))), (9, .slice ra2 (((logL RR1)).length) rc2), (11, .slice oa2 RX1.length oc2), (15, .int .i64 (((c : Nat) : Int))), (118, .bool false)] ⟨rfl, rfl, rfl, rfl, rfl, rfl, rfl, rfl, trivial⟩ fun G35 => ?_
     refine k_f (.t rfl rfl) ?_
     refine wp_exit ?_
     refine x_te ?_
     refine x_te ?_
     refine x_be ?_
     refine x_tn ?_
     refine k_reb [(2, .bool false), (4, .slice oa1 RR1.length oc1), (5, .slice pa1 (RR1.length + 1) pc1), (9, .slice ra2 (((logL RR1)).length) rc2), (11, .slice oa2 RX1.length oc2), (15, .int .i64 (((c : Nat) : Int)))] ⟨rfl, rfl, rfl, rfl, rfl, rfl, trivial⟩ fun G36 => ?_
     refine wp_seq ?_
     refine wp_seq ?_
     refine k_reg ?_
     have hcq : c = q1 := spo_same hqa1 hqb1 hqc1 hc hcn (.inl (by omega))
     have htq : (RR1.take q1).length = q1 := by rw [List.length_take]; omega
     refine s_val hS24 rfl rfl (r_move rfl (.t rfl rfl)) ?_
     refine s_val hS24 rfl rfl (r_len rfl rfl Try.underlying30 (.t rfl rfl)) ?_
     refine s_val hS24 rfl rfl (r_move rfl (.t rfl rfl)) ?_
     by_cases hgt : RX1.length > c
     ·
      refine s_val hS24 rfl rfl (r_cmp_t rfl rfl (.t rfl rfl) (.t rfl rfl) (show ((RX1.length : Nat) : Int) > ((c : Nat) : Int) from by omega)) ?_
      refine wpList_nil ?_
      refine x_tn ?_
      refine k_reb [(2, .bool false), (4, .slice oa1 RR1.length oc1), (5, .slice pa1 (RR1.length + 1) pc1), (9, .slice ra2 (((logL RR1)).length) rc2), (11, .slice oa2 RX1.length oc2), (15, .int .i64 (((c : Nat) : Int))), (124, .bool true)] ⟨rfl, rfl, rfl, rfl, rfl, rfl, rfl, trivial⟩ fun G37 => ?_
      refine k_t (.t rfl rfl) ?_
      refine wp_seq ?_
      refine k_reg ?_
      refine s_val hS24 rfl rfl (Rn.asS (p' := (((logL RR1).set k1 (((logL RR1).getD k1 0) ^^^ by_))).length) (q' := rc2) (by omega) (by omega) (r_move rfl (.t rfl rfl))) ?_
      refine s_val hS24 rfl rfl (r_move rfl (.t rfl rfl)) ?_
      refine s_val hS24 rfl rfl (r_move rfl (.t rfl rfl)) ?_
      refine s_val hS24 rfl rfl (r_ixl (j := c) rfl Try.underlying34 ti3 (.t rfl rfl) (.t rfl rfl) (hP1.sl (by omega) hLd1.pfit) hLd1.plen rfl (by omega)) ?_
      have b5 : ((plcL RR1)).getD c 0 ≤ 9223372036854775807 := (hP1.sl (by omega) hLd1.pfit).lt _
      refine s_val hS24 rfl rfl (r_load rfl one3 (.t rfl rfl) ((hP1.sl (by omega) hLd1.pfit).cell_p (i := 5) rfl (by omega))) ?_
      have hpb := plcL_get (RR := RR1) (i := c) (by omega)
      have hpc := plc_le (RR := RR1) (i := c) (by omega)
      have hq3 := ((hG3.sl (by omega) hCf)).le
      have hx2 : Sl .u8 (cutA ra2 (((plcL RR1)).getD c 0) rc2) (rc2 - (((plcL RR1)).getD c 0)) (((((logL RR1)).set k1 (((((logL RR1))).getD k1 0) ^^^ by_))).drop (((plcL RR1)).getD c 0)) sg5 := (hG3.sl (by omega) hCf).drop_ (by omega)
      have hn2 : (((((logL RR1)).set k1 (((((logL RR1))).getD k1 0) ^^^ by_))).drop (((plcL RR1)).getD c 0)).length = (((logL RR1).set k1 (((logL RR1).getD k1 0) ^^^ by_))).length - (((plcL RR1)).getD c 0) := by simp only [List.length_drop, List.length_take] <;> omega
      refine s_val hS24 rfl rfl (Rn.asSl (p' := (((((logL RR1)).set k1 (((((logL RR1))).getD k1 0) ^^^ by_))).drop (((plcL RR1)).getD c 0)).length) rfl (by omega) rfl (r_cutl rfl Try.underlying22 ti5 (.t rfl rfl) (hG3.sl (by omega) hCf) rfl (.s (.t rfl rfl)) .n .n (lw := ((plcL RR1)).getD c 0) (hh := (((logL RR1).set k1 (((logL RR1).getD k1 0) ^^^ by_))).length) (m := rc2) (by omega) (by omega) (by omega) (by omega))) ?_
      have hsp : SumsP (((logL RR1).set k1 (((logL RR1).getD k1 0) ^^^ by_)).drop ((plcL RR1).getD c 0)) := by
       rw [plcL_get (by omega), hcq]
       rcases hqd1 with r | r
       ·
        rw [r] at hgt; omega
       ·
        exact r.2
      refine s_call rfl rfl rfl (vs := [.slice (cutA ra2 (((plcL RR1)).getD c 0) rc2) ((((((logL RR1)).set k1 (((((logL RR1))).getD k1 0) ^^^ by_))).drop (((plcL RR1)).getD c 0)).length) (rc2 - (((plcL RR1)).getD c 0))]) ⟨(.t rfl rfl), trivial⟩ cb22 (Sums_ok w16 (cutA ra2 (((plcL RR1)).getD c 0) rc2) (rc2 - (((plcL RR1)).getD c 0)) (((((logL RR1)).set k1 (((((logL RR1))).getD k1 0) ^^^ by_))).drop (((plcL RR1)).getD c 0)) sg5 hx2 (Old.of_piece (i := 7) (xs := []) [] hS24 rfl rfl (by decide)) hsp (by omega) ) ?_
      rintro _ w21 ⟨rfl, ht18⟩
      have hS31 : St w0 [] (fl [[(blk1, .cells #[.slice aPL PL.length cPL, .int .i64 x, .int .i64 y, .int .u8 (((by_ : Nat) : Int))] 32 (0, 0))], (pk d1 m1 D3), [(l1, .cells #[.pointer (some ⟨d1, 0, none⟩), .string (⟨#[106]⟩), .int .i64 (((z1.size : Nat) : Int)), .int .i64 (((z1.count : Nat) : Int)), .bool z1.off] 92 (0, 0))], sm4, sg1, sg2, sg3, sg5, sg6, sg8]) w21 := hS24.callL (xs := []) (xs' := []) (zs := []) [] rfl (by decide) ht18 rfl rfl
      refine s_val hS31 rfl rfl (r_move rfl (.t rfl rfl)) ?_
      refine s_callg (wanted_of (j := 7) (b := true) (d := 132) rfl rfl rfl rfl) rfl rfl (vs := []) trivial cb12 (works_ok w21  ) ?_
      rintro _ w22 ⟨rfl, ht19⟩
      have hS32 : St w0 [] (fl [[(blk1, .cells #[.slice aPL PL.length cPL, .int .i64 x, .int .i64 y, .int .u8 (((by_ : Nat) : Int))] 32 (0, 0))], (pk d1 m1 D3), [(l1, .cells #[.pointer (some ⟨d1, 0, none⟩), .string (⟨#[106]⟩), .int .i64 (((z1.size : Nat) : Int)), .int .i64 (((z1.count : Nat) : Int)), .bool z1.off] 92 (0, 0))], sm4, sg1, sg2, sg3, sg5, sg6, sg8]) w22 := hS31.callL (xs := []) (xs' := []) (zs := []) [] rfl (by decide) ht19 rfl rfl
      refine s_val hS32 rfl rfl (r_pick rfl (.t rfl rfl) (.t rfl rfl)) ?_
      refine s_val hS32 rfl rfl (r_assign rfl (.t rfl rfl)) ?_
      refine wpList_nil ?_
      refine x_tn ?_
      refine k_reb [(2, .bool true), (4, .slice oa1 RR1.length oc1), (11, .slice oa2 RX1.length oc2), (15, .int .i64 (((c : Nat) : Int)))] ⟨rfl, rfl, rfl, rfl, trivial⟩ fun G38 => ?_
      refine wp_ret ?_
      refine x_tr ?_
      refine k_ret1 Try.results4 rfl rfl ?_
      refine ⟨_, rfl, ?_⟩
      have hS33 : St w0 [] (fl []) w22 := hS32.pick [] rfl (by decide)
      exact ⟨rfl, hS33⟩
     ·
      refine s_val hS24 rfl rfl (r_cmp_f rfl rfl (.t rfl rfl) (.t rfl rfl) (show ¬ (((RX1.length : Nat) : Int) > ((c : Nat) : Int)) from by omega)) ?_
      refine wpList_nil ?_
      refine x_tn ?_
      refine k_reb [(2, .bool false), (4, .slice oa1 RR1.length oc1), (5, .slice pa1 (RR1.length + 1) pc1), (9, .slice ra2 (((logL RR1)).length) rc2), (11, .slice oa2 RX1.length oc2), (15, .int .i64 (((c : Nat) : Int))), (124, .bool false)] ⟨rfl, rfl, rfl, rfl, rfl, rfl, rfl, trivial⟩ fun G39 => ?_
      refine k_f (.t rfl rfl) ?_
      refine wp_skip ?_
      refine x_tn ?_
      refine k_reb [(2, .bool false), (4, .slice oa1 RR1.length oc1), (11, .slice oa2 RX1.length oc2), (15, .int .i64 (((c : Nat) : Int)))] ⟨rfl, rfl, rfl, rfl, trivial⟩ fun G40 => ?_
      refine wp_seq ?_
      refine k_reg ?_
      refine s_val hS24 rfl rfl (r_move rfl (.t rfl rfl)) ?_
      have hRq : RX1 = RR1.take q1 := by
       rcases hqd1 with r | r
       ·
        exact r
       ·
        omega
      have hRl : RX1.length = q1 := by rw [hRq]; exact htq
      refine s_val hS24 rfl rfl (r_move rfl (.t rfl rfl)) ?_
      refine s_val hS24 rfl rfl (r_move rfl (.t rfl rfl)) ?_
      refine s_val hS24 rfl rfl (r_len rfl rfl Try.underlying30 (.t rfl rfl)) ?_
      obtain ⟨us3, hw4⟩ := hO1.sl R2.mono (by first | omega | (simp; done))
      have hw5 := hw4.take (n := RX1.length)
      have hq4 := (hw4).le
      refine s_val hS24 rfl rfl (Rn.asSl (ad' := oa1) (p' := (RR1.take RX1.length).length) (q' := oc1) rfl (by rw [List.length_take]; omega) rfl (r_cut0 rfl Try.underlying30 ti56 (.t rfl rfl) (hh := RX1.length) (.s (.t rfl rfl)) .n (by omega) (by first | omega | exact Nat.le_refl _))) ?_
      obtain ⟨us4, hw6⟩ := hO2.sl R2.mono (by omega)
      refine s_call rfl rfl rfl (vs := [.slice oa2 RX1.length oc2, .slice oa1 ((RR1.take RX1.length).length) oc1]) ⟨(.t rfl rfl), (.t rfl rfl), trivial⟩ cb23 (eqRows_ok w16 oa2 oc2 _ RX1 sg6 hw6 (Old.of_piece (i := 8) (xs := []) [] hS24 rfl rfl (by decide)) oa1 oc1 _ (RR1.take RX1.length) sg1 hw5 (Old.of_piece (i := 4) (xs := []) [] hS24 rfl rfl (by decide)) ) ?_
      rintro _ w23 ⟨rfl, ht20⟩
      have hS34 : St w0 [] (fl [[(blk1, .cells #[.slice aPL PL.length cPL, .int .i64 x, .int .i64 y, .int .u8 (((by_ : Nat) : Int))] 32 (0, 0))], (pk d1 m1 D3), [(l1, .cells #[.pointer (some ⟨d1, 0, none⟩), .string (⟨#[106]⟩), .int .i64 (((z1.size : Nat) : Int)), .int .i64 (((z1.count : Nat) : Int)), .bool z1.off] 92 (0, 0))], sm4, sg1, sg2, sg3, sg5, sg6, sg8]) w23 := hS24.callL (xs := []) (xs' := []) (zs := []) [] rfl (by decide) ht20 rfl rfl
      by_cases he2 : RX1 = (RR1.take RX1.length)
      ·
       refine s_asb (b' := true) (decide_eq_true he2) ?_
       refine s_val hS34 rfl rfl (r_move rfl (.t rfl rfl)) ?_
       refine s_valg hS34 (wanted_of (j := 6) (b := true) (d := 141) rfl rfl rfl rfl) rfl (r_move rfl (.t rfl rfl)) ?_
       refine s_valg hS34 (wanted_of (j := 6) (b := true) (d := 141) rfl rfl rfl rfl) rfl (r_len rfl rfl Try.underlying30 (.t rfl rfl)) ?_
       refine s_valg hS34 (wanted_of (j := 6) (b := true) (d := 141) rfl rfl rfl rfl) rfl (r_move rfl (.t rfl rfl)) ?_
       refine s_valg hS34 (wanted_of (j := 6) (b := true) (d := 141) rfl rfl rfl rfl) rfl (r_cmp_t rfl rfl (.t rfl rfl) (.t rfl rfl) (show ((RX1.length : Nat) : Int) = ((c : Nat) : Int) from by omega)) ?_
       refine s_val hS34 rfl rfl (r_pick rfl (.t rfl rfl) (.t rfl rfl)) ?_
       refine s_val hS34 rfl rfl (r_move rfl (.t rfl rfl)) ?_
       refine s_callg (wanted_of (j := 12) (b := true) (d := 147) rfl rfl rfl rfl) rfl rfl (vs := []) trivial cb12 (works_ok w23  ) ?_
       rintro _ w24 ⟨rfl, ht21⟩
       have hS35 : St w0 [] (fl [[(blk1, .cells #[.slice aPL PL.length cPL, .int .i64 x, .int .i64 y, .int .u8 (((by_ : Nat) : Int))] 32 (0, 0))], (pk d1 m1 D3), [(l1, .cells #[.pointer (some ⟨d1, 0, none⟩), .string (⟨#[106]⟩), .int .i64 (((z1.size : Nat) : Int)), .int .i64 (((z1.count : Nat) : Int)), .bool z1.off] 92 (0, 0))], sm4, sg1, sg2, sg3, sg5, sg6, sg8]) w24 := hS34.callL (xs := []) (xs' := []) (zs := []) [] rfl (by decide) ht21 rfl rfl
       refine s_val hS35 rfl rfl (r_pick rfl (.t rfl rfl) (.t rfl rfl)) ?_
       refine s_val hS35 rfl rfl (r_assign rfl (.t rfl rfl)) ?_
       refine wpList_nil ?_
       refine x_tn ?_
       refine k_reb [(2, .bool true)] ⟨rfl, trivial⟩ fun G41 => ?_
       refine wp_ret ?_
       refine k_ret1 Try.results4 rfl rfl ?_
       refine ⟨_, rfl, ?_⟩
       have hS36 : St w0 [] (fl []) w24 := hS35.pick [] rfl (by decide)
       exact ⟨rfl, hS36⟩
      ·
       exact absurd (by rw [hRl]; exact hRq) he2

end Go.Proofs.Ytdmiklegahdafaa

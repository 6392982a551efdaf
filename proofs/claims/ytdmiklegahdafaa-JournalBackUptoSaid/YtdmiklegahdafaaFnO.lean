/- Contracts of functions of the program, each walked once. -/
import Derived.Test.YtdmiklegahdafaaFnM
namespace Go.Proofs.Ytdmiklegahdafaa
open Go Go.RowKit K
namespace FO
theorem mixed : Try.prog.follows .mixedOrders = true := by kernel_rfl
theorem cb12 : callable Try.prog 12 = true := by kernel_rfl
theorem cb16 : callable Try.prog 16 = true := by kernel_rfl
theorem cb19 : callable Try.prog 19 = true := by kernel_rfl
theorem cb23 : callable Try.prog 23 = true := by kernel_rfl
theorem cb25 : callable Try.prog 25 = true := by kernel_rfl
theorem cb27 : callable Try.prog 27 = true := by kernel_rfl
theorem cb28 : callable Try.prog 28 = true := by kernel_rfl
theorem cb29 : callable Try.prog 29 = true := by kernel_rfl
theorem cb30 : callable Try.prog 30 = true := by kernel_rfl
theorem cb31 : callable Try.prog 31 = true := by kernel_rfl
theorem cb33 : callable Try.prog 33 = true := by kernel_rfl
theorem cb35 : callable Try.prog 35 = true := by kernel_rfl
theorem cb36 : callable Try.prog 36 = true := by kernel_rfl
theorem cb37 : callable Try.prog 37 = true := by kernel_rfl
theorem one22 : One Try.prog 22 = true := by kernel_rfl
theorem one3 : One Try.prog 3 = true := by kernel_rfl
theorem one30 : One Try.prog 30 = true := by kernel_rfl
theorem one34 : One Try.prog 34 = true := by kernel_rfl
theorem one56 : One Try.prog 56 = true := by kernel_rfl
theorem ti22 : (Try.prog.info? 22).map (fun i => (i.zero, i.size, i.bytes)) = some (some (.slice none 0 0), 1, 24) := by kernel_rfl
theorem ti3 : (Try.prog.info? 3).map (fun i => (i.zero, i.size, i.bytes)) = some (some (.int .i64 0), 1, 8) := by kernel_rfl
theorem ti30 : (Try.prog.info? 30).map (fun i => (i.zero, i.size, i.bytes)) = some (some (.slice none 0 0), 1, 24) := by kernel_rfl
theorem ti34 : (Try.prog.info? 34).map (fun i => (i.zero, i.size, i.bytes)) = some (some (.slice none 0 0), 1, 24) := by kernel_rfl
theorem ti56 : (Try.prog.info? 56).map (fun i => (i.zero, i.size, i.bytes)) = some (some (.slice none 0 0), 1, 24) := by kernel_rfl
theorem ti63 : (Try.prog.info? 63).map (fun i => (i.zero, i.size, i.bytes)) = some (some (.agg #[.int .i64 0, .int .i64 0, .string ⟨#[]⟩, .slice none 0 0, .slice none 0 0, .int .i64 0, .int .i64 0, .int .i64 0]), 8, 104) := by kernel_rfl
theorem pl63 : ∀ w, (fieldPlaces (match Try.prog.underlying 63 with | some (.struct fs) => fs | _ => #[])).run Try.prog w = .ok #[(0, 1), (1, 1), (2, 1), (3, 1), (4, 1), (5, 1), (6, 1), (7, 1)] w := fun w => by kernel_rfl

end FO
open FO
attribute [local irreducible] Go.wpList Go.wpQuiet Go.wpStill Go.wpAny Go.Code.wp
set_option maxRecDepth 10000
set_option maxHeartbeats 8000000
set_option linter.unusedVariables false
set_option linter.unusedSimpArgs false
theorem JournalBack_ok (w0 : World) (aPL : Option Addr) (cPL : Nat) (uPL : List Value) (PL : List (List (List Nat))) (vPL : Hp) (hPL : RwV R2 aPL cPL uPL PL vPL) (oPL : Old w0 [] vPL) (aCL : Option Addr) (cCL : Nat) (uCL : List Value) (CL : List Int) (vCL : Hp) (hCL : RwV RI aCL cCL uCL CL vCL) (oCL : Old w0 [] vCL) (hPr : ∀ LL ∈ PL, ∀ r ∈ LL, r.length ≤ 1000000000000) :
  Calls Try.prog 9 #[.agg #[.slice aPL PL.length cPL, .slice aCL CL.length cCL]] w0 (Ret fun v w' => v = .bool true ∧ St w0 [] (fl []) w') := by
 refine k_enter (vs := [.agg #[.slice aPL PL.length cPL, .slice aCL CL.length cCL]]) Try.func9 rfl Try.ntmps9 rfl ?_
 have hS : St w0 [] (fl []) w0 := St.init w0
 have mP := hPL.most
 have mC := hCL.most
 refine wp_seq ?_
 refine k_reg ?_
 refine s_box rfl rfl rfl (.t rfl rfl) (cs := #[.slice aPL PL.length cPL, .slice aCL CL.length cCL]) rfl hS fun blk1 w1 hb1 hB1 hS1 => ?_
 have hS2 : St w0 [] (fl [[(blk1, .cells #[.slice aPL PL.length cPL, .slice aCL CL.length cCL] 69 (0, 0))]]) w1 := hS1.push 0 rfl
 refine s_val hS2 rfl rfl (r_assign rfl .c) ?_
 refine wpList_nil ?_
 refine x_tn ?_
 refine k_reb [(1, .pointer (some ⟨blk1, 0, none⟩)), (2, .bool false)] ⟨rfl, rfl, trivial⟩ fun G1 => ?_
 refine wp_seq ?_
 refine k_reg ?_
 refine s_call rfl rfl rfl (vs := [.int .i64 268435456]) ⟨.c, trivial⟩ cb25 (New_lv w1 268435456 (by omega) ) ?_
 rintro _ w2 ⟨d1, m1, D1, sm1, hN1, rfl, hM1, ht1⟩
 have hS5 : St w0 [] (fl [[(blk1, .cells #[.slice aPL PL.length cPL, .slice aCL CL.length cCL] 69 (0, 0))], (pk d1 m1 D1), sm1]) w2 := hS2.callL (xs := []) (xs' := []) (zs := [(pk d1 m1 D1), sm1]) [] rfl (by decide) ht1 rfl rfl
 have hS4 : St w0 [] (fl [[(blk1, .cells #[.slice aPL PL.length cPL, .slice aCL CL.length cCL] 69 (0, 0))], (pk d1 m1 D1), sm1]) w2 := hS5.pick [0, 1, 2] rfl (by decide)
 have hu1 := hN1.tot
 have hu2 := hN1.len
 have hu3 := hN1.wr
 have hu4 := hN1.room
 refine s_val hS4 rfl rfl (r_move rfl (.t rfl rfl)) ?_
 refine s_val hS4 rfl rfl (r_extract rfl (.t rfl rfl) rfl) ?_
 refine s_val hS4 rfl rfl (r_extract rfl (.t rfl rfl) rfl) ?_
 refine s_val hS4 rfl rfl (r_assign rfl (.t rfl rfl)) ?_
 refine s_val hS4 rfl rfl (r_assign rfl (.t rfl rfl)) ?_
 refine wpList_nil ?_
 refine x_tn ?_
 refine k_reb [(1, .pointer (some ⟨blk1, 0, none⟩)), (2, .bool false), (3, .pointer (some ⟨d1, 0, none⟩)), (4, .int .i64 0)] ⟨rfl, rfl, rfl, rfl, trivial⟩ fun G2 => ?_
 refine wp_seq ?_
 refine wp_seq ?_
 refine k_reg ?_
 refine s_val hS4 rfl rfl (r_move rfl (.t rfl rfl)) ?_
 refine s_call rfl rfl rfl (vs := [.int .i64 0]) ⟨(.t rfl rfl), trivial⟩ cb16 (num_ok w2 0) ?_
 rintro _ w2 ⟨rfl, rfl⟩
 refine s_val hS4 rfl rfl (r_cmp_f rfl rfl (.t rfl rfl) .c (show ¬ (¬ 0 = 0) from by omega)) ?_
 refine s_val hS4 rfl rfl (r_move rfl (.t rfl rfl)) ?_
 refine s_valg hS4 (wanted_of (j := 3) (b := false) (d := 28) rfl rfl rfl rfl) rfl (r_move rfl (.t rfl rfl)) ?_
 refine s_valg hS4 (wanted_of (j := 3) (b := false) (d := 28) rfl rfl rfl rfl) rfl (r_eqnilp rfl Try.underlying33 (.t rfl rfl) .c rfl) ?_
 refine s_val hS4 rfl rfl (r_pick rfl (.t rfl rfl) (.t rfl rfl)) ?_
 refine s_val hS4 rfl rfl (r_move rfl (.t rfl rfl)) ?_
 refine s_callg (wanted_of (j := 7) (b := false) (d := 32) rfl rfl rfl rfl) rfl rfl (vs := []) trivial cb12 (works_ok w2  ) ?_
 rintro _ w3 ⟨rfl, ht2⟩
 have hS6 : St w0 [] (fl [[(blk1, .cells #[.slice aPL PL.length cPL, .slice aCL CL.length cCL] 69 (0, 0))], (pk d1 m1 D1), sm1]) w3 := hS4.callL (xs := []) (xs' := []) (zs := []) [] rfl (by decide) ht2 rfl rfl
 refine s_valg hS6 (wanted_of (j := 7) (b := false) (d := 32) rfl rfl rfl rfl) rfl (r_lnot rfl (.t rfl rfl)) ?_
 refine s_val hS6 rfl rfl (r_pick rfl (.t rfl rfl) (.t rfl rfl)) ?_
 refine wpList_nil ?_
 refine x_tn ?_
 refine k_reb [(1, .pointer (some ⟨blk1, 0, none⟩)), (2, .bool false), (3, .pointer (some ⟨d1, 0, none⟩)), (35, .bool false)] ⟨rfl, rfl, rfl, rfl, trivial⟩ fun G3 => ?_
 refine k_f (.t rfl rfl) ?_
 refine wp_skip ?_
 refine x_tn ?_
 refine k_reb [(1, .pointer (some ⟨blk1, 0, none⟩)), (2, .bool false), (3, .pointer (some ⟨d1, 0, none⟩))] ⟨rfl, rfl, rfl, trivial⟩ fun G4 => ?_
 refine wp_seq ?_
 refine k_reg ?_
 refine s_val hS6 rfl rfl (r_move rfl (.t rfl rfl)) ?_
 refine s_call rfl rfl rfl (vs := [.pointer (some ⟨d1, 0, none⟩), .string (⟨#[106]⟩)]) ⟨(.t rfl rfl), .c, trivial⟩ cb19 (Open_new w3 _ d1 m1 D1 hN1.lv sm1 hM1 (⟨#[106]⟩ : ByteArray) (by decide) hN1.none (by omega) (by omega) (by omega) (hS6.give (xs := [(pk d1 m1 D1), sm1]) [1, 2] rfl (by decide))) ?_
 rintro _ w4 ⟨D2, sm2, l1, oa1, oc1, sg1, hup1, hM2, rfl, hO1, ht3⟩
 have hS8 : St w0 [] (fl [[(blk1, .cells #[.slice aPL PL.length cPL, .slice aCL CL.length cCL] 69 (0, 0))], (pk d1 m1 D2), sm2, [(l1, .cells #[.pointer (some ⟨d1, 0, none⟩), .string (⟨#[106]⟩), .int .i64 ((((lg noR).size : Nat) : Int)), .int .i64 ((((lg noR).count : Nat) : Int)), .bool ((lg noR).off)] 92 (0, 0))], sg1]) w4 := hS6.callL (xs := [(pk d1 m1 D1), sm1]) (xs' := [(pk d1 m1 D2), sm2]) (zs := [[(l1, .cells #[.pointer (some ⟨d1, 0, none⟩), .string (⟨#[106]⟩), .int .i64 ((((lg noR).size : Nat) : Int)), .int .i64 ((((lg noR).count : Nat) : Int)), .bool ((lg noR).off)] 92 (0, 0))], sg1]) [1, 2] rfl (by decide) ht3 rfl rfl
 have hS9 : St w0 [] (fl [[(blk1, .cells #[.slice aPL PL.length cPL, .slice aCL CL.length cCL] 69 (0, 0))], (pk d1 m1 D2), [(l1, .cells #[.pointer (some ⟨d1, 0, none⟩), .string (⟨#[106]⟩), .int .i64 ((((lg noR).size : Nat) : Int)), .int .i64 ((((lg noR).count : Nat) : Int)), .bool ((lg noR).off)] 92 (0, 0))], sm2, sg1]) w4 := hS8.pick [0, 1, 3, 2, 4] rfl (by decide)
 have hnr1 : noR.length = 0 := rfl
 have hnr2 : (logL noR).length = 8 := rfl
 have hu5 := hup1.tot
 have hu6 := hup1.wr
 have hu7 := hup1.room
 have hu8 := hup1.len
 have hnl1 : ([] : List Nat).length = 0 := rfl
 refine s_val hS9 rfl rfl (r_move rfl (.t rfl rfl)) ?_
 refine s_val hS9 rfl rfl (r_extract rfl (.t rfl rfl) rfl) ?_
 refine s_val hS9 rfl rfl (r_extract rfl (.t rfl rfl) rfl) ?_
 refine s_val hS9 rfl rfl (r_extract rfl (.t rfl rfl) rfl) ?_
 refine s_val hS9 rfl rfl (r_assign rfl (.t rfl rfl)) ?_
 refine s_val hS9 rfl rfl (r_assign rfl (.t rfl rfl)) ?_
 refine s_val hS9 rfl rfl (r_assign rfl (.t rfl rfl)) ?_
 refine wpList_nil ?_
 refine x_tn ?_
 refine k_reb [(1, .pointer (some ⟨blk1, 0, none⟩)), (2, .bool false), (3, .pointer (some ⟨d1, 0, none⟩)), (5, .pointer (some ⟨l1, 0, none⟩)), (6, .slice oa1 noR.length oc1), (7, .int .i64 0)] ⟨rfl, rfl, rfl, rfl, rfl, rfl, trivial⟩ fun G5 => ?_
 refine wp_seq ?_
 refine wp_seq ?_
 refine k_reg ?_
 refine s_val hS9 rfl rfl (r_move rfl (.t rfl rfl)) ?_
 refine s_call rfl rfl rfl (vs := [.int .i64 0]) ⟨(.t rfl rfl), trivial⟩ cb16 (num_ok w4 0) ?_
 rintro _ w4 ⟨rfl, rfl⟩
 refine s_val hS9 rfl rfl (r_cmp_f rfl rfl (.t rfl rfl) .c (show ¬ (¬ 0 = 0) from by omega)) ?_
 refine s_val hS9 rfl rfl (r_move rfl (.t rfl rfl)) ?_
 refine s_valg hS9 (wanted_of (j := 3) (b := false) (d := 45) rfl rfl rfl rfl) rfl (r_move rfl (.t rfl rfl)) ?_
 refine s_valg hS9 (wanted_of (j := 3) (b := false) (d := 45) rfl rfl rfl rfl) rfl (r_eqnilp rfl Try.underlying43 (.t rfl rfl) .c rfl) ?_
 refine s_val hS9 rfl rfl (r_pick rfl (.t rfl rfl) (.t rfl rfl)) ?_
 refine s_val hS9 rfl rfl (r_move rfl (.t rfl rfl)) ?_
 refine s_valg hS9 (wanted_of (j := 7) (b := false) (d := 49) rfl rfl rfl rfl) rfl (r_move rfl (.t rfl rfl)) ?_
 refine s_valg hS9 (wanted_of (j := 7) (b := false) (d := 49) rfl rfl rfl rfl) rfl (r_len rfl rfl Try.underlying30 (.t rfl rfl)) ?_
 refine s_valg hS9 (wanted_of (j := 7) (b := false) (d := 49) rfl rfl rfl rfl) rfl (r_cmp_f rfl rfl (.t rfl rfl) .c (show ¬ (((noR.length : Nat) : Int) > 0) from by omega)) ?_
 refine s_val hS9 rfl rfl (r_pick rfl (.t rfl rfl) (.t rfl rfl)) ?_
 refine s_val hS9 rfl rfl (r_move rfl (.t rfl rfl)) ?_
 refine s_valg hS9 (wanted_of (j := 12) (b := false) (d := 54) rfl rfl rfl rfl) rfl (r_move rfl (.t rfl rfl)) ?_
 refine s_callg (wanted_of (j := 12) (b := false) (d := 54) rfl rfl rfl rfl) rfl rfl (vs := [.pointer (some ⟨l1, 0, none⟩)]) ⟨(.t rfl rfl), trivial⟩ cb29 (LSize_ok w4 _ l1 d1 (⟨#[106]⟩ : ByteArray) (lg noR) (hS9.give (xs := [[(l1, .cells #[.pointer (some ⟨d1, 0, none⟩), .string (⟨#[106]⟩), .int .i64 ((((lg noR).size : Nat) : Int)), .int .i64 ((((lg noR).count : Nat) : Int)), .bool ((lg noR).off)] 92 (0, 0))]]) [2] rfl (by decide))) ?_
 rintro _ w5 ⟨rfl, ht4⟩
 have hS10 : St w0 [] (fl [[(blk1, .cells #[.slice aPL PL.length cPL, .slice aCL CL.length cCL] 69 (0, 0))], (pk d1 m1 D2), [(l1, .cells #[.pointer (some ⟨d1, 0, none⟩), .string (⟨#[106]⟩), .int .i64 ((((lg noR).size : Nat) : Int)), .int .i64 ((((lg noR).count : Nat) : Int)), .bool ((lg noR).off)] 92 (0, 0))], sm2, sg1]) w5 := hS9.callL (xs := [[(l1, .cells #[.pointer (some ⟨d1, 0, none⟩), .string (⟨#[106]⟩), .int .i64 ((((lg noR).size : Nat) : Int)), .int .i64 ((((lg noR).count : Nat) : Int)), .bool ((lg noR).off)] 92 (0, 0))]]) (xs' := [[(l1, .cells #[.pointer (some ⟨d1, 0, none⟩), .string (⟨#[106]⟩), .int .i64 ((((lg noR).size : Nat) : Int)), .int .i64 ((((lg noR).count : Nat) : Int)), .bool ((lg noR).off)] 92 (0, 0))]]) (zs := []) [2] rfl (by decide) ht4 rfl rfl
 have hzq1 : (lg noR).size = (logL noR).length := (logL_len _).symm
 refine s_valg hS10 (wanted_of (j := 12) (b := false) (d := 54) rfl rfl rfl rfl) rfl (r_cmp_f rfl rfl (.t rfl rfl) .c (show ¬ (¬ (((lg noR).size : Nat) : Int) = 8) from by omega)) ?_
 refine s_val hS10 rfl rfl (r_pick rfl (.t rfl rfl) (.t rfl rfl)) ?_
 refine s_val hS10 rfl rfl (r_move rfl (.t rfl rfl)) ?_
 refine s_valg hS10 (wanted_of (j := 17) (b := false) (d := 59) rfl rfl rfl rfl) rfl (r_move rfl (.t rfl rfl)) ?_
 refine s_callg (wanted_of (j := 17) (b := false) (d := 59) rfl rfl rfl rfl) rfl rfl (vs := [.pointer (some ⟨l1, 0, none⟩)]) ⟨(.t rfl rfl), trivial⟩ cb35 (LName_ok w5 _ l1 d1 (⟨#[106]⟩ : ByteArray) (lg noR) (hS10.give (xs := [[(l1, .cells #[.pointer (some ⟨d1, 0, none⟩), .string (⟨#[106]⟩), .int .i64 ((((lg noR).size : Nat) : Int)), .int .i64 ((((lg noR).count : Nat) : Int)), .bool ((lg noR).off)] 92 (0, 0))]]) [2] rfl (by decide))) ?_
 rintro _ w6 ⟨rfl, ht5⟩
 have hS11 : St w0 [] (fl [[(blk1, .cells #[.slice aPL PL.length cPL, .slice aCL CL.length cCL] 69 (0, 0))], (pk d1 m1 D2), [(l1, .cells #[.pointer (some ⟨d1, 0, none⟩), .string (⟨#[106]⟩), .int .i64 ((((lg noR).size : Nat) : Int)), .int .i64 ((((lg noR).count : Nat) : Int)), .bool ((lg noR).off)] 92 (0, 0))], sm2, sg1]) w6 := hS10.callL (xs := [[(l1, .cells #[.pointer (some ⟨d1, 0, none⟩), .string (⟨#[106]⟩), .int .i64 ((((lg noR).size : Nat) : Int)), .int .i64 ((((lg noR).count : Nat) : Int)), .bool ((lg noR).off)] 92 (0, 0))]]) (xs' := [[(l1, .cells #[.pointer (some ⟨d1, 0, none⟩), .string (⟨#[106]⟩), .int .i64 ((((lg noR).size : Nat) : Int)), .int .i64 ((((lg noR).count : Nat) : Int)), .bool ((lg noR).off)] 92 (0, 0))]]) (zs := []) [2] rfl (by decide) ht5 rfl rfl
 refine s_valg hS11 (wanted_of (j := 17) (b := false) (d := 59) rfl rfl rfl rfl) rfl (r_nestr rfl (.t rfl rfl) .c (r := false) (by decide +kernel)) ?_
 refine s_val hS11 rfl rfl (r_pick rfl (.t rfl rfl) (.t rfl rfl)) ?_
 refine wpList_nil ?_
 refine x_tn ?_
 refine k_reb [(1, .pointer (some ⟨blk1, 0, none⟩)), (2, .bool false), (3, .pointer (some ⟨d1, 0, none⟩)), (5, .pointer (some ⟨l1, 0, none⟩)), (63, .bool false)] ⟨rfl, rfl, rfl, rfl, rfl, trivial⟩ fun G6 => ?_
 refine k_f (.t rfl rfl) ?_
 refine wp_skip ?_
 refine x_tn ?_
 refine k_reb [(1, .pointer (some ⟨blk1, 0, none⟩)), (2, .bool false), (3, .pointer (some ⟨d1, 0, none⟩)), (5, .pointer (some ⟨l1, 0, none⟩))] ⟨rfl, rfl, rfl, rfl, trivial⟩ fun G7 => ?_
 refine wp_seq ?_
 refine k_reg ?_
 refine s_val hS11 rfl rfl (r_assign rfl .c) ?_
 refine wpList_nil ?_
 refine x_tn ?_
 refine wp_seq ?_
 refine k_reg ?_
 refine s_val hS11 rfl rfl (r_assign rfl .c) ?_
 refine wpList_nil ?_
 refine x_tn ?_
 refine wp_seq ?_
 refine k_reg ?_
 refine s_val hS11 rfl rfl (r_assign rfl .c) ?_
 refine wpList_nil ?_
 refine x_tn ?_
 refine wp_seq ?_
 refine wp_seq ?_
 refine k_reg ?_
 refine s_val hS11 rfl rfl (r_assign rfl .c) ?_
 refine wpList_nil ?_
 refine x_tn ?_
 refine wp_block ?_
 have hS12 : St w0 [] (fl [[(blk1, .cells #[.slice aPL PL.length cPL, .slice aCL CL.length cCL] 69 (0, 0))], (pk d1 m1 D2), [(l1, .cells #[.pointer (some ⟨d1, 0, none⟩), .string (⟨#[106]⟩), .int .i64 ((((lg noR).size : Nat) : Int)), .int .i64 ((((lg noR).count : Nat) : Int)), .bool ((lg noR).off)] 92 (0, 0))], sm2]) w6 := hS11.pick [0, 1, 2, 3] rfl (by decide)
 refine wp_loop_ghost (fun (m2 : Nat) a w => ∃ (G : Nat → Value) (i : Nat) (D : Dk) (RR : List (List (List Nat))) (sm : Hp) (ks : Nat) (az : Nat) (lf : Int) (oa : Option Addr) (oc : Nat) (sgw : Hp), a = fr 205 [(1, .pointer (some ⟨blk1, 0, none⟩)), (2, .bool false), (3, .pointer (some ⟨d1, 0, none⟩)), (5, .pointer (some ⟨l1, 0, none⟩)), (8, .slice oa RR.length oc), (9, .int .i64 (((az : Nat) : Int))), (10, .int .i64 lf), (11, .int .i64 (((i : Nat) : Int)))] G ∧ St w0 [] (fl [[(blk1, .cells #[.slice aPL PL.length cPL, .slice aCL CL.length cCL] 69 (0, 0))], (pk d1 m1 D), [(l1, .cells #[.pointer (some ⟨d1, 0, none⟩), .string (⟨#[106]⟩), .int .i64 ((((lg RR).size : Nat) : Int)), .int .i64 ((((lg RR).count : Nat) : Int)), .bool ((lg RR).off)] 92 (0, 0))], sm, sgw]) w ∧ (m2 = PL.length - i ∧ i ≤ PL.length ∧ i ≤ 60 ∧ Lv D ∧ MapH U8 m1 none D.F sm ∧ lookF D.F (⟨#[106]⟩ : ByteArray) = some ⟨(⟨#[106]⟩ : ByteArray), logL RR, ks⟩ ∧ ks = (logL RR).length ∧ az = (logL RR).length ∧ tot D.F = az ∧ D.room = 268435456 ∧ D.writes ≤ 2 + 30 * i ∧ 0 ≤ lf ∧ lf ≤ 65536 ∧ (az : Int) + lf ≤ 65544 + 8 * i ∧ RR.length ≤ i ∧ (∀ LL ∈ RR, goodR LL) ∧ GrP R2 56 oa oc RR sgw)) (PL.length) ⟨_, 0, D2, noR, sm2, 8, 8, 65536, none, 0, [], fr_reb _ ⟨rfl, rfl, rfl, rfl, rfl, rfl, rfl, rfl, trivial⟩, (St.re hS12 (by simp)), ?_⟩ ?_
 ·
  exact ⟨rfl, by omega, by omega, hup1.lv, hM2, hup1.at_, by omega, by omega, by omega, by omega, by omega, by omega, by omega, by omega, by omega, (fun LL h => nomatch h), GrP.nil⟩
 ·
  intro m2 _ w7 hI1
  obtain ⟨G8, i, D, RR, sm, ks, az, lf, oa, oc, sgw, rfl, hS13, ⟨hm, hi, hi60, hlv, hM, hat, hks, haz, htt, hrm, hwr, hlf0, hlf1, hlf2, hrl, hgd, hW⟩⟩ := hI1
  have hl8 := logL_len RR
  refine wp_seq ?_
  refine wp_seq ?_
  refine k_reg ?_
  refine s_val hS13 rfl rfl (r_move rfl (.t rfl rfl)) ?_
  refine s_val hS13 rfl rfl (r_fieldN rfl Try.underlying69 rfl ti30 (by decide) (.t rfl rfl) (qq := 0) rfl) ?_
  refine s_val hS13 rfl rfl (r_load rfl one30 (.t rfl rfl) (St.cell_own (m := 0) rfl rfl)) ?_
  refine s_val hS13 rfl rfl (r_len rfl rfl Try.underlying30 (.t rfl rfl)) ?_
  by_cases c1 : i < PL.length
  ·
   refine s_val hS13 rfl rfl (r_cmp_t rfl rfl (.t rfl rfl) (.t rfl rfl) (show ((i : Nat) : Int) < ((PL.length : Nat) : Int) from by omega)) ?_
   refine s_val hS13 rfl rfl (r_move rfl (.t rfl rfl)) ?_
   refine s_valg hS13 (wanted_of (j := 5) (b := true) (d := 69) rfl rfl rfl rfl) rfl (r_move rfl (.t rfl rfl)) ?_
   by_cases c2 : i < 60
   ·
    refine s_valg hS13 (wanted_of (j := 5) (b := true) (d := 69) rfl rfl rfl rfl) rfl (r_cmp_t rfl rfl (.t rfl rfl) .c (show ((i : Nat) : Int) < 60 from by omega)) ?_
    refine s_val hS13 rfl rfl (r_pick rfl (.t rfl rfl) (.t rfl rfl)) ?_
    refine wpList_nil ?_
    refine x_tn ?_
    refine k_reb [(1, .pointer (some ⟨blk1, 0, none⟩)), (2, .bool false), (3, .pointer (some ⟨d1, 0, none⟩)), (5, .pointer (some ⟨l1, 0, none⟩)), (8, .slice oa RR.length oc), (9, .int .i64 (((az : Nat) : Int))), (10, .int .i64 lf), (11, .int .i64 (((i : Nat) : Int))), (72, .bool true)] ⟨rfl, rfl, rfl, rfl, rfl, rfl, rfl, rfl, rfl, trivial⟩ fun G9 => ?_
    refine k_t (.t rfl rfl) ?_
    refine wp_skip ?_
    refine x_tn ?_
    refine k_reb [(1, .pointer (some ⟨blk1, 0, none⟩)), (2, .bool false), (3, .pointer (some ⟨d1, 0, none⟩)), (5, .pointer (some ⟨l1, 0, none⟩)), (8, .slice oa RR.length oc), (9, .int .i64 (((az : Nat) : Int))), (10, .int .i64 lf), (11, .int .i64 (((i : Nat) : Int)))] ⟨rfl, rfl, rfl, rfl, rfl, rfl, rfl, rfl, trivial⟩ fun G10 => ?_
    refine wp_seq ?_
    refine wp_block ?_
    refine wp_seq ?_
    refine k_reg ?_
    refine s_val hS13 rfl rfl (r_fieldN rfl Try.underlying69 rfl ti30 (by decide) (.t rfl rfl) (qq := 0) rfl) ?_
    refine s_val hS13 rfl rfl (r_load rfl one30 (.t rfl rfl) (St.cell_own (m := 0) rfl rfl)) ?_
    refine s_val hS13 rfl rfl (r_move rfl (.t rfl rfl)) ?_
    refine s_val hS13 rfl rfl (r_ixv (j := i) rfl Try.underlying30 ti56 (.t rfl rfl) (.t rfl rfl) hPL.sl (hPL.len) rfl (by omega)) ?_
    obtain ⟨ea1, ec1, us1, hv1, hx1⟩ := hPL.get2 i (by omega)
    refine s_val hS13 rfl rfl (r_load rfl one56 (.t rfl rfl) (hPL.sl.cell_o oPL hv1)) ?_
    refine s_call rfl rfl rfl (vs := [.slice ea1 ((PL.getD i []).length) ec1]) ⟨(.t rfl rfl), trivial⟩ cb28 (copied_q w7 ea1 ec1 _ ((PL.getD i [])) vPL hx1 (Old.of_old (xs := []) [] oPL hS13 rfl (by decide)) (fun r hr => hPr _ (getD_mem (by omega)) r hr) ) ?_
    rintro _ w8 ⟨Q, ra1, rc1, sg2, hQ1, hQ31, hQr1, rfl, hG1, ht6⟩
    have hS14 : St w0 [] (fl [[(blk1, .cells #[.slice aPL PL.length cPL, .slice aCL CL.length cCL] 69 (0, 0))], (pk d1 m1 D), [(l1, .cells #[.pointer (some ⟨d1, 0, none⟩), .string (⟨#[106]⟩), .int .i64 ((((lg RR).size : Nat) : Int)), .int .i64 ((((lg RR).count : Nat) : Int)), .bool ((lg RR).off)] 92 (0, 0))], sm, sgw, sg2]) w8 := hS13.callL (xs := []) (xs' := []) (zs := [sg2]) [] rfl (by decide) ht6 rfl rfl
    refine s_val hS14 rfl rfl (r_assign rfl (.t rfl rfl)) ?_
    refine wpList_nil ?_
    refine x_tn ?_
    refine k_reb [(1, .pointer (some ⟨blk1, 0, none⟩)), (2, .bool false), (3, .pointer (some ⟨d1, 0, none⟩)), (5, .pointer (some ⟨l1, 0, none⟩)), (8, .slice oa RR.length oc), (9, .int .i64 (((az : Nat) : Int))), (10, .int .i64 lf), (11, .int .i64 (((i : Nat) : Int))), (12, .slice ra1 Q.length rc1)] ⟨rfl, rfl, rfl, rfl, rfl, rfl, rfl, rfl, rfl, trivial⟩ fun G11 => ?_
    refine wp_seq ?_
    refine k_reg ?_
    refine s_val hS14 rfl rfl (r_move rfl (.t rfl rfl)) ?_
    refine s_val hS14 rfl rfl (r_move rfl (.t rfl rfl)) ?_
    refine s_val hS14 rfl rfl (r_build rfl Try.underlying63 ti63 pl63 (vs := [(3, .slice ra1 Q.length rc1)]) ⟨rfl, (.t rfl rfl), trivial⟩ rfl) ?_
    obtain ⟨us2, hw1⟩ := hG1.sl R1.mono (by omega)
    refine s_call rfl rfl rfl (vs := [.agg #[.int .i64 0, .int .i64 0, .string ByteArray.empty, .slice ra1 Q.length rc1, .slice none 0 0, .int .i64 0, .int .i64 0, .int .i64 0]]) ⟨(.t rfl rfl), trivial⟩ cb31 (size_ok w8 ra1 rc1 _ Q sg2 hw1 (Old.of_piece (i := 5) (xs := []) [] hS14 rfl rfl (by decide)) hQr1 ) ?_
    rintro _ w9 ⟨sz1, hsz1, hsz2, rfl, ht7⟩
    have hS15 : St w0 [] (fl [[(blk1, .cells #[.slice aPL PL.length cPL, .slice aCL CL.length cCL] 69 (0, 0))], (pk d1 m1 D), [(l1, .cells #[.pointer (some ⟨d1, 0, none⟩), .string (⟨#[106]⟩), .int .i64 ((((lg RR).size : Nat) : Int)), .int .i64 ((((lg RR).count : Nat) : Int)), .bool ((lg RR).off)] 92 (0, 0))], sm, sgw, sg2]) w9 := hS14.callL (xs := []) (xs' := []) (zs := []) [] rfl (by decide) ht7 rfl rfl
    refine s_val hS15 rfl rfl (r_arith rfl rfl (.t rfl rfl) (.t rfl rfl) (c := lf - (((sz1 : Nat) : Int))) (w_i64 rfl (by omega) (by omega))) ?_
    refine s_val hS15 rfl rfl (r_assign rfl (.t rfl rfl)) ?_
    refine wpList_nil ?_
    refine x_tn ?_
    refine k_reb [(1, .pointer (some ⟨blk1, 0, none⟩)), (2, .bool false), (3, .pointer (some ⟨d1, 0, none⟩)), (5, .pointer (some ⟨l1, 0, none⟩)), (8, .slice oa RR.length oc), (9, .int .i64 (((az : Nat) : Int))), (10, .int .i64 (lf - (((sz1 : Nat) : Int)))), (11, .int .i64 (((i : Nat) : Int))), (12, .slice ra1 Q.length rc1)] ⟨rfl, rfl, rfl, rfl, rfl, rfl, rfl, rfl, rfl, trivial⟩ fun G12 => ?_
    refine wp_seq ?_
    refine wp_seq ?_
    refine k_reg ?_
    refine s_val hS15 rfl rfl (r_move rfl (.t rfl rfl)) ?_
    by_cases c3 : lf - (((sz1 : Nat) : Int)) < 0
    ·
     refine s_val hS15 rfl rfl (r_cmp_t rfl rfl (.t rfl rfl) .c (show lf - (((sz1 : Nat) : Int)) < 0 from by omega)) ?_
     refine wpList_nil ?_
     refine x_tn ?_
     refine k_reb [(1, .pointer (some ⟨blk1, 0, none⟩)), (2, .bool false), (3, .pointer (some ⟨d1, 0, none⟩)), (5, .pointer (some ⟨l1, 0, none⟩)), (8, .slice oa RR.length oc), (9, .int .i64 (((az : Nat) : Int))), (10, .int .i64 (lf - (((sz1 : Nat) : Int)))), (11, .int .i64 (((i : Nat) : Int))), (12, .slice ra1 Q.length rc1), (87, .bool true)] ⟨rfl, rfl, rfl, rfl, rfl, rfl, rfl, rfl, rfl, rfl, trivial⟩ fun G13 => ?_
     refine k_t (.t rfl rfl) ?_
     refine wp_exit ?_
     refine x_te ?_
     refine x_bne rfl ?_
     refine x_te ?_
     refine x_te ?_
     refine x_be ?_
     refine x_tn ?_
     refine k_reb [(2, .bool false)] ⟨rfl, trivial⟩ fun G14 => ?_
     refine wp_seq ?_
     refine k_reg ?_
     refine s_call rfl rfl rfl (vs := []) trivial cb12 (works_ok w9  ) ?_
     rintro _ w10 ⟨rfl, ht8⟩
     have hS16 : St w0 [] (fl [[(blk1, .cells #[.slice aPL PL.length cPL, .slice aCL CL.length cCL] 69 (0, 0))], (pk d1 m1 D), [(l1, .cells #[.pointer (some ⟨d1, 0, none⟩), .string (⟨#[106]⟩), .int .i64 ((((lg RR).size : Nat) : Int)), .int .i64 ((((lg RR).count : Nat) : Int)), .bool ((lg RR).off)] 92 (0, 0))], sm, sgw, sg2]) w10 := hS15.callL (xs := []) (xs' := []) (zs := []) [] rfl (by decide) ht8 rfl rfl
     refine s_val hS16 rfl rfl (r_assign rfl (.t rfl rfl)) ?_
     refine wpList_nil ?_
     refine x_tn ?_
     refine k_reb [(2, .bool true)] ⟨rfl, trivial⟩ fun G15 => ?_
     refine wp_ret ?_
     refine k_ret1 Try.results9 rfl rfl ?_
     refine ⟨_, rfl, ?_⟩
     have hS17 : St w0 [] (fl []) w10 := hS16.pick [] rfl (by decide)
     exact ⟨rfl, hS17⟩
    ·
     refine s_val hS15 rfl rfl (r_cmp_f rfl rfl (.t rfl rfl) .c (show ¬ (lf - (((sz1 : Nat) : Int)) < 0) from by omega)) ?_
     refine wpList_nil ?_
     refine x_tn ?_
     refine k_reb [(1, .pointer (some ⟨blk1, 0, none⟩)), (2, .bool false), (3, .pointer (some ⟨d1, 0, none⟩)), (5, .pointer (some ⟨l1, 0, none⟩)), (8, .slice oa RR.length oc), (9, .int .i64 (((az : Nat) : Int))), (10, .int .i64 (lf - (((sz1 : Nat) : Int)))), (11, .int .i64 (((i : Nat) : Int))), (12, .slice ra1 Q.length rc1), (87, .bool false)] ⟨rfl, rfl, rfl, rfl, rfl, rfl, rfl, rfl, rfl, rfl, trivial⟩ fun G16 => ?_
     refine k_f (.t rfl rfl) ?_
     refine wp_skip ?_
     refine x_tn ?_
     refine k_reb [(1, .pointer (some ⟨blk1, 0, none⟩)), (2, .bool false), (3, .pointer (some ⟨d1, 0, none⟩)), (5, .pointer (some ⟨l1, 0, none⟩)), (8, .slice oa RR.length oc), (9, .int .i64 (((az : Nat) : Int))), (10, .int .i64 (lf - (((sz1 : Nat) : Int)))), (11, .int .i64 (((i : Nat) : Int))), (12, .slice ra1 Q.length rc1)] ⟨rfl, rfl, rfl, rfl, rfl, rfl, rfl, rfl, rfl, trivial⟩ fun G17 => ?_
     refine wp_seq ?_
     refine wp_seq ?_
     refine k_reg ?_
     have hszq := hsz1 (by omega)
     refine s_val hS15 rfl rfl (r_move rfl (.t rfl rfl)) ?_
     refine s_val hS15 rfl rfl (r_move rfl (.t rfl rfl)) ?_
     obtain ⟨us3, hw2⟩ := hG1.sl R1.mono (by omega)
     refine s_call rfl rfl rfl (vs := [.slice ra1 Q.length rc1]) ⟨(.t rfl rfl), trivial⟩ cb28 (copied_s w9 ra1 rc1 _ Q sg2 hw2 (Old.of_piece (i := 5) (xs := []) [] hS15 rfl rfl (by decide)) hQr1 (by omega) ) ?_
     rintro _ w11 ⟨ra2, rc2, sg3, rfl, hG2, ht9⟩
     have hS18 : St w0 [] (fl [[(blk1, .cells #[.slice aPL PL.length cPL, .slice aCL CL.length cCL] 69 (0, 0))], (pk d1 m1 D), [(l1, .cells #[.pointer (some ⟨d1, 0, none⟩), .string (⟨#[106]⟩), .int .i64 ((((lg RR).size : Nat) : Int)), .int .i64 ((((lg RR).count : Nat) : Int)), .bool ((lg RR).off)] 92 (0, 0))], sm, sgw, sg2, sg3]) w11 := hS15.callL (xs := []) (xs' := []) (zs := [sg3]) [] rfl (by decide) ht9 rfl rfl
     obtain ⟨us4, hw3⟩ := hG2.sl R1.mono (by omega)
     refine s_call rfl rfl rfl (vs := [.pointer (some ⟨l1, 0, none⟩), .slice ra2 Q.length rc2]) ⟨(.t rfl rfl), (.t rfl rfl), trivial⟩ cb27 (LAppend_lv w11 _ d1 m1 D hlv l1 RR sm hM (⟨#[106]⟩ : ByteArray) hat ra2 rc2 _ Q sg3 hw3 (Old.of_piece (i := 6) (xs := [[(l1, .cells #[.pointer (some ⟨d1, 0, none⟩), .string (⟨#[106]⟩), .int .i64 ((((lg RR).size : Nat) : Int)), .int .i64 ((((lg RR).count : Nat) : Int)), .bool ((lg RR).off)] 92 (0, 0))], (pk d1 m1 D), sm]) [2, 1, 3] hS18 rfl rfl (by decide)) ⟨by omega, by omega⟩ (by omega) (by omega) (by omega) (by omega) (hS18.give (xs := [[(l1, .cells #[.pointer (some ⟨d1, 0, none⟩), .string (⟨#[106]⟩), .int .i64 ((((lg RR).size : Nat) : Int)), .int .i64 ((((lg RR).count : Nat) : Int)), .bool ((lg RR).off)] 92 (0, 0))], (pk d1 m1 D), sm]) [2, 1, 3] rfl (by decide))) ?_
     rintro _ w12 ⟨D3, sm3, hup2, rfl, hM3, ht10⟩
     have hS19 : St w0 [] (fl [[(blk1, .cells #[.slice aPL PL.length cPL, .slice aCL CL.length cCL] 69 (0, 0))], (pk d1 m1 D3), [(l1, .cells #[.pointer (some ⟨d1, 0, none⟩), .string (⟨#[106]⟩), .int .i64 ((((lg (RR ++ [Q])).size : Nat) : Int)), .int .i64 ((((lg (RR ++ [Q])).count : Nat) : Int)), .bool ((lg (RR ++ [Q])).off)] 92 (0, 0))], sm3, sgw, sg2, sg3]) w12 := hS18.callL (xs := [[(l1, .cells #[.pointer (some ⟨d1, 0, none⟩), .string (⟨#[106]⟩), .int .i64 ((((lg RR).size : Nat) : Int)), .int .i64 ((((lg RR).count : Nat) : Int)), .bool ((lg RR).off)] 92 (0, 0))], (pk d1 m1 D), sm]) (xs' := [[(l1, .cells #[.pointer (some ⟨d1, 0, none⟩), .string (⟨#[106]⟩), .int .i64 ((((lg (RR ++ [Q])).size : Nat) : Int)), .int .i64 ((((lg (RR ++ [Q])).count : Nat) : Int)), .bool ((lg (RR ++ [Q])).off)] 92 (0, 0))], (pk d1 m1 D3), sm3]) (zs := []) [2, 1, 3] rfl (by decide) ht10 rfl rfl
     have hu9 := hup2.tot
     have hu10 := hup2.wr
     have hu11 := hup2.room
     have hu12 := hup2.same
     have hln1 := logL_len_snoc RR Q
     refine s_call rfl rfl rfl (vs := [.int .i64 0]) ⟨(.t rfl rfl), trivial⟩ cb16 (num_ok w12 0) ?_
     rintro _ w12 ⟨rfl, rfl⟩
     refine s_val hS19 rfl rfl (r_cmp_f rfl rfl (.t rfl rfl) .c (show ¬ (¬ 0 = 0) from by omega)) ?_
     refine wpList_nil ?_
     refine x_tn ?_
     refine k_reb [(1, .pointer (some ⟨blk1, 0, none⟩)), (2, .bool false), (3, .pointer (some ⟨d1, 0, none⟩)), (5, .pointer (some ⟨l1, 0, none⟩)), (8, .slice oa RR.length oc), (9, .int .i64 (((az : Nat) : Int))), (10, .int .i64 (lf - (((sz1 : Nat) : Int)))), (11, .int .i64 (((i : Nat) : Int))), (12, .slice ra1 Q.length rc1), (93, .bool false)] ⟨rfl, rfl, rfl, rfl, rfl, rfl, rfl, rfl, rfl, rfl, trivial⟩ fun G18 => ?_
     refine k_f (.t rfl rfl) ?_
     refine wp_skip ?_
     refine x_tn ?_
     refine k_reb [(1, .pointer (some ⟨blk1, 0, none⟩)), (2, .bool false), (3, .pointer (some ⟨d1, 0, none⟩)), (5, .pointer (some ⟨l1, 0, none⟩)), (8, .slice oa RR.length oc), (9, .int .i64 (((az : Nat) : Int))), (10, .int .i64 (lf - (((sz1 : Nat) : Int)))), (11, .int .i64 (((i : Nat) : Int))), (12, .slice ra1 Q.length rc1)] ⟨rfl, rfl, rfl, rfl, rfl, rfl, rfl, rfl, rfl, trivial⟩ fun G19 => ?_
     refine wp_seq ?_
     refine k_reg ?_
     refine s_val hS19 rfl rfl (r_move rfl (.t rfl rfl)) ?_
     refine s_val hS19 rfl rfl (r_move rfl (.t rfl rfl)) ?_
     refine s_litV rfl rfl rfl Try.underlying30 ti56 rfl (vs := [(0, .slice ra1 Q.length rc1)]) ⟨rfl, (.t rfl rfl), trivial⟩ (L := [.slice ra1 Q.length rc1]) rfl (by decide) rfl hS19 fun blk2 w13 hb2 hB2 hS20 => ?_
     have hS21 : St w0 [] (fl [[(blk1, .cells #[.slice aPL PL.length cPL, .slice aCL CL.length cCL] 69 (0, 0))], (pk d1 m1 D3), [(l1, .cells #[.pointer (some ⟨d1, 0, none⟩), .string (⟨#[106]⟩), .int .i64 ((((lg (RR ++ [Q])).size : Nat) : Int)), .int .i64 ((((lg (RR ++ [Q])).count : Nat) : Int)), .bool ((lg (RR ++ [Q])).off)] 92 (0, 0))], (bk blk2 56 (.slice ra1 Q.length rc1)), sm3, sgw, sg2, sg3]) w13 := hS20.push 3 rfl
     obtain ⟨vs1, hg1, hr1, gA1, gB1, gC1, hS22⟩ := GrP.open_ (i := 5) hW hS21 rfl
     have hS23 : St w0 [] (fl [[(blk1, .cells #[.slice aPL PL.length cPL, .slice aCL CL.length cCL] 69 (0, 0))], (pk d1 m1 D3), [(l1, .cells #[.pointer (some ⟨d1, 0, none⟩), .string (⟨#[106]⟩), .int .i64 ((((lg (RR ++ [Q])).size : Nat) : Int)), .int .i64 ((((lg (RR ++ [Q])).count : Nat) : Int)), .bool ((lg (RR ++ [Q])).off)] 92 (0, 0))], (bk blk2 56 (.slice ra1 Q.length rc1)), sm3, hg1, sg2, sg3, hr1]) w13 := hS22
     obtain ⟨us5, hw4⟩ := hG1.sl R1.mono (by omega)
     refine s_appendV (i := 5) (L := vs1) (A := [.slice ra1 Q.length rc1]) rfl rfl rfl rfl ⟨_, _, rfl, Try.underlying30⟩ Try.underlying30 ti56 (by omega) (by omega) rfl (by simp [oneC]) (.t rfl rfl) (.t rfl rfl) rfl (by first | exact gC1 | (rw [gC1]; first | rfl | assumption | omega | (simp; done))) gA1 hS23 rfl (SlV.lit (by simp) (by simp)) (hS23.has (i := 3) rfl) (by rw [gC1]; first | (simp; done) | (simp only [List.length_cons, List.length_nil]; omega)) fun ga1 gc1 hg2 w14 hG3 hS24 => ?_
     have hS25 : St w0 [] (fl [[(blk1, .cells #[.slice aPL PL.length cPL, .slice aCL CL.length cCL] 69 (0, 0))], (pk d1 m1 D3), [(l1, .cells #[.pointer (some ⟨d1, 0, none⟩), .string (⟨#[106]⟩), .int .i64 ((((lg (RR ++ [Q])).size : Nat) : Int)), .int .i64 ((((lg (RR ++ [Q])).count : Nat) : Int)), .bool ((lg (RR ++ [Q])).off)] 92 (0, 0))], (bk blk2 56 (.slice ra1 Q.length rc1)), sm3, hg2, sg2, sg3, hr1]) w14 := hS24
     obtain ⟨sg4, hG4, hw5, hS26⟩ : ∃ sg4 : Hp, GrP R2 56 ga1 gc1 (RR ++ [Q]) sg4 ∧ RwV R1 ra1 rc1 us5 Q sg4 ∧ St w0 [] (fl [[(blk1, .cells #[.slice aPL PL.length cPL, .slice aCL CL.length cCL] 69 (0, 0))], (pk d1 m1 D3), [(l1, .cells #[.pointer (some ⟨d1, 0, none⟩), .string (⟨#[106]⟩), .int .i64 ((((lg (RR ++ [Q])).size : Nat) : Int)), .int .i64 ((((lg (RR ++ [Q])).count : Nat) : Int)), .bool ((lg (RR ++ [Q])).off)] 92 (0, 0))], sm3, sg4, sg3]) w14 := ⟨_, GrP.snoc R2.mono hG3 gB1 (R2.of_gr hG1 (by omega)  (by first | rfl | omega | (simp; done) | (simp; omega))), hw4.mono R1.mono (fun p hp => by simp [List.mem_append, hp]), ((hS25.merge (L' := [[(blk1, .cells #[.slice aPL PL.length cPL, .slice aCL CL.length cCL] 69 (0, 0))], (pk d1 m1 D3), [(l1, .cells #[.pointer (some ⟨d1, 0, none⟩), .string (⟨#[106]⟩), .int .i64 ((((lg (RR ++ [Q])).size : Nat) : Int)), .int .i64 ((((lg (RR ++ [Q])).count : Nat) : Int)), .bool ((lg (RR ++ [Q])).off)] 92 (0, 0))], (bk blk2 56 (.slice ra1 Q.length rc1)), sm3, hg2, [], sg3, (hr1 ++ sg2)]) 8 6 rfl rfl rfl rfl).merge (L' := [[(blk1, .cells #[.slice aPL PL.length cPL, .slice aCL CL.length cCL] 69 (0, 0))], (pk d1 m1 D3), [(l1, .cells #[.pointer (some ⟨d1, 0, none⟩), .string (⟨#[106]⟩), .int .i64 ((((lg (RR ++ [Q])).size : Nat) : Int)), .int .i64 ((((lg (RR ++ [Q])).count : Nat) : Int)), .bool ((lg (RR ++ [Q])).off)] 92 (0, 0))], (bk blk2 56 (.slice ra1 Q.length rc1)), sm3, (hg2 ++ (hr1 ++ sg2)), [], sg3, []]) 5 8 rfl rfl rfl rfl).pick [0, 1, 2, 4, 5, 7] rfl (by decide)⟩
     have hlq : (RR ++ [Q]).length = RR.length + 1 := by rw [List.length_append]; rfl
     refine s_val hS26 rfl rfl (Rn.asS (p' := (RR ++ [Q]).length) (q' := gc1) (by omega) (by omega) (r_assign rfl (.t rfl rfl))) ?_
     refine wpList_nil ?_
     refine x_tn ?_
     refine k_reb [(1, .pointer (some ⟨blk1, 0, none⟩)), (2, .bool false), (3, .pointer (some ⟨d1, 0, none⟩)), (5, .pointer (some ⟨l1, 0, none⟩)), (8, .slice ga1 ((RR ++ [Q]).length) gc1), (9, .int .i64 (((az : Nat) : Int))), (10, .int .i64 (lf - (((sz1 : Nat) : Int)))), (11, .int .i64 (((i : Nat) : Int))), (12, .slice ra1 Q.length rc1)] ⟨rfl, rfl, rfl, rfl, rfl, rfl, rfl, rfl, rfl, trivial⟩ fun G20 => ?_
     refine wp_seq ?_
     refine k_reg ?_
     refine s_val hS26 rfl rfl (r_move rfl (.t rfl rfl)) ?_
     refine s_val hS26 rfl rfl (r_arith rfl rfl (.t rfl rfl) .c (c := ((az + 8 : Nat) : Int)) (wn_i64 (by show (((az : Nat) : Int) : Int) + 8 = _; omega) (by omega))) ?_
     refine s_val hS26 rfl rfl (r_assign rfl (.t rfl rfl)) ?_
     refine wpList_nil ?_
     refine x_tn ?_
     refine k_reb [(1, .pointer (some ⟨blk1, 0, none⟩)), (2, .bool false), (3, .pointer (some ⟨d1, 0, none⟩)), (5, .pointer (some ⟨l1, 0, none⟩)), (8, .slice ga1 ((RR ++ [Q]).length) gc1), (9, .int .i64 (((az + 8 : Nat) : Int))), (10, .int .i64 (lf - (((sz1 : Nat) : Int)))), (11, .int .i64 (((i : Nat) : Int))), (12, .slice ra1 Q.length rc1)] ⟨rfl, rfl, rfl, rfl, rfl, rfl, rfl, rfl, rfl, trivial⟩ fun G21 => ?_
     refine wp_seq ?_
     refine wp_seq ?_
     refine k_reg ?_
     refine s_val hS26 rfl rfl (r_assign rfl .c) ?_
     refine wpList_nil ?_
     refine x_tn ?_
     refine wp_block ?_
     refine wp_loop_ghost (fun (m3 : Nat) a w => ∃ (G : Nat → Value) (k : Nat) (a2 : Nat), a = fr 205 [(1, .pointer (some ⟨blk1, 0, none⟩)), (2, .bool false), (3, .pointer (some ⟨d1, 0, none⟩)), (5, .pointer (some ⟨l1, 0, none⟩)), (8, .slice ga1 ((RR ++ [Q]).length) gc1), (9, .int .i64 (((a2 : Nat) : Int))), (10, .int .i64 (lf - (((sz1 : Nat) : Int)))), (11, .int .i64 (((i : Nat) : Int))), (12, .slice ra1 Q.length rc1), (13, .int .i64 (((k : Nat) : Int)))] G ∧ St w0 [] (fl [[(blk1, .cells #[.slice aPL PL.length cPL, .slice aCL CL.length cCL] 69 (0, 0))], (pk d1 m1 D3), [(l1, .cells #[.pointer (some ⟨d1, 0, none⟩), .string (⟨#[106]⟩), .int .i64 ((((lg (RR ++ [Q])).size : Nat) : Int)), .int .i64 ((((lg (RR ++ [Q])).count : Nat) : Int)), .bool ((lg (RR ++ [Q])).off)] 92 (0, 0))], sm3, sg4, sg3]) w ∧ (m3 = Q.length - k ∧ k ≤ Q.length ∧ a2 = az + 8 + (bodyL (Q.take k)).length)) (Q.length) ⟨_, 0, az + 8, fr_reb _ ⟨rfl, rfl, rfl, rfl, rfl, rfl, rfl, rfl, rfl, rfl, trivial⟩, hS26, ?_⟩ ?_
     ·
      exact ⟨rfl, by omega, rfl⟩
     ·
      intro m3 _ w15 hI2
      obtain ⟨G22, k, a2, rfl, hS27, ⟨hm2, hk, ha2⟩⟩ := hI2
      have hbt := bodyL_take_le Q k
      refine wp_seq ?_
      refine wp_seq ?_
      refine k_reg ?_
      refine s_val hS27 rfl rfl (r_move rfl (.t rfl rfl)) ?_
      refine s_val hS27 rfl rfl (r_move rfl (.t rfl rfl)) ?_
      refine s_val hS27 rfl rfl (r_len rfl rfl Try.underlying56 (.t rfl rfl)) ?_
      by_cases c4 : k < Q.length
      ·
       refine s_val hS27 rfl rfl (r_cmp_t rfl rfl (.t rfl rfl) (.t rfl rfl) (show ((k : Nat) : Int) < ((Q.length : Nat) : Int) from by omega)) ?_
       refine wpList_nil ?_
       refine x_tn ?_
       refine k_reb [(1, .pointer (some ⟨blk1, 0, none⟩)), (2, .bool false), (3, .pointer (some ⟨d1, 0, none⟩)), (5, .pointer (some ⟨l1, 0, none⟩)), (8, .slice ga1 ((RR ++ [Q]).length) gc1), (9, .int .i64 (((a2 : Nat) : Int))), (10, .int .i64 (lf - (((sz1 : Nat) : Int)))), (11, .int .i64 (((i : Nat) : Int))), (12, .slice ra1 Q.length rc1), (13, .int .i64 (((k : Nat) : Int))), (103, .bool true)] ⟨rfl, rfl, rfl, rfl, rfl, rfl, rfl, rfl, rfl, rfl, rfl, trivial⟩ fun G23 => ?_
       refine k_t (.t rfl rfl) ?_
       refine wp_skip ?_
       refine x_tn ?_
       refine k_reb [(1, .pointer (some ⟨blk1, 0, none⟩)), (2, .bool false), (3, .pointer (some ⟨d1, 0, none⟩)), (5, .pointer (some ⟨l1, 0, none⟩)), (8, .slice ga1 ((RR ++ [Q]).length) gc1), (9, .int .i64 (((a2 : Nat) : Int))), (10, .int .i64 (lf - (((sz1 : Nat) : Int)))), (11, .int .i64 (((i : Nat) : Int))), (12, .slice ra1 Q.length rc1), (13, .int .i64 (((k : Nat) : Int)))] ⟨rfl, rfl, rfl, rfl, rfl, rfl, rfl, rfl, rfl, rfl, trivial⟩ fun G24 => ?_
       refine wp_seq ?_
       refine wp_block ?_
       refine k_reg ?_
       refine s_val hS27 rfl rfl (r_move rfl (.t rfl rfl)) ?_
       refine s_val hS27 rfl rfl (r_arith rfl rfl (.t rfl rfl) .c (c := ((a2 + 4 : Nat) : Int)) (wn_i64 (by show (((a2 : Nat) : Int) : Int) + 4 = _; omega) (by omega))) ?_
       refine s_val hS27 rfl rfl (r_move rfl (.t rfl rfl)) ?_
       refine s_val hS27 rfl rfl (r_move rfl (.t rfl rfl)) ?_
       refine s_val hS27 rfl rfl (r_ixv (j := k) rfl Try.underlying56 ti22 (.t rfl rfl) (.t rfl rfl) hw5.sl (hw5.len) rfl (by omega)) ?_
       obtain ⟨ea2, ec2, hv2, hx2⟩ := hw5.get k (by omega)
       refine s_val hS27 rfl rfl (r_load rfl one22 (.t rfl rfl) (hw5.sl.cell_p (i := 4) rfl hv2)) ?_
       have hrw := bodyL_row_le (LL := Q) (i := k) (by omega)
       refine s_val hS27 rfl rfl (r_len rfl rfl Try.underlying22 (.t rfl rfl)) ?_
       refine s_val hS27 rfl rfl (r_arith rfl rfl (.t rfl rfl) (.t rfl rfl) (c := (((a2 + 4) + ((Q.getD k []).length) : Nat) : Int)) (wn_i64 (by show (((a2 + 4 : Nat) : Int) : Int) + (((Q.getD k []).length : Nat) : Int) = _; omega) (by omega))) ?_
       refine s_val hS27 rfl rfl (r_assign rfl (.t rfl rfl)) ?_
       refine wpList_nil ?_
       refine x_bn ?_
       refine x_tn ?_
       refine k_reb [(1, .pointer (some ⟨blk1, 0, none⟩)), (2, .bool false), (3, .pointer (some ⟨d1, 0, none⟩)), (5, .pointer (some ⟨l1, 0, none⟩)), (8, .slice ga1 ((RR ++ [Q]).length) gc1), (9, .int .i64 ((((a2 + 4) + ((Q.getD k []).length) : Nat) : Int))), (10, .int .i64 (lf - (((sz1 : Nat) : Int)))), (11, .int .i64 (((i : Nat) : Int))), (12, .slice ra1 Q.length rc1), (13, .int .i64 (((k : Nat) : Int)))] ⟨rfl, rfl, rfl, rfl, rfl, rfl, rfl, rfl, rfl, rfl, trivial⟩ fun G25 => ?_
       refine k_reg ?_
       refine s_val hS27 rfl rfl (r_move rfl (.t rfl rfl)) ?_
       refine s_val hS27 rfl rfl (r_arith rfl rfl (.t rfl rfl) .c (c := ((k + 1 : Nat) : Int)) (wn_i64 (by show (((k : Nat) : Int) : Int) + 1 = _; omega) (by omega))) ?_
       refine s_val hS27 rfl rfl (r_assign rfl (.t rfl rfl)) ?_
       refine wpList_nil ?_
       refine x_tn ?_
       refine ⟨Q.length - (k + 1), by omega, _, k + 1, (a2 + 4) + ((Q.getD k []).length), fr_reb _ ⟨rfl, rfl, rfl, rfl, rfl, rfl, rfl, rfl, rfl, rfl, trivial⟩, hS27, ?_⟩
       exact ⟨by omega, by omega, by rw [bodyL_take (by omega), List.length_append, List.length_append, fourL_len]; omega⟩
      ·
       refine s_val hS27 rfl rfl (r_cmp_f rfl rfl (.t rfl rfl) (.t rfl rfl) (show ¬ (((k : Nat) : Int) < ((Q.length : Nat) : Int)) from by omega)) ?_
       refine wpList_nil ?_
       refine x_tn ?_
       refine k_reb [(1, .pointer (some ⟨blk1, 0, none⟩)), (2, .bool false), (3, .pointer (some ⟨d1, 0, none⟩)), (5, .pointer (some ⟨l1, 0, none⟩)), (8, .slice ga1 ((RR ++ [Q]).length) gc1), (9, .int .i64 (((a2 : Nat) : Int))), (10, .int .i64 (lf - (((sz1 : Nat) : Int)))), (11, .int .i64 (((i : Nat) : Int))), (12, .slice ra1 Q.length rc1), (13, .int .i64 (((k : Nat) : Int))), (103, .bool false)] ⟨rfl, rfl, rfl, rfl, rfl, rfl, rfl, rfl, rfl, rfl, rfl, trivial⟩ fun G26 => ?_
       refine k_f (.t rfl rfl) ?_
       refine wp_exit ?_
       refine x_te ?_
       refine x_te ?_
       refine x_be ?_
       refine x_tn ?_
       refine k_reb [(1, .pointer (some ⟨blk1, 0, none⟩)), (2, .bool false), (3, .pointer (some ⟨d1, 0, none⟩)), (5, .pointer (some ⟨l1, 0, none⟩)), (8, .slice ga1 ((RR ++ [Q]).length) gc1), (9, .int .i64 (((a2 : Nat) : Int))), (10, .int .i64 (lf - (((sz1 : Nat) : Int)))), (11, .int .i64 (((i : Nat) : Int)))] ⟨rfl, rfl, rfl, rfl, rfl, rfl, rfl, rfl, trivial⟩ fun G27 => ?_
       refine wp_seq ?_
       refine wp_seq ?_
       refine k_reg ?_
       refine s_val hS27 rfl rfl (r_assign rfl .c) ?_
       refine wpList_nil ?_
       refine x_tn ?_
       refine wp_block ?_
       have hS28 : St w0 [] (fl [[(blk1, .cells #[.slice aPL PL.length cPL, .slice aCL CL.length cCL] 69 (0, 0))], (pk d1 m1 D3), [(l1, .cells #[.pointer (some ⟨d1, 0, none⟩), .string (⟨#[106]⟩), .int .i64 ((((lg (RR ++ [Q])).size : Nat) : Int)), .int .i64 ((((lg (RR ++ [Q])).count : Nat) : Int)), .bool ((lg (RR ++ [Q])).off)] 92 (0, 0))], sm3, sg4]) w15 := hS27.pick [0, 1, 2, 3, 4] rfl (by decide)
       have hkq : k = Q.length := by omega
       rw [hkq, List.take_length] at ha2
       have hgq : ∀ LL ∈ (RR ++ [Q]), goodR LL := fun LL h => by
        rcases List.mem_append.1 h with h | h
        ·
         exact hgd LL h
        ·
         rw [List.mem_singleton.1 h]; exact ⟨by omega, by omega⟩
       refine wp_loop_ghost (fun (m4 : Nat) a w => ∃ (G : Nat → Value) (c : Nat) (Dq : Dk) (R2_ : List (List (List Nat))) (smq : Hp) (ks2 : Nat) (a3 : Nat) (oaq : Option Addr) (ocq : Nat) (sgwq : Hp), a = fr 205 [(1, .pointer (some ⟨blk1, 0, none⟩)), (2, .bool false), (3, .pointer (some ⟨d1, 0, none⟩)), (5, .pointer (some ⟨l1, 0, none⟩)), (8, .slice oaq R2_.length ocq), (9, .int .i64 (((a3 : Nat) : Int))), (10, .int .i64 (lf - (((sz1 : Nat) : Int)))), (11, .int .i64 (((i : Nat) : Int))), (14, .int .i64 (((c : Nat) : Int)))] G ∧ St w0 [] (fl [[(blk1, .cells #[.slice aPL PL.length cPL, .slice aCL CL.length cCL] 69 (0, 0))], (pk d1 m1 Dq), [(l1, .cells #[.pointer (some ⟨d1, 0, none⟩), .string (⟨#[106]⟩), .int .i64 ((((lg R2_).size : Nat) : Int)), .int .i64 ((((lg R2_).count : Nat) : Int)), .bool ((lg R2_).off)] 92 (0, 0))], smq, sgwq]) w ∧ (m4 = CL.length - c ∧ c ≤ CL.length ∧ c ≤ 20 ∧ Lv Dq ∧ MapH U8 m1 none Dq.F smq ∧ lookF Dq.F (⟨#[106]⟩ : ByteArray) = some ⟨(⟨#[106]⟩ : ByteArray), logL R2_, ks2⟩ ∧ ks2 = (logL R2_).length ∧ a3 = (logL R2_).length ∧ tot Dq.F = a3 ∧ Dq.room = 268435456 ∧ Dq.writes ≤ 4 + 30 * i + c ∧ (a3 : Int) + lf - sz1 ≤ 65544 + 8 * i + 8 ∧ R2_.length ≤ i + 1 ∧ (∀ LL ∈ R2_, goodR LL) ∧ GrP R2 56 oaq ocq R2_ sgwq)) (CL.length) ⟨_, 0, D3, (RR ++ [Q]), sm3, ((logL (RR ++ [Q])).length), a2, ga1, gc1, sg4, fr_reb _ ⟨rfl, rfl, rfl, rfl, rfl, rfl, rfl, rfl, rfl, trivial⟩, hS28, ?_⟩ ?_
       ·
        exact ⟨rfl, by omega, by omega, hup2.lv, hM3, hup2.at_, by omega, by omega, by omega, by omega, by omega, by omega, by omega, hgq, hG4⟩
       ·
        intro m4 _ w16 hI3
        obtain ⟨G28, c, Dq, R2_, smq, ks2, a3, oaq, ocq, sgwq, rfl, hS29, ⟨hm3, hc, hc20, hlvq, hMq, hatq, hks2, ha3, htt2, hrm2, hwr2, hl2, hrl2, hgd2, hW2⟩⟩ := hI3
        have hl82 := logL_len R2_
        refine wp_seq ?_
        refine wp_seq ?_
        refine k_reg ?_
        refine s_val hS29 rfl rfl (r_move rfl (.t rfl rfl)) ?_
        refine s_val hS29 rfl rfl (r_fieldN rfl Try.underlying69 rfl ti34 (by decide) (.t rfl rfl) (qq := 1) rfl) ?_
        refine s_val hS29 rfl rfl (r_load rfl one34 (.t rfl rfl) (St.cell_own (m := 0) rfl rfl)) ?_
        refine s_val hS29 rfl rfl (r_len rfl rfl Try.underlying34 (.t rfl rfl)) ?_
        by_cases c5 : c < CL.length
        ·
         refine s_val hS29 rfl rfl (r_cmp_t rfl rfl (.t rfl rfl) (.t rfl rfl) (show ((c : Nat) : Int) < ((CL.length : Nat) : Int) from by omega)) ?_
         refine s_val hS29 rfl rfl (r_move rfl (.t rfl rfl)) ?_
         refine s_valg hS29 (wanted_of (j := 5) (b := true) (d := 119) rfl rfl rfl rfl) rfl (r_move rfl (.t rfl rfl)) ?_
         by_cases c6 : c < 20
         ·
          refine s_valg hS29 (wanted_of (j := 5) (b := true) (d := 119) rfl rfl rfl rfl) rfl (r_cmp_t rfl rfl (.t rfl rfl) .c (show ((c : Nat) : Int) < 20 from by omega)) ?_
          refine s_val hS29 rfl rfl (r_pick rfl (.t rfl rfl) (.t rfl rfl)) ?_
          refine wpList_nil ?_
          refine x_tn ?_
          refine k_reb [(1, .pointer (some ⟨blk1, 0, none⟩)), (2, .bool false), (3, .pointer (some ⟨d1, 0, none⟩)), (5, .pointer (some ⟨l1, 0, none⟩)), (8, .slice oaq R2_.length ocq), (9, .int .i64 (((a3 : Nat) : Int))), (10, .int .i64 (lf - (((sz1 : Nat) : Int)))), (11, .int .i64 (((i : Nat) : Int))), (14, .int .i64 (((c : Nat) : Int))), (122, .bool true)] ⟨rfl, rfl, rfl, rfl, rfl, rfl, rfl, rfl, rfl, rfl, trivial⟩ fun G29 => ?_
          refine k_t (.t rfl rfl) ?_
          refine wp_skip ?_
          refine x_tn ?_
          refine k_reb [(1, .pointer (some ⟨blk1, 0, none⟩)), (2, .bool false), (3, .pointer (some ⟨d1, 0, none⟩)), (5, .pointer (some ⟨l1, 0, none⟩)), (8, .slice oaq R2_.length ocq), (9, .int .i64 (((a3 : Nat) : Int))), (10, .int .i64 (lf - (((sz1 : Nat) : Int)))), (11, .int .i64 (((i : Nat) : Int))), (14, .int .i64 (((c : Nat) : Int)))] ⟨rfl, rfl, rfl, rfl, rfl, rfl, rfl, rfl, rfl, trivial⟩ fun G30 => ?_
          refine wp_seq ?_
          refine wp_block ?_
          refine wp_seq ?_
          refine k_reg ?_
          refine s_val hS29 rfl rfl (r_fieldN rfl Try.underlying69 rfl ti34 (by decide) (.t rfl rfl) (qq := 1) rfl) ?_
          refine s_val hS29 rfl rfl (r_load rfl one34 (.t rfl rfl) (St.cell_own (m := 0) rfl rfl)) ?_
          refine s_val hS29 rfl rfl (r_move rfl (.t rfl rfl)) ?_
          refine s_val hS29 rfl rfl (r_ixv (j := c) rfl Try.underlying34 ti3 (.t rfl rfl) (.t rfl rfl) hCL.sl (hCL.len) rfl (by omega)) ?_
          obtain ⟨hv3, hx3, hx4⟩ := hCL.geti c (by omega)
          refine s_val hS29 rfl rfl (r_load rfl one3 (.t rfl rfl) (hCL.sl.cell_o oCL hv3)) ?_
          refine s_val hS29 rfl rfl (r_move rfl (.t rfl rfl)) ?_
          by_cases c7 : CL.getD c 0 = ((i : Nat) : Int)
          ·
           refine s_val hS29 rfl rfl (r_cmp_t rfl rfl (.t rfl rfl) (.t rfl rfl) (show CL.getD c 0 = ((i : Nat) : Int) from by omega)) ?_
           refine wpList_nil ?_
           refine x_tn ?_
           refine k_reb [(1, .pointer (some ⟨blk1, 0, none⟩)), (2, .bool false), (3, .pointer (some ⟨d1, 0, none⟩)), (5, .pointer (some ⟨l1, 0, none⟩)), (8, .slice oaq R2_.length ocq), (9, .int .i64 (((a3 : Nat) : Int))), (10, .int .i64 (lf - (((sz1 : Nat) : Int)))), (11, .int .i64 (((i : Nat) : Int))), (14, .int .i64 (((c : Nat) : Int))), (131, .bool true)] ⟨rfl, rfl, rfl, rfl, rfl, rfl, rfl, rfl, rfl, rfl, trivial⟩ fun G31 => ?_
           refine k_t (.t rfl rfl) ?_
           refine wp_seq ?_
           refine wp_seq ?_
           refine k_reg ?_
           refine s_val hS29 rfl rfl (r_move rfl (.t rfl rfl)) ?_
           refine s_call rfl rfl rfl (vs := [.pointer (some ⟨l1, 0, none⟩)]) ⟨(.t rfl rfl), trivial⟩ cb36 (LClear_lv w16 _ d1 m1 Dq hlvq l1 R2_ smq hMq (⟨#[106]⟩ : ByteArray) hatq (by omega) (by omega) (by omega) (hS29.give (xs := [[(l1, .cells #[.pointer (some ⟨d1, 0, none⟩), .string (⟨#[106]⟩), .int .i64 ((((lg R2_).size : Nat) : Int)), .int .i64 ((((lg R2_).count : Nat) : Int)), .bool ((lg R2_).off)] 92 (0, 0))], (pk d1 m1 Dq), smq]) [2, 1, 3] rfl (by decide))) ?_
           rintro _ w17 ⟨D4, sm4, hup3, rfl, hM4, ht11⟩
           have hS30 : St w0 [] (fl [[(blk1, .cells #[.slice aPL PL.length cPL, .slice aCL CL.length cCL] 69 (0, 0))], (pk d1 m1 D4), [(l1, .cells #[.pointer (some ⟨d1, 0, none⟩), .string (⟨#[106]⟩), .int .i64 ((((lg noR).size : Nat) : Int)), .int .i64 ((((lg noR).count : Nat) : Int)), .bool ((lg noR).off)] 92 (0, 0))], sm4, sgwq]) w17 := hS29.callL (xs := [[(l1, .cells #[.pointer (some ⟨d1, 0, none⟩), .string (⟨#[106]⟩), .int .i64 ((((lg R2_).size : Nat) : Int)), .int .i64 ((((lg R2_).count : Nat) : Int)), .bool ((lg R2_).off)] 92 (0, 0))], (pk d1 m1 Dq), smq]) (xs' := [[(l1, .cells #[.pointer (some ⟨d1, 0, none⟩), .string (⟨#[106]⟩), .int .i64 ((((lg noR).size : Nat) : Int)), .int .i64 ((((lg noR).count : Nat) : Int)), .bool ((lg noR).off)] 92 (0, 0))], (pk d1 m1 D4), sm4]) (zs := []) [2, 1, 3] rfl (by decide) ht11 rfl rfl
           have hu13 := hup3.tot
           have hu14 := hup3.wr
           have hu15 := hup3.room
           have hu16 := hup3.same
           have hnr3 : noR.length = 0 := rfl
           have hnr4 : (logL noR).length = 8 := rfl
           refine s_call rfl rfl rfl (vs := [.int .i64 0]) ⟨(.t rfl rfl), trivial⟩ cb16 (num_ok w17 0) ?_
           rintro _ w17 ⟨rfl, rfl⟩
           refine s_val hS30 rfl rfl (r_cmp_f rfl rfl (.t rfl rfl) .c (show ¬ (¬ 0 = 0) from by omega)) ?_
           refine wpList_nil ?_
           refine x_tn ?_
           refine k_reb [(1, .pointer (some ⟨blk1, 0, none⟩)), (2, .bool false), (3, .pointer (some ⟨d1, 0, none⟩)), (5, .pointer (some ⟨l1, 0, none⟩)), (8, .slice oaq R2_.length ocq), (9, .int .i64 (((a3 : Nat) : Int))), (10, .int .i64 (lf - (((sz1 : Nat) : Int)))), (11, .int .i64 (((i : Nat) : Int))), (14, .int .i64 (((c : Nat) : Int))), (135, .bool false)] ⟨rfl, rfl, rfl, rfl, rfl, rfl, rfl, rfl, rfl, rfl, trivial⟩ fun G32 => ?_
           refine k_f (.t rfl rfl) ?_
           refine wp_skip ?_
           refine x_tn ?_
           refine k_reb [(1, .pointer (some ⟨blk1, 0, none⟩)), (2, .bool false), (3, .pointer (some ⟨d1, 0, none⟩)), (5, .pointer (some ⟨l1, 0, none⟩)), (8, .slice oaq R2_.length ocq), (9, .int .i64 (((a3 : Nat) : Int))), (10, .int .i64 (lf - (((sz1 : Nat) : Int)))), (11, .int .i64 (((i : Nat) : Int))), (14, .int .i64 (((c : Nat) : Int)))] ⟨rfl, rfl, rfl, rfl, rfl, rfl, rfl, rfl, rfl, trivial⟩ fun G33 => ?_
           refine wp_seq ?_
           refine k_reg ?_
           refine s_val hS30 rfl rfl (r_assign rfl .c) ?_
           refine wpList_nil ?_
           refine x_tn ?_
           refine k_reg ?_
           refine s_val hS30 rfl rfl (r_assign rfl .c) ?_
           refine wpList_nil ?_
           refine x_bn ?_
           refine x_tn ?_
           refine k_reg ?_
           refine s_val hS30 rfl rfl (r_move rfl (.t rfl rfl)) ?_
           refine s_val hS30 rfl rfl (r_arith rfl rfl (.t rfl rfl) .c (c := ((c + 1 : Nat) : Int)) (wn_i64 (by show (((c : Nat) : Int) : Int) + 1 = _; omega) (by omega))) ?_
           refine s_val hS30 rfl rfl (r_assign rfl (.t rfl rfl)) ?_
           refine wpList_nil ?_
           refine x_tn ?_
           have hS31 : St w0 [] (fl [[(blk1, .cells #[.slice aPL PL.length cPL, .slice aCL CL.length cCL] 69 (0, 0))], (pk d1 m1 D4), [(l1, .cells #[.pointer (some ⟨d1, 0, none⟩), .string (⟨#[106]⟩), .int .i64 ((((lg noR).size : Nat) : Int)), .int .i64 ((((lg noR).count : Nat) : Int)), .bool ((lg noR).off)] 92 (0, 0))], sm4, sgwq, []]) w17 := St.re hS30 (by simp)
           have hS32 : St w0 [] (fl [[(blk1, .cells #[.slice aPL PL.length cPL, .slice aCL CL.length cCL] 69 (0, 0))], (pk d1 m1 D4), [(l1, .cells #[.pointer (some ⟨d1, 0, none⟩), .string (⟨#[106]⟩), .int .i64 ((((lg noR).size : Nat) : Int)), .int .i64 ((((lg noR).count : Nat) : Int)), .bool ((lg noR).off)] 92 (0, 0))], sm4, []]) w17 := hS31.pick [0, 1, 2, 3, 5] rfl (by decide)
           refine ⟨CL.length - (c + 1), by omega, _, c + 1, D4, noR, sm4, (min ks2 8), 8, none, 0, [], fr_reb _ ⟨rfl, rfl, rfl, rfl, rfl, rfl, rfl, rfl, rfl, trivial⟩, hS32, ?_⟩
           exact ⟨by omega, by omega, by omega, hup3.lv, hM4, hup3.at_, by omega, by omega, by omega, by omega, by omega, by omega, by omega, (fun LL h => nomatch h), GrP.nil⟩
          ·
           refine s_val hS29 rfl rfl (r_cmp_f rfl rfl (.t rfl rfl) (.t rfl rfl) (show ¬ (CL.getD c 0 = ((i : Nat) : Int)) from by omega)) ?_
           refine wpList_nil ?_
           refine x_tn ?_
           refine k_reb [(1, .pointer (some ⟨blk1, 0, none⟩)), (2, .bool false), (3, .pointer (some ⟨d1, 0, none⟩)), (5, .pointer (some ⟨l1, 0, none⟩)), (8, .slice oaq R2_.length ocq), (9, .int .i64 (((a3 : Nat) : Int))), (10, .int .i64 (lf - (((sz1 : Nat) : Int)))), (11, .int .i64 (((i : Nat) : Int))), (14, .int .i64 (((c : Nat) : Int))), (131, .bool false)] ⟨rfl, rfl, rfl, rfl, rfl, rfl, rfl, rfl, rfl, rfl, trivial⟩ fun G34 => ?_
           refine k_f (.t rfl rfl) ?_
           refine wp_skip ?_
           refine x_bn ?_
           refine x_tn ?_
           refine k_reb [(1, .pointer (some ⟨blk1, 0, none⟩)), (2, .bool false), (3, .pointer (some ⟨d1, 0, none⟩)), (5, .pointer (some ⟨l1, 0, none⟩)), (8, .slice oaq R2_.length ocq), (9, .int .i64 (((a3 : Nat) : Int))), (10, .int .i64 (lf - (((sz1 : Nat) : Int)))), (11, .int .i64 (((i : Nat) : Int))), (14, .int .i64 (((c : Nat) : Int)))] ⟨rfl, rfl, rfl, rfl, rfl, rfl, rfl, rfl, rfl, trivial⟩ fun G35 => ?_
           refine k_reg ?_
           refine s_val hS29 rfl rfl (r_move rfl (.t rfl rfl)) ?_
           refine s_val hS29 rfl rfl (r_arith rfl rfl (.t rfl rfl) .c (c := ((c + 1 : Nat) : Int)) (wn_i64 (by show (((c : Nat) : Int) : Int) + 1 = _; omega) (by omega))) ?_
           refine s_val hS29 rfl rfl (r_assign rfl (.t rfl rfl)) ?_
           refine wpList_nil ?_
           refine x_tn ?_
           refine ⟨CL.length - (c + 1), by omega, _, c + 1, Dq, R2_, smq, ks2, a3, oaq, ocq, sgwq, fr_reb _ ⟨rfl, rfl, rfl, rfl, rfl, rfl, rfl, rfl, rfl, trivial⟩, hS29, ?_⟩
           exact ⟨by omega, by omega, by omega, hlvq, hMq, hatq, by omega, by omega, by omega, by omega, by omega, by omega, by omega, hgd2, hW2⟩
         ·
          refine s_valg hS29 (wanted_of (j := 5) (b := true) (d := 119) rfl rfl rfl rfl) rfl (r_cmp_f rfl rfl (.t rfl rfl) .c (show ¬ (((c : Nat) : Int) < 20) from by omega)) ?_
          refine s_val hS29 rfl rfl (r_pick rfl (.t rfl rfl) (.t rfl rfl)) ?_
          refine wpList_nil ?_
          refine x_tn ?_
          refine k_reb [(1, .pointer (some ⟨blk1, 0, none⟩)), (2, .bool false), (3, .pointer (some ⟨d1, 0, none⟩)), (5, .pointer (some ⟨l1, 0, none⟩)), (8, .slice oaq R2_.length ocq), (9, .int .i64 (((a3 : Nat) : Int))), (10, .int .i64 (lf - (((sz1 : Nat) : Int)))), (11, .int .i64 (((i : Nat) : Int))), (14, .int .i64 (((c : Nat) : Int))), (122, .bool false)] ⟨rfl, rfl, rfl, rfl, rfl, rfl, rfl, rfl, rfl, rfl, trivial⟩ fun G36 => ?_
          refine k_f (.t rfl rfl) ?_
          refine wp_exit ?_
          refine x_te ?_
          refine x_te ?_
          refine x_be ?_
          refine x_tn ?_
          refine k_reb [(1, .pointer (some ⟨blk1, 0, none⟩)), (2, .bool false), (3, .pointer (some ⟨d1, 0, none⟩)), (5, .pointer (some ⟨l1, 0, none⟩)), (8, .slice oaq R2_.length ocq), (9, .int .i64 (((a3 : Nat) : Int))), (10, .int .i64 (lf - (((sz1 : Nat) : Int)))), (11, .int .i64 (((i : Nat) : Int)))] ⟨rfl, rfl, rfl, rfl, rfl, rfl, rfl, rfl, trivial⟩ fun G37 => ?_
          refine wp_seq ?_
          refine k_reg ?_
          refine s_val hS29 rfl rfl (r_move rfl (.t rfl rfl)) ?_
          refine s_call rfl rfl rfl (vs := [.pointer (some ⟨d1, 0, none⟩)]) ⟨(.t rfl rfl), trivial⟩ cb33 (Writes_ok w16 _ d1 m1 Dq hlvq.ok smq hMq (hS29.give (xs := [(pk d1 m1 Dq), smq]) [1, 3] rfl (by decide))) ?_
          rintro _ w18 ⟨rfl, ht12⟩
          have hS33 : St w0 [] (fl [[(blk1, .cells #[.slice aPL PL.length cPL, .slice aCL CL.length cCL] 69 (0, 0))], (pk d1 m1 Dq), [(l1, .cells #[.pointer (some ⟨d1, 0, none⟩), .string (⟨#[106]⟩), .int .i64 ((((lg R2_).size : Nat) : Int)), .int .i64 ((((lg R2_).count : Nat) : Int)), .bool ((lg R2_).off)] 92 (0, 0))], smq, sgwq]) w18 := hS29.callL (xs := [(pk d1 m1 Dq), smq]) (xs' := [(pk d1 m1 Dq), smq]) (zs := []) [1, 3] rfl (by decide) ht12 rfl rfl
          refine s_val hS33 rfl rfl (r_assign rfl (.t rfl rfl)) ?_
          refine wpList_nil ?_
          refine x_tn ?_
          refine k_reb [(1, .pointer (some ⟨blk1, 0, none⟩)), (2, .bool false), (3, .pointer (some ⟨d1, 0, none⟩)), (5, .pointer (some ⟨l1, 0, none⟩)), (8, .slice oaq R2_.length ocq), (9, .int .i64 (((a3 : Nat) : Int))), (10, .int .i64 (lf - (((sz1 : Nat) : Int)))), (11, .int .i64 (((i : Nat) : Int))), (15, .int .i64 (((Dq.writes : Nat) : Int)))] ⟨rfl, rfl, rfl, rfl, rfl, rfl, rfl, rfl, rfl, trivial⟩ fun G38 => ?_
          refine wp_seq ?_
          refine k_reg ?_
          refine s_val hS33 rfl rfl (r_move rfl (.t rfl rfl)) ?_
          refine s_call rfl rfl rfl (vs := [.pointer (some ⟨d1, 0, none⟩), .string (⟨#[106]⟩)]) ⟨(.t rfl rfl), .c, trivial⟩ cb19 (Open_full w18 _ d1 m1 Dq hlvq smq hMq (⟨#[106]⟩ : ByteArray) hatq hgd2 (by omega) (hS33.give (xs := [(pk d1 m1 Dq), smq]) [1, 3] rfl (by decide))) ?_
          rintro _ w19 ⟨sm5, l2, oa2, oc2, sg5, hM5, rfl, hO2, ht13⟩
          have hS35 : St w0 [] (fl [[(blk1, .cells #[.slice aPL PL.length cPL, .slice aCL CL.length cCL] 69 (0, 0))], (pk d1 m1 Dq), [(l1, .cells #[.pointer (some ⟨d1, 0, none⟩), .string (⟨#[106]⟩), .int .i64 ((((lg R2_).size : Nat) : Int)), .int .i64 ((((lg R2_).count : Nat) : Int)), .bool ((lg R2_).off)] 92 (0, 0))], sm5, sgwq, [(l2, .cells #[.pointer (some ⟨d1, 0, none⟩), .string (⟨#[106]⟩), .int .i64 ((((lg R2_).size : Nat) : Int)), .int .i64 ((((lg R2_).count : Nat) : Int)), .bool ((lg R2_).off)] 92 (0, 0))], sg5]) w19 := hS33.callL (xs := [(pk d1 m1 Dq), smq]) (xs' := [(pk d1 m1 Dq), sm5]) (zs := [[(l2, .cells #[.pointer (some ⟨d1, 0, none⟩), .string (⟨#[106]⟩), .int .i64 ((((lg R2_).size : Nat) : Int)), .int .i64 ((((lg R2_).count : Nat) : Int)), .bool ((lg R2_).off)] 92 (0, 0))], sg5]) [1, 3] rfl (by decide) ht13 rfl rfl
          have hS36 : St w0 [] (fl [[(blk1, .cells #[.slice aPL PL.length cPL, .slice aCL CL.length cCL] 69 (0, 0))], (pk d1 m1 Dq), [(l1, .cells #[.pointer (some ⟨d1, 0, none⟩), .string (⟨#[106]⟩), .int .i64 ((((lg R2_).size : Nat) : Int)), .int .i64 ((((lg R2_).count : Nat) : Int)), .bool ((lg R2_).off)] 92 (0, 0))], [(l2, .cells #[.pointer (some ⟨d1, 0, none⟩), .string (⟨#[106]⟩), .int .i64 ((((lg R2_).size : Nat) : Int)), .int .i64 ((((lg R2_).count : Nat) : Int)), .bool ((lg R2_).off)] 92 (0, 0))], sm5, sgwq, sg5]) w19 := hS35.pick [0, 1, 2, 5, 3, 4, 6] rfl (by decide)
          refine s_val hS36 rfl rfl (r_move rfl (.t rfl rfl)) ?_
          refine s_val hS36 rfl rfl (r_extract rfl (.t rfl rfl) rfl) ?_
          refine s_val hS36 rfl rfl (r_extract rfl (.t rfl rfl) rfl) ?_
          refine s_val hS36 rfl rfl (r_extract rfl (.t rfl rfl) rfl) ?_
          refine s_val hS36 rfl rfl (r_assign rfl (.t rfl rfl)) ?_
          refine s_val hS36 rfl rfl (r_assign rfl (.t rfl rfl)) ?_
          refine s_val hS36 rfl rfl (r_assign rfl (.t rfl rfl)) ?_
          refine wpList_nil ?_
          refine x_tn ?_
          refine k_reb [(1, .pointer (some ⟨blk1, 0, none⟩)), (2, .bool false), (3, .pointer (some ⟨d1, 0, none⟩)), (5, .pointer (some ⟨l1, 0, none⟩)), (8, .slice oaq R2_.length ocq), (9, .int .i64 (((a3 : Nat) : Int))), (10, .int .i64 (lf - (((sz1 : Nat) : Int)))), (11, .int .i64 (((i : Nat) : Int))), (15, .int .i64 (((Dq.writes : Nat) : Int))), (16, .pointer (some ⟨l2, 0, none⟩)), (17, .slice oa2 R2_.length oc2), (18, .int .i64 0)] ⟨rfl, rfl, rfl, rfl, rfl, rfl, rfl, rfl, rfl, rfl, rfl, rfl, trivial⟩ fun G39 => ?_
          refine wp_seq ?_
          refine k_reg ?_
          refine s_val hS36 rfl rfl (r_move rfl (.t rfl rfl)) ?_
          refine s_call rfl rfl rfl (vs := [.pointer (some ⟨d1, 0, none⟩), .string (⟨#[106]⟩)]) ⟨(.t rfl rfl), .c, trivial⟩ cb37 (Sure_lv w19 _ d1 m1 Dq hlvq sm5 hM5 (⟨#[106]⟩ : ByteArray) hatq (hS36.give (xs := [(pk d1 m1 Dq), sm5]) [1, 4] rfl (by decide))) ?_
          rintro _ w20 ⟨rfl, ht14⟩
          have hS37 : St w0 [] (fl [[(blk1, .cells #[.slice aPL PL.length cPL, .slice aCL CL.length cCL] 69 (0, 0))], (pk d1 m1 Dq), [(l1, .cells #[.pointer (some ⟨d1, 0, none⟩), .string (⟨#[106]⟩), .int .i64 ((((lg R2_).size : Nat) : Int)), .int .i64 ((((lg R2_).count : Nat) : Int)), .bool ((lg R2_).off)] 92 (0, 0))], [(l2, .cells #[.pointer (some ⟨d1, 0, none⟩), .string (⟨#[106]⟩), .int .i64 ((((lg R2_).size : Nat) : Int)), .int .i64 ((((lg R2_).count : Nat) : Int)), .bool ((lg R2_).off)] 92 (0, 0))], sm5, sgwq, sg5]) w20 := hS36.callL (xs := [(pk d1 m1 Dq), sm5]) (xs' := [(pk d1 m1 Dq), sm5]) (zs := []) [1, 4] rfl (by decide) ht14 rfl rfl
          refine s_val hS37 rfl rfl (r_move rfl (.t rfl rfl)) ?_
          refine s_val hS37 rfl rfl (r_extract rfl (.t rfl rfl) rfl) ?_
          refine s_val hS37 rfl rfl (r_extract rfl (.t rfl rfl) rfl) ?_
          refine s_val hS37 rfl rfl (r_assign rfl (.t rfl rfl)) ?_
          refine s_val hS37 rfl rfl (r_assign rfl (.t rfl rfl)) ?_
          refine wpList_nil ?_
          refine x_tn ?_
          refine k_reb [(1, .pointer (some ⟨blk1, 0, none⟩)), (2, .bool false), (3, .pointer (some ⟨d1, 0, none⟩)), (5, .pointer (some ⟨l1, 0, none⟩)), (8, .slice oaq R2_.length ocq), (9, .int .i64 (((a3 : Nat) : Int))), (10, .int .i64 (lf - (((sz1 : Nat) : Int)))), (11, .int .i64 (((i : Nat) : Int))), (15, .int .i64 (((Dq.writes : Nat) : Int))), (16, .pointer (some ⟨l2, 0, none⟩)), (17, .slice oa2 R2_.length oc2), (18, .int .i64 0), (19, .int .i64 (((ks2 : Nat) : Int))), (20, .int .i64 0)] ⟨rfl, rfl, rfl, rfl, rfl, rfl, rfl, rfl, rfl, rfl, rfl, rfl, rfl, rfl, trivial⟩ fun G40 => ?_
          refine wp_seq ?_
          refine k_reg ?_
          refine s_val hS37 rfl rfl (r_move rfl (.t rfl rfl)) ?_
          refine s_call rfl rfl rfl (vs := [.int .i64 0]) ⟨(.t rfl rfl), trivial⟩ cb16 (num_ok w20 0) ?_
          rintro _ w20 ⟨rfl, rfl⟩
          refine s_val hS37 rfl rfl (r_cmp_f rfl rfl (.t rfl rfl) .c (show ¬ (¬ 0 = 0) from by omega)) ?_
          refine s_val hS37 rfl rfl (r_move rfl (.t rfl rfl)) ?_
          refine s_valg hS37 (wanted_of (j := 3) (b := false) (d := 152) rfl rfl rfl rfl) rfl (r_move rfl (.t rfl rfl)) ?_
          refine s_valg hS37 (wanted_of (j := 3) (b := false) (d := 152) rfl rfl rfl rfl) rfl (r_eqnilp rfl Try.underlying43 (.t rfl rfl) .c rfl) ?_
          refine s_val hS37 rfl rfl (r_pick rfl (.t rfl rfl) (.t rfl rfl)) ?_
          refine s_val hS37 rfl rfl (r_move rfl (.t rfl rfl)) ?_
          refine s_valg hS37 (wanted_of (j := 7) (b := false) (d := 156) rfl rfl rfl rfl) rfl (r_move rfl (.t rfl rfl)) ?_
          refine s_valg hS37 (wanted_of (j := 7) (b := false) (d := 156) rfl rfl rfl rfl) rfl (r_move rfl (.t rfl rfl)) ?_
          obtain ⟨us6, hw6⟩ := hO2.sl R2.mono (by omega)
          obtain ⟨us7, hw7⟩ := hW2.sl R2.mono (by omega)
          refine s_callg (wanted_of (j := 7) (b := false) (d := 156) rfl rfl rfl rfl) rfl rfl (vs := [.slice oa2 R2_.length oc2, .slice oaq R2_.length ocq]) ⟨(.t rfl rfl), (.t rfl rfl), trivial⟩ cb23 (eqRows_ok w20 oa2 oc2 _ R2_ sg5 hw6 (Old.of_piece (i := 6) (xs := []) [] hS37 rfl rfl (by decide)) oaq ocq _ R2_ sgwq hw7 (Old.of_piece (i := 5) (xs := []) [] hS37 rfl rfl (by decide)) ) ?_
          rintro _ w21 ⟨rfl, ht15⟩
          have hS38 : St w0 [] (fl [[(blk1, .cells #[.slice aPL PL.length cPL, .slice aCL CL.length cCL] 69 (0, 0))], (pk d1 m1 Dq), [(l1, .cells #[.pointer (some ⟨d1, 0, none⟩), .string (⟨#[106]⟩), .int .i64 ((((lg R2_).size : Nat) : Int)), .int .i64 ((((lg R2_).count : Nat) : Int)), .bool ((lg R2_).off)] 92 (0, 0))], [(l2, .cells #[.pointer (some ⟨d1, 0, none⟩), .string (⟨#[106]⟩), .int .i64 ((((lg R2_).size : Nat) : Int)), .int .i64 ((((lg R2_).count : Nat) : Int)), .bool ((lg R2_).off)] 92 (0, 0))], sm5, sgwq, sg5]) w21 := hS37.callL (xs := []) (xs' := []) (zs := []) [] rfl (by decide) ht15 rfl rfl
          by_cases hq1 : R2_ = R2_
          ·
           refine s_asb (b' := true) (decide_eq_true hq1) ?_
           refine s_valg hS38 (wanted_of (j := 7) (b := false) (d := 156) rfl rfl rfl rfl) rfl (r_lnot rfl (.t rfl rfl)) ?_
           refine s_val hS38 rfl rfl (r_pick rfl (.t rfl rfl) (.t rfl rfl)) ?_
           refine s_val hS38 rfl rfl (r_move rfl (.t rfl rfl)) ?_
           refine s_valg hS38 (wanted_of (j := 13) (b := false) (d := 162) rfl rfl rfl rfl) rfl (r_move rfl (.t rfl rfl)) ?_
           refine s_callg (wanted_of (j := 13) (b := false) (d := 162) rfl rfl rfl rfl) rfl rfl (vs := [.pointer (some ⟨l1, 0, none⟩)]) ⟨(.t rfl rfl), trivial⟩ cb29 (LSize_ok w21 _ l1 d1 (⟨#[106]⟩ : ByteArray) (lg R2_) (hS38.give (xs := [[(l1, .cells #[.pointer (some ⟨d1, 0, none⟩), .string (⟨#[106]⟩), .int .i64 ((((lg R2_).size : Nat) : Int)), .int .i64 ((((lg R2_).count : Nat) : Int)), .bool ((lg R2_).off)] 92 (0, 0))]]) [2] rfl (by decide))) ?_
           rintro _ w22 ⟨rfl, ht16⟩
           have hS39 : St w0 [] (fl [[(blk1, .cells #[.slice aPL PL.length cPL, .slice aCL CL.length cCL] 69 (0, 0))], (pk d1 m1 Dq), [(l1, .cells #[.pointer (some ⟨d1, 0, none⟩), .string (⟨#[106]⟩), .int .i64 ((((lg R2_).size : Nat) : Int)), .int .i64 ((((lg R2_).count : Nat) : Int)), .bool ((lg R2_).off)] 92 (0, 0))], [(l2, .cells #[.pointer (some ⟨d1, 0, none⟩), .string (⟨#[106]⟩), .int .i64 ((((lg R2_).size : Nat) : Int)), .int .i64 ((((lg R2_).count : Nat) : Int)), .bool ((lg R2_).off)] 92 (0, 0))], sm5, sgwq, sg5]) w22 := hS38.callL (xs := [[(l1, .cells #[.pointer (some ⟨d1, 0, none⟩), .string (⟨#[106]⟩), .int .i64 ((((lg R2_).size : Nat) : Int)), .int .i64 ((((lg R2_).count : Nat) : Int)), .bool ((lg R2_).off)] 92 (0, 0))]]) (xs' := [[(l1, .cells #[.pointer (some ⟨d1, 0, none⟩), .string (⟨#[106]⟩), .int .i64 ((((lg R2_).size : Nat) : Int)), .int .i64 ((((lg R2_).count : Nat) : Int)), .bool ((lg R2_).off)] 92 (0, 0))]]) (zs := []) [2] rfl (by decide) ht16 rfl rfl
           have hzq2 : (lg R2_).size = (logL R2_).length := (logL_len _).symm
           refine s_valg hS39 (wanted_of (j := 13) (b := false) (d := 162) rfl rfl rfl rfl) rfl (r_move rfl (.t rfl rfl)) ?_
           refine s_valg hS39 (wanted_of (j := 13) (b := false) (d := 162) rfl rfl rfl rfl) rfl (r_cmp_f rfl rfl (.t rfl rfl) (.t rfl rfl) (show ¬ (¬ (((lg R2_).size : Nat) : Int) = ((a3 : Nat) : Int)) from by omega)) ?_
           refine s_val hS39 rfl rfl (r_pick rfl (.t rfl rfl) (.t rfl rfl)) ?_
           refine s_val hS39 rfl rfl (r_move rfl (.t rfl rfl)) ?_
           refine s_valg hS39 (wanted_of (j := 19) (b := false) (d := 168) rfl rfl rfl rfl) rfl (r_move rfl (.t rfl rfl)) ?_
           refine s_callg (wanted_of (j := 19) (b := false) (d := 168) rfl rfl rfl rfl) rfl rfl (vs := [.pointer (some ⟨l1, 0, none⟩)]) ⟨(.t rfl rfl), trivial⟩ cb30 (LCount_ok w22 _ l1 d1 (⟨#[106]⟩ : ByteArray) (lg R2_) (hS39.give (xs := [[(l1, .cells #[.pointer (some ⟨d1, 0, none⟩), .string (⟨#[106]⟩), .int .i64 ((((lg R2_).size : Nat) : Int)), .int .i64 ((((lg R2_).count : Nat) : Int)), .bool ((lg R2_).off)] 92 (0, 0))]]) [2] rfl (by decide))) ?_
           rintro _ w23 ⟨rfl, ht17⟩
           have hS40 : St w0 [] (fl [[(blk1, .cells #[.slice aPL PL.length cPL, .slice aCL CL.length cCL] 69 (0, 0))], (pk d1 m1 Dq), [(l1, .cells #[.pointer (some ⟨d1, 0, none⟩), .string (⟨#[106]⟩), .int .i64 ((((lg R2_).size : Nat) : Int)), .int .i64 ((((lg R2_).count : Nat) : Int)), .bool ((lg R2_).off)] 92 (0, 0))], [(l2, .cells #[.pointer (some ⟨d1, 0, none⟩), .string (⟨#[106]⟩), .int .i64 ((((lg R2_).size : Nat) : Int)), .int .i64 ((((lg R2_).count : Nat) : Int)), .bool ((lg R2_).off)] 92 (0, 0))], sm5, sgwq, sg5]) w23 := hS39.callL (xs := [[(l1, .cells #[.pointer (some ⟨d1, 0, none⟩), .string (⟨#[106]⟩), .int .i64 ((((lg R2_).size : Nat) : Int)), .int .i64 ((((lg R2_).count : Nat) : Int)), .bool ((lg R2_).off)] 92 (0, 0))]]) (xs' := [[(l1, .cells #[.pointer (some ⟨d1, 0, none⟩), .string (⟨#[106]⟩), .int .i64 ((((lg R2_).size : Nat) : Int)), .int .i64 ((((lg R2_).count : Nat) : Int)), .bool ((lg R2_).off)] 92 (0, 0))]]) (zs := []) [2] rfl (by decide) ht17 rfl rfl
           have hzq3 : (lg R2_).count = (R2_).length := rfl
           refine s_valg hS40 (wanted_of (j := 19) (b := false) (d := 168) rfl rfl rfl rfl) rfl (r_move rfl (.t rfl rfl)) ?_
           refine s_valg hS40 (wanted_of (j := 19) (b := false) (d := 168) rfl rfl rfl rfl) rfl (r_len rfl rfl Try.underlying30 (.t rfl rfl)) ?_
           refine s_valg hS40 (wanted_of (j := 19) (b := false) (d := 168) rfl rfl rfl rfl) rfl (r_cmp_f rfl rfl (.t rfl rfl) (.t rfl rfl) (show ¬ (¬ (((lg R2_).count : Nat) : Int) = ((R2_.length : Nat) : Int)) from by omega)) ?_
           refine s_val hS40 rfl rfl (r_pick rfl (.t rfl rfl) (.t rfl rfl)) ?_
           refine s_val hS40 rfl rfl (r_move rfl (.t rfl rfl)) ?_
           refine s_valg hS40 (wanted_of (j := 26) (b := false) (d := 175) rfl rfl rfl rfl) rfl (r_move rfl (.t rfl rfl)) ?_
           refine s_callg (wanted_of (j := 26) (b := false) (d := 175) rfl rfl rfl rfl) rfl rfl (vs := [.pointer (some ⟨l2, 0, none⟩)]) ⟨(.t rfl rfl), trivial⟩ cb29 (LSize_ok w23 _ l2 d1 (⟨#[106]⟩ : ByteArray) (lg R2_) (hS40.give (xs := [[(l2, .cells #[.pointer (some ⟨d1, 0, none⟩), .string (⟨#[106]⟩), .int .i64 ((((lg R2_).size : Nat) : Int)), .int .i64 ((((lg R2_).count : Nat) : Int)), .bool ((lg R2_).off)] 92 (0, 0))]]) [3] rfl (by decide))) ?_
           rintro _ w24 ⟨rfl, ht18⟩
           have hS41 : St w0 [] (fl [[(blk1, .cells #[.slice aPL PL.length cPL, .slice aCL CL.length cCL] 69 (0, 0))], (pk d1 m1 Dq), [(l1, .cells #[.pointer (some ⟨d1, 0, none⟩), .string (⟨#[106]⟩), .int .i64 ((((lg R2_).size : Nat) : Int)), .int .i64 ((((lg R2_).count : Nat) : Int)), .bool ((lg R2_).off)] 92 (0, 0))], [(l2, .cells #[.pointer (some ⟨d1, 0, none⟩), .string (⟨#[106]⟩), .int .i64 ((((lg R2_).size : Nat) : Int)), .int .i64 ((((lg R2_).count : Nat) : Int)), .bool ((lg R2_).off)] 92 (0, 0))], sm5, sgwq, sg5]) w24 := hS40.callL (xs := [[(l2, .cells #[.pointer (some ⟨d1, 0, none⟩), .string (⟨#[106]⟩), .int .i64 ((((lg R2_).size : Nat) : Int)), .int .i64 ((((lg R2_).count : Nat) : Int)), .bool ((lg R2_).off)] 92 (0, 0))]]) (xs' := [[(l2, .cells #[.pointer (some ⟨d1, 0, none⟩), .string (⟨#[106]⟩), .int .i64 ((((lg R2_).size : Nat) : Int)), .int .i64 ((((lg R2_).count : Nat) : Int)), .bool ((lg R2_).off)] 92 (0, 0))]]) (zs := []) [3] rfl (by decide) ht18 rfl rfl
           have hzq4 : (lg R2_).size = (logL R2_).length := (logL_len _).symm
           refine s_valg hS41 (wanted_of (j := 26) (b := false) (d := 175) rfl rfl rfl rfl) rfl (r_move rfl (.t rfl rfl)) ?_
           refine s_valg hS41 (wanted_of (j := 26) (b := false) (d := 175) rfl rfl rfl rfl) rfl (r_cmp_f rfl rfl (.t rfl rfl) (.t rfl rfl) (show ¬ (¬ (((lg R2_).size : Nat) : Int) = ((a3 : Nat) : Int)) from by omega)) ?_
           refine s_val hS41 rfl rfl (r_pick rfl (.t rfl rfl) (.t rfl rfl)) ?_
           refine s_val hS41 rfl rfl (r_move rfl (.t rfl rfl)) ?_
           refine s_valg hS41 (wanted_of (j := 32) (b := false) (d := 181) rfl rfl rfl rfl) rfl (r_move rfl (.t rfl rfl)) ?_
           refine s_callg (wanted_of (j := 32) (b := false) (d := 181) rfl rfl rfl rfl) rfl rfl (vs := [.pointer (some ⟨l2, 0, none⟩)]) ⟨(.t rfl rfl), trivial⟩ cb30 (LCount_ok w24 _ l2 d1 (⟨#[106]⟩ : ByteArray) (lg R2_) (hS41.give (xs := [[(l2, .cells #[.pointer (some ⟨d1, 0, none⟩), .string (⟨#[106]⟩), .int .i64 ((((lg R2_).size : Nat) : Int)), .int .i64 ((((lg R2_).count : Nat) : Int)), .bool ((lg R2_).off)] 92 (0, 0))]]) [3] rfl (by decide))) ?_
           rintro _ w25 ⟨rfl, ht19⟩
           have hS42 : St w0 [] (fl [[(blk1, .cells #[.slice aPL PL.length cPL, .slice aCL CL.length cCL] 69 (0, 0))], (pk d1 m1 Dq), [(l1, .cells #[.pointer (some ⟨d1, 0, none⟩), .string (⟨#[106]⟩), .int .i64 ((((lg R2_).size : Nat) : Int)), .int .i64 ((((lg R2_).count : Nat) : Int)), .bool ((lg R2_).off)] 92 (0, 0))], [(l2, .cells #[.pointer (some ⟨d1, 0, none⟩), .string (⟨#[106]⟩), .int .i64 ((((lg R2_).size : Nat) : Int)), .int .i64 ((((lg R2_).count : Nat) : Int)), .bool ((lg R2_).off)] 92 (0, 0))], sm5, sgwq, sg5]) w25 := hS41.callL (xs := [[(l2, .cells #[.pointer (some ⟨d1, 0, none⟩), .string (⟨#[106]⟩), .int .i64 ((((lg R2_).size : Nat) : Int)), .int .i64 ((((lg R2_).count : Nat) : Int)), .bool ((lg R2_).off)] 92 (0, 0))]]) (xs' := [[(l2, .cells #[.pointer (some ⟨d1, 0, none⟩), .string (⟨#[106]⟩), .int .i64 ((((lg R2_).size : Nat) : Int)), .int .i64 ((((lg R2_).count : Nat) : Int)), .bool ((lg R2_).off)] 92 (0, 0))]]) (zs := []) [3] rfl (by decide) ht19 rfl rfl
           have hzq5 : (lg R2_).count = (R2_).length := rfl
           refine s_valg hS42 (wanted_of (j := 32) (b := false) (d := 181) rfl rfl rfl rfl) rfl (r_move rfl (.t rfl rfl)) ?_
           refine s_valg hS42 (wanted_of (j := 32) (b := false) (d := 181) rfl rfl rfl rfl) rfl (r_len rfl rfl Try.underlying30 (.t rfl rfl)) ?_
           refine s_valg hS42 (wanted_of (j := 32) (b := false) (d := 181) rfl rfl rfl rfl) rfl (r_cmp_f rfl rfl (.t rfl rfl) (.t rfl rfl) (show ¬ (¬ (((lg R2_).count : Nat) : Int) = ((R2_.length : Nat) : Int)) from by omega)) ?_
           refine s_val hS42 rfl rfl (r_pick rfl (.t rfl rfl) (.t rfl rfl)) ?_
           refine s_val hS42 rfl rfl (r_move rfl (.t rfl rfl)) ?_
           refine s_valg hS42 (wanted_of (j := 39) (b := false) (d := 188) rfl rfl rfl rfl) rfl (r_move rfl (.t rfl rfl)) ?_
           refine s_callg (wanted_of (j := 39) (b := false) (d := 188) rfl rfl rfl rfl) rfl rfl (vs := [.int .i64 0]) ⟨(.t rfl rfl), trivial⟩ cb16 (num_ok w25 0) ?_
           rintro _ w25 ⟨rfl, rfl⟩
           refine s_valg hS42 (wanted_of (j := 39) (b := false) (d := 188) rfl rfl rfl rfl) rfl (r_cmp_f rfl rfl (.t rfl rfl) .c (show ¬ (¬ 0 = 0) from by omega)) ?_
           refine s_val hS42 rfl rfl (r_pick rfl (.t rfl rfl) (.t rfl rfl)) ?_
           refine s_val hS42 rfl rfl (r_move rfl (.t rfl rfl)) ?_
           refine s_valg hS42 (wanted_of (j := 44) (b := false) (d := 193) rfl rfl rfl rfl) rfl (r_move rfl (.t rfl rfl)) ?_
           refine s_valg hS42 (wanted_of (j := 44) (b := false) (d := 193) rfl rfl rfl rfl) rfl (r_move rfl (.t rfl rfl)) ?_
           refine s_valg hS42 (wanted_of (j := 44) (b := false) (d := 193) rfl rfl rfl rfl) rfl (r_cmp_f rfl rfl (.t rfl rfl) (.t rfl rfl) (show ¬ (¬ ((ks2 : Nat) : Int) = ((a3 : Nat) : Int)) from by omega)) ?_
           refine s_val hS42 rfl rfl (r_pick rfl (.t rfl rfl) (.t rfl rfl)) ?_
           refine s_val hS42 rfl rfl (r_move rfl (.t rfl rfl)) ?_
           refine s_valg hS42 (wanted_of (j := 49) (b := false) (d := 198) rfl rfl rfl rfl) rfl (r_move rfl (.t rfl rfl)) ?_
           refine s_callg (wanted_of (j := 49) (b := false) (d := 198) rfl rfl rfl rfl) rfl rfl (vs := [.pointer (some ⟨d1, 0, none⟩)]) ⟨(.t rfl rfl), trivial⟩ cb33 (Writes_ok w25 _ d1 m1 Dq hlvq.ok sm5 hM5 (hS42.give (xs := [(pk d1 m1 Dq), sm5]) [1, 4] rfl (by decide))) ?_
           rintro _ w26 ⟨rfl, ht20⟩
           have hS43 : St w0 [] (fl [[(blk1, .cells #[.slice aPL PL.length cPL, .slice aCL CL.length cCL] 69 (0, 0))], (pk d1 m1 Dq), [(l1, .cells #[.pointer (some ⟨d1, 0, none⟩), .string (⟨#[106]⟩), .int .i64 ((((lg R2_).size : Nat) : Int)), .int .i64 ((((lg R2_).count : Nat) : Int)), .bool ((lg R2_).off)] 92 (0, 0))], [(l2, .cells #[.pointer (some ⟨d1, 0, none⟩), .string (⟨#[106]⟩), .int .i64 ((((lg R2_).size : Nat) : Int)), .int .i64 ((((lg R2_).count : Nat) : Int)), .bool ((lg R2_).off)] 92 (0, 0))], sm5, sgwq, sg5]) w26 := hS42.callL (xs := [(pk d1 m1 Dq), sm5]) (xs' := [(pk d1 m1 Dq), sm5]) (zs := []) [1, 4] rfl (by decide) ht20 rfl rfl
           refine s_valg hS43 (wanted_of (j := 49) (b := false) (d := 198) rfl rfl rfl rfl) rfl (r_move rfl (.t rfl rfl)) ?_
           refine s_valg hS43 (wanted_of (j := 49) (b := false) (d := 198) rfl rfl rfl rfl) rfl (r_cmp_f rfl rfl (.t rfl rfl) (.t rfl rfl) (show ¬ (¬ ((Dq.writes : Nat) : Int) = ((Dq.writes : Nat) : Int)) from by omega)) ?_
           refine s_val hS43 rfl rfl (r_pick rfl (.t rfl rfl) (.t rfl rfl)) ?_
           refine wpList_nil ?_
           refine x_tn ?_
           refine k_reb [(1, .pointer (some ⟨blk1, 0, none⟩)), (2, .bool false), (3, .pointer (some ⟨d1, 0, none⟩)), (5, .pointer (some ⟨l1, 0, none⟩)), (8, .slice oaq R2_.length ocq), (9, .int .i64 (((a3 : Nat) : Int))), (10, .int .i64 (lf - (((sz1 : Nat) : Int)))), (11, .int .i64 (((i : Nat) : Int))), (203, .bool false)] ⟨rfl, rfl, rfl, rfl, rfl, rfl, rfl, rfl, rfl, trivial⟩ fun G41 => ?_
           refine k_f (.t rfl rfl) ?_
           refine wp_skip ?_
           refine x_bn ?_
           refine x_tn ?_
           refine k_reb [(1, .pointer (some ⟨blk1, 0, none⟩)), (2, .bool false), (3, .pointer (some ⟨d1, 0, none⟩)), (5, .pointer (some ⟨l1, 0, none⟩)), (8, .slice oaq R2_.length ocq), (9, .int .i64 (((a3 : Nat) : Int))), (10, .int .i64 (lf - (((sz1 : Nat) : Int)))), (11, .int .i64 (((i : Nat) : Int)))] ⟨rfl, rfl, rfl, rfl, rfl, rfl, rfl, rfl, trivial⟩ fun G42 => ?_
           refine k_reg ?_
           refine s_val hS43 rfl rfl (r_move rfl (.t rfl rfl)) ?_
           refine s_val hS43 rfl rfl (r_arith rfl rfl (.t rfl rfl) .c (c := ((i + 1 : Nat) : Int)) (wn_i64 (by show (((i : Nat) : Int) : Int) + 1 = _; omega) (by omega))) ?_
           refine s_val hS43 rfl rfl (r_assign rfl (.t rfl rfl)) ?_
           refine wpList_nil ?_
           refine x_tn ?_
           have hS44 : St w0 [] (fl [[(blk1, .cells #[.slice aPL PL.length cPL, .slice aCL CL.length cCL] 69 (0, 0))], (pk d1 m1 Dq), [(l1, .cells #[.pointer (some ⟨d1, 0, none⟩), .string (⟨#[106]⟩), .int .i64 ((((lg R2_).size : Nat) : Int)), .int .i64 ((((lg R2_).count : Nat) : Int)), .bool ((lg R2_).off)] 92 (0, 0))], sm5, sgwq]) w26 := hS43.pick [0, 1, 2, 4, 5] rfl (by decide)
           refine ⟨PL.length - (i + 1), by omega, _, i + 1, Dq, R2_, sm5, ks2, a3, (lf - (((sz1 : Nat) : Int))), oaq, ocq, sgwq, fr_reb _ ⟨rfl, rfl, rfl, rfl, rfl, rfl, rfl, rfl, trivial⟩, hS44, ?_⟩
           exact ⟨by omega, by omega, by omega, hlvq, hM5, hatq, by omega, by omega, by omega, by omega, by omega, by omega, by omega, by omega, by omega, hgd2, hW2⟩
          ·
           exact absurd rfl hq1
        ·
         refine s_val hS29 rfl rfl (r_cmp_f rfl rfl (.t rfl rfl) (.t rfl rfl) (show ¬ (((c : Nat) : Int) < ((CL.length : Nat) : Int)) from by omega)) ?_
         refine s_val hS29 rfl rfl (r_move rfl (.t rfl rfl)) ?_
         refine s_skip (unwanted_of (j := 5) (b := true) (b' := false) (d := 119) rfl rfl rfl rfl rfl) rfl ?_
         refine s_skip (unwanted_of (j := 5) (b := true) (b' := false) (d := 119) rfl rfl rfl rfl rfl) rfl ?_
         refine s_val hS29 rfl rfl (r_pick rfl (.t rfl rfl) .c) ?_
         refine wpList_nil ?_
         refine x_tn ?_
         refine k_reb [(1, .pointer (some ⟨blk1, 0, none⟩)), (2, .bool false), (3, .pointer (some ⟨d1, 0, none⟩)), (5, .pointer (some ⟨l1, 0, none⟩)), (8, .slice oaq R2_.length ocq), (9, .int .i64 (((a3 : Nat) : Int))), (10, .int .i64 (lf - (((sz1 : Nat) : Int)))), (11, .int .i64 (((i : Nat) : Int))), (14, .int .i64 (((c : Nat) : Int))), (122, .bool false)] ⟨rfl, rfl, rfl, rfl, rfl, rfl, rfl, rfl, rfl, rfl, trivial⟩ fun G43 => ?_
         refine k_f (.t rfl rfl) ?_
         refine wp_exit ?_
         refine x_te ?_
         refine x_te ?_
         refine x_be ?_
         refine x_tn ?_
         refine k_reb [(1, .pointer (some ⟨blk1, 0, none⟩)), (2, .bool false), (3, .pointer (some ⟨d1, 0, none⟩)), (5, .pointer (some ⟨l1, 0, none⟩)), (8, .slice oaq R2_.length ocq), (9, .int .i64 (((a3 : Nat) : Int))), (10, .int .i64 (lf - (((sz1 : Nat) : Int)))), (11, .int .i64 (((i : Nat) : Int)))] ⟨rfl, rfl, rfl, rfl, rfl, rfl, rfl, rfl, trivial⟩ fun G44 => ?_
         refine wp_seq ?_
         refine k_reg ?_
         refine s_val hS29 rfl rfl (r_move rfl (.t rfl rfl)) ?_
         refine s_call rfl rfl rfl (vs := [.pointer (some ⟨d1, 0, none⟩)]) ⟨(.t rfl rfl), trivial⟩ cb33 (Writes_ok w16 _ d1 m1 Dq hlvq.ok smq hMq (hS29.give (xs := [(pk d1 m1 Dq), smq]) [1, 3] rfl (by decide))) ?_
         rintro _ w27 ⟨rfl, ht21⟩
         have hS45 : St w0 [] (fl [[(blk1, .cells #[.slice aPL PL.length cPL, .slice aCL CL.length cCL] 69 (0, 0))], (pk d1 m1 Dq), [(l1, .cells #[.pointer (some ⟨d1, 0, none⟩), .string (⟨#[106]⟩), .int .i64 ((((lg R2_).size : Nat) : Int)), .int .i64 ((((lg R2_).count : Nat) : Int)), .bool ((lg R2_).off)] 92 (0, 0))], smq, sgwq]) w27 := hS29.callL (xs := [(pk d1 m1 Dq), smq]) (xs' := [(pk d1 m1 Dq), smq]) (zs := []) [1, 3] rfl (by decide) ht21 rfl rfl
         refine s_val hS45 rfl rfl (r_assign rfl (.t rfl rfl)) ?_
         refine wpList_nil ?_
         refine x_tn ?_
         refine k_reb [(1, .pointer (some ⟨blk1, 0, none⟩)), (2, .bool false), (3, .pointer (some ⟨d1, 0, none⟩)), (5, .pointer (some ⟨l1, 0, none⟩)), (8, .slice oaq R2_.length ocq), (9, .int .i64 (((a3 : Nat) : Int))), (10, .int .i64 (lf - (((sz1 : Nat) : Int)))), (11, .int .i64 (((i : Nat) : Int))), (15, .int .i64 (((Dq.writes : Nat) : Int)))] ⟨rfl, rfl, rfl, rfl, rfl, rfl, rfl, rfl, rfl, trivial⟩ fun G45 => ?_
         refine wp_seq ?_
         refine k_reg ?_
         refine s_val hS45 rfl rfl (r_move rfl (.t rfl rfl)) ?_
         refine s_call rfl rfl rfl (vs := [.pointer (some ⟨d1, 0, none⟩), .string (⟨#[106]⟩)]) ⟨(.t rfl rfl), .c, trivial⟩ cb19 (Open_full w27 _ d1 m1 Dq hlvq smq hMq (⟨#[106]⟩ : ByteArray) hatq hgd2 (by omega) (hS45.give (xs := [(pk d1 m1 Dq), smq]) [1, 3] rfl (by decide))) ?_
         rintro _ w28 ⟨sm6, l3, oa3, oc3, sg6, hM6, rfl, hO3, ht22⟩
         have hS47 : St w0 [] (fl [[(blk1, .cells #[.slice aPL PL.length cPL, .slice aCL CL.length cCL] 69 (0, 0))], (pk d1 m1 Dq), [(l1, .cells #[.pointer (some ⟨d1, 0, none⟩), .string (⟨#[106]⟩), .int .i64 ((((lg R2_).size : Nat) : Int)), .int .i64 ((((lg R2_).count : Nat) : Int)), .bool ((lg R2_).off)] 92 (0, 0))], sm6, sgwq, [(l3, .cells #[.pointer (some ⟨d1, 0, none⟩), .string (⟨#[106]⟩), .int .i64 ((((lg R2_).size : Nat) : Int)), .int .i64 ((((lg R2_).count : Nat) : Int)), .bool ((lg R2_).off)] 92 (0, 0))], sg6]) w28 := hS45.callL (xs := [(pk d1 m1 Dq), smq]) (xs' := [(pk d1 m1 Dq), sm6]) (zs := [[(l3, .cells #[.pointer (some ⟨d1, 0, none⟩), .string (⟨#[106]⟩), .int .i64 ((((lg R2_).size : Nat) : Int)), .int .i64 ((((lg R2_).count : Nat) : Int)), .bool ((lg R2_).off)] 92 (0, 0))], sg6]) [1, 3] rfl (by decide) ht22 rfl rfl
         have hS48 : St w0 [] (fl [[(blk1, .cells #[.slice aPL PL.length cPL, .slice aCL CL.length cCL] 69 (0, 0))], (pk d1 m1 Dq), [(l1, .cells #[.pointer (some ⟨d1, 0, none⟩), .string (⟨#[106]⟩), .int .i64 ((((lg R2_).size : Nat) : Int)), .int .i64 ((((lg R2_).count : Nat) : Int)), .bool ((lg R2_).off)] 92 (0, 0))], [(l3, .cells #[.pointer (some ⟨d1, 0, none⟩), .string (⟨#[106]⟩), .int .i64 ((((lg R2_).size : Nat) : Int)), .int .i64 ((((lg R2_).count : Nat) : Int)), .bool ((lg R2_).off)] 92 (0, 0))], sm6, sgwq, sg6]) w28 := hS47.pick [0, 1, 2, 5, 3, 4, 6] rfl (by decide)
         refine s_val hS48 rfl rfl (r_move rfl (.t rfl rfl)) ?_
         refine s_val hS48 rfl rfl (r_extract rfl (.t rfl rfl) rfl) ?_
         refine s_val hS48 rfl rfl (r_extract rfl (.t rfl rfl) rfl) ?_
         refine s_val hS48 rfl rfl (r_extract rfl (.t rfl rfl) rfl) ?_
         refine s_val hS48 rfl rfl (r_assign rfl (.t rfl rfl)) ?_
         refine s_val hS48 rfl rfl (r_assign rfl (.t rfl rfl)) ?_
         refine s_val hS48 rfl rfl (r_assign rfl (.t rfl rfl)) ?_
         refine wpList_nil ?_
         refine x_tn ?_
         refine k_reb [(1, .pointer (some ⟨blk1, 0, none⟩)), (2, .bool false), (3, .pointer (some ⟨d1, 0, none⟩)), (5, .pointer (some ⟨l1, 0, none⟩)), (8, .slice oaq R2_.length ocq), (9, .int .i64 (((a3 : Nat) : Int))), (10, .int .i64 (lf - (((sz1 : Nat) : Int)))), (11, .int .i64 (((i : Nat) : Int))), (15, .int .i64 (((Dq.writes : Nat) : Int))), (16, .pointer (some ⟨l3, 0, none⟩)), (17, .slice oa3 R2_.length oc3), (18, .int .i64 0)] ⟨rfl, rfl, rfl, rfl, rfl, rfl, rfl, rfl, rfl, rfl, rfl, rfl, trivial⟩ fun G46 => ?_
         refine wp_seq ?_
         refine k_reg ?_
         refine s_val hS48 rfl rfl (r_move rfl (.t rfl rfl)) ?_
         refine s_call rfl rfl rfl (vs := [.pointer (some ⟨d1, 0, none⟩), .string (⟨#[106]⟩)]) ⟨(.t rfl rfl), .c, trivial⟩ cb37 (Sure_lv w28 _ d1 m1 Dq hlvq sm6 hM6 (⟨#[106]⟩ : ByteArray) hatq (hS48.give (xs := [(pk d1 m1 Dq), sm6]) [1, 4] rfl (by decide))) ?_
         rintro _ w29 ⟨rfl, ht23⟩
         have hS49 : St w0 [] (fl [[(blk1, .cells #[.slice aPL PL.length cPL, .slice aCL CL.length cCL] 69 (0, 0))], (pk d1 m1 Dq), [(l1, .cells #[.pointer (some ⟨d1, 0, none⟩), .string (⟨#[106]⟩), .int .i64 ((((lg R2_).size : Nat) : Int)), .int .i64 ((((lg R2_).count : Nat) : Int)), .bool ((lg R2_).off)] 92 (0, 0))], [(l3, .cells #[.pointer (some ⟨d1, 0, none⟩), .string (⟨#[106]⟩), .int .i64 ((((lg R2_).size : Nat) : Int)), .int .i64 ((((lg R2_).count : Nat) : Int)), .bool ((lg R2_).off)] 92 (0, 0))], sm6, sgwq, sg6]) w29 := hS48.callL (xs := [(pk d1 m1 Dq), sm6]) (xs' := [(pk d1 m1 Dq), sm6]) (zs := []) [1, 4] rfl (by decide) ht23 rfl rfl
         refine s_val hS49 rfl rfl (r_move rfl (.t rfl rfl)) ?_
         refine s_val hS49 rfl rfl (r_extract rfl (.t rfl rfl) rfl) ?_
         refine s_val hS49 rfl rfl (r_extract rfl (.t rfl rfl) rfl) ?_
         refine s_val hS49 rfl rfl (r_assign rfl (.t rfl rfl)) ?_
         refine s_val hS49 rfl rfl (r_assign rfl (.t rfl rfl)) ?_
         refine wpList_nil ?_
         refine x_tn ?_
         refine k_reb [(1, .pointer (some ⟨blk1, 0, none⟩)), (2, .bool false), (3, .pointer (some ⟨d1, 0, none⟩)), (5, .pointer (some ⟨l1, 0, none⟩)), (8, .slice oaq R2_.length ocq), (9, .int .i64 (((a3 : Nat) : Int))), (10, .int .i64 (lf - (((sz1 : Nat) : Int)))), (11, .int .i64 (((i : Nat) : Int))), (15, .int .i64 (((Dq.writes : Nat) : Int))), (16, .pointer (some ⟨l3, 0, none⟩)), (17, .slice oa3 R2_.length oc3), (18, .int .i64 0), (19, .int .i64 (((ks2 : Nat) : Int))), (20, .int .i64 0)] ⟨rfl, rfl, rfl, rfl, rfl, rfl, rfl, rfl, rfl, rfl, rfl, rfl, rfl, rfl, trivial⟩ fun G47 => ?_
         refine wp_seq ?_
         refine k_reg ?_
         refine s_val hS49 rfl rfl (r_move rfl (.t rfl rfl)) ?_
         refine s_call rfl rfl rfl (vs := [.int .i64 0]) ⟨(.t rfl rfl), trivial⟩ cb16 (num_ok w29 0) ?_
         rintro _ w29 ⟨rfl, rfl⟩
         refine s_val hS49 rfl rfl (r_cmp_f rfl rfl (.t rfl rfl) .c (show ¬ (¬ 0 = 0) from by omega)) ?_
         refine s_val hS49 rfl rfl (r_move rfl (.t rfl rfl)) ?_
         refine s_valg hS49 (wanted_of (j := 3) (b := false) (d := 152) rfl rfl rfl rfl) rfl (r_move rfl (.t rfl rfl)) ?_
         refine s_valg hS49 (wanted_of (j := 3) (b := false) (d := 152) rfl rfl rfl rfl) rfl (r_eqnilp rfl Try.underlying43 (.t rfl rfl) .c rfl) ?_
         refine s_val hS49 rfl rfl (r_pick rfl (.t rfl rfl) (.t rfl rfl)) ?_
         refine s_val hS49 rfl rfl (r_move rfl (.t rfl rfl)) ?_
         refine s_valg hS49 (wanted_of (j := 7) (b := false) (d := 156) rfl rfl rfl rfl) rfl (r_move rfl (.t rfl rfl)) ?_
         refine s_valg hS49 (wanted_of (j := 7) (b := false) (d := 156) rfl rfl rfl rfl) rfl (r_move rfl (.t rfl rfl)) ?_
         obtain ⟨us8, hw8⟩ := hO3.sl R2.mono (by omega)
         obtain ⟨us9, hw9⟩ := hW2.sl R2.mono (by omega)
         refine s_callg (wanted_of (j := 7) (b := false) (d := 156) rfl rfl rfl rfl) rfl rfl (vs := [.slice oa3 R2_.length oc3, .slice oaq R2_.length ocq]) ⟨(.t rfl rfl), (.t rfl rfl), trivial⟩ cb23 (eqRows_ok w29 oa3 oc3 _ R2_ sg6 hw8 (Old.of_piece (i := 6) (xs := []) [] hS49 rfl rfl (by decide)) oaq ocq _ R2_ sgwq hw9 (Old.of_piece (i := 5) (xs := []) [] hS49 rfl rfl (by decide)) ) ?_
         rintro _ w30 ⟨rfl, ht24⟩
         have hS50 : St w0 [] (fl [[(blk1, .cells #[.slice aPL PL.length cPL, .slice aCL CL.length cCL] 69 (0, 0))], (pk d1 m1 Dq), [(l1, .cells #[.pointer (some ⟨d1, 0, none⟩), .string (⟨#[106]⟩), .int .i64 ((((lg R2_).size : Nat) : Int)), .int .i64 ((((lg R2_).count : Nat) : Int)), .bool ((lg R2_).off)] 92 (0, 0))], [(l3, .cells #[.pointer (some ⟨d1, 0, none⟩), .string (⟨#[106]⟩), .int .i64 ((((lg R2_).size : Nat) : Int)), .int .i64 ((((lg R2_).count : Nat) : Int)), .bool ((lg R2_).off)] 92 (0, 0))], sm6, sgwq, sg6]) w30 := hS49.callL (xs := []) (xs' := []) (zs := []) [] rfl (by decide) ht24 rfl rfl
         by_cases hq1 : R2_ = R2_
         ·
          refine s_asb (b' := true) (decide_eq_true hq1) ?_
          refine s_valg hS50 (wanted_of (j := 7) (b := false) (d := 156) rfl rfl rfl rfl) rfl (r_lnot rfl (.t rfl rfl)) ?_
          refine s_val hS50 rfl rfl (r_pick rfl (.t rfl rfl) (.t rfl rfl)) ?_
          refine s_val hS50 rfl rfl (r_move rfl (.t rfl rfl)) ?_
          refine s_valg hS50 (wanted_of (j := 13) (b := false) (d := 162) rfl rfl rfl rfl) rfl (r_move rfl (.t rfl rfl)) ?_
          refine s_callg (wanted_of (j := 13) (b := false) (d := 162) rfl rfl rfl rfl) rfl rfl (vs := [.pointer (some ⟨l1, 0, none⟩)]) ⟨(.t rfl rfl), trivial⟩ cb29 (LSize_ok w30 _ l1 d1 (⟨#[106]⟩ : ByteArray) (lg R2_) (hS50.give (xs := [[(l1, .cells #[.pointer (some ⟨d1, 0, none⟩), .string (⟨#[106]⟩), .int .i64 ((((lg R2_).size : Nat) : Int)), .int .i64 ((((lg R2_).count : Nat) : Int)), .bool ((lg R2_).off)] 92 (0, 0))]]) [2] rfl (by decide))) ?_
          rintro _ w31 ⟨rfl, ht25⟩
          have hS51 : St w0 [] (fl [[(blk1, .cells #[.slice aPL PL.length cPL, .slice aCL CL.length cCL] 69 (0, 0))], (pk d1 m1 Dq), [(l1, .cells #[.pointer (some ⟨d1, 0, none⟩), .string (⟨#[106]⟩), .int .i64 ((((lg R2_).size : Nat) : Int)), .int .i64 ((((lg R2_).count : Nat) : Int)), .bool ((lg R2_).off)] 92 (0, 0))], [(l3, .cells #[.pointer (some ⟨d1, 0, none⟩), .string (⟨#[106]⟩), .int .i64 ((((lg R2_).size : Nat) : Int)), .int .i64 ((((lg R2_).count : Nat) : Int)), .bool ((lg R2_).off)] 92 (0, 0))], sm6, sgwq, sg6]) w31 := hS50.callL (xs := [[(l1, .cells #[.pointer (some ⟨d1, 0, none⟩), .string (⟨#[106]⟩), .int .i64 ((((lg R2_).size : Nat) : Int)), .int .i64 ((((lg R2_).count : Nat) : Int)), .bool ((lg R2_).off)] 92 (0, 0))]]) (xs' := [[(l1, .cells #[.pointer (some ⟨d1, 0, none⟩), .string (⟨#[106]⟩), .int .i64 ((((lg R2_).size : Nat) : Int)), .int .i64 ((((lg R2_).count : Nat) : Int)), .bool ((lg R2_).off)] 92 (0, 0))]]) (zs := []) [2] rfl (by decide) ht25 rfl rfl
          have hzq6 : (lg R2_).size = (logL R2_).length := (logL_len _).symm
          refine s_valg hS51 (wanted_of (j := 13) (b := false) (d := 162) rfl rfl rfl rfl) rfl (r_move rfl (.t rfl rfl)) ?_
          refine s_valg hS51 (wanted_of (j := 13) (b := false) (d := 162) rfl rfl rfl rfl) rfl (r_cmp_f rfl rfl (.t rfl rfl) (.t rfl rfl) (show ¬ (¬ (((lg R2_).size : Nat) : Int) = ((a3 : Nat) : Int)) from by omega)) ?_
          refine s_val hS51 rfl rfl (r_pick rfl (.t rfl rfl) (.t rfl rfl)) ?_
          refine s_val hS51 rfl rfl (r_move rfl (.t rfl rfl)) ?_
          refine s_valg hS51 (wanted_of (j := 19) (b := false) (d := 168) rfl rfl rfl rfl) rfl (r_move rfl (.t rfl rfl)) ?_
          refine s_callg (wanted_of (j := 19) (b := false) (d := 168) rfl rfl rfl rfl) rfl rfl (vs := [.pointer (some ⟨l1, 0, none⟩)]) ⟨(.t rfl rfl), trivial⟩ cb30 (LCount_ok w31 _ l1 d1 (⟨#[106]⟩ : ByteArray) (lg R2_) (hS51.give (xs := [[(l1, .cells #[.pointer (some ⟨d1, 0, none⟩), .string (⟨#[106]⟩), .int .i64 ((((lg R2_).size : Nat) : Int)), .int .i64 ((((lg R2_).count : Nat) : Int)), .bool ((lg R2_).off)] 92 (0, 0))]]) [2] rfl (by decide))) ?_
          rintro _ w32 ⟨rfl, ht26⟩
          have hS52 : St w0 [] (fl [[(blk1, .cells #[.slice aPL PL.length cPL, .slice aCL CL.length cCL] 69 (0, 0))], (pk d1 m1 Dq), [(l1, .cells #[.pointer (some ⟨d1, 0, none⟩), .string (⟨#[106]⟩), .int .i64 ((((lg R2_).size : Nat) : Int)), .int .i64 ((((lg R2_).count : Nat) : Int)), .bool ((lg R2_).off)] 92 (0, 0))], [(l3, .cells #[.pointer (some ⟨d1, 0, none⟩), .string (⟨#[106]⟩), .int .i64 ((((lg R2_).size : Nat) : Int)), .int .i64 ((((lg R2_).count : Nat) : Int)), .bool ((lg R2_).off)] 92 (0, 0))], sm6, sgwq, sg6]) w32 := hS51.callL (xs := [[(l1, .cells #[.pointer (some ⟨d1, 0, none⟩), .string (⟨#[106]⟩), .int .i64 ((((lg R2_).size : Nat) : Int)), .int .i64 ((((lg R2_).count : Nat) : Int)), .bool ((lg R2_).off)] 92 (0, 0))]]) (xs' := [[(l1, .cells #[.pointer (some ⟨d1, 0, none⟩), .string (⟨#[106]⟩), .int .i64 ((((lg R2_).size : Nat) : Int)), .int .i64 ((((lg R2_).count : Nat) : Int)), .bool ((lg R2_).off)] 92 (0, 0))]]) (zs := []) [2] rfl (by decide) ht26 rfl rfl
          have hzq7 : (lg R2_).count = (R2_).length := rfl
          refine s_valg hS52 (wanted_of (j := 19) (b := false) (d := 168) rfl rfl rfl rfl) rfl (r_move rfl (.t rfl rfl)) ?_
          refine s_valg hS52 (wanted_of (j := 19) (b := false) (d := 168) rfl rfl rfl rfl) rfl (r_len rfl rfl Try.underlying30 (.t rfl rfl)) ?_
          refine s_valg hS52 (wanted_of (j := 19) (b := false) (d := 168) rfl rfl rfl rfl) rfl (r_cmp_f rfl rfl (.t rfl rfl) (.t rfl rfl) (show ¬ (¬ (((lg R2_).count : Nat) : Int) = ((R2_.length : Nat) : Int)) from by omega)) ?_
          refine s_val hS52 rfl rfl (r_pick rfl (.t rfl rfl) (.t rfl rfl)) ?_
          refine s_val hS52 rfl rfl (r_move rfl (.t rfl rfl)) ?_
          refine s_valg hS52 (wanted_of (j := 26) (b := false) (d := 175) rfl rfl rfl rfl) rfl (r_move rfl (.t rfl rfl)) ?_
          refine s_callg (wanted_of (j := 26) (b := false) (d := 175) rfl rfl rfl rfl) rfl rfl (vs := [.pointer (some ⟨l3, 0, none⟩)]) ⟨(.t rfl rfl), trivial⟩ cb29 (LSize_ok w32 _ l3 d1 (⟨#[106]⟩ : ByteArray) (lg R2_) (hS52.give (xs := [[(l3, .cells #[.pointer (some ⟨d1, 0, none⟩), .string (⟨#[106]⟩), .int .i64 ((((lg R2_).size : Nat) : Int)), .int .i64 ((((lg R2_).count : Nat) : Int)), .bool ((lg R2_).off)] 92 (0, 0))]]) [3] rfl (by decide))) ?_
          rintro _ w33 ⟨rfl, ht27⟩
          have hS53 : St w0 [] (fl [[(blk1, .cells #[.slice aPL PL.length cPL, .slice aCL CL.length cCL] 69 (0, 0))], (pk d1 m1 Dq), [(l1, .cells #[.pointer (some ⟨d1, 0, none⟩), .string (⟨#[106]⟩), .int .i64 ((((lg R2_).size : Nat) : Int)), .int .i64 ((((lg R2_).count : Nat) : Int)), .bool ((lg R2_).off)] 92 (0, 0))], [(l3, .cells #[.pointer (some ⟨d1, 0, none⟩), .string (⟨#[106]⟩), .int .i64 ((((lg R2_).size : Nat) : Int)), .int .i64 ((((lg R2_).count : Nat) : Int)), .bool ((lg R2_).off)] 92 (0, 0))], sm6, sgwq, sg6]) w33 := hS52.callL (xs := [[(l3, .cells #[.pointer (some ⟨d1, 0, none⟩), .string (⟨#[106]⟩), .int .i64 ((((lg R2_).size : Nat) : Int)), .int .i64 ((((lg R2_).count : Nat) : Int)), .bool ((lg R2_).off)] 92 (0, 0))]]) (xs' := [[(l3, .cells #[.pointer (some ⟨d1, 0, none⟩), .string (⟨#[106]⟩), .int .i64 ((((lg R2_).size : Nat) : Int)), .int .i64 ((((lg R2_).count : Nat) : Int)), .bool ((lg R2_).off)] 92 (0, 0))]]) (zs := []) [3] rfl (by decide) ht27 rfl rfl
          have hzq8 : (lg R2_).size = (logL R2_).length := (logL_len _).symm
          refine s_valg hS53 (wanted_of (j := 26) (b := false) (d := 175) rfl rfl rfl rfl) rfl (r_move rfl (.t rfl rfl)) ?_
          refine s_valg hS53 (wanted_of (j := 26) (b := false) (d := 175) rfl rfl rfl rfl) rfl (r_cmp_f rfl rfl (.t rfl rfl) (.t rfl rfl) (show ¬ (¬ (((lg R2_).size : Nat) : Int) = ((a3 : Nat) : Int)) from by omega)) ?_
          refine s_val hS53 rfl rfl (r_pick rfl (.t rfl rfl) (.t rfl rfl)) ?_
          refine s_val hS53 rfl rfl (r_move rfl (.t rfl rfl)) ?_
          refine s_valg hS53 (wanted_of (j := 32) (b := false) (d := 181) rfl rfl rfl rfl) rfl (r_move rfl (.t rfl rfl)) ?_
          refine s_callg (wanted_of (j := 32) (b := false) (d := 181) rfl rfl rfl rfl) rfl rfl (vs := [.pointer (some ⟨l3, 0, none⟩)]) ⟨(.t rfl rfl), trivial⟩ cb30 (LCount_ok w33 _ l3 d1 (⟨#[106]⟩ : ByteArray) (lg R2_) (hS53.give (xs := [[(l3, .cells #[.pointer (some ⟨d1, 0, none⟩), .string (⟨#[106]⟩), .int .i64 ((((lg R2_).size : Nat) : Int)), .int .i64 ((((lg R2_).count : Nat) : Int)), .bool ((lg R2_).off)] 92 (0, 0))]]) [3] rfl (by decide))) ?_
          rintro _ w34 ⟨rfl, ht28⟩
          have hS54 : St w0 [] (fl [[(blk1, .cells #[.slice aPL PL.length cPL, .slice aCL CL.length cCL] 69 (0, 0))], (pk d1 m1 Dq), [(l1, .cells #[.pointer (some ⟨d1, 0, none⟩), .string (⟨#[106]⟩), .int .i64 ((((lg R2_).size : Nat) : Int)), .int .i64 ((((lg R2_).count : Nat) : Int)), .bool ((lg R2_).off)] 92 (0, 0))], [(l3, .cells #[.pointer (some ⟨d1, 0, none⟩), .string (⟨#[106]⟩), .int .i64 ((((lg R2_).size : Nat) : Int)), .int .i64 ((((lg R2_).count : Nat) : Int)), .bool ((lg R2_).off)] 92 (0, 0))], sm6, sgwq, sg6]) w34 := hS53.callL (xs := [[(l3, .cells #[.pointer (some ⟨d1, 0, none⟩), .string (⟨#[106]⟩), .int .i64 ((((lg R2_).size : Nat) : Int)), .int .i64 ((((lg R2_).count : Nat) : Int)), .bool ((lg R2_).off)] 92 (0, 0))]]) (xs' := [[(l3, .cells #[.pointer (some ⟨d1, 0, none⟩), .string (⟨#[106]⟩), .int .i64 ((((lg R2_).size : Nat) : Int)), .int .i64 ((((lg R2_).count : Nat) : Int)), .bool ((lg R2_).off)] 92 (0, 0))]]) (zs := []) [3] rfl (by decide) ht28 rfl rfl
          have hzq9 : (lg R2_).count = (R2_).length := rfl
          refine s_valg hS54 (wanted_of (j := 32) (b := false) (d := 181) rfl rfl rfl rfl) rfl (r_move rfl (.t rfl rfl)) ?_
          refine s_valg hS54 (wanted_of (j := 32) (b := false) (d := 181) rfl rfl rfl rfl) rfl (r_len rfl rfl Try.underlying30 (.t rfl rfl)) ?_
          refine s_valg hS54 (wanted_of (j := 32) (b := false) (d := 181) rfl rfl rfl rfl) rfl (r_cmp_f rfl rfl (.t rfl rfl) (.t rfl rfl) (show ¬ (¬ (((lg R2_).count : Nat) : Int) = ((R2_.length : Nat) : Int)) from by omega)) ?_
          refine s_val hS54 rfl rfl (r_pick rfl (.t rfl rfl) (.t rfl rfl)) ?_
          refine s_val hS54 rfl rfl (r_move rfl (.t rfl rfl)) ?_
          refine s_valg hS54 (wanted_of (j := 39) (b := false) (d := 188) rfl rfl rfl rfl) rfl (r_move rfl (.t rfl rfl)) ?_
          refine s_callg (wanted_of (j := 39) (b := false) (d := 188) rfl rfl rfl rfl) rfl rfl (vs := [.int .i64 0]) ⟨(.t rfl rfl), trivial⟩ cb16 (num_ok w34 0) ?_
          rintro _ w34 ⟨rfl, rfl⟩
          refine s_valg hS54 (wanted_of (j := 39) (b := false) (d := 188) rfl rfl rfl rfl) rfl (r_cmp_f rfl rfl (.t rfl rfl) .c (show ¬ (¬ 0 = 0) from by omega)) ?_
          refine s_val hS54 rfl rfl (r_pick rfl (.t rfl rfl) (.t rfl rfl)) ?_
          refine s_val hS54 rfl rfl (r_move rfl (.t rfl rfl)) ?_
          refine s_valg hS54 (wanted_of (j := 44) (b := false) (d := 193) rfl rfl rfl rfl) rfl (r_move rfl (.t rfl rfl)) ?_
          refine s_valg hS54 (wanted_of (j := 44) (b := false) (d := 193) rfl rfl rfl rfl) rfl (r_move rfl (.t rfl rfl)) ?_
          refine s_valg hS54 (wanted_of (j := 44) (b := false) (d := 193) rfl rfl rfl rfl) rfl (r_cmp_f rfl rfl (.t rfl rfl) (.t rfl rfl) (show ¬ (¬ ((ks2 : Nat) : Int) = ((a3 : Nat) : Int)) from by omega)) ?_
          refine s_val hS54 rfl rfl (r_pick rfl (.t rfl rfl) (.t rfl rfl)) ?_
          refine s_val hS54 rfl rfl (r_move rfl (.t rfl rfl)) ?_
          refine s_valg hS54 (wanted_of (j := 49) (b := false) (d := 198) rfl rfl rfl rfl) rfl (r_move rfl (.t rfl rfl)) ?_
          refine s_callg (wanted_of (j := 49) (b := false) (d := 198) rfl rfl rfl rfl) rfl rfl (vs := [.pointer (some ⟨d1, 0, none⟩)]) ⟨(.t rfl rfl), trivial⟩ cb33 (Writes_ok w34 _ d1 m1 Dq hlvq.ok sm6 hM6 (hS54.give (xs := [(pk d1 m1 Dq), sm6]) [1, 4] rfl (by decide))) ?_
          rintro _ w35 ⟨rfl, ht29⟩
          have hS55 : St w0 [] (fl [[(blk1, .cells #[.slice aPL PL.length cPL, .slice aCL CL.length cCL] 69 (0, 0))], (pk d1 m1 Dq), [(l1, .cells #[.pointer (some ⟨d1, 0, none⟩), .string (⟨#[106]⟩), .int .i64 ((((lg R2_).size : Nat) : Int)), .int .i64 ((((lg R2_).count : Nat) : Int)), .bool ((lg R2_).off)] 92 (0, 0))], [(l3, .cells #[.pointer (some ⟨d1, 0, none⟩), .string (⟨#[106]⟩), .int .i64 ((((lg R2_).size : Nat) : Int)), .int .i64 ((((lg R2_).count : Nat) : Int)), .bool ((lg R2_).off)] 92 (0, 0))], sm6, sgwq, sg6]) w35 := hS54.callL (xs := [(pk d1 m1 Dq), sm6]) (xs' := [(pk d1 m1 Dq), sm6]) (zs := []) [1, 4] rfl (by decide) ht29 rfl rfl
          refine s_valg hS55 (wanted_of (j := 49) (b := false) (d := 198) rfl rfl rfl rfl) rfl (r_move rfl (.t rfl rfl)) ?_
          refine s_valg hS55 (wanted_of (j := 49) (b := false) (d := 198) rfl rfl rfl rfl) rfl (r_cmp_f rfl rfl (.t rfl rfl) (.t rfl rfl) (show ¬ (¬ ((Dq.writes : Nat) : Int) = ((Dq.writes : Nat) : Int)) from by omega)) ?_
          refine s_val hS55 rfl rfl (r_pick rfl (.t rfl rfl) (.t rfl rfl)) ?_
          refine wpList_nil ?_
          refine x_tn ?_
          refine k_reb [(1, .pointer (some ⟨blk1, 0, none⟩)), (2, .bool false), (3, .pointer (some ⟨d1, 0, none⟩)), (5, .pointer (some ⟨l1, 0, none⟩)), (8, .slice oaq R2_.length ocq), (9, .int .i64 (((a3 : Nat) : Int))), (10, .int .i64 (lf - (((sz1 : Nat) : Int)))), (11, .int .i64 (((i : Nat) : Int))), (203, .bool false)] ⟨rfl, rfl, rfl, rfl, rfl, rfl, rfl, rfl, rfl, trivial⟩ fun G48 => ?_
          refine k_f (.t rfl rfl) ?_
          refine wp_skip ?_
          refine x_bn ?_
          refine x_tn ?_
          refine k_reb [(1, .pointer (some ⟨blk1, 0, none⟩)), (2, .bool false), (3, .pointer (some ⟨d1, 0, none⟩)), (5, .pointer (some ⟨l1, 0, none⟩)), (8, .slice oaq R2_.length ocq), (9, .int .i64 (((a3 : Nat) : Int))), (10, .int .i64 (lf - (((sz1 : Nat) : Int)))), (11, .int .i64 (((i : Nat) : Int)))] ⟨rfl, rfl, rfl, rfl, rfl, rfl, rfl, rfl, trivial⟩ fun G49 => ?_
          refine k_reg ?_
          refine s_val hS55 rfl rfl (r_move rfl (.t rfl rfl)) ?_
          refine s_val hS55 rfl rfl (r_arith rfl rfl (.t rfl rfl) .c (c := ((i + 1 : Nat) : Int)) (wn_i64 (by show (((i : Nat) : Int) : Int) + 1 = _; omega) (by omega))) ?_
          refine s_val hS55 rfl rfl (r_assign rfl (.t rfl rfl)) ?_
          refine wpList_nil ?_
          refine x_tn ?_
          have hS56 : St w0 [] (fl [[(blk1, .cells #[.slice aPL PL.length cPL, .slice aCL CL.length cCL] 69 (0, 0))], (pk d1 m1 Dq), [(l1, .cells #[.pointer (some ⟨d1, 0, none⟩), .string (⟨#[106]⟩), .int .i64 ((((lg R2_).size : Nat) : Int)), .int .i64 ((((lg R2_).count : Nat) : Int)), .bool ((lg R2_).off)] 92 (0, 0))], sm6, sgwq]) w35 := hS55.pick [0, 1, 2, 4, 5] rfl (by decide)
          refine ⟨PL.length - (i + 1), by omega, _, i + 1, Dq, R2_, sm6, ks2, a3, (lf - (((sz1 : Nat) : Int))), oaq, ocq, sgwq, fr_reb _ ⟨rfl, rfl, rfl, rfl, rfl, rfl, rfl, rfl, trivial⟩, hS56, ?_⟩
          exact ⟨by omega, by omega, by omega, hlvq, hM6, hatq, by omega, by omega, by omega, by omega, by omega, by omega, by omega, by omega, by omega, hgd2, hW2⟩
         ·
          exact absurd rfl hq1
   ·
    refine s_valg hS13 (wanted_of (j := 5) (b := true) (d := 69) rfl rfl rfl rfl) rfl (r_cmp_f rfl rfl (.t rfl rfl) .c (show ¬ (((i : Nat) : Int) < 60) from by omega)) ?_
    refine s_val hS13 rfl rfl (r_pick rfl (.t rfl rfl) (.t rfl rfl)) ?_
    refine wpList_nil ?_
    refine x_tn ?_
    refine k_reb [(1, .pointer (some ⟨blk1, 0, none⟩)), (2, .bool false), (3, .pointer (some ⟨d1, 0, none⟩)), (5, .pointer (some ⟨l1, 0, none⟩)), (8, .slice oa RR.length oc), (9, .int .i64 (((az : Nat) : Int))), (10, .int .i64 lf), (11, .int .i64 (((i : Nat) : Int))), (72, .bool false)] ⟨rfl, rfl, rfl, rfl, rfl, rfl, rfl, rfl, rfl, trivial⟩ fun G50 => ?_
    refine k_f (.t rfl rfl) ?_
    refine wp_exit ?_
    refine x_te ?_
    refine x_te ?_
    refine x_be ?_
    refine x_tn ?_
    refine k_reb [(2, .bool false)] ⟨rfl, trivial⟩ fun G51 => ?_
    refine wp_seq ?_
    refine k_reg ?_
    refine s_call rfl rfl rfl (vs := []) trivial cb12 (works_ok w7  ) ?_
    rintro _ w36 ⟨rfl, ht30⟩
    have hS57 : St w0 [] (fl [[(blk1, .cells #[.slice aPL PL.length cPL, .slice aCL CL.length cCL] 69 (0, 0))], (pk d1 m1 D), [(l1, .cells #[.pointer (some ⟨d1, 0, none⟩), .string (⟨#[106]⟩), .int .i64 ((((lg RR).size : Nat) : Int)), .int .i64 ((((lg RR).count : Nat) : Int)), .bool ((lg RR).off)] 92 (0, 0))], sm, sgw]) w36 := hS13.callL (xs := []) (xs' := []) (zs := []) [] rfl (by decide) ht30 rfl rfl
    refine s_val hS57 rfl rfl (r_assign rfl (.t rfl rfl)) ?_
    refine wpList_nil ?_
    refine x_tn ?_
    refine k_reb [(2, .bool true)] ⟨rfl, trivial⟩ fun G52 => ?_
    refine wp_ret ?_
    refine k_ret1 Try.results9 rfl rfl ?_
    refine ⟨_, rfl, ?_⟩
    have hS58 : St w0 [] (fl []) w36 := hS57.pick [] rfl (by decide)
    exact ⟨rfl, hS58⟩
  ·
   refine s_val hS13 rfl rfl (r_cmp_f rfl rfl (.t rfl rfl) (.t rfl rfl) (show ¬ (((i : Nat) : Int) < ((PL.length : Nat) : Int)) from by omega)) ?_
   refine s_val hS13 rfl rfl (r_move rfl (.t rfl rfl)) ?_
   refine s_skip (unwanted_of (j := 5) (b := true) (b' := false) (d := 69) rfl rfl rfl rfl rfl) rfl ?_
   refine s_skip (unwanted_of (j := 5) (b := true) (b' := false) (d := 69) rfl rfl rfl rfl rfl) rfl ?_
   refine s_val hS13 rfl rfl (r_pick rfl (.t rfl rfl) .c) ?_
   refine wpList_nil ?_
   refine x_tn ?_
   refine k_reb [(1, .pointer (some ⟨blk1, 0, none⟩)), (2, .bool false), (3, .pointer (some ⟨d1, 0, none⟩)), (5, .pointer (some ⟨l1, 0, none⟩)), (8, .slice oa RR.length oc), (9, .int .i64 (((az : Nat) : Int))), (10, .int .i64 lf), (11, .int .i64 (((i : Nat) : Int))), (72, .bool false)] ⟨rfl, rfl, rfl, rfl, rfl, rfl, rfl, rfl, rfl, trivial⟩ fun G53 => ?_
   refine k_f (.t rfl rfl) ?_
   refine wp_exit ?_
   refine x_te ?_
   refine x_te ?_
   refine x_be ?_
   refine x_tn ?_
   refine k_reb [(2, .bool false)] ⟨rfl, trivial⟩ fun G54 => ?_
   refine wp_seq ?_
   refine k_reg ?_
   refine s_call rfl rfl rfl (vs := []) trivial cb12 (works_ok w7  ) ?_
   rintro _ w37 ⟨rfl, ht31⟩
   have hS59 : St w0 [] (fl [[(blk1, .cells #[.slice aPL PL.length cPL, .slice aCL CL.length cCL] 69 (0, 0))], (pk d1 m1 D), [(l1, .cells #[.pointer (some ⟨d1, 0, none⟩), .string (⟨#[106]⟩), .int .i64 ((((lg RR).size : Nat) : Int)), .int .i64 ((((lg RR).count : Nat) : Int)), .bool ((lg RR).off)] 92 (0, 0))], sm, sgw]) w37 := hS13.callL (xs := []) (xs' := []) (zs := []) [] rfl (by decide) ht31 rfl rfl
   refine s_val hS59 rfl rfl (r_assign rfl (.t rfl rfl)) ?_
   refine wpList_nil ?_
   refine x_tn ?_
   refine k_reb [(2, .bool true)] ⟨rfl, trivial⟩ fun G55 => ?_
   refine wp_ret ?_
   refine k_ret1 Try.results9 rfl rfl ?_
   refine ⟨_, rfl, ?_⟩
   have hS60 : St w0 [] (fl []) w37 := hS59.pick [] rfl (by decide)
   exact ⟨rfl, hS60⟩

end Go.Proofs.Ytdmiklegahdafaa

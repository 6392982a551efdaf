/- Contracts of functions of the program, each walked once. -/
import Derived.Test.YtdmiklegahdafaaFnQ
namespace Go.Proofs.Ytdmiklegahdafaa
open Go Go.RowKit K
namespace FT
theorem mixed : Try.prog.follows .mixedOrders = true := by kernel_rfl
theorem agg60 : (match Try.prog.underlying 60 with | some (.struct _) | some (.array ..) => true | _ => false) = true := by kernel_rfl
theorem cb12 : callable Try.prog 12 = true := by kernel_rfl
theorem cb15 : callable Try.prog 15 = true := by kernel_rfl
theorem cb16 : callable Try.prog 16 = true := by kernel_rfl
theorem cb19 : callable Try.prog 19 = true := by kernel_rfl
theorem cb20 : callable Try.prog 20 = true := by kernel_rfl
theorem cb25 : callable Try.prog 25 = true := by kernel_rfl
theorem cb30 : callable Try.prog 30 = true := by kernel_rfl
theorem cb31 : callable Try.prog 31 = true := by kernel_rfl
theorem cb32 : callable Try.prog 32 = true := by kernel_rfl
theorem one30 : One Try.prog 30 = true := by kernel_rfl
theorem one56 : One Try.prog 56 = true := by kernel_rfl
theorem ti30 : (Try.prog.info? 30).map (fun i => (i.zero, i.size, i.bytes)) = some (some (.slice none 0 0), 1, 24) := by kernel_rfl
theorem ti56 : (Try.prog.info? 56).map (fun i => (i.zero, i.size, i.bytes)) = some (some (.slice none 0 0), 1, 24) := by kernel_rfl
theorem ti60 : (Try.prog.info? 60).map (fun i => (i.zero, i.size, i.bytes)) = some (some (.agg #[.slice none 0 0, .slice none 0 0, .slice none 0 0]), 3, 72) := by kernel_rfl
theorem ti63 : (Try.prog.info? 63).map (fun i => (i.zero, i.size, i.bytes)) = some (some (.agg #[.int .i64 0, .int .i64 0, .string ⟨#[]⟩, .slice none 0 0, .slice none 0 0, .int .i64 0, .int .i64 0, .int .i64 0]), 8, 104) := by kernel_rfl
theorem pl60 : ∀ w, (fieldPlaces (match Try.prog.underlying 60 with | some (.struct fs) => fs | _ => #[])).run Try.prog w = .ok #[(0, 1), (1, 1), (2, 1)] w := fun w => by kernel_rfl
theorem pl63 : ∀ w, (fieldPlaces (match Try.prog.underlying 63 with | some (.struct fs) => fs | _ => #[])).run Try.prog w = .ok #[(0, 1), (1, 1), (2, 1), (3, 1), (4, 1), (5, 1), (6, 1), (7, 1)] w := fun w => by kernel_rfl

end FT
open FT
attribute [local irreducible] Go.wpList Go.wpQuiet Go.wpStill Go.wpAny Go.Code.wp
set_option maxRecDepth 10000
set_option maxHeartbeats 8000000
set_option linter.unusedVariables false
set_option linter.unusedSimpArgs false
theorem getr_le {PL : Recs} {i : Nat} (h : ∀ LL ∈ PL, ∀ r ∈ LL, r.length ≤ 1000000000000) : ∀ r ∈ PL.getD i [], r.length ≤ 1000000000000 := by
 intro r hr
 rcases Nat.lt_or_ge i PL.length with q | q
 ·
  exact h _ (getD_mem q) r hr
 ·
  rw [List.getD_eq_getElem?_getD, List.getElem?_eq_none q] at hr; cases hr
theorem JournalApart_ok (w0 : World) (aPA : Option Addr) (cPA : Nat) (uPA : List Value) (PA : List (List (List Nat))) (vPA : Hp) (hPA : RwV R2 aPA cPA uPA PA vPA) (oPA : Old w0 [] vPA) (aPB : Option Addr) (cPB : Nat) (uPB : List Value) (PB : List (List (List Nat))) (vPB : Hp) (hPB : RwV R2 aPB cPB uPB PB vPB) (oPB : Old w0 [] vPB) (aCL : Option Addr) (cCL : Nat) (uCL : List Value) (CL : List Int) (vCL : Hp) (hCL : RwV RI aCL cCL uCL CL vCL) (oCL : Old w0 [] vCL) (hPrA : ∀ LL ∈ PA, ∀ r ∈ LL, r.length ≤ 1000000000000) (hPrB : ∀ LL ∈ PB, ∀ r ∈ LL, r.length ≤ 1000000000000) (lPA : PA.length ≤ 1000000000000) (lPB : PB.length ≤ 1000000000000) :
  Calls Try.prog 7 #[.agg #[.slice aPA PA.length cPA, .slice aPB PB.length cPB, .slice aCL CL.length cCL]] w0 (Ret fun v w' => v = .bool true ∧ St w0 [] (fl []) w') := by
 refine k_enter (vs := [.agg #[.slice aPA PA.length cPA, .slice aPB PB.length cPB, .slice aCL CL.length cCL]]) Try.func7 rfl Try.ntmps7 rfl ?_
 have hS : St w0 [] (fl []) w0 := St.init w0
 have mC := hCL.most
 refine wp_seq ?_
 refine k_reg ?_
 refine s_box rfl rfl rfl (.t rfl rfl) (cs := #[.slice aPA PA.length cPA, .slice aPB PB.length cPB, .slice aCL CL.length cCL]) rfl hS fun blk1 w1 hb1 hB1 hS1 => ?_
 have hS2 : St w0 [] (fl [[(blk1, .cells #[.slice aPA PA.length cPA, .slice aPB PB.length cPB, .slice aCL CL.length cCL] 60 (0, 0))]]) w1 := hS1.push 0 rfl
 refine s_val hS2 rfl rfl (r_assign rfl .c) ?_
 refine wpList_nil ?_
 refine x_tn ?_
 refine k_reb [(1, .pointer (some ⟨blk1, 0, none⟩)), (2, .bool false)] ⟨rfl, rfl, trivial⟩ fun G1 => ?_
 refine wp_seq ?_
 refine k_reg ?_
 refine s_call rfl rfl rfl (vs := [.int .i64 268435456]) ⟨.c, trivial⟩ cb25 (New_lv w1 268435456 (by omega) ) ?_
 rintro _ w2 ⟨d1, m1, D1, sm1, hN1, rfl, hM1, ht1⟩
 have hS5 : St w0 [] (fl [[(blk1, .cells #[.slice aPA PA.length cPA, .slice aPB PB.length cPB, .slice aCL CL.length cCL] 60 (0, 0))], (pk d1 m1 D1), sm1]) w2 := hS2.callL (xs := []) (xs' := []) (zs := [(pk d1 m1 D1), sm1]) [] rfl (by decide) ht1 rfl rfl
 have hS4 : St w0 [] (fl [[(blk1, .cells #[.slice aPA PA.length cPA, .slice aPB PB.length cPB, .slice aCL CL.length cCL] 60 (0, 0))], (pk d1 m1 D1), sm1]) w2 := hS5.pick [0, 1, 2] rfl (by decide)
 have hu1 := hN1.tot
 have hu2 := hN1.len
 have hu3 := hN1.wr
 have hu4 := hN1.room
 refine s_val hS4 rfl rfl (r_move rfl (.t rfl rfl)) ?_
 refine s_val hS4 rfl rfl (r_extract rfl (.t rfl rfl) rfl) ?_
 refine s_val hS4 rfl rfl (r_extract rfl (.t rfl rfl) rfl) ?_
 refine s_val hS4 rfl rfl (r_assign rfl (.t rfl rfl)) ?_
 refine s_val hS4 rfl rfl (r_assign rfl (.t rfl rfl)) ?_
 refine wpList_nil ?_
 refine x_tn ?_
 refine k_reb [(1, .pointer (some ⟨blk1, 0, none⟩)), (2, .bool false), (3, .pointer (some ⟨d1, 0, none⟩)), (4, .int .i64 0)] ⟨rfl, rfl, rfl, rfl, trivial⟩ fun G2 => ?_
 refine wp_seq ?_
 refine k_reg ?_
 refine s_call rfl rfl rfl (vs := [.int .i64 268435456]) ⟨.c, trivial⟩ cb25 (New_lv w2 268435456 (by omega) ) ?_
 rintro _ w3 ⟨d2, m2, D2, sm2, hN2, rfl, hM2, ht2⟩
 have hS8 : St w0 [] (fl [[(blk1, .cells #[.slice aPA PA.length cPA, .slice aPB PB.length cPB, .slice aCL CL.length cCL] 60 (0, 0))], (pk d1 m1 D1), sm1, (pk d2 m2 D2), sm2]) w3 := hS4.callL (xs := []) (xs' := []) (zs := [(pk d2 m2 D2), sm2]) [] rfl (by decide) ht2 rfl rfl
 have hS7 : St w0 [] (fl [[(blk1, .cells #[.slice aPA PA.length cPA, .slice aPB PB.length cPB, .slice aCL CL.length cCL] 60 (0, 0))], (pk d1 m1 D1), (pk d2 m2 D2), sm1, sm2]) w3 := hS8.pick [0, 1, 3, 2, 4] rfl (by decide)
 have hu5 := hN2.tot
 have hu6 := hN2.len
 have hu7 := hN2.wr
 have hu8 := hN2.room
 refine s_val hS7 rfl rfl (r_move rfl (.t rfl rfl)) ?_
 refine s_val hS7 rfl rfl (r_extract rfl (.t rfl rfl) rfl) ?_
 refine s_val hS7 rfl rfl (r_extract rfl (.t rfl rfl) rfl) ?_
 refine s_val hS7 rfl rfl (r_assign rfl (.t rfl rfl)) ?_
 refine s_val hS7 rfl rfl (r_assign rfl (.t rfl rfl)) ?_
 refine wpList_nil ?_
 refine x_tn ?_
 refine k_reb [(1, .pointer (some ⟨blk1, 0, none⟩)), (2, .bool false), (3, .pointer (some ⟨d1, 0, none⟩)), (4, .int .i64 0), (5, .pointer (some ⟨d2, 0, none⟩)), (6, .int .i64 0)] ⟨rfl, rfl, rfl, rfl, rfl, rfl, trivial⟩ fun G3 => ?_
 refine wp_seq ?_
 refine k_reg ?_
 refine s_call rfl rfl rfl (vs := [.int .i64 268435456]) ⟨.c, trivial⟩ cb25 (New_lv w3 268435456 (by omega) ) ?_
 rintro _ w4 ⟨d3, m3, D3, sm3, hN3, rfl, hM3, ht3⟩
 have hS11 : St w0 [] (fl [[(blk1, .cells #[.slice aPA PA.length cPA, .slice aPB PB.length cPB, .slice aCL CL.length cCL] 60 (0, 0))], (pk d1 m1 D1), (pk d2 m2 D2), sm1, sm2, (pk d3 m3 D3), sm3]) w4 := hS7.callL (xs := []) (xs' := []) (zs := [(pk d3 m3 D3), sm3]) [] rfl (by decide) ht3 rfl rfl
 have hS10 : St w0 [] (fl [[(blk1, .cells #[.slice aPA PA.length cPA, .slice aPB PB.length cPB, .slice aCL CL.length cCL] 60 (0, 0))], (pk d1 m1 D1), (pk d2 m2 D2), (pk d3 m3 D3), sm1, sm2, sm3]) w4 := hS11.pick [0, 1, 2, 5, 3, 4, 6] rfl (by decide)
 have hu9 := hN3.tot
 have hu10 := hN3.len
 have hu11 := hN3.wr
 have hu12 := hN3.room
 refine s_val hS10 rfl rfl (r_move rfl (.t rfl rfl)) ?_
 refine s_val hS10 rfl rfl (r_extract rfl (.t rfl rfl) rfl) ?_
 refine s_val hS10 rfl rfl (r_extract rfl (.t rfl rfl) rfl) ?_
 refine s_val hS10 rfl rfl (r_assign rfl (.t rfl rfl)) ?_
 refine s_val hS10 rfl rfl (r_assign rfl (.t rfl rfl)) ?_
 refine wpList_nil ?_
 refine x_tn ?_
 refine k_reb [(1, .pointer (some ⟨blk1, 0, none⟩)), (2, .bool false), (3, .pointer (some ⟨d1, 0, none⟩)), (4, .int .i64 0), (5, .pointer (some ⟨d2, 0, none⟩)), (6, .int .i64 0), (7, .pointer (some ⟨d3, 0, none⟩)), (8, .int .i64 0)] ⟨rfl, rfl, rfl, rfl, rfl, rfl, rfl, rfl, trivial⟩ fun G4 => ?_
 refine wp_seq ?_
 refine wp_seq ?_
 refine k_reg ?_
 refine s_val hS10 rfl rfl (r_move rfl (.t rfl rfl)) ?_
 refine s_call rfl rfl rfl (vs := [.int .i64 0]) ⟨(.t rfl rfl), trivial⟩ cb16 (num_ok w4 0) ?_
 rintro _ w4 ⟨rfl, rfl⟩
 refine s_val hS10 rfl rfl (r_cmp_f rfl rfl (.t rfl rfl) .c (show ¬ (¬ 0 = 0) from by omega)) ?_
 refine s_val hS10 rfl rfl (r_move rfl (.t rfl rfl)) ?_
 refine s_valg hS10 (wanted_of (j := 3) (b := false) (d := 44) rfl rfl rfl rfl) rfl (r_move rfl (.t rfl rfl)) ?_
 refine s_callg (wanted_of (j := 3) (b := false) (d := 44) rfl rfl rfl rfl) rfl rfl (vs := [.int .i64 0]) ⟨(.t rfl rfl), trivial⟩ cb16 (num_ok w4 0) ?_
 rintro _ w4 ⟨rfl, rfl⟩
 refine s_valg hS10 (wanted_of (j := 3) (b := false) (d := 44) rfl rfl rfl rfl) rfl (r_cmp_f rfl rfl (.t rfl rfl) .c (show ¬ (¬ 0 = 0) from by omega)) ?_
 refine s_val hS10 rfl rfl (r_pick rfl (.t rfl rfl) (.t rfl rfl)) ?_
 refine s_val hS10 rfl rfl (r_move rfl (.t rfl rfl)) ?_
 refine s_valg hS10 (wanted_of (j := 8) (b := false) (d := 49) rfl rfl rfl rfl) rfl (r_move rfl (.t rfl rfl)) ?_
 refine s_callg (wanted_of (j := 8) (b := false) (d := 49) rfl rfl rfl rfl) rfl rfl (vs := [.int .i64 0]) ⟨(.t rfl rfl), trivial⟩ cb16 (num_ok w4 0) ?_
 rintro _ w4 ⟨rfl, rfl⟩
 refine s_valg hS10 (wanted_of (j := 8) (b := false) (d := 49) rfl rfl rfl rfl) rfl (r_cmp_f rfl rfl (.t rfl rfl) .c (show ¬ (¬ 0 = 0) from by omega)) ?_
 refine s_val hS10 rfl rfl (r_pick rfl (.t rfl rfl) (.t rfl rfl)) ?_
 refine s_val hS10 rfl rfl (r_move rfl (.t rfl rfl)) ?_
 refine s_valg hS10 (wanted_of (j := 13) (b := false) (d := 54) rfl rfl rfl rfl) rfl (r_move rfl (.t rfl rfl)) ?_
 refine s_valg hS10 (wanted_of (j := 13) (b := false) (d := 54) rfl rfl rfl rfl) rfl (r_eqnilp rfl Try.underlying33 (.t rfl rfl) .c rfl) ?_
 refine s_val hS10 rfl rfl (r_pick rfl (.t rfl rfl) (.t rfl rfl)) ?_
 refine s_val hS10 rfl rfl (r_move rfl (.t rfl rfl)) ?_
 refine s_valg hS10 (wanted_of (j := 17) (b := false) (d := 58) rfl rfl rfl rfl) rfl (r_move rfl (.t rfl rfl)) ?_
 refine s_valg hS10 (wanted_of (j := 17) (b := false) (d := 58) rfl rfl rfl rfl) rfl (r_eqnilp rfl Try.underlying33 (.t rfl rfl) .c rfl) ?_
 refine s_val hS10 rfl rfl (r_pick rfl (.t rfl rfl) (.t rfl rfl)) ?_
 refine s_val hS10 rfl rfl (r_move rfl (.t rfl rfl)) ?_
 refine s_valg hS10 (wanted_of (j := 21) (b := false) (d := 62) rfl rfl rfl rfl) rfl (r_move rfl (.t rfl rfl)) ?_
 refine s_valg hS10 (wanted_of (j := 21) (b := false) (d := 62) rfl rfl rfl rfl) rfl (r_eqnilp rfl Try.underlying33 (.t rfl rfl) .c rfl) ?_
 refine s_val hS10 rfl rfl (r_pick rfl (.t rfl rfl) (.t rfl rfl)) ?_
 refine s_val hS10 rfl rfl (r_move rfl (.t rfl rfl)) ?_
 refine s_callg (wanted_of (j := 25) (b := false) (d := 66) rfl rfl rfl rfl) rfl rfl (vs := []) trivial cb12 (works_ok w4  ) ?_
 rintro _ w5 ⟨rfl, ht4⟩
 have hS12 : St w0 [] (fl [[(blk1, .cells #[.slice aPA PA.length cPA, .slice aPB PB.length cPB, .slice aCL CL.length cCL] 60 (0, 0))], (pk d1 m1 D1), (pk d2 m2 D2), (pk d3 m3 D3), sm1, sm2, sm3]) w5 := hS10.callL (xs := []) (xs' := []) (zs := []) [] rfl (by decide) ht4 rfl rfl
 refine s_valg hS12 (wanted_of (j := 25) (b := false) (d := 66) rfl rfl rfl rfl) rfl (r_lnot rfl (.t rfl rfl)) ?_
 refine s_val hS12 rfl rfl (r_pick rfl (.t rfl rfl) (.t rfl rfl)) ?_
 refine wpList_nil ?_
 refine x_tn ?_
 refine k_reb [(1, .pointer (some ⟨blk1, 0, none⟩)), (2, .bool false), (3, .pointer (some ⟨d1, 0, none⟩)), (4, .int .i64 0), (5, .pointer (some ⟨d2, 0, none⟩)), (6, .int .i64 0), (7, .pointer (some ⟨d3, 0, none⟩)), (8, .int .i64 0), (69, .bool false)] ⟨rfl, rfl, rfl, rfl, rfl, rfl, rfl, rfl, rfl, trivial⟩ fun G5 => ?_
 refine k_f (.t rfl rfl) ?_
 refine wp_skip ?_
 refine x_tn ?_
 refine k_reb [(1, .pointer (some ⟨blk1, 0, none⟩)), (2, .bool false), (3, .pointer (some ⟨d1, 0, none⟩)), (4, .int .i64 0), (5, .pointer (some ⟨d2, 0, none⟩)), (6, .int .i64 0), (7, .pointer (some ⟨d3, 0, none⟩)), (8, .int .i64 0)] ⟨rfl, rfl, rfl, rfl, rfl, rfl, rfl, rfl, trivial⟩ fun G6 => ?_
 refine wp_seq ?_
 refine k_reg ?_
 refine s_val hS12 rfl rfl (r_move rfl (.t rfl rfl)) ?_
 refine s_call rfl rfl rfl (vs := [.pointer (some ⟨d1, 0, none⟩), .string (⟨#[106]⟩)]) ⟨(.t rfl rfl), .c, trivial⟩ cb19 (Open_new w5 _ d1 m1 D1 hN1.lv sm1 hM1 (⟨#[106]⟩ : ByteArray) (by decide) hN1.none (by omega) (by omega) (by omega) (hS12.give (xs := [(pk d1 m1 D1), sm1]) [1, 4] rfl (by decide))) ?_
 rintro _ w6 ⟨D4, sm4, l1, oa1, oc1, sg1, hup1, hM4, rfl, hO1, ht5⟩
 have hS14 : St w0 [] (fl [[(blk1, .cells #[.slice aPA PA.length cPA, .slice aPB PB.length cPB, .slice aCL CL.length cCL] 60 (0, 0))], (pk d1 m1 D4), (pk d2 m2 D2), (pk d3 m3 D3), sm4, sm2, sm3, (lq l1 d1 (⟨#[106]⟩) noR), sg1]) w6 := hS12.callL (xs := [(pk d1 m1 D1), sm1]) (xs' := [(pk d1 m1 D4), sm4]) (zs := [(lq l1 d1 (⟨#[106]⟩) noR), sg1]) [1, 4] rfl (by decide) ht5 rfl rfl
 have hS15 : St w0 [] (fl [[(blk1, .cells #[.slice aPA PA.length cPA, .slice aPB PB.length cPB, .slice aCL CL.length cCL] 60 (0, 0))], (pk d1 m1 D4), (pk d2 m2 D2), (pk d3 m3 D3), (lq l1 d1 (⟨#[106]⟩) noR), sm4, sm2, sm3, sg1]) w6 := hS14.pick [0, 1, 2, 3, 7, 4, 5, 6, 8] rfl (by decide)
 have hnr1 : noR.length = 0 := rfl
 have hnr2 : (logL noR).length = 8 := rfl
 have hat1 := (hup1.ne ⟨#[107]⟩ (by decide)).trans hN1.none
 have hu13 := hup1.tot
 have hu14 := hup1.wr
 have hu15 := hup1.room
 have hu16 := hup1.len
 have hnl1 : ([] : List Nat).length = 0 := rfl
 refine s_val hS15 rfl rfl (r_move rfl (.t rfl rfl)) ?_
 refine s_val hS15 rfl rfl (r_extract rfl (.t rfl rfl) rfl) ?_
 refine s_val hS15 rfl rfl (r_extract rfl (.t rfl rfl) rfl) ?_
 refine s_val hS15 rfl rfl (r_extract rfl (.t rfl rfl) rfl) ?_
 refine s_val hS15 rfl rfl (r_assign rfl (.t rfl rfl)) ?_
 refine s_val hS15 rfl rfl (r_assign rfl (.t rfl rfl)) ?_
 refine s_val hS15 rfl rfl (r_assign rfl (.t rfl rfl)) ?_
 refine wpList_nil ?_
 refine x_tn ?_
 refine k_reb [(1, .pointer (some ⟨blk1, 0, none⟩)), (2, .bool false), (3, .pointer (some ⟨d1, 0, none⟩)), (4, .int .i64 0), (5, .pointer (some ⟨d2, 0, none⟩)), (6, .int .i64 0), (7, .pointer (some ⟨d3, 0, none⟩)), (8, .int .i64 0), (9, .pointer (some ⟨l1, 0, none⟩))] ⟨rfl, rfl, rfl, rfl, rfl, rfl, rfl, rfl, rfl, trivial⟩ fun G7 => ?_
 refine wp_seq ?_
 refine k_reg ?_
 refine s_val hS15 rfl rfl (r_move rfl (.t rfl rfl)) ?_
 refine s_call rfl rfl rfl (vs := [.pointer (some ⟨d1, 0, none⟩), .string (⟨#[107]⟩)]) ⟨(.t rfl rfl), .c, trivial⟩ cb19 (Open_new w6 _ d1 m1 D4 hup1.lv sm4 hM4 (⟨#[107]⟩ : ByteArray) (by decide) hat1 (by omega) (by omega) (by omega) (hS15.give (xs := [(pk d1 m1 D4), sm4]) [1, 5] rfl (by decide))) ?_
 rintro _ w7 ⟨D5, sm5, l2, oa2, oc2, sg2, hup2, hM5, rfl, hO2, ht6⟩
 have hS17 : St w0 [] (fl [[(blk1, .cells #[.slice aPA PA.length cPA, .slice aPB PB.length cPB, .slice aCL CL.length cCL] 60 (0, 0))], (pk d1 m1 D5), (pk d2 m2 D2), (pk d3 m3 D3), (lq l1 d1 (⟨#[106]⟩) noR), sm5, sm2, sm3, sg1, (lq l2 d1 (⟨#[107]⟩) noR), sg2]) w7 := hS15.callL (xs := [(pk d1 m1 D4), sm4]) (xs' := [(pk d1 m1 D5), sm5]) (zs := [(lq l2 d1 (⟨#[107]⟩) noR), sg2]) [1, 5] rfl (by decide) ht6 rfl rfl
 have hS18 : St w0 [] (fl [[(blk1, .cells #[.slice aPA PA.length cPA, .slice aPB PB.length cPB, .slice aCL CL.length cCL] 60 (0, 0))], (pk d1 m1 D5), (pk d2 m2 D2), (pk d3 m3 D3), (lq l1 d1 (⟨#[106]⟩) noR), (lq l2 d1 (⟨#[107]⟩) noR), sm5, sm2, sm3, sg1, sg2]) w7 := hS17.pick [0, 1, 2, 3, 4, 9, 5, 6, 7, 8, 10] rfl (by decide)
 have hnr3 : noR.length = 0 := rfl
 have hnr4 : (logL noR).length = 8 := rfl
 have hat2 := (hup2.ne ⟨#[106]⟩ (by decide)).trans hup1.at_
 have hu17 := hup2.tot
 have hu18 := hup2.wr
 have hu19 := hup2.room
 have hu20 := hup2.len
 have hnl2 : ([] : List Nat).length = 0 := rfl
 refine s_val hS18 rfl rfl (r_move rfl (.t rfl rfl)) ?_
 refine s_val hS18 rfl rfl (r_extract rfl (.t rfl rfl) rfl) ?_
 refine s_val hS18 rfl rfl (r_extract rfl (.t rfl rfl) rfl) ?_
 refine s_val hS18 rfl rfl (r_extract rfl (.t rfl rfl) rfl) ?_
 refine s_val hS18 rfl rfl (r_assign rfl (.t rfl rfl)) ?_
 refine s_val hS18 rfl rfl (r_assign rfl (.t rfl rfl)) ?_
 refine s_val hS18 rfl rfl (r_assign rfl (.t rfl rfl)) ?_
 refine wpList_nil ?_
 refine x_tn ?_
 refine k_reb [(1, .pointer (some ⟨blk1, 0, none⟩)), (2, .bool false), (3, .pointer (some ⟨d1, 0, none⟩)), (4, .int .i64 0), (5, .pointer (some ⟨d2, 0, none⟩)), (6, .int .i64 0), (7, .pointer (some ⟨d3, 0, none⟩)), (8, .int .i64 0), (9, .pointer (some ⟨l1, 0, none⟩)), (11, .pointer (some ⟨l2, 0, none⟩))] ⟨rfl, rfl, rfl, rfl, rfl, rfl, rfl, rfl, rfl, rfl, trivial⟩ fun G8 => ?_
 refine wp_seq ?_
 refine k_reg ?_
 refine s_val hS18 rfl rfl (r_move rfl (.t rfl rfl)) ?_
 refine s_call rfl rfl rfl (vs := [.pointer (some ⟨d2, 0, none⟩), .string (⟨#[106]⟩)]) ⟨(.t rfl rfl), .c, trivial⟩ cb19 (Open_new w7 _ d2 m2 D2 hN2.lv sm2 hM2 (⟨#[106]⟩ : ByteArray) (by decide) hN2.none (by omega) (by omega) (by omega) (hS18.give (xs := [(pk d2 m2 D2), sm2]) [2, 7] rfl (by decide))) ?_
 rintro _ w8 ⟨D6, sm6, l3, oa3, oc3, sg3, hup3, hM6, rfl, hO3, ht7⟩
 have hS20 : St w0 [] (fl [[(blk1, .cells #[.slice aPA PA.length cPA, .slice aPB PB.length cPB, .slice aCL CL.length cCL] 60 (0, 0))], (pk d1 m1 D5), (pk d2 m2 D6), (pk d3 m3 D3), (lq l1 d1 (⟨#[106]⟩) noR), (lq l2 d1 (⟨#[107]⟩) noR), sm5, sm6, sm3, sg1, sg2, (lq l3 d2 (⟨#[106]⟩) noR), sg3]) w8 := hS18.callL (xs := [(pk d2 m2 D2), sm2]) (xs' := [(pk d2 m2 D6), sm6]) (zs := [(lq l3 d2 (⟨#[106]⟩) noR), sg3]) [2, 7] rfl (by decide) ht7 rfl rfl
 have hS21 : St w0 [] (fl [[(blk1, .cells #[.slice aPA PA.length cPA, .slice aPB PB.length cPB, .slice aCL CL.length cCL] 60 (0, 0))], (pk d1 m1 D5), (pk d2 m2 D6), (pk d3 m3 D3), (lq l1 d1 (⟨#[106]⟩) noR), (lq l2 d1 (⟨#[107]⟩) noR), (lq l3 d2 (⟨#[106]⟩) noR), sm5, sm6, sm3, sg1, sg2, sg3]) w8 := hS20.pick [0, 1, 2, 3, 4, 5, 11, 6, 7, 8, 9, 10, 12] rfl (by decide)
 have hnr5 : noR.length = 0 := rfl
 have hnr6 : (logL noR).length = 8 := rfl
 have hu21 := hup3.tot
 have hu22 := hup3.wr
 have hu23 := hup3.room
 have hu24 := hup3.len
 have hnl3 : ([] : List Nat).length = 0 := rfl
 refine s_val hS21 rfl rfl (r_move rfl (.t rfl rfl)) ?_
 refine s_val hS21 rfl rfl (r_extract rfl (.t rfl rfl) rfl) ?_
 refine s_val hS21 rfl rfl (r_extract rfl (.t rfl rfl) rfl) ?_
 refine s_val hS21 rfl rfl (r_extract rfl (.t rfl rfl) rfl) ?_
 refine s_val hS21 rfl rfl (r_assign rfl (.t rfl rfl)) ?_
 refine s_val hS21 rfl rfl (r_assign rfl (.t rfl rfl)) ?_
 refine s_val hS21 rfl rfl (r_assign rfl (.t rfl rfl)) ?_
 refine wpList_nil ?_
 refine x_tn ?_
 refine k_reb [(1, .pointer (some ⟨blk1, 0, none⟩)), (2, .bool false), (3, .pointer (some ⟨d1, 0, none⟩)), (4, .int .i64 0), (5, .pointer (some ⟨d2, 0, none⟩)), (6, .int .i64 0), (7, .pointer (some ⟨d3, 0, none⟩)), (8, .int .i64 0), (9, .pointer (some ⟨l1, 0, none⟩)), (11, .pointer (some ⟨l2, 0, none⟩)), (13, .pointer (some ⟨l3, 0, none⟩))] ⟨rfl, rfl, rfl, rfl, rfl, rfl, rfl, rfl, rfl, rfl, rfl, trivial⟩ fun G9 => ?_
 refine wp_seq ?_
 refine k_reg ?_
 refine s_val hS21 rfl rfl (r_move rfl (.t rfl rfl)) ?_
 refine s_call rfl rfl rfl (vs := [.pointer (some ⟨d3, 0, none⟩), .string (⟨#[107]⟩)]) ⟨(.t rfl rfl), .c, trivial⟩ cb19 (Open_new w8 _ d3 m3 D3 hN3.lv sm3 hM3 (⟨#[107]⟩ : ByteArray) (by decide) hN3.none (by omega) (by omega) (by omega) (hS21.give (xs := [(pk d3 m3 D3), sm3]) [3, 9] rfl (by decide))) ?_
 rintro _ w9 ⟨D7, sm7, l4, oa4, oc4, sg4, hup4, hM7, rfl, hO4, ht8⟩
 have hS23 : St w0 [] (fl [[(blk1, .cells #[.slice aPA PA.length cPA, .slice aPB PB.length cPB, .slice aCL CL.length cCL] 60 (0, 0))], (pk d1 m1 D5), (pk d2 m2 D6), (pk d3 m3 D7), (lq l1 d1 (⟨#[106]⟩) noR), (lq l2 d1 (⟨#[107]⟩) noR), (lq l3 d2 (⟨#[106]⟩) noR), sm5, sm6, sm7, sg1, sg2, sg3, (lq l4 d3 (⟨#[107]⟩) noR), sg4]) w9 := hS21.callL (xs := [(pk d3 m3 D3), sm3]) (xs' := [(pk d3 m3 D7), sm7]) (zs := [(lq l4 d3 (⟨#[107]⟩) noR), sg4]) [3, 9] rfl (by decide) ht8 rfl rfl
 have hS24 : St w0 [] (fl [[(blk1, .cells #[.slice aPA PA.length cPA, .slice aPB PB.length cPB, .slice aCL CL.length cCL] 60 (0, 0))], (pk d1 m1 D5), (pk d2 m2 D6), (pk d3 m3 D7), (lq l1 d1 (⟨#[106]⟩) noR), (lq l2 d1 (⟨#[107]⟩) noR), (lq l3 d2 (⟨#[106]⟩) noR), (lq l4 d3 (⟨#[107]⟩) noR), sm5, sm6, sm7, sg1, sg2, sg3, sg4]) w9 := hS23.pick [0, 1, 2, 3, 4, 5, 6, 13, 7, 8, 9, 10, 11, 12, 14] rfl (by decide)
 have hnr7 : noR.length = 0 := rfl
 have hnr8 : (logL noR).length = 8 := rfl
 have hu25 := hup4.tot
 have hu26 := hup4.wr
 have hu27 := hup4.room
 have hu28 := hup4.len
 have hnl4 : ([] : List Nat).length = 0 := rfl
 refine s_val hS24 rfl rfl (r_move rfl (.t rfl rfl)) ?_
 refine s_val hS24 rfl rfl (r_extract rfl (.t rfl rfl) rfl) ?_
 refine s_val hS24 rfl rfl (r_extract rfl (.t rfl rfl) rfl) ?_
 refine s_val hS24 rfl rfl (r_extract rfl (.t rfl rfl) rfl) ?_
 refine s_val hS24 rfl rfl (r_assign rfl (.t rfl rfl)) ?_
 refine s_val hS24 rfl rfl (r_assign rfl (.t rfl rfl)) ?_
 refine s_val hS24 rfl rfl (r_assign rfl (.t rfl rfl)) ?_
 refine wpList_nil ?_
 refine x_tn ?_
 refine k_reb [(1, .pointer (some ⟨blk1, 0, none⟩)), (2, .bool false), (3, .pointer (some ⟨d1, 0, none⟩)), (4, .int .i64 0), (5, .pointer (some ⟨d2, 0, none⟩)), (6, .int .i64 0), (7, .pointer (some ⟨d3, 0, none⟩)), (8, .int .i64 0), (9, .pointer (some ⟨l1, 0, none⟩)), (11, .pointer (some ⟨l2, 0, none⟩)), (13, .pointer (some ⟨l3, 0, none⟩)), (15, .pointer (some ⟨l4, 0, none⟩)), (17, .int .i64 0)] ⟨rfl, rfl, rfl, rfl, rfl, rfl, rfl, rfl, rfl, rfl, rfl, rfl, rfl, trivial⟩ fun G10 => ?_
 refine wp_seq ?_
 refine wp_seq ?_
 refine k_reg ?_
 refine s_val hS24 rfl rfl (r_move rfl (.t rfl rfl)) ?_
 refine s_call rfl rfl rfl (vs := [.int .i64 0]) ⟨(.t rfl rfl), trivial⟩ cb16 (num_ok w9 0) ?_
 rintro _ w9 ⟨rfl, rfl⟩
 refine s_val hS24 rfl rfl (r_cmp_f rfl rfl (.t rfl rfl) .c (show ¬ (¬ 0 = 0) from by omega)) ?_
 refine s_val hS24 rfl rfl (r_move rfl (.t rfl rfl)) ?_
 refine s_valg hS24 (wanted_of (j := 3) (b := false) (d := 97) rfl rfl rfl rfl) rfl (r_move rfl (.t rfl rfl)) ?_
 refine s_callg (wanted_of (j := 3) (b := false) (d := 97) rfl rfl rfl rfl) rfl rfl (vs := [.int .i64 0]) ⟨(.t rfl rfl), trivial⟩ cb16 (num_ok w9 0) ?_
 rintro _ w9 ⟨rfl, rfl⟩
 refine s_valg hS24 (wanted_of (j := 3) (b := false) (d := 97) rfl rfl rfl rfl) rfl (r_cmp_f rfl rfl (.t rfl rfl) .c (show ¬ (¬ 0 = 0) from by omega)) ?_
 refine s_val hS24 rfl rfl (r_pick rfl (.t rfl rfl) (.t rfl rfl)) ?_
 refine s_val hS24 rfl rfl (r_move rfl (.t rfl rfl)) ?_
 refine s_valg hS24 (wanted_of (j := 8) (b := false) (d := 102) rfl rfl rfl rfl) rfl (r_move rfl (.t rfl rfl)) ?_
 refine s_callg (wanted_of (j := 8) (b := false) (d := 102) rfl rfl rfl rfl) rfl rfl (vs := [.int .i64 0]) ⟨(.t rfl rfl), trivial⟩ cb16 (num_ok w9 0) ?_
 rintro _ w9 ⟨rfl, rfl⟩
 refine s_valg hS24 (wanted_of (j := 8) (b := false) (d := 102) rfl rfl rfl rfl) rfl (r_cmp_f rfl rfl (.t rfl rfl) .c (show ¬ (¬ 0 = 0) from by omega)) ?_
 refine s_val hS24 rfl rfl (r_pick rfl (.t rfl rfl) (.t rfl rfl)) ?_
 refine s_val hS24 rfl rfl (r_move rfl (.t rfl rfl)) ?_
 refine s_valg hS24 (wanted_of (j := 13) (b := false) (d := 107) rfl rfl rfl rfl) rfl (r_move rfl (.t rfl rfl)) ?_
 refine s_callg (wanted_of (j := 13) (b := false) (d := 107) rfl rfl rfl rfl) rfl rfl (vs := [.int .i64 0]) ⟨(.t rfl rfl), trivial⟩ cb16 (num_ok w9 0) ?_
 rintro _ w9 ⟨rfl, rfl⟩
 refine s_valg hS24 (wanted_of (j := 13) (b := false) (d := 107) rfl rfl rfl rfl) rfl (r_cmp_f rfl rfl (.t rfl rfl) .c (show ¬ (¬ 0 = 0) from by omega)) ?_
 refine s_val hS24 rfl rfl (r_pick rfl (.t rfl rfl) (.t rfl rfl)) ?_
 refine s_val hS24 rfl rfl (r_move rfl (.t rfl rfl)) ?_
 refine s_valg hS24 (wanted_of (j := 18) (b := false) (d := 112) rfl rfl rfl rfl) rfl (r_move rfl (.t rfl rfl)) ?_
 refine s_valg hS24 (wanted_of (j := 18) (b := false) (d := 112) rfl rfl rfl rfl) rfl (r_eqnilp rfl Try.underlying43 (.t rfl rfl) .c rfl) ?_
 refine s_val hS24 rfl rfl (r_pick rfl (.t rfl rfl) (.t rfl rfl)) ?_
 refine s_val hS24 rfl rfl (r_move rfl (.t rfl rfl)) ?_
 refine s_valg hS24 (wanted_of (j := 22) (b := false) (d := 116) rfl rfl rfl rfl) rfl (r_move rfl (.t rfl rfl)) ?_
 refine s_valg hS24 (wanted_of (j := 22) (b := false) (d := 116) rfl rfl rfl rfl) rfl (r_eqnilp rfl Try.underlying43 (.t rfl rfl) .c rfl) ?_
 refine s_val hS24 rfl rfl (r_pick rfl (.t rfl rfl) (.t rfl rfl)) ?_
 refine s_val hS24 rfl rfl (r_move rfl (.t rfl rfl)) ?_
 refine s_valg hS24 (wanted_of (j := 26) (b := false) (d := 120) rfl rfl rfl rfl) rfl (r_move rfl (.t rfl rfl)) ?_
 refine s_valg hS24 (wanted_of (j := 26) (b := false) (d := 120) rfl rfl rfl rfl) rfl (r_eqnilp rfl Try.underlying43 (.t rfl rfl) .c rfl) ?_
 refine s_val hS24 rfl rfl (r_pick rfl (.t rfl rfl) (.t rfl rfl)) ?_
 refine s_val hS24 rfl rfl (r_move rfl (.t rfl rfl)) ?_
 refine s_valg hS24 (wanted_of (j := 30) (b := false) (d := 124) rfl rfl rfl rfl) rfl (r_move rfl (.t rfl rfl)) ?_
 refine s_valg hS24 (wanted_of (j := 30) (b := false) (d := 124) rfl rfl rfl rfl) rfl (r_eqnilp rfl Try.underlying43 (.t rfl rfl) .c rfl) ?_
 refine s_val hS24 rfl rfl (r_pick rfl (.t rfl rfl) (.t rfl rfl)) ?_
 refine wpList_nil ?_
 refine x_tn ?_
 refine k_reb [(1, .pointer (some ⟨blk1, 0, none⟩)), (2, .bool false), (3, .pointer (some ⟨d1, 0, none⟩)), (5, .pointer (some ⟨d2, 0, none⟩)), (7, .pointer (some ⟨d3, 0, none⟩)), (9, .pointer (some ⟨l1, 0, none⟩)), (11, .pointer (some ⟨l2, 0, none⟩)), (13, .pointer (some ⟨l3, 0, none⟩)), (15, .pointer (some ⟨l4, 0, none⟩)), (127, .bool false)] ⟨rfl, rfl, rfl, rfl, rfl, rfl, rfl, rfl, rfl, rfl, trivial⟩ fun G11 => ?_
 refine k_f (.t rfl rfl) ?_
 refine wp_skip ?_
 refine x_tn ?_
 refine k_reb [(1, .pointer (some ⟨blk1, 0, none⟩)), (2, .bool false), (3, .pointer (some ⟨d1, 0, none⟩)), (5, .pointer (some ⟨d2, 0, none⟩)), (7, .pointer (some ⟨d3, 0, none⟩)), (9, .pointer (some ⟨l1, 0, none⟩)), (11, .pointer (some ⟨l2, 0, none⟩)), (13, .pointer (some ⟨l3, 0, none⟩)), (15, .pointer (some ⟨l4, 0, none⟩))] ⟨rfl, rfl, rfl, rfl, rfl, rfl, rfl, rfl, rfl, trivial⟩ fun G12 => ?_
 refine wp_seq ?_
 refine k_reg ?_
 refine s_val hS24 rfl rfl (r_assign rfl .c) ?_
 refine wpList_nil ?_
 refine x_tn ?_
 refine wp_seq ?_
 refine wp_seq ?_
 refine k_reg ?_
 refine s_val hS24 rfl rfl (r_assign rfl .c) ?_
 refine wpList_nil ?_
 refine x_tn ?_
 have hS25 : St w0 [] (fl [[(blk1, .cells #[.slice aPA PA.length cPA, .slice aPB PB.length cPB, .slice aCL CL.length cCL] 60 (0, 0))], (pk d1 m1 D5), (pk d2 m2 D6), (pk d3 m3 D7), (lq l1 d1 (⟨#[106]⟩) noR), (lq l2 d1 (⟨#[107]⟩) noR), (lq l3 d2 (⟨#[106]⟩) noR), (lq l4 d3 (⟨#[107]⟩) noR), sm5, sm6, sm7]) w9 := hS24.pick [0, 1, 2, 3, 4, 5, 6, 7, 8, 9, 10] rfl (by decide)
 refine k_join (fun a_ w_ => ∃ (G : Nat → Value) (D : Dk) (Dc : Dk) (Db : Dk) (RJ : Recs) (RK : Recs) (smd : Hp) (smc : Hp) (smb : Hp) (k1 : Nat) (k2 : Nat) (k3 : Nat) (k4 : Nat), a_ = fr 253 [(3, .pointer (some ⟨d1, 0, none⟩)), (5, .pointer (some ⟨d2, 0, none⟩)), (7, .pointer (some ⟨d3, 0, none⟩)), (9, .pointer (some ⟨l1, 0, none⟩)), (11, .pointer (some ⟨l2, 0, none⟩)), (13, .pointer (some ⟨l3, 0, none⟩)), (15, .pointer (some ⟨l4, 0, none⟩))] G ∧ St w0 [] (fl [[(blk1, .cells #[.slice aPA PA.length cPA, .slice aPB PB.length cPB, .slice aCL CL.length cCL] 60 (0, 0))], (pk d1 m1 D), (pk d2 m2 Dc), (pk d3 m3 Db), (lq l1 d1 (⟨#[106]⟩) RJ), (lq l2 d1 (⟨#[107]⟩) RK), (lq l3 d2 (⟨#[106]⟩) RJ), (lq l4 d3 (⟨#[107]⟩) RK), smd, smc, smb]) w_ ∧ (Lv D ∧ Lv Dc ∧ Lv Db ∧ MapH U8 m1 none D.F smd ∧ MapH U8 m2 none Dc.F smc ∧ MapH U8 m3 none Db.F smb ∧ lookF D.F (⟨#[106]⟩ : ByteArray) = some ⟨(⟨#[106]⟩ : ByteArray), logL RJ, k1⟩ ∧ lookF D.F (⟨#[107]⟩ : ByteArray) = some ⟨(⟨#[107]⟩ : ByteArray), logL RK, k2⟩ ∧ lookF Dc.F (⟨#[106]⟩ : ByteArray) = some ⟨(⟨#[106]⟩ : ByteArray), logL RJ, k3⟩ ∧ lookF Db.F (⟨#[107]⟩ : ByteArray) = some ⟨(⟨#[107]⟩ : ByteArray), logL RK, k4⟩ ∧ (logL RJ).length ≤ 100000 ∧ (logL RK).length ≤ 100000)) ?_ ?_
 ·
  refine wp_block ?_
  refine wp_loop_ghost (fun (m4 : Nat) a w => ∃ (G : Nat → Value) (i : Nat) (D : Dk) (Dc : Dk) (Db : Dk) (RJ : Recs) (RK : Recs) (smd : Hp) (smc : Hp) (smb : Hp) (k1 : Nat) (k2 : Nat) (k3 : Nat) (k4 : Nat) (lf : Int), a = fr 253 [(1, .pointer (some ⟨blk1, 0, none⟩)), (2, .bool false), (3, .pointer (some ⟨d1, 0, none⟩)), (5, .pointer (some ⟨d2, 0, none⟩)), (7, .pointer (some ⟨d3, 0, none⟩)), (9, .pointer (some ⟨l1, 0, none⟩)), (11, .pointer (some ⟨l2, 0, none⟩)), (13, .pointer (some ⟨l3, 0, none⟩)), (15, .pointer (some ⟨l4, 0, none⟩)), (18, .int .i64 lf), (19, .int .i64 (((i : Nat) : Int)))] G ∧ St w0 [] (fl [[(blk1, .cells #[.slice aPA PA.length cPA, .slice aPB PB.length cPB, .slice aCL CL.length cCL] 60 (0, 0))], (pk d1 m1 D), (pk d2 m2 Dc), (pk d3 m3 Db), (lq l1 d1 (⟨#[106]⟩) RJ), (lq l2 d1 (⟨#[107]⟩) RK), (lq l3 d2 (⟨#[106]⟩) RJ), (lq l4 d3 (⟨#[107]⟩) RK), smd, smc, smb]) w ∧ (m4 = 40 - i ∧ i ≤ 40 ∧ Lv D ∧ Lv Dc ∧ Lv Db ∧ MapH U8 m1 none D.F smd ∧ MapH U8 m2 none Dc.F smc ∧ MapH U8 m3 none Db.F smb ∧ lookF D.F (⟨#[106]⟩ : ByteArray) = some ⟨(⟨#[106]⟩ : ByteArray), logL RJ, k1⟩ ∧ lookF D.F (⟨#[107]⟩ : ByteArray) = some ⟨(⟨#[107]⟩ : ByteArray), logL RK, k2⟩ ∧ lookF Dc.F (⟨#[106]⟩ : ByteArray) = some ⟨(⟨#[106]⟩ : ByteArray), logL RJ, k3⟩ ∧ lookF Db.F (⟨#[107]⟩ : ByteArray) = some ⟨(⟨#[107]⟩ : ByteArray), logL RK, k4⟩ ∧ tot D.F = (logL RJ).length + (logL RK).length ∧ tot Dc.F = (logL RJ).length ∧ tot Db.F = (logL RK).length ∧ D.room = 268435456 ∧ Dc.room = 268435456 ∧ Db.room = 268435456 ∧ D.writes ≤ 4 + 44 * i ∧ Dc.writes ≤ 4 + 44 * i ∧ Db.writes ≤ 4 + 44 * i ∧ 0 ≤ lf ∧ lf ≤ 65536 ∧ ((logL RJ).length : Int) + (logL RK).length + lf ≤ 65552 + 16 * i)) (40) ⟨_, 0, D5, D6, D7, noR, noR, sm5, sm6, sm7, 8, 8, 8, 8, 65536, fr_reb _ ⟨rfl, rfl, rfl, rfl, rfl, rfl, rfl, rfl, rfl, rfl, rfl, trivial⟩, hS25, ?_⟩ ?_
  ·
   exact ⟨rfl, by omega, hup2.lv, hup3.lv, hup4.lv, hM5, hM6, hM7, hat2, hup2.at_, hup3.at_, hup4.at_, by omega, by omega, by omega, by omega, by omega, by omega, by omega, by omega, by omega, by omega, by omega, by omega⟩
  ·
   intro m4 _ w11 hI1
   obtain ⟨G13, i, D, Dc, Db, RJ, RK, smd, smc, smb, k1, k2, k3, k4, lf, rfl, hS26, ⟨hm, hi, lv_1, lv_2, lv_3, hm1_, hm2_, hm3_, ha_n1, ha_n2, ha_n3, ha_n4, ht_n1, ht_n2, ht_n3, hr_n1, hr_n2, hr_n3, hw_n1, hw_n2, hw_n3, hl_n0, hl_n1, hl_n2⟩⟩ := hI1
   have hsz1_ : (0 : Nat) = 0 := rfl
   refine wp_seq ?_
   refine wp_seq ?_
   refine k_reg ?_
   refine s_val hS26 rfl rfl (r_move rfl (.t rfl rfl)) ?_
   refine s_val hS26 rfl rfl (r_fieldN rfl Try.underlying60 rfl ti30 (by decide) (.t rfl rfl) (qq := 0) rfl) ?_
   refine s_val hS26 rfl rfl (r_load rfl one30 (.t rfl rfl) (St.cell_own (m := 0) rfl rfl)) ?_
   refine s_val hS26 rfl rfl (r_len rfl rfl Try.underlying30 (.t rfl rfl)) ?_
   refine s_val hS26 rfl rfl (r_fieldN rfl Try.underlying60 rfl ti30 (by decide) (.t rfl rfl) (qq := 1) rfl) ?_
   refine s_val hS26 rfl rfl (r_load rfl one30 (.t rfl rfl) (St.cell_own (m := 0) rfl rfl)) ?_
   refine s_val hS26 rfl rfl (r_len rfl rfl Try.underlying30 (.t rfl rfl)) ?_
   refine s_val hS26 rfl rfl (r_arith rfl rfl (.t rfl rfl) (.t rfl rfl) (c := ((PA.length + PB.length : Nat) : Int)) (wn_i64 (by show (((PA.length : Nat) : Int) : Int) + ((PB.length : Nat) : Int) = _; omega) (by omega))) ?_
   by_cases c1 : i < PA.length + PB.length
   ·
    refine s_val hS26 rfl rfl (r_cmp_t rfl rfl (.t rfl rfl) (.t rfl rfl) (show ((i : Nat) : Int) < ((PA.length + PB.length : Nat) : Int) from by omega)) ?_
    refine s_val hS26 rfl rfl (r_move rfl (.t rfl rfl)) ?_
    refine s_valg hS26 (wanted_of (j := 9) (b := true) (d := 137) rfl rfl rfl rfl) rfl (r_move rfl (.t rfl rfl)) ?_
    by_cases c2 : i < 40
    ·
     refine s_valg hS26 (wanted_of (j := 9) (b := true) (d := 137) rfl rfl rfl rfl) rfl (r_cmp_t rfl rfl (.t rfl rfl) .c (show ((i : Nat) : Int) < 40 from by omega)) ?_
     refine s_val hS26 rfl rfl (r_pick rfl (.t rfl rfl) (.t rfl rfl)) ?_
     refine wpList_nil ?_
     refine x_tn ?_
     refine k_reb [(1, .pointer (some ⟨blk1, 0, none⟩)), (2, .bool false), (3, .pointer (some ⟨d1, 0, none⟩)), (5, .pointer (some ⟨d2, 0, none⟩)), (7, .pointer (some ⟨d3, 0, none⟩)), (9, .pointer (some ⟨l1, 0, none⟩)), (11, .pointer (some ⟨l2, 0, none⟩)), (13, .pointer (some ⟨l3, 0, none⟩)), (15, .pointer (some ⟨l4, 0, none⟩)), (18, .int .i64 lf), (19, .int .i64 (((i : Nat) : Int))), (140, .bool true)] ⟨rfl, rfl, rfl, rfl, rfl, rfl, rfl, rfl, rfl, rfl, rfl, rfl, trivial⟩ fun G14 => ?_
     refine k_t (.t rfl rfl) ?_
     refine wp_skip ?_
     refine x_tn ?_
     refine k_reb [(1, .pointer (some ⟨blk1, 0, none⟩)), (2, .bool false), (3, .pointer (some ⟨d1, 0, none⟩)), (5, .pointer (some ⟨d2, 0, none⟩)), (7, .pointer (some ⟨d3, 0, none⟩)), (9, .pointer (some ⟨l1, 0, none⟩)), (11, .pointer (some ⟨l2, 0, none⟩)), (13, .pointer (some ⟨l3, 0, none⟩)), (15, .pointer (some ⟨l4, 0, none⟩)), (18, .int .i64 lf), (19, .int .i64 (((i : Nat) : Int)))] ⟨rfl, rfl, rfl, rfl, rfl, rfl, rfl, rfl, rfl, rfl, rfl, trivial⟩ fun G15 => ?_
     refine wp_seq ?_
     refine wp_block ?_
     refine wp_seq ?_
     refine wp_seq ?_
     refine k_reg ?_
     refine s_val hS26 rfl rfl (r_move rfl (.t rfl rfl)) ?_
     refine s_val hS26 rfl rfl (r_fieldN rfl Try.underlying60 rfl ti30 (by decide) (.t rfl rfl) (qq := 0) rfl) ?_
     refine s_val hS26 rfl rfl (r_load rfl one30 (.t rfl rfl) (St.cell_own (m := 0) rfl rfl)) ?_
     refine s_val hS26 rfl rfl (r_len rfl rfl Try.underlying30 (.t rfl rfl)) ?_
     by_cases hiA : i < PA.length
     ·
      refine s_val hS26 rfl rfl (r_cmp_t rfl rfl (.t rfl rfl) (.t rfl rfl) (show ((i : Nat) : Int) < ((PA.length : Nat) : Int) from by omega)) ?_
      refine wpList_nil ?_
      refine x_tn ?_
      refine k_reb [(1, .pointer (some ⟨blk1, 0, none⟩)), (2, .bool false), (3, .pointer (some ⟨d1, 0, none⟩)), (5, .pointer (some ⟨d2, 0, none⟩)), (7, .pointer (some ⟨d3, 0, none⟩)), (9, .pointer (some ⟨l1, 0, none⟩)), (11, .pointer (some ⟨l2, 0, none⟩)), (13, .pointer (some ⟨l3, 0, none⟩)), (15, .pointer (some ⟨l4, 0, none⟩)), (18, .int .i64 lf), (19, .int .i64 (((i : Nat) : Int))), (147, .bool true)] ⟨rfl, rfl, rfl, rfl, rfl, rfl, rfl, rfl, rfl, rfl, rfl, rfl, trivial⟩ fun G16 => ?_
      refine k_t (.t rfl rfl) ?_
      refine k_reg ?_
      refine s_val hS26 rfl rfl (r_move rfl (.t rfl rfl)) ?_
      refine s_val hS26 rfl rfl (r_fieldN rfl Try.underlying60 rfl ti30 (by decide) (.t rfl rfl) (qq := 0) rfl) ?_
      refine s_val hS26 rfl rfl (r_load rfl one30 (.t rfl rfl) (St.cell_own (m := 0) rfl rfl)) ?_
      refine s_val hS26 rfl rfl (r_move rfl (.t rfl rfl)) ?_
      refine s_val hS26 rfl rfl (r_ixv (j := i) rfl Try.underlying30 ti56 (.t rfl rfl) (.t rfl rfl) hPA.sl (hPA.len) rfl (by omega)) ?_
      obtain ⟨ea1, ec1, us1, hv1, hx1⟩ := hPA.get2 i (by omega)
      refine s_val hS26 rfl rfl (r_load rfl one56 (.t rfl rfl) (hPA.sl.cell_o oPA hv1)) ?_
      refine s_val hS26 rfl rfl (r_build rfl Try.underlying63 ti63 pl63 (vs := [(3, .slice ea1 ((PA.getD i []).length) ec1)]) ⟨rfl, (.t rfl rfl), trivial⟩ rfl) ?_
      refine s_call rfl rfl rfl (vs := [.agg #[.int .i64 0, .int .i64 0, .string ByteArray.empty, .slice ea1 ((PA.getD i []).length) ec1, .slice none 0 0, .int .i64 0, .int .i64 0, .int .i64 0]]) ⟨(.t rfl rfl), trivial⟩ cb31 (size_ok w11 ea1 ec1 _ ((PA.getD i [])) vPA hx1 (Old.of_old (xs := []) [] oPA hS26 rfl (by decide)) (getr_le hPrA) ) ?_
      rintro _ w12 ⟨sz1, hsz1, hsz2, rfl, ht9⟩
      have hS27 : St w0 [] (fl [[(blk1, .cells #[.slice aPA PA.length cPA, .slice aPB PB.length cPB, .slice aCL CL.length cCL] 60 (0, 0))], (pk d1 m1 D), (pk d2 m2 Dc), (pk d3 m3 Db), (lq l1 d1 (⟨#[106]⟩) RJ), (lq l2 d1 (⟨#[107]⟩) RK), (lq l3 d2 (⟨#[106]⟩) RJ), (lq l4 d3 (⟨#[107]⟩) RK), smd, smc, smb]) w12 := hS26.callL (xs := []) (xs' := []) (zs := []) [] rfl (by decide) ht9 rfl rfl
      refine s_val hS27 rfl rfl (r_arith rfl rfl (.t rfl rfl) (.t rfl rfl) (c := lf - (((sz1 : Nat) : Int))) (w_i64 rfl (by omega) (by omega))) ?_
      refine s_val hS27 rfl rfl (r_assign rfl (.t rfl rfl)) ?_
      refine wpList_nil ?_
      refine x_tn ?_
      refine k_reb [(1, .pointer (some ⟨blk1, 0, none⟩)), (2, .bool false), (3, .pointer (some ⟨d1, 0, none⟩)), (5, .pointer (some ⟨d2, 0, none⟩)), (7, .pointer (some ⟨d3, 0, none⟩)), (9, .pointer (some ⟨l1, 0, none⟩)), (11, .pointer (some ⟨l2, 0, none⟩)), (13, .pointer (some ⟨l3, 0, none⟩)), (15, .pointer (some ⟨l4, 0, none⟩)), (18, .int .i64 (lf - (((sz1 : Nat) : Int)))), (19, .int .i64 (((i : Nat) : Int)))] ⟨rfl, rfl, rfl, rfl, rfl, rfl, rfl, rfl, rfl, rfl, rfl, trivial⟩ fun G17 => ?_
      refine wp_seq ?_
      refine wp_seq ?_
      refine k_reg ?_
      refine s_val hS27 rfl rfl (r_move rfl (.t rfl rfl)) ?_
      refine s_val hS27 rfl rfl (r_fieldN rfl Try.underlying60 rfl ti30 (by decide) (.t rfl rfl) (qq := 1) rfl) ?_
      refine s_val hS27 rfl rfl (r_load rfl one30 (.t rfl rfl) (St.cell_own (m := 0) rfl rfl)) ?_
      refine s_val hS27 rfl rfl (r_len rfl rfl Try.underlying30 (.t rfl rfl)) ?_
      by_cases hiB : i < PB.length
      ·
       refine s_val hS27 rfl rfl (r_cmp_t rfl rfl (.t rfl rfl) (.t rfl rfl) (show ((i : Nat) : Int) < ((PB.length : Nat) : Int) from by omega)) ?_
       refine wpList_nil ?_
       refine x_tn ?_
       refine k_reb [(1, .pointer (some ⟨blk1, 0, none⟩)), (2, .bool false), (3, .pointer (some ⟨d1, 0, none⟩)), (5, .pointer (some ⟨d2, 0, none⟩)), (7, .pointer (some ⟨d3, 0, none⟩)), (9, .pointer (some ⟨l1, 0, none⟩)), (11, .pointer (some ⟨l2, 0, none⟩)), (13, .pointer (some ⟨l3, 0, none⟩)), (15, .pointer (some ⟨l4, 0, none⟩)), (18, .int .i64 (lf - (((sz1 : Nat) : Int)))), (19, .int .i64 (((i : Nat) : Int))), (161, .bool true)] ⟨rfl, rfl, rfl, rfl, rfl, rfl, rfl, rfl, rfl, rfl, rfl, rfl, trivial⟩ fun G18 => ?_
       refine k_t (.t rfl rfl) ?_
       refine k_reg ?_
       refine s_val hS27 rfl rfl (r_move rfl (.t rfl rfl)) ?_
       refine s_val hS27 rfl rfl (r_fieldN rfl Try.underlying60 rfl ti30 (by decide) (.t rfl rfl) (qq := 1) rfl) ?_
       refine s_val hS27 rfl rfl (r_load rfl one30 (.t rfl rfl) (St.cell_own (m := 0) rfl rfl)) ?_
       refine s_val hS27 rfl rfl (r_move rfl (.t rfl rfl)) ?_
       refine s_val hS27 rfl rfl (r_ixv (j := i) rfl Try.underlying30 ti56 (.t rfl rfl) (.t rfl rfl) hPB.sl (hPB.len) rfl (by omega)) ?_
       obtain ⟨ea2, ec2, us2, hv2, hx2⟩ := hPB.get2 i (by omega)
       refine s_val hS27 rfl rfl (r_load rfl one56 (.t rfl rfl) (hPB.sl.cell_o oPB hv2)) ?_
       refine s_val hS27 rfl rfl (r_build rfl Try.underlying63 ti63 pl63 (vs := [(3, .slice ea2 ((PB.getD i []).length) ec2)]) ⟨rfl, (.t rfl rfl), trivial⟩ rfl) ?_
       refine s_call rfl rfl rfl (vs := [.agg #[.int .i64 0, .int .i64 0, .string ByteArray.empty, .slice ea2 ((PB.getD i []).length) ec2, .slice none 0 0, .int .i64 0, .int .i64 0, .int .i64 0]]) ⟨(.t rfl rfl), trivial⟩ cb31 (size_ok w12 ea2 ec2 _ ((PB.getD i [])) vPB hx2 (Old.of_old (xs := []) [] oPB hS27 rfl (by decide)) (getr_le hPrB) ) ?_
       rintro _ w13 ⟨sz2, hsz3, hsz4, rfl, ht10⟩
       have hS28 : St w0 [] (fl [[(blk1, .cells #[.slice aPA PA.length cPA, .slice aPB PB.length cPB, .slice aCL CL.length cCL] 60 (0, 0))], (pk d1 m1 D), (pk d2 m2 Dc), (pk d3 m3 Db), (lq l1 d1 (⟨#[106]⟩) RJ), (lq l2 d1 (⟨#[107]⟩) RK), (lq l3 d2 (⟨#[106]⟩) RJ), (lq l4 d3 (⟨#[107]⟩) RK), smd, smc, smb]) w13 := hS27.callL (xs := []) (xs' := []) (zs := []) [] rfl (by decide) ht10 rfl rfl
       refine s_val hS28 rfl rfl (r_arith rfl rfl (.t rfl rfl) (.t rfl rfl) (c := (lf - (((sz1 : Nat) : Int))) - (((sz2 : Nat) : Int))) (w_i64 rfl (by omega) (by omega))) ?_
       refine s_val hS28 rfl rfl (r_assign rfl (.t rfl rfl)) ?_
       refine wpList_nil ?_
       refine x_tn ?_
       refine k_reb [(1, .pointer (some ⟨blk1, 0, none⟩)), (2, .bool false), (3, .pointer (some ⟨d1, 0, none⟩)), (5, .pointer (some ⟨d2, 0, none⟩)), (7, .pointer (some ⟨d3, 0, none⟩)), (9, .pointer (some ⟨l1, 0, none⟩)), (11, .pointer (some ⟨l2, 0, none⟩)), (13, .pointer (some ⟨l3, 0, none⟩)), (15, .pointer (some ⟨l4, 0, none⟩)), (18, .int .i64 ((lf - (((sz1 : Nat) : Int))) - (((sz2 : Nat) : Int)))), (19, .int .i64 (((i : Nat) : Int)))] ⟨rfl, rfl, rfl, rfl, rfl, rfl, rfl, rfl, rfl, rfl, rfl, trivial⟩ fun G19 => ?_
       refine wp_seq ?_
       refine wp_seq ?_
       refine k_reg ?_
       refine s_val hS28 rfl rfl (r_move rfl (.t rfl rfl)) ?_
       by_cases c3 : (lf - (((sz1 : Nat) : Int))) - (((sz2 : Nat) : Int)) < 0
       ·
        refine s_val hS28 rfl rfl (r_cmp_t rfl rfl (.t rfl rfl) .c (show (lf - (((sz1 : Nat) : Int))) - (((sz2 : Nat) : Int)) < 0 from by omega)) ?_
        refine wpList_nil ?_
        refine x_tn ?_
        refine k_reb [(1, .pointer (some ⟨blk1, 0, none⟩)), (2, .bool false), (3, .pointer (some ⟨d1, 0, none⟩)), (5, .pointer (some ⟨d2, 0, none⟩)), (7, .pointer (some ⟨d3, 0, none⟩)), (9, .pointer (some ⟨l1, 0, none⟩)), (11, .pointer (some ⟨l2, 0, none⟩)), (13, .pointer (some ⟨l3, 0, none⟩)), (15, .pointer (some ⟨l4, 0, none⟩)), (18, .int .i64 ((lf - (((sz1 : Nat) : Int))) - (((sz2 : Nat) : Int)))), (19, .int .i64 (((i : Nat) : Int))), (172, .bool true)] ⟨rfl, rfl, rfl, rfl, rfl, rfl, rfl, rfl, rfl, rfl, rfl, rfl, trivial⟩ fun G20 => ?_
        refine k_t (.t rfl rfl) ?_
        refine wp_exit ?_
        refine x_te ?_
        refine x_bne rfl ?_
        refine x_te ?_
        refine x_te ?_
        refine x_be ?_
        refine x_tn ?_
        refine ⟨_, D, Dc, Db, RJ, RK, smd, smc, smb, k1, k2, k3, k4, fr_reb _ ⟨rfl, rfl, rfl, rfl, rfl, rfl, rfl, trivial⟩, hS28, ?_⟩
        exact ⟨lv_1, lv_2, lv_3, hm1_, hm2_, hm3_, ha_n1, ha_n2, ha_n3, ha_n4, by omega, by omega⟩
       ·
        refine s_val hS28 rfl rfl (r_cmp_f rfl rfl (.t rfl rfl) .c (show ¬ ((lf - (((sz1 : Nat) : Int))) - (((sz2 : Nat) : Int)) < 0) from by omega)) ?_
        refine wpList_nil ?_
        refine x_tn ?_
        refine k_reb [(1, .pointer (some ⟨blk1, 0, none⟩)), (2, .bool false), (3, .pointer (some ⟨d1, 0, none⟩)), (5, .pointer (some ⟨d2, 0, none⟩)), (7, .pointer (some ⟨d3, 0, none⟩)), (9, .pointer (some ⟨l1, 0, none⟩)), (11, .pointer (some ⟨l2, 0, none⟩)), (13, .pointer (some ⟨l3, 0, none⟩)), (15, .pointer (some ⟨l4, 0, none⟩)), (18, .int .i64 ((lf - (((sz1 : Nat) : Int))) - (((sz2 : Nat) : Int)))), (19, .int .i64 (((i : Nat) : Int))), (172, .bool false)] ⟨rfl, rfl, rfl, rfl, rfl, rfl, rfl, rfl, rfl, rfl, rfl, rfl, trivial⟩ fun G21 => ?_
        refine k_f (.t rfl rfl) ?_
        refine wp_skip ?_
        refine x_tn ?_
        refine k_reb [(1, .pointer (some ⟨blk1, 0, none⟩)), (2, .bool false), (3, .pointer (some ⟨d1, 0, none⟩)), (5, .pointer (some ⟨d2, 0, none⟩)), (7, .pointer (some ⟨d3, 0, none⟩)), (9, .pointer (some ⟨l1, 0, none⟩)), (11, .pointer (some ⟨l2, 0, none⟩)), (13, .pointer (some ⟨l3, 0, none⟩)), (15, .pointer (some ⟨l4, 0, none⟩)), (18, .int .i64 ((lf - (((sz1 : Nat) : Int))) - (((sz2 : Nat) : Int)))), (19, .int .i64 (((i : Nat) : Int)))] ⟨rfl, rfl, rfl, rfl, rfl, rfl, rfl, rfl, rfl, rfl, rfl, trivial⟩ fun G22 => ?_
        refine wp_seq ?_
        refine k_reg ?_
        refine s_val hS28 rfl rfl (r_build rfl Try.underlying60 ti60 pl60 (vs := []) trivial rfl) ?_
        refine s_alloc rfl rfl rfl ti60 (cs := #[.slice none 0 0, .slice none 0 0, .slice none 0 0]) rfl hS28 fun blk2 w14 hb2 hB2 hS29 => ?_
        have hS30 : St w0 [] (fl [[(blk1, .cells #[.slice aPA PA.length cPA, .slice aPB PB.length cPB, .slice aCL CL.length cCL] 60 (0, 0))], (pk d1 m1 D), (pk d2 m2 Dc), (pk d3 m3 Db), (lq l1 d1 (⟨#[106]⟩) RJ), (lq l2 d1 (⟨#[107]⟩) RK), (lq l3 d2 (⟨#[106]⟩) RJ), (lq l4 d3 (⟨#[107]⟩) RK), [(blk2, .cells #[.slice none 0 0, .slice none 0 0, .slice none 0 0] 60 (0, 0))], smd, smc, smb]) w14 := hS29.push 8 rfl
        refine s_storeA (m := 8) rfl rfl rfl ti60 (.t rfl rfl) (vs := [.slice none 0 0, .slice none 0 0, .slice none 0 0]) (.t rfl rfl) rfl rfl hS30 rfl (show 3 ≤ 3 from by decide) (c' := #[.slice none 0 0, .slice none 0 0, .slice none 0 0]) rfl (h' := (fl [[(blk1, .cells #[.slice aPA PA.length cPA, .slice aPB PB.length cPB, .slice aCL CL.length cCL] 60 (0, 0))], (pk d1 m1 D), (pk d2 m2 Dc), (pk d3 m3 Db), (lq l1 d1 (⟨#[106]⟩) RJ), (lq l2 d1 (⟨#[107]⟩) RK), (lq l3 d2 (⟨#[106]⟩) RJ), (lq l4 d3 (⟨#[107]⟩) RK), [(blk2, .cells #[.slice none 0 0, .slice none 0 0, .slice none 0 0] 60 (0, 0))], smd, smc, smb])) rfl fun w15 hS31 => ?_
        refine wpList_nil ?_
        refine x_tn ?_
        refine k_reb [(1, .pointer (some ⟨blk1, 0, none⟩)), (2, .bool false), (3, .pointer (some ⟨d1, 0, none⟩)), (5, .pointer (some ⟨d2, 0, none⟩)), (7, .pointer (some ⟨d3, 0, none⟩)), (9, .pointer (some ⟨l1, 0, none⟩)), (11, .pointer (some ⟨l2, 0, none⟩)), (13, .pointer (some ⟨l3, 0, none⟩)), (15, .pointer (some ⟨l4, 0, none⟩)), (18, .int .i64 ((lf - (((sz1 : Nat) : Int))) - (((sz2 : Nat) : Int)))), (19, .int .i64 (((i : Nat) : Int))), (20, .pointer (some ⟨blk2, 0, none⟩))] ⟨rfl, rfl, rfl, rfl, rfl, rfl, rfl, rfl, rfl, rfl, rfl, rfl, trivial⟩ fun G23 => ?_
        refine wp_seq ?_
        refine k_reg ?_
        have hqA := (rowsT_le (rows := PA) (i := i))
        have hzA : (bodyL (rowsT PA i)).length ≤ sz1 := by have := hsz1 (by omega); omega
        have hqB := (rowsT_le (rows := PB) (i := i))
        have hzB : (bodyL (rowsT PB i)).length ≤ sz2 := by have := hsz3 (by omega); omega
        refine s_val hS31 rfl rfl (r_loadA rfl agg60 ti60 rfl (.t rfl rfl) (St.block (m := 0) rfl)) ?_
        refine s_val hS31 rfl rfl (r_move rfl (.t rfl rfl)) ?_
        refine s_val hS31 rfl rfl (r_fieldN rfl Try.underlying60 rfl ti30 (by decide) (.t rfl rfl) (qq := 0) rfl) ?_
        refine s_val hS31 rfl rfl (r_load rfl one30 (.t rfl rfl) (St.cell_own (m := 0) rfl rfl)) ?_
        refine s_val hS31 rfl rfl (r_move rfl (.t rfl rfl)) ?_
        refine s_call rfl rfl rfl (vs := [.agg #[.slice aPA PA.length cPA, .slice aPB PB.length cPB, .slice aCL CL.length cCL], .pointer (some ⟨l1, 0, none⟩), .slice aPA PA.length cPA, .int .i64 (((i : Nat) : Int))]) ⟨(.t rfl rfl), (.t rfl rfl), (.t rfl rfl), (.t rfl rfl), trivial⟩ cb32 (turn_ok w15 _ d1 m1 D lv_1 l1 RJ smd hm1_ (⟨#[106]⟩ : ByteArray) ha_n1 (.slice aPA PA.length cPA) (.slice aPB PB.length cPB) aCL cCL _ CL vCL hCL (Old.of_old (xs := [(lq l1 d1 (⟨#[106]⟩) RJ), (pk d1 m1 D), smd]) [4, 1, 9] oCL hS31 rfl (by decide)) aPA cPA _ PA vPA hPA (Old.of_old (xs := [(lq l1 d1 (⟨#[106]⟩) RJ), (pk d1 m1 D), smd]) [4, 1, 9] oPA hS31 rfl (by decide)) i (by omega) (fun r hr => getr_le hPrA r hr) (fun hlt => ⟨⟨by have := (rowsT_le (rows := PA) (i := i)).2; omega, by omega⟩, by omega⟩) (by omega) (by omega) (hS31.give (xs := [(lq l1 d1 (⟨#[106]⟩) RJ), (pk d1 m1 D), smd]) [4, 1, 9] rfl (by decide))) ?_
        rintro _ w16 ⟨D8, sm8, ks1, tw1, htw1, hup5, rfl, hM8, ht11⟩
        have hS32 : St w0 [] (fl [[(blk1, .cells #[.slice aPA PA.length cPA, .slice aPB PB.length cPB, .slice aCL CL.length cCL] 60 (0, 0))], (pk d1 m1 D8), (pk d2 m2 Dc), (pk d3 m3 Db), (lq l1 d1 (⟨#[106]⟩) (turnR RJ PA i CL)), (lq l2 d1 (⟨#[107]⟩) RK), (lq l3 d2 (⟨#[106]⟩) RJ), (lq l4 d3 (⟨#[107]⟩) RK), [(blk2, .cells #[.slice none 0 0, .slice none 0 0, .slice none 0 0] 60 (0, 0))], sm8, smc, smb]) w16 := hS31.callL (xs := [(lq l1 d1 (⟨#[106]⟩) RJ), (pk d1 m1 D), smd]) (xs' := [(lq l1 d1 (⟨#[106]⟩) (turnR RJ PA i CL)), (pk d1 m1 D8), sm8]) (zs := []) [4, 1, 9] rfl (by decide) ht11 rfl rfl
        have hat3 := (hup5.ne ⟨#[107]⟩ (by decide)).trans ha_n2
        have hu29 := hup5.tot
        have hu30 := hup5.wr
        have hu31 := hup5.room
        have hu32 := hup5.same
        have htl1 := turn_len (RR := RJ) (rows := PA) (i := i) (C := CL)
        refine s_val hS32 rfl rfl (r_lnot rfl (.t rfl rfl)) ?_
        refine s_val hS32 rfl rfl (r_move rfl (.t rfl rfl)) ?_
        refine s_valg hS32 (wanted_of (j := 7) (b := false) (d := 181) rfl rfl rfl rfl) rfl (r_loadA rfl agg60 ti60 rfl (.t rfl rfl) (St.block (m := 8) rfl)) ?_
        refine s_valg hS32 (wanted_of (j := 7) (b := false) (d := 181) rfl rfl rfl rfl) rfl (r_move rfl (.t rfl rfl)) ?_
        refine s_valg hS32 (wanted_of (j := 7) (b := false) (d := 181) rfl rfl rfl rfl) rfl (r_fieldN rfl Try.underlying60 rfl ti30 (by decide) (.t rfl rfl) (qq := 1) rfl) ?_
        refine s_valg hS32 (wanted_of (j := 7) (b := false) (d := 181) rfl rfl rfl rfl) rfl (r_load rfl one30 (.t rfl rfl) (St.cell_own (m := 0) rfl rfl)) ?_
        refine s_valg hS32 (wanted_of (j := 7) (b := false) (d := 181) rfl rfl rfl rfl) rfl (r_move rfl (.t rfl rfl)) ?_
        refine s_callg (wanted_of (j := 7) (b := false) (d := 181) rfl rfl rfl rfl) rfl rfl (vs := [.agg #[.slice none 0 0, .slice none 0 0, .slice none 0 0], .pointer (some ⟨l2, 0, none⟩), .slice aPB PB.length cPB, .int .i64 (((i : Nat) : Int))]) ⟨(.t rfl rfl), (.t rfl rfl), (.t rfl rfl), (.t rfl rfl), trivial⟩ cb32 (turn_ok w16 _ d1 m1 D8 hup5.lv l2 RK sm8 hM8 (⟨#[107]⟩ : ByteArray) hat3 (.slice none 0 0) (.slice none 0 0) none 0 [] [] [] ⟨SlV.nil, trivial⟩ Old.none aPB cPB _ PB vPB hPB (Old.of_old (xs := [(lq l2 d1 (⟨#[107]⟩) RK), (pk d1 m1 D8), sm8]) [5, 1, 9] oPB hS32 rfl (by decide)) i (by omega) (fun r hr => getr_le hPrB r hr) (fun hlt => ⟨⟨by have := (rowsT_le (rows := PB) (i := i)).2; omega, by omega⟩, by omega⟩) (by omega) (by omega) (hS32.give (xs := [(lq l2 d1 (⟨#[107]⟩) RK), (pk d1 m1 D8), sm8]) [5, 1, 9] rfl (by decide))) ?_
        rintro _ w17 ⟨D9, sm9, ks2, tw2, htw2, hup6, rfl, hM9, ht12⟩
        have hS33 : St w0 [] (fl [[(blk1, .cells #[.slice aPA PA.length cPA, .slice aPB PB.length cPB, .slice aCL CL.length cCL] 60 (0, 0))], (pk d1 m1 D9), (pk d2 m2 Dc), (pk d3 m3 Db), (lq l1 d1 (⟨#[106]⟩) (turnR RJ PA i CL)), (lq l2 d1 (⟨#[107]⟩) (turnR RK PB i [])), (lq l3 d2 (⟨#[106]⟩) RJ), (lq l4 d3 (⟨#[107]⟩) RK), [(blk2, .cells #[.slice none 0 0, .slice none 0 0, .slice none 0 0] 60 (0, 0))], sm9, smc, smb]) w17 := hS32.callL (xs := [(lq l2 d1 (⟨#[107]⟩) RK), (pk d1 m1 D8), sm8]) (xs' := [(lq l2 d1 (⟨#[107]⟩) (turnR RK PB i [])), (pk d1 m1 D9), sm9]) (zs := []) [5, 1, 9] rfl (by decide) ht12 rfl rfl
        have hat4 := (hup6.ne ⟨#[106]⟩ (by decide)).trans hup5.at_
        have hu33 := hup6.tot
        have hu34 := hup6.wr
        have hu35 := hup6.room
        have hu36 := hup6.same
        have htl2 := turn_len (RR := RK) (rows := PB) (i := i) (C := [])
        refine s_valg hS33 (wanted_of (j := 7) (b := false) (d := 181) rfl rfl rfl rfl) rfl (r_lnot rfl (.t rfl rfl)) ?_
        refine s_val hS33 rfl rfl (r_pick rfl (.t rfl rfl) (.t rfl rfl)) ?_
        refine s_val hS33 rfl rfl (r_move rfl (.t rfl rfl)) ?_
        refine s_valg hS33 (wanted_of (j := 16) (b := false) (d := 190) rfl rfl rfl rfl) rfl (r_loadA rfl agg60 ti60 rfl (.t rfl rfl) (St.block (m := 0) rfl)) ?_
        refine s_valg hS33 (wanted_of (j := 16) (b := false) (d := 190) rfl rfl rfl rfl) rfl (r_move rfl (.t rfl rfl)) ?_
        refine s_valg hS33 (wanted_of (j := 16) (b := false) (d := 190) rfl rfl rfl rfl) rfl (r_fieldN rfl Try.underlying60 rfl ti30 (by decide) (.t rfl rfl) (qq := 0) rfl) ?_
        refine s_valg hS33 (wanted_of (j := 16) (b := false) (d := 190) rfl rfl rfl rfl) rfl (r_load rfl one30 (.t rfl rfl) (St.cell_own (m := 0) rfl rfl)) ?_
        refine s_valg hS33 (wanted_of (j := 16) (b := false) (d := 190) rfl rfl rfl rfl) rfl (r_move rfl (.t rfl rfl)) ?_
        refine s_callg (wanted_of (j := 16) (b := false) (d := 190) rfl rfl rfl rfl) rfl rfl (vs := [.agg #[.slice aPA PA.length cPA, .slice aPB PB.length cPB, .slice aCL CL.length cCL], .pointer (some ⟨l3, 0, none⟩), .slice aPA PA.length cPA, .int .i64 (((i : Nat) : Int))]) ⟨(.t rfl rfl), (.t rfl rfl), (.t rfl rfl), (.t rfl rfl), trivial⟩ cb32 (turn_ok w17 _ d2 m2 Dc lv_2 l3 RJ smc hm2_ (⟨#[106]⟩ : ByteArray) ha_n3 (.slice aPA PA.length cPA) (.slice aPB PB.length cPB) aCL cCL _ CL vCL hCL (Old.of_old (xs := [(lq l3 d2 (⟨#[106]⟩) RJ), (pk d2 m2 Dc), smc]) [6, 2, 10] oCL hS33 rfl (by decide)) aPA cPA _ PA vPA hPA (Old.of_old (xs := [(lq l3 d2 (⟨#[106]⟩) RJ), (pk d2 m2 Dc), smc]) [6, 2, 10] oPA hS33 rfl (by decide)) i (by omega) (fun r hr => getr_le hPrA r hr) (fun hlt => ⟨⟨by have := (rowsT_le (rows := PA) (i := i)).2; omega, by omega⟩, by omega⟩) (by omega) (by omega) (hS33.give (xs := [(lq l3 d2 (⟨#[106]⟩) RJ), (pk d2 m2 Dc), smc]) [6, 2, 10] rfl (by decide))) ?_
        rintro _ w18 ⟨D10, sm10, ks3, tw3, htw3, hup7, rfl, hM10, ht13⟩
        have hS34 : St w0 [] (fl [[(blk1, .cells #[.slice aPA PA.length cPA, .slice aPB PB.length cPB, .slice aCL CL.length cCL] 60 (0, 0))], (pk d1 m1 D9), (pk d2 m2 D10), (pk d3 m3 Db), (lq l1 d1 (⟨#[106]⟩) (turnR RJ PA i CL)), (lq l2 d1 (⟨#[107]⟩) (turnR RK PB i [])), (lq l3 d2 (⟨#[106]⟩) (turnR RJ PA i CL)), (lq l4 d3 (⟨#[107]⟩) RK), [(blk2, .cells #[.slice none 0 0, .slice none 0 0, .slice none 0 0] 60 (0, 0))], sm9, sm10, smb]) w18 := hS33.callL (xs := [(lq l3 d2 (⟨#[106]⟩) RJ), (pk d2 m2 Dc), smc]) (xs' := [(lq l3 d2 (⟨#[106]⟩) (turnR RJ PA i CL)), (pk d2 m2 D10), sm10]) (zs := []) [6, 2, 10] rfl (by decide) ht13 rfl rfl
        have hu37 := hup7.tot
        have hu38 := hup7.wr
        have hu39 := hup7.room
        have hu40 := hup7.same
        have htl3 := turn_len (RR := RJ) (rows := PA) (i := i) (C := CL)
        refine s_valg hS34 (wanted_of (j := 16) (b := false) (d := 190) rfl rfl rfl rfl) rfl (r_lnot rfl (.t rfl rfl)) ?_
        refine s_val hS34 rfl rfl (r_pick rfl (.t rfl rfl) (.t rfl rfl)) ?_
        refine s_val hS34 rfl rfl (r_move rfl (.t rfl rfl)) ?_
        refine s_valg hS34 (wanted_of (j := 25) (b := false) (d := 199) rfl rfl rfl rfl) rfl (r_loadA rfl agg60 ti60 rfl (.t rfl rfl) (St.block (m := 8) rfl)) ?_
        refine s_valg hS34 (wanted_of (j := 25) (b := false) (d := 199) rfl rfl rfl rfl) rfl (r_move rfl (.t rfl rfl)) ?_
        refine s_valg hS34 (wanted_of (j := 25) (b := false) (d := 199) rfl rfl rfl rfl) rfl (r_fieldN rfl Try.underlying60 rfl ti30 (by decide) (.t rfl rfl) (qq := 1) rfl) ?_
        refine s_valg hS34 (wanted_of (j := 25) (b := false) (d := 199) rfl rfl rfl rfl) rfl (r_load rfl one30 (.t rfl rfl) (St.cell_own (m := 0) rfl rfl)) ?_
        refine s_valg hS34 (wanted_of (j := 25) (b := false) (d := 199) rfl rfl rfl rfl) rfl (r_move rfl (.t rfl rfl)) ?_
        refine s_callg (wanted_of (j := 25) (b := false) (d := 199) rfl rfl rfl rfl) rfl rfl (vs := [.agg #[.slice none 0 0, .slice none 0 0, .slice none 0 0], .pointer (some ⟨l4, 0, none⟩), .slice aPB PB.length cPB, .int .i64 (((i : Nat) : Int))]) ⟨(.t rfl rfl), (.t rfl rfl), (.t rfl rfl), (.t rfl rfl), trivial⟩ cb32 (turn_ok w18 _ d3 m3 Db lv_3 l4 RK smb hm3_ (⟨#[107]⟩ : ByteArray) ha_n4 (.slice none 0 0) (.slice none 0 0) none 0 [] [] [] ⟨SlV.nil, trivial⟩ Old.none aPB cPB _ PB vPB hPB (Old.of_old (xs := [(lq l4 d3 (⟨#[107]⟩) RK), (pk d3 m3 Db), smb]) [7, 3, 11] oPB hS34 rfl (by decide)) i (by omega) (fun r hr => getr_le hPrB r hr) (fun hlt => ⟨⟨by have := (rowsT_le (rows := PB) (i := i)).2; omega, by omega⟩, by omega⟩) (by omega) (by omega) (hS34.give (xs := [(lq l4 d3 (⟨#[107]⟩) RK), (pk d3 m3 Db), smb]) [7, 3, 11] rfl (by decide))) ?_
        rintro _ w19 ⟨D11, sm11, ks4, tw4, htw4, hup8, rfl, hM11, ht14⟩
        have hS35 : St w0 [] (fl [[(blk1, .cells #[.slice aPA PA.length cPA, .slice aPB PB.length cPB, .slice aCL CL.length cCL] 60 (0, 0))], (pk d1 m1 D9), (pk d2 m2 D10), (pk d3 m3 D11), (lq l1 d1 (⟨#[106]⟩) (turnR RJ PA i CL)), (lq l2 d1 (⟨#[107]⟩) (turnR RK PB i [])), (lq l3 d2 (⟨#[106]⟩) (turnR RJ PA i CL)), (lq l4 d3 (⟨#[107]⟩) (turnR RK PB i [])), [(blk2, .cells #[.slice none 0 0, .slice none 0 0, .slice none 0 0] 60 (0, 0))], sm9, sm10, sm11]) w19 := hS34.callL (xs := [(lq l4 d3 (⟨#[107]⟩) RK), (pk d3 m3 Db), smb]) (xs' := [(lq l4 d3 (⟨#[107]⟩) (turnR RK PB i [])), (pk d3 m3 D11), sm11]) (zs := []) [7, 3, 11] rfl (by decide) ht14 rfl rfl
        have hu41 := hup8.tot
        have hu42 := hup8.wr
        have hu43 := hup8.room
        have hu44 := hup8.same
        have htl4 := turn_len (RR := RK) (rows := PB) (i := i) (C := [])
        refine s_valg hS35 (wanted_of (j := 25) (b := false) (d := 199) rfl rfl rfl rfl) rfl (r_lnot rfl (.t rfl rfl)) ?_
        refine s_val hS35 rfl rfl (r_pick rfl (.t rfl rfl) (.t rfl rfl)) ?_
        refine wpList_nil ?_
        refine x_tn ?_
        refine k_reb [(1, .pointer (some ⟨blk1, 0, none⟩)), (2, .bool false), (3, .pointer (some ⟨d1, 0, none⟩)), (5, .pointer (some ⟨d2, 0, none⟩)), (7, .pointer (some ⟨d3, 0, none⟩)), (9, .pointer (some ⟨l1, 0, none⟩)), (11, .pointer (some ⟨l2, 0, none⟩)), (13, .pointer (some ⟨l3, 0, none⟩)), (15, .pointer (some ⟨l4, 0, none⟩)), (18, .int .i64 ((lf - (((sz1 : Nat) : Int))) - (((sz2 : Nat) : Int)))), (19, .int .i64 (((i : Nat) : Int))), (207, .bool false)] ⟨rfl, rfl, rfl, rfl, rfl, rfl, rfl, rfl, rfl, rfl, rfl, rfl, trivial⟩ fun G24 => ?_
        refine k_f (.t rfl rfl) ?_
        refine wp_skip ?_
        refine x_bn ?_
        refine x_tn ?_
        refine k_reb [(1, .pointer (some ⟨blk1, 0, none⟩)), (2, .bool false), (3, .pointer (some ⟨d1, 0, none⟩)), (5, .pointer (some ⟨d2, 0, none⟩)), (7, .pointer (some ⟨d3, 0, none⟩)), (9, .pointer (some ⟨l1, 0, none⟩)), (11, .pointer (some ⟨l2, 0, none⟩)), (13, .pointer (some ⟨l3, 0, none⟩)), (15, .pointer (some ⟨l4, 0, none⟩)), (18, .int .i64 ((lf - (((sz1 : Nat) : Int))) - (((sz2 : Nat) : Int)))), (19, .int .i64 (((i : Nat) : Int)))] ⟨rfl, rfl, rfl, rfl, rfl, rfl, rfl, rfl, rfl, rfl, rfl, trivial⟩ fun G25 => ?_
        refine k_reg ?_
        refine s_val hS35 rfl rfl (r_move rfl (.t rfl rfl)) ?_
        refine s_val hS35 rfl rfl (r_arith rfl rfl (.t rfl rfl) .c (c := ((i + 1 : Nat) : Int)) (wn_i64 (by show (((i : Nat) : Int) : Int) + 1 = _; omega) (by omega))) ?_
        refine s_val hS35 rfl rfl (r_assign rfl (.t rfl rfl)) ?_
        refine wpList_nil ?_
        refine x_tn ?_
        have hS36 : St w0 [] (fl [[(blk1, .cells #[.slice aPA PA.length cPA, .slice aPB PB.length cPB, .slice aCL CL.length cCL] 60 (0, 0))], (pk d1 m1 D9), (pk d2 m2 D10), (pk d3 m3 D11), (lq l1 d1 (⟨#[106]⟩) (turnR RJ PA i CL)), (lq l2 d1 (⟨#[107]⟩) (turnR RK PB i [])), (lq l3 d2 (⟨#[106]⟩) (turnR RJ PA i CL)), (lq l4 d3 (⟨#[107]⟩) (turnR RK PB i [])), sm9, sm10, sm11]) w19 := hS35.pick [0, 1, 2, 3, 4, 5, 6, 7, 9, 10, 11] rfl (by decide)
        refine ⟨40 - (i + 1), by omega, _, i + 1, D9, D10, D11, (turnR RJ PA i CL), (turnR RK PB i []), sm9, sm10, sm11, ks1, ks2, ks3, ks4, ((lf - (((sz1 : Nat) : Int))) - (((sz2 : Nat) : Int))), fr_reb _ ⟨rfl, rfl, rfl, rfl, rfl, rfl, rfl, rfl, rfl, rfl, rfl, trivial⟩, hS36, ?_⟩
        exact ⟨by omega, by omega, hup6.lv, hup7.lv, hup8.lv, hM9, hM10, hM11, hat4, hup6.at_, hup7.at_, hup8.at_, by omega, by omega, by omega, by omega, by omega, by omega, by omega, by omega, by omega, by omega, by omega, by omega⟩
      ·
       refine s_val hS27 rfl rfl (r_cmp_f rfl rfl (.t rfl rfl) (.t rfl rfl) (show ¬ (((i : Nat) : Int) < ((PB.length : Nat) : Int)) from by omega)) ?_
       refine wpList_nil ?_
       refine x_tn ?_
       refine k_reb [(1, .pointer (some ⟨blk1, 0, none⟩)), (2, .bool false), (3, .pointer (some ⟨d1, 0, none⟩)), (5, .pointer (some ⟨d2, 0, none⟩)), (7, .pointer (some ⟨d3, 0, none⟩)), (9, .pointer (some ⟨l1, 0, none⟩)), (11, .pointer (some ⟨l2, 0, none⟩)), (13, .pointer (some ⟨l3, 0, none⟩)), (15, .pointer (some ⟨l4, 0, none⟩)), (18, .int .i64 (lf - (((sz1 : Nat) : Int)))), (19, .int .i64 (((i : Nat) : Int))), (161, .bool false)] ⟨rfl, rfl, rfl, rfl, rfl, rfl, rfl, rfl, rfl, rfl, rfl, rfl, trivial⟩ fun G26 => ?_
       refine k_f (.t rfl rfl) ?_
       refine wp_skip ?_
       refine x_tn ?_
       refine k_reb [(1, .pointer (some ⟨blk1, 0, none⟩)), (2, .bool false), (3, .pointer (some ⟨d1, 0, none⟩)), (5, .pointer (some ⟨d2, 0, none⟩)), (7, .pointer (some ⟨d3, 0, none⟩)), (9, .pointer (some ⟨l1, 0, none⟩)), (11, .pointer (some ⟨l2, 0, none⟩)), (13, .pointer (some ⟨l3, 0, none⟩)), (15, .pointer (some ⟨l4, 0, none⟩)), (18, .int .i64 (lf - (((sz1 : Nat) : Int)))), (19, .int .i64 (((i : Nat) : Int)))] ⟨rfl, rfl, rfl, rfl, rfl, rfl, rfl, rfl, rfl, rfl, rfl, trivial⟩ fun G27 => ?_
       refine wp_seq ?_
       refine wp_seq ?_
       refine k_reg ?_
       refine s_val hS27 rfl rfl (r_move rfl (.t rfl rfl)) ?_
       by_cases c4 : lf - (((sz1 : Nat) : Int)) < 0
       ·
        refine s_val hS27 rfl rfl (r_cmp_t rfl rfl (.t rfl rfl) .c (show lf - (((sz1 : Nat) : Int)) < 0 from by omega)) ?_
        refine wpList_nil ?_
        refine x_tn ?_
        refine k_reb [(1, .pointer (some ⟨blk1, 0, none⟩)), (2, .bool false), (3, .pointer (some ⟨d1, 0, none⟩)), (5, .pointer (some ⟨d2, 0, none⟩)), (7, .pointer (some ⟨d3, 0, none⟩)), (9, .pointer (some ⟨l1, 0, none⟩)), (11, .pointer (some ⟨l2, 0, none⟩)), (13, .pointer (some ⟨l3, 0, none⟩)), (15, .pointer (some ⟨l4, 0, none⟩)), (18, .int .i64 (lf - (((sz1 : Nat) : Int)))), (19, .int .i64 (((i : Nat) : Int))), (172, .bool true)] ⟨rfl, rfl, rfl, rfl, rfl, rfl, rfl, rfl, rfl, rfl, rfl, rfl, trivial⟩ fun G28 => ?_
        refine k_t (.t rfl rfl) ?_
        refine wp_exit ?_
        refine x_te ?_
        refine x_bne rfl ?_
        refine x_te ?_
        refine x_te ?_
        refine x_be ?_
        refine x_tn ?_
        refine ⟨_, D, Dc, Db, RJ, RK, smd, smc, smb, k1, k2, k3, k4, fr_reb _ ⟨rfl, rfl, rfl, rfl, rfl, rfl, rfl, trivial⟩, hS27, ?_⟩
        exact ⟨lv_1, lv_2, lv_3, hm1_, hm2_, hm3_, ha_n1, ha_n2, ha_n3, ha_n4, by omega, by omega⟩
       ·
        refine s_val hS27 rfl rfl (r_cmp_f rfl rfl (.t rfl rfl) .c (show ¬ (lf - (((sz1 : Nat) : Int)) < 0) from by omega)) ?_
        refine wpList_nil ?_
        refine x_tn ?_
        refine k_reb [(1, .pointer (some ⟨blk1, 0, none⟩)), (2, .bool false), (3, .pointer (some ⟨d1, 0, none⟩)), (5, .pointer (some ⟨d2, 0, none⟩)), (7, .pointer (some ⟨d3, 0, none⟩)), (9, .pointer (some ⟨l1, 0, none⟩)), (11, .pointer (some ⟨l2, 0, none⟩)), (13, .pointer (some ⟨l3, 0, none⟩)), (15, .pointer (some ⟨l4, 0, none⟩)), (18, .int .i64 (lf - (((sz1 : Nat) : Int)))), (19, .int .i64 (((i : Nat) : Int))), (172, .bool false)] ⟨rfl, rfl, rfl, rfl, rfl, rfl, rfl, rfl, rfl, rfl, rfl, rfl, trivial⟩ fun G29 => ?_
        refine k_f (.t rfl rfl) ?_
        refine wp_skip ?_
        refine x_tn ?_
        refine k_reb [(1, .pointer (some ⟨blk1, 0, none⟩)), (2, .bool false), (3, .pointer (some ⟨d1, 0, none⟩)), (5, .pointer (some ⟨d2, 0, none⟩)), (7, .pointer (some ⟨d3, 0, none⟩)), (9, .pointer (some ⟨l1, 0, none⟩)), (11, .pointer (some ⟨l2, 0, none⟩)), (13, .pointer (some ⟨l3, 0, none⟩)), (15, .pointer (some ⟨l4, 0, none⟩)), (18, .int .i64 (lf - (((sz1 : Nat) : Int)))), (19, .int .i64 (((i : Nat) : Int)))] ⟨rfl, rfl, rfl, rfl, rfl, rfl, rfl, rfl, rfl, rfl, rfl, trivial⟩ fun G30 => ?_
        refine wp_seq ?_
        refine k_reg ?_
        refine s_val hS27 rfl rfl (r_build rfl Try.underlying60 ti60 pl60 (vs := []) trivial rfl) ?_
        refine s_alloc rfl rfl rfl ti60 (cs := #[.slice none 0 0, .slice none 0 0, .slice none 0 0]) rfl hS27 fun blk3 w20 hb3 hB3 hS37 => ?_
        have hS38 : St w0 [] (fl [[(blk1, .cells #[.slice aPA PA.length cPA, .slice aPB PB.length cPB, .slice aCL CL.length cCL] 60 (0, 0))], (pk d1 m1 D), (pk d2 m2 Dc), (pk d3 m3 Db), (lq l1 d1 (⟨#[106]⟩) RJ), (lq l2 d1 (⟨#[107]⟩) RK), (lq l3 d2 (⟨#[106]⟩) RJ), (lq l4 d3 (⟨#[107]⟩) RK), [(blk3, .cells #[.slice none 0 0, .slice none 0 0, .slice none 0 0] 60 (0, 0))], smd, smc, smb]) w20 := hS37.push 8 rfl
        refine s_storeA (m := 8) rfl rfl rfl ti60 (.t rfl rfl) (vs := [.slice none 0 0, .slice none 0 0, .slice none 0 0]) (.t rfl rfl) rfl rfl hS38 rfl (show 3 ≤ 3 from by decide) (c' := #[.slice none 0 0, .slice none 0 0, .slice none 0 0]) rfl (h' := (fl [[(blk1, .cells #[.slice aPA PA.length cPA, .slice aPB PB.length cPB, .slice aCL CL.length cCL] 60 (0, 0))], (pk d1 m1 D), (pk d2 m2 Dc), (pk d3 m3 Db), (lq l1 d1 (⟨#[106]⟩) RJ), (lq l2 d1 (⟨#[107]⟩) RK), (lq l3 d2 (⟨#[106]⟩) RJ), (lq l4 d3 (⟨#[107]⟩) RK), [(blk3, .cells #[.slice none 0 0, .slice none 0 0, .slice none 0 0] 60 (0, 0))], smd, smc, smb])) rfl fun w21 hS39 => ?_
        refine wpList_nil ?_
        refine x_tn ?_
        refine k_reb [(1, .pointer (some ⟨blk1, 0, none⟩)), (2, .bool false), (3, .pointer (some ⟨d1, 0, none⟩)), (5, .pointer (some ⟨d2, 0, none⟩)), (7, .pointer (some ⟨d3, 0, none⟩)), (9, .pointer (some ⟨l1, 0, none⟩)), (11, .pointer (some ⟨l2, 0, none⟩)), (13, .pointer (some ⟨l3, 0, none⟩)), (15, .pointer (some ⟨l4, 0, none⟩)), (18, .int .i64 (lf - (((sz1 : Nat) : Int)))), (19, .int .i64 (((i : Nat) : Int))), (20, .pointer (some ⟨blk3, 0, none⟩))] ⟨rfl, rfl, rfl, rfl, rfl, rfl, rfl, rfl, rfl, rfl, rfl, rfl, trivial⟩ fun G31 => ?_
        refine wp_seq ?_
        refine k_reg ?_
        have hqA := (rowsT_le (rows := PA) (i := i))
        have hzA : (bodyL (rowsT PA i)).length ≤ sz1 := by have := hsz1 (by omega); omega
        have hqB := (rowsT_le (rows := PB) (i := i))
        have hzB : (bodyL (rowsT PB i)).length ≤ 0 := by rw [rowsT_none (by omega)]; omega
        refine s_val hS39 rfl rfl (r_loadA rfl agg60 ti60 rfl (.t rfl rfl) (St.block (m := 0) rfl)) ?_
        refine s_val hS39 rfl rfl (r_move rfl (.t rfl rfl)) ?_
        refine s_val hS39 rfl rfl (r_fieldN rfl Try.underlying60 rfl ti30 (by decide) (.t rfl rfl) (qq := 0) rfl) ?_
        refine s_val hS39 rfl rfl (r_load rfl one30 (.t rfl rfl) (St.cell_own (m := 0) rfl rfl)) ?_
        refine s_val hS39 rfl rfl (r_move rfl (.t rfl rfl)) ?_
        refine s_call rfl rfl rfl (vs := [.agg #[.slice aPA PA.length cPA, .slice aPB PB.length cPB, .slice aCL CL.length cCL], .pointer (some ⟨l1, 0, none⟩), .slice aPA PA.length cPA, .int .i64 (((i : Nat) : Int))]) ⟨(.t rfl rfl), (.t rfl rfl), (.t rfl rfl), (.t rfl rfl), trivial⟩ cb32 (turn_ok w21 _ d1 m1 D lv_1 l1 RJ smd hm1_ (⟨#[106]⟩ : ByteArray) ha_n1 (.slice aPA PA.length cPA) (.slice aPB PB.length cPB) aCL cCL _ CL vCL hCL (Old.of_old (xs := [(lq l1 d1 (⟨#[106]⟩) RJ), (pk d1 m1 D), smd]) [4, 1, 9] oCL hS39 rfl (by decide)) aPA cPA _ PA vPA hPA (Old.of_old (xs := [(lq l1 d1 (⟨#[106]⟩) RJ), (pk d1 m1 D), smd]) [4, 1, 9] oPA hS39 rfl (by decide)) i (by omega) (fun r hr => getr_le hPrA r hr) (fun hlt => ⟨⟨by have := (rowsT_le (rows := PA) (i := i)).2; omega, by omega⟩, by omega⟩) (by omega) (by omega) (hS39.give (xs := [(lq l1 d1 (⟨#[106]⟩) RJ), (pk d1 m1 D), smd]) [4, 1, 9] rfl (by decide))) ?_
        rintro _ w22 ⟨D12, sm12, ks5, tw5, htw5, hup9, rfl, hM12, ht15⟩
        have hS40 : St w0 [] (fl [[(blk1, .cells #[.slice aPA PA.length cPA, .slice aPB PB.length cPB, .slice aCL CL.length cCL] 60 (0, 0))], (pk d1 m1 D12), (pk d2 m2 Dc), (pk d3 m3 Db), (lq l1 d1 (⟨#[106]⟩) (turnR RJ PA i CL)), (lq l2 d1 (⟨#[107]⟩) RK), (lq l3 d2 (⟨#[106]⟩) RJ), (lq l4 d3 (⟨#[107]⟩) RK), [(blk3, .cells #[.slice none 0 0, .slice none 0 0, .slice none 0 0] 60 (0, 0))], sm12, smc, smb]) w22 := hS39.callL (xs := [(lq l1 d1 (⟨#[106]⟩) RJ), (pk d1 m1 D), smd]) (xs' := [(lq l1 d1 (⟨#[106]⟩) (turnR RJ PA i CL)), (pk d1 m1 D12), sm12]) (zs := []) [4, 1, 9] rfl (by decide) ht15 rfl rfl
        have hat5 := (hup9.ne ⟨#[107]⟩ (by decide)).trans ha_n2
        have hu45 := hup9.tot
        have hu46 := hup9.wr
        have hu47 := hup9.room
        have hu48 := hup9.same
        have htl5 := turn_len (RR := RJ) (rows := PA) (i := i) (C := CL)
        refine s_val hS40 rfl rfl (r_lnot rfl (.t rfl rfl)) ?_
        refine s_val hS40 rfl rfl (r_move rfl (.t rfl rfl)) ?_
        refine s_valg hS40 (wanted_of (j := 7) (b := false) (d := 181) rfl rfl rfl rfl) rfl (r_loadA rfl agg60 ti60 rfl (.t rfl rfl) (St.block (m := 8) rfl)) ?_
        refine s_valg hS40 (wanted_of (j := 7) (b := false) (d := 181) rfl rfl rfl rfl) rfl (r_move rfl (.t rfl rfl)) ?_
        refine s_valg hS40 (wanted_of (j := 7) (b := false) (d := 181) rfl rfl rfl rfl) rfl (r_fieldN rfl Try.underlying60 rfl ti30 (by decide) (.t rfl rfl) (qq := 1) rfl) ?_
        refine s_valg hS40 (wanted_of (j := 7) (b := false) (d := 181) rfl rfl rfl rfl) rfl (r_load rfl one30 (.t rfl rfl) (St.cell_own (m := 0) rfl rfl)) ?_
        refine s_valg hS40 (wanted_of (j := 7) (b := false) (d := 181) rfl rfl rfl rfl) rfl (r_move rfl (.t rfl rfl)) ?_
        refine s_callg (wanted_of (j := 7) (b := false) (d := 181) rfl rfl rfl rfl) rfl rfl (vs := [.agg #[.slice none 0 0, .slice none 0 0, .slice none 0 0], .pointer (some ⟨l2, 0, none⟩), .slice aPB PB.length cPB, .int .i64 (((i : Nat) : Int))]) ⟨(.t rfl rfl), (.t rfl rfl), (.t rfl rfl), (.t rfl rfl), trivial⟩ cb32 (turn_ok w22 _ d1 m1 D12 hup9.lv l2 RK sm12 hM12 (⟨#[107]⟩ : ByteArray) hat5 (.slice none 0 0) (.slice none 0 0) none 0 [] [] [] ⟨SlV.nil, trivial⟩ Old.none aPB cPB _ PB vPB hPB (Old.of_old (xs := [(lq l2 d1 (⟨#[107]⟩) RK), (pk d1 m1 D12), sm12]) [5, 1, 9] oPB hS40 rfl (by decide)) i (by omega) (fun r hr => getr_le hPrB r hr) (fun hlt => ⟨⟨by have := (rowsT_le (rows := PB) (i := i)).2; omega, by omega⟩, by omega⟩) (by omega) (by omega) (hS40.give (xs := [(lq l2 d1 (⟨#[107]⟩) RK), (pk d1 m1 D12), sm12]) [5, 1, 9] rfl (by decide))) ?_
        rintro _ w23 ⟨D13, sm13, ks6, tw6, htw6, hup10, rfl, hM13, ht16⟩
        have hS41 : St w0 [] (fl [[(blk1, .cells #[.slice aPA PA.length cPA, .slice aPB PB.length cPB, .slice aCL CL.length cCL] 60 (0, 0))], (pk d1 m1 D13), (pk d2 m2 Dc), (pk d3 m3 Db), (lq l1 d1 (⟨#[106]⟩) (turnR RJ PA i CL)), (lq l2 d1 (⟨#[107]⟩) (turnR RK PB i [])), (lq l3 d2 (⟨#[106]⟩) RJ), (lq l4 d3 (⟨#[107]⟩) RK), [(blk3, .cells #[.slice none 0 0, .slice none 0 0, .slice none 0 0] 60 (0, 0))], sm13, smc, smb]) w23 := hS40.callL (xs := [(lq l2 d1 (⟨#[107]⟩) RK), (pk d1 m1 D12), sm12]) (xs' := [(lq l2 d1 (⟨#[107]⟩) (turnR RK PB i [])), (pk d1 m1 D13), sm13]) (zs := []) [5, 1, 9] rfl (by decide) ht16 rfl rfl
        have hat6 := (hup10.ne ⟨#[106]⟩ (by decide)).trans hup9.at_
        have hu49 := hup10.tot
        have hu50 := hup10.wr
        have hu51 := hup10.room
        have hu52 := hup10.same
        have htl6 := turn_len (RR := RK) (rows := PB) (i := i) (C := [])
        refine s_valg hS41 (wanted_of (j := 7) (b := false) (d := 181) rfl rfl rfl rfl) rfl (r_lnot rfl (.t rfl rfl)) ?_
        refine s_val hS41 rfl rfl (r_pick rfl (.t rfl rfl) (.t rfl rfl)) ?_
        refine s_val hS41 rfl rfl (r_move rfl (.t rfl rfl)) ?_
        refine s_valg hS41 (wanted_of (j := 16) (b := false) (d := 190) rfl rfl rfl rfl) rfl (r_loadA rfl agg60 ti60 rfl (.t rfl rfl) (St.block (m := 0) rfl)) ?_
        refine s_valg hS41 (wanted_of (j := 16) (b := false) (d := 190) rfl rfl rfl rfl) rfl (r_move rfl (.t rfl rfl)) ?_
        refine s_valg hS41 (wanted_of (j := 16) (b := false) (d := 190) rfl rfl rfl rfl) rfl (r_fieldN rfl Try.underlying60 rfl ti30 (by decide) (.t rfl rfl) (qq := 0) rfl) ?_
        refine s_valg hS41 (wanted_of (j := 16) (b := false) (d := 190) rfl rfl rfl rfl) rfl (r_load rfl one30 (.t rfl rfl) (St.cell_own (m := 0) rfl rfl)) ?_
        refine s_valg hS41 (wanted_of (j := 16) (b := false) (d := 190) rfl rfl rfl rfl) rfl (r_move rfl (.t rfl rfl)) ?_
        refine s_callg (wanted_of (j := 16) (b := false) (d := 190) rfl rfl rfl rfl) rfl rfl (vs := [.agg #[.slice aPA PA.length cPA, .slice aPB PB.length cPB, .slice aCL CL.length cCL], .pointer (some ⟨l3, 0, none⟩), .slice aPA PA.length cPA, .int .i64 (((i : Nat) : Int))]) ⟨(.t rfl rfl), (.t rfl rfl), (.t rfl rfl), (.t rfl rfl), trivial⟩ cb32 (turn_ok w23 _ d2 m2 Dc lv_2 l3 RJ smc hm2_ (⟨#[106]⟩ : ByteArray) ha_n3 (.slice aPA PA.length cPA) (.slice aPB PB.length cPB) aCL cCL _ CL vCL hCL (Old.of_old (xs := [(lq l3 d2 (⟨#[106]⟩) RJ), (pk d2 m2 Dc), smc]) [6, 2, 10] oCL hS41 rfl (by decide)) aPA cPA _ PA vPA hPA (Old.of_old (xs := [(lq l3 d2 (⟨#[106]⟩) RJ), (pk d2 m2 Dc), smc]) [6, 2, 10] oPA hS41 rfl (by decide)) i (by omega) (fun r hr => getr_le hPrA r hr) (fun hlt => ⟨⟨by have := (rowsT_le (rows := PA) (i := i)).2; omega, by omega⟩, by omega⟩) (by omega) (by omega) (hS41.give (xs := [(lq l3 d2 (⟨#[106]⟩) RJ), (pk d2 m2 Dc), smc]) [6, 2, 10] rfl (by decide))) ?_
        rintro _ w24 ⟨D14, sm14, ks7, tw7, htw7, hup11, rfl, hM14, ht17⟩
        have hS42 : St w0 [] (fl [[(blk1, .cells #[.slice aPA PA.length cPA, .slice aPB PB.length cPB, .slice aCL CL.length cCL] 60 (0, 0))], (pk d1 m1 D13), (pk d2 m2 D14), (pk d3 m3 Db), (lq l1 d1 (⟨#[106]⟩) (turnR RJ PA i CL)), (lq l2 d1 (⟨#[107]⟩) (turnR RK PB i [])), (lq l3 d2 (⟨#[106]⟩) (turnR RJ PA i CL)), (lq l4 d3 (⟨#[107]⟩) RK), [(blk3, .cells #[.slice none 0 0, .slice none 0 0, .slice none 0 0] 60 (0, 0))], sm13, sm14, smb]) w24 := hS41.callL (xs := [(lq l3 d2 (⟨#[106]⟩) RJ), (pk d2 m2 Dc), smc]) (xs' := [(lq l3 d2 (⟨#[106]⟩) (turnR RJ PA i CL)), (pk d2 m2 D14), sm14]) (zs := []) [6, 2, 10] rfl (by decide) ht17 rfl rfl
        have hu53 := hup11.tot
        have hu54 := hup11.wr
        have hu55 := hup11.room
        have hu56 := hup11.same
        have htl7 := turn_len (RR := RJ) (rows := PA) (i := i) (C := CL)
        refine s_valg hS42 (wanted_of (j := 16) (b := false) (d := 190) rfl rfl rfl rfl) rfl (r_lnot rfl (.t rfl rfl)) ?_
        refine s_val hS42 rfl rfl (r_pick rfl (.t rfl rfl) (.t rfl rfl)) ?_
        refine s_val hS42 rfl rfl (r_move rfl (.t rfl rfl)) ?_
        refine s_valg hS42 (wanted_of (j := 25) (b := false) (d := 199) rfl rfl rfl rfl) rfl (r_loadA rfl agg60 ti60 rfl (.t rfl rfl) (St.block (m := 8) rfl)) ?_
        refine s_valg hS42 (wanted_of (j := 25) (b := false) (d := 199) rfl rfl rfl rfl) rfl (r_move rfl (.t rfl rfl)) ?_
        refine s_valg hS42 (wanted_of (j := 25) (b := false) (d := 199) rfl rfl rfl rfl) rfl (r_fieldN rfl Try.underlying60 rfl ti30 (by decide) (.t rfl rfl) (qq := 1) rfl) ?_
        refine s_valg hS42 (wanted_of (j := 25) (b := false) (d := 199) rfl rfl rfl rfl) rfl (r_load rfl one30 (.t rfl rfl) (St.cell_own (m := 0) rfl rfl)) ?_
        refine s_valg hS42 (wanted_of (j := 25) (b := false) (d := 199) rfl rfl rfl rfl) rfl (r_move rfl (.t rfl rfl)) ?_
        refine s_callg (wanted_of (j := 25) (b := false) (d := 199) rfl rfl rfl rfl) rfl rfl (vs := [.agg #[.slice none 0 0, .slice none 0 0, .slice none 0 0], .pointer (some ⟨l4, 0, none⟩), .slice aPB PB.length cPB, .int .i64 (((i : Nat) : Int))]) ⟨(.t rfl rfl), (.t rfl rfl), (.t rfl rfl), (.t rfl rfl), trivial⟩ cb32 (turn_ok w24 _ d3 m3 Db lv_3 l4 RK smb hm3_ (⟨#[107]⟩ : ByteArray) ha_n4 (.slice none 0 0) (.slice none 0 0) none 0 [] [] [] ⟨SlV.nil, trivial⟩ Old.none aPB cPB _ PB vPB hPB (Old.of_old (xs := [(lq l4 d3 (⟨#[107]⟩) RK), (pk d3 m3 Db), smb]) [7, 3, 11] oPB hS42 rfl (by decide)) i (by omega) (fun r hr => getr_le hPrB r hr) (fun hlt => ⟨⟨by have := (rowsT_le (rows := PB) (i := i)).2; omega, by omega⟩, by omega⟩) (by omega) (by omega) (hS42.give (xs := [(lq l4 d3 (⟨#[107]⟩) RK), (pk d3 m3 Db), smb]) [7, 3, 11] rfl (by decide))) ?_
        rintro _ w25 ⟨D15, sm15, ks8, tw8, htw8, hup12, rfl, hM15, ht18⟩
        have hS43 : St w0 [] (fl [[(blk1, .cells #[.slice aPA PA.length cPA, .slice aPB PB.length cPB, .slice aCL CL.length cCL] 60 (0, 0))], (pk d1 m1 D13), (pk d2 m2 D14), (pk d3 m3 D15), (lq l1 d1 (⟨#[106]⟩) (turnR RJ PA i CL)), (lq l2 d1 (⟨#[107]⟩) (turnR RK PB i [])), (lq l3 d2 (⟨#[106]⟩) (turnR RJ PA i CL)), (lq l4 d3 (⟨#[107]⟩) (turnR RK PB i [])), [(blk3, .cells #[.slice none 0 0, .slice none 0 0, .slice none 0 0] 60 (0, 0))], sm13, sm14, sm15]) w25 := hS42.callL (xs := [(lq l4 d3 (⟨#[107]⟩) RK), (pk d3 m3 Db), smb]) (xs' := [(lq l4 d3 (⟨#[107]⟩) (turnR RK PB i [])), (pk d3 m3 D15), sm15]) (zs := []) [7, 3, 11] rfl (by decide) ht18 rfl rfl
        have hu57 := hup12.tot
        have hu58 := hup12.wr
        have hu59 := hup12.room
        have hu60 := hup12.same
        have htl8 := turn_len (RR := RK) (rows := PB) (i := i) (C := [])
        refine s_valg hS43 (wanted_of (j := 25) (b := false) (d := 199) rfl rfl rfl rfl) rfl (r_lnot rfl (.t rfl rfl)) ?_
        refine s_val hS43 rfl rfl (r_pick rfl (.t rfl rfl) (.t rfl rfl)) ?_
        refine wpList_nil ?_
        refine x_tn ?_
        refine k_reb [(1, .pointer (some ⟨blk1, 0, none⟩)), (2, .bool false), (3, .pointer (some ⟨d1, 0, none⟩)), (5, .pointer (some ⟨d2, 0, none⟩)), (7, .pointer (some ⟨d3, 0, none⟩)), (9, .pointer (some ⟨l1, 0, none⟩)), (11, .pointer (some ⟨l2, 0, none⟩)), (13, .pointer (some ⟨l3, 0, none⟩)), (15, .pointer (some ⟨l4, 0, none⟩)), (18, .int .i64 (lf - (((sz1 : Nat) : Int)))), (19, .int .i64 (((i : Nat) : Int))), (207, .bool false)] ⟨rfl, rfl, rfl, rfl, rfl, rfl, rfl, rfl, rfl, rfl, rfl, rfl, trivial⟩ fun G32 => ?_
        refine k_f (.t rfl rfl) ?_
        refine wp_skip ?_
        refine x_bn ?_
        refine x_tn ?_
        refine k_reb [(1, .pointer (some ⟨blk1, 0, none⟩)), (2, .bool false), (3, .pointer (some ⟨d1, 0, none⟩)), (5, .pointer (some ⟨d2, 0, none⟩)), (7, .pointer (some ⟨d3, 0, none⟩)), (9, .pointer (some ⟨l1, 0, none⟩)), (11, .pointer (some ⟨l2, 0, none⟩)), (13, .pointer (some ⟨l3, 0, none⟩)), (15, .pointer (some ⟨l4, 0, none⟩)), (18, .int .i64 (lf - (((sz1 : Nat) : Int)))), (19, .int .i64 (((i : Nat) : Int)))] ⟨rfl, rfl, rfl, rfl, rfl, rfl, rfl, rfl, rfl, rfl, rfl, trivial⟩ fun G33 => ?_
        refine k_reg ?_
        refine s_val hS43 rfl rfl (r_move rfl (.t rfl rfl)) ?_
        refine s_val hS43 rfl rfl (r_arith rfl rfl (.t rfl rfl) .c (c := ((i + 1 : Nat) : Int)) (wn_i64 (by show (((i : Nat) : Int) : Int) + 1 = _; omega) (by omega))) ?_
        refine s_val hS43 rfl rfl (r_assign rfl (.t rfl rfl)) ?_
        refine wpList_nil ?_
        refine x_tn ?_
        have hS44 : St w0 [] (fl [[(blk1, .cells #[.slice aPA PA.length cPA, .slice aPB PB.length cPB, .slice aCL CL.length cCL] 60 (0, 0))], (pk d1 m1 D13), (pk d2 m2 D14), (pk d3 m3 D15), (lq l1 d1 (⟨#[106]⟩) (turnR RJ PA i CL)), (lq l2 d1 (⟨#[107]⟩) (turnR RK PB i [])), (lq l3 d2 (⟨#[106]⟩) (turnR RJ PA i CL)), (lq l4 d3 (⟨#[107]⟩) (turnR RK PB i [])), sm13, sm14, sm15]) w25 := hS43.pick [0, 1, 2, 3, 4, 5, 6, 7, 9, 10, 11] rfl (by decide)
        refine ⟨40 - (i + 1), by omega, _, i + 1, D13, D14, D15, (turnR RJ PA i CL), (turnR RK PB i []), sm13, sm14, sm15, ks5, ks6, ks7, ks8, (lf - (((sz1 : Nat) : Int))), fr_reb _ ⟨rfl, rfl, rfl, rfl, rfl, rfl, rfl, rfl, rfl, rfl, rfl, trivial⟩, hS44, ?_⟩
        exact ⟨by omega, by omega, hup10.lv, hup11.lv, hup12.lv, hM13, hM14, hM15, hat6, hup10.at_, hup11.at_, hup12.at_, by omega, by omega, by omega, by omega, by omega, by omega, by omega, by omega, by omega, by omega, by omega, by omega⟩
     ·
      refine s_val hS26 rfl rfl (r_cmp_f rfl rfl (.t rfl rfl) (.t rfl rfl) (show ¬ (((i : Nat) : Int) < ((PA.length : Nat) : Int)) from by omega)) ?_
      refine wpList_nil ?_
      refine x_tn ?_
      refine k_reb [(1, .pointer (some ⟨blk1, 0, none⟩)), (2, .bool false), (3, .pointer (some ⟨d1, 0, none⟩)), (5, .pointer (some ⟨d2, 0, none⟩)), (7, .pointer (some ⟨d3, 0, none⟩)), (9, .pointer (some ⟨l1, 0, none⟩)), (11, .pointer (some ⟨l2, 0, none⟩)), (13, .pointer (some ⟨l3, 0, none⟩)), (15, .pointer (some ⟨l4, 0, none⟩)), (18, .int .i64 lf), (19, .int .i64 (((i : Nat) : Int))), (147, .bool false)] ⟨rfl, rfl, rfl, rfl, rfl, rfl, rfl, rfl, rfl, rfl, rfl, rfl, trivial⟩ fun G34 => ?_
      refine k_f (.t rfl rfl) ?_
      refine wp_skip ?_
      refine x_tn ?_
      refine k_reb [(1, .pointer (some ⟨blk1, 0, none⟩)), (2, .bool false), (3, .pointer (some ⟨d1, 0, none⟩)), (5, .pointer (some ⟨d2, 0, none⟩)), (7, .pointer (some ⟨d3, 0, none⟩)), (9, .pointer (some ⟨l1, 0, none⟩)), (11, .pointer (some ⟨l2, 0, none⟩)), (13, .pointer (some ⟨l3, 0, none⟩)), (15, .pointer (some ⟨l4, 0, none⟩)), (18, .int .i64 lf), (19, .int .i64 (((i : Nat) : Int)))] ⟨rfl, rfl, rfl, rfl, rfl, rfl, rfl, rfl, rfl, rfl, rfl, trivial⟩ fun G35 => ?_
      refine wp_seq ?_
      refine wp_seq ?_
      refine k_reg ?_
      refine s_val hS26 rfl rfl (r_move rfl (.t rfl rfl)) ?_
      refine s_val hS26 rfl rfl (r_fieldN rfl Try.underlying60 rfl ti30 (by decide) (.t rfl rfl) (qq := 1) rfl) ?_
      refine s_val hS26 rfl rfl (r_load rfl one30 (.t rfl rfl) (St.cell_own (m := 0) rfl rfl)) ?_
      refine s_val hS26 rfl rfl (r_len rfl rfl Try.underlying30 (.t rfl rfl)) ?_
      by_cases hiB : i < PB.length
      ·
       refine s_val hS26 rfl rfl (r_cmp_t rfl rfl (.t rfl rfl) (.t rfl rfl) (show ((i : Nat) : Int) < ((PB.length : Nat) : Int) from by omega)) ?_
       refine wpList_nil ?_
       refine x_tn ?_
       refine k_reb [(1, .pointer (some ⟨blk1, 0, none⟩)), (2, .bool false), (3, .pointer (some ⟨d1, 0, none⟩)), (5, .pointer (some ⟨d2, 0, none⟩)), (7, .pointer (some ⟨d3, 0, none⟩)), (9, .pointer (some ⟨l1, 0, none⟩)), (11, .pointer (some ⟨l2, 0, none⟩)), (13, .pointer (some ⟨l3, 0, none⟩)), (15, .pointer (some ⟨l4, 0, none⟩)), (18, .int .i64 lf), (19, .int .i64 (((i : Nat) : Int))), (161, .bool true)] ⟨rfl, rfl, rfl, rfl, rfl, rfl, rfl, rfl, rfl, rfl, rfl, rfl, trivial⟩ fun G36 => ?_
       refine k_t (.t rfl rfl) ?_
       refine k_reg ?_
       refine s_val hS26 rfl rfl (r_move rfl (.t rfl rfl)) ?_
       refine s_val hS26 rfl rfl (r_fieldN rfl Try.underlying60 rfl ti30 (by decide) (.t rfl rfl) (qq := 1) rfl) ?_
       refine s_val hS26 rfl rfl (r_load rfl one30 (.t rfl rfl) (St.cell_own (m := 0) rfl rfl)) ?_
       refine s_val hS26 rfl rfl (r_move rfl (.t rfl rfl)) ?_
       refine s_val hS26 rfl rfl (r_ixv (j := i) rfl Try.underlying30 ti56 (.t rfl rfl) (.t rfl rfl) hPB.sl (hPB.len) rfl (by omega)) ?_
       obtain ⟨ea3, ec3, us3, hv3, hx3⟩ := hPB.get2 i (by omega)
       refine s_val hS26 rfl rfl (r_load rfl one56 (.t rfl rfl) (hPB.sl.cell_o oPB hv3)) ?_
       refine s_val hS26 rfl rfl (r_build rfl Try.underlying63 ti63 pl63 (vs := [(3, .slice ea3 ((PB.getD i []).length) ec3)]) ⟨rfl, (.t rfl rfl), trivial⟩ rfl) ?_
       refine s_call rfl rfl rfl (vs := [.agg #[.int .i64 0, .int .i64 0, .string ByteArray.empty, .slice ea3 ((PB.getD i []).length) ec3, .slice none 0 0, .int .i64 0, .int .i64 0, .int .i64 0]]) ⟨(.t rfl rfl), trivial⟩ cb31 (size_ok w11 ea3 ec3 _ ((PB.getD i [])) vPB hx3 (Old.of_old (xs := []) [] oPB hS26 rfl (by decide)) (getr_le hPrB) ) ?_
       rintro _ w26 ⟨sz3, hsz5, hsz6, rfl, ht19⟩
       have hS45 : St w0 [] (fl [[(blk1, .cells #[.slice aPA PA.length cPA, .slice aPB PB.length cPB, .slice aCL CL.length cCL] 60 (0, 0))], (pk d1 m1 D), (pk d2 m2 Dc), (pk d3 m3 Db), (lq l1 d1 (⟨#[106]⟩) RJ), (lq l2 d1 (⟨#[107]⟩) RK), (lq l3 d2 (⟨#[106]⟩) RJ), (lq l4 d3 (⟨#[107]⟩) RK), smd, smc, smb]) w26 := hS26.callL (xs := []) (xs' := []) (zs := []) [] rfl (by decide) ht19 rfl rfl
       refine s_val hS45 rfl rfl (r_arith rfl rfl (.t rfl rfl) (.t rfl rfl) (c := lf - (((sz3 : Nat) : Int))) (w_i64 rfl (by omega) (by omega))) ?_
       refine s_val hS45 rfl rfl (r_assign rfl (.t rfl rfl)) ?_
       refine wpList_nil ?_
       refine x_tn ?_
       refine k_reb [(1, .pointer (some ⟨blk1, 0, none⟩)), (2, .bool false), (3, .pointer (some ⟨d1, 0, none⟩)), (5, .pointer (some ⟨d2, 0, none⟩)), (7, .pointer (some ⟨d3, 0, none⟩)), (9, .pointer (some ⟨l1, 0, none⟩)), (11, .pointer (some ⟨l2, 0, none⟩)), (13, .pointer (some ⟨l3, 0, none⟩)), (15, .pointer (some ⟨l4, 0, none⟩)), (18, .int .i64 (lf - (((sz3 : Nat) : Int)))), (19, .int .i64 (((i : Nat) : Int)))] ⟨rfl, rfl, rfl, rfl, rfl, rfl, rfl, rfl, rfl, rfl, rfl, trivial⟩ fun G37 => ?_
       refine wp_seq ?_
       refine wp_seq ?_
       refine k_reg ?_
       refine s_val hS45 rfl rfl (r_move rfl (.t rfl rfl)) ?_
       by_cases c5 : lf - (((sz3 : Nat) : Int)) < 0
       ·
        refine s_val hS45 rfl rfl (r_cmp_t rfl rfl (.t rfl rfl) .c (show lf - (((sz3 : Nat) : Int)) < 0 from by omega)) ?_
        refine wpList_nil ?_
        refine x_tn ?_
        refine k_reb [(1, .pointer (some ⟨blk1, 0, none⟩)), (2, .bool false), (3, .pointer (some ⟨d1, 0, none⟩)), (5, .pointer (some ⟨d2, 0, none⟩)), (7, .pointer (some ⟨d3, 0, none⟩)), (9, .pointer (some ⟨l1, 0, none⟩)), (11, .pointer (some ⟨l2, 0, none⟩)), (13, .pointer (some ⟨l3, 0, none⟩)), (15, .pointer (some ⟨l4, 0, none⟩)), (18, .int .i64 (lf - (((sz3 : Nat) : Int)))), (19, .int .i64 (((i : Nat) : Int))), (172, .bool true)] ⟨rfl, rfl, rfl, rfl, rfl, rfl, rfl, rfl, rfl, rfl, rfl, rfl, trivial⟩ fun G38 => ?_
        refine k_t (.t rfl rfl) ?_
        refine wp_exit ?_
        refine x_te ?_
        refine x_bne rfl ?_
        refine x_te ?_
        refine x_te ?_
        refine x_be ?_
        refine x_tn ?_
        refine ⟨_, D, Dc, Db, RJ, RK, smd, smc, smb, k1, k2, k3, k4, fr_reb _ ⟨rfl, rfl, rfl, rfl, rfl, rfl, rfl, trivial⟩, hS45, ?_⟩
        exact ⟨lv_1, lv_2, lv_3, hm1_, hm2_, hm3_, ha_n1, ha_n2, ha_n3, ha_n4, by omega, by omega⟩
       ·
        refine s_val hS45 rfl rfl (r_cmp_f rfl rfl (.t rfl rfl) .c (show ¬ (lf - (((sz3 : Nat) : Int)) < 0) from by omega)) ?_
        refine wpList_nil ?_
        refine x_tn ?_
        refine k_reb [(1, .pointer (some ⟨blk1, 0, none⟩)), (2, .bool false), (3, .pointer (some ⟨d1, 0, none⟩)), (5, .pointer (some ⟨d2, 0, none⟩)), (7, .pointer (some ⟨d3, 0, none⟩)), (9, .pointer (some ⟨l1, 0, none⟩)), (11, .pointer (some ⟨l2, 0, none⟩)), (13, .pointer (some ⟨l3, 0, none⟩)), (15, .pointer (some ⟨l4, 0, none⟩)), (18, .int .i64 (lf - (((sz3 : Nat) : Int)))), (19, .int .i64 (((i : Nat) : Int))), (172, .bool false)] ⟨rfl, rfl, rfl, rfl, rfl, rfl, rfl, rfl, rfl, rfl, rfl, rfl, trivial⟩ fun G39 => ?_
        refine k_f (.t rfl rfl) ?_
        refine wp_skip ?_
        refine x_tn ?_
        refine k_reb [(1, .pointer (some ⟨blk1, 0, none⟩)), (2, .bool false), (3, .pointer (some ⟨d1, 0, none⟩)), (5, .pointer (some ⟨d2, 0, none⟩)), (7, .pointer (some ⟨d3, 0, none⟩)), (9, .pointer (some ⟨l1, 0, none⟩)), (11, .pointer (some ⟨l2, 0, none⟩)), (13, .pointer (some ⟨l3, 0, none⟩)), (15, .pointer (some ⟨l4, 0, none⟩)), (18, .int .i64 (lf - (((sz3 : Nat) : Int)))), (19, .int .i64 (((i : Nat) : Int)))] ⟨rfl, rfl, rfl, rfl, rfl, rfl, rfl, rfl, rfl, rfl, rfl, trivial⟩ fun G40 => ?_
        refine wp_seq ?_
        refine k_reg ?_
        refine s_val hS45 rfl rfl (r_build rfl Try.underlying60 ti60 pl60 (vs := []) trivial rfl) ?_
        refine s_alloc rfl rfl rfl ti60 (cs := #[.slice none 0 0, .slice none 0 0, .slice none 0 0]) rfl hS45 fun blk4 w27 hb4 hB4 hS46 => ?_
        have hS47 : St w0 [] (fl [[(blk1, .cells #[.slice aPA PA.length cPA, .slice aPB PB.length cPB, .slice aCL CL.length cCL] 60 (0, 0))], (pk d1 m1 D), (pk d2 m2 Dc), (pk d3 m3 Db), (lq l1 d1 (⟨#[106]⟩) RJ), (lq l2 d1 (⟨#[107]⟩) RK), (lq l3 d2 (⟨#[106]⟩) RJ), (lq l4 d3 (⟨#[107]⟩) RK), [(blk4, .cells #[.slice none 0 0, .slice none 0 0, .slice none 0 0] 60 (0, 0))], smd, smc, smb]) w27 := hS46.push 8 rfl
        refine s_storeA (m := 8) rfl rfl rfl ti60 (.t rfl rfl) (vs := [.slice none 0 0, .slice none 0 0, .slice none 0 0]) (.t rfl rfl) rfl rfl hS47 rfl (show 3 ≤ 3 from by decide) (c' := #[.slice none 0 0, .slice none 0 0, .slice none 0 0]) rfl (h' := (fl [[(blk1, .cells #[.slice aPA PA.length cPA, .slice aPB PB.length cPB, .slice aCL CL.length cCL] 60 (0, 0))], (pk d1 m1 D), (pk d2 m2 Dc), (pk d3 m3 Db), (lq l1 d1 (⟨#[106]⟩) RJ), (lq l2 d1 (⟨#[107]⟩) RK), (lq l3 d2 (⟨#[106]⟩) RJ), (lq l4 d3 (⟨#[107]⟩) RK), [(blk4, .cells #[.slice none 0 0, .slice none 0 0, .slice none 0 0] 60 (0, 0))], smd, smc, smb])) rfl fun w28 hS48 => ?_
        refine wpList_nil ?_
        refine x_tn ?_
        refine k_reb [(1, .pointer (some ⟨blk1, 0, none⟩)), (2, .bool false), (3, .pointer (some ⟨d1, 0, none⟩)), (5, .pointer (some ⟨d2, 0, none⟩)), (7, .pointer (some ⟨d3, 0, none⟩)), (9, .pointer (some ⟨l1, 0, none⟩)), (11, .pointer (some ⟨l2, 0, none⟩)), (13, .pointer (some ⟨l3, 0, none⟩)), (15, .pointer (some ⟨l4, 0, none⟩)), (18, .int .i64 (lf - (((sz3 : Nat) : Int)))), (19, .int .i64 (((i : Nat) : Int))), (20, .pointer (some ⟨blk4, 0, none⟩))] ⟨rfl, rfl, rfl, rfl, rfl, rfl, rfl, rfl, rfl, rfl, rfl, rfl, trivial⟩ fun G41 => ?_
        refine wp_seq ?_
        refine k_reg ?_
        have hqA := (rowsT_le (rows := PA) (i := i))
        have hzA : (bodyL (rowsT PA i)).length ≤ 0 := by rw [rowsT_none (by omega)]; omega
        have hqB := (rowsT_le (rows := PB) (i := i))
        have hzB : (bodyL (rowsT PB i)).length ≤ sz3 := by have := hsz5 (by omega); omega
        refine s_val hS48 rfl rfl (r_loadA rfl agg60 ti60 rfl (.t rfl rfl) (St.block (m := 0) rfl)) ?_
        refine s_val hS48 rfl rfl (r_move rfl (.t rfl rfl)) ?_
        refine s_val hS48 rfl rfl (r_fieldN rfl Try.underlying60 rfl ti30 (by decide) (.t rfl rfl) (qq := 0) rfl) ?_
        refine s_val hS48 rfl rfl (r_load rfl one30 (.t rfl rfl) (St.cell_own (m := 0) rfl rfl)) ?_
        refine s_val hS48 rfl rfl (r_move rfl (.t rfl rfl)) ?_
        refine s_call rfl rfl rfl (vs := [.agg #[.slice aPA PA.length cPA, .slice aPB PB.length cPB, .slice aCL CL.length cCL], .pointer (some ⟨l1, 0, none⟩), .slice aPA PA.length cPA, .int .i64 (((i : Nat) : Int))]) ⟨(.t rfl rfl), (.t rfl rfl), (.t rfl rfl), (.t rfl rfl), trivial⟩ cb32 (turn_ok w28 _ d1 m1 D lv_1 l1 RJ smd hm1_ (⟨#[106]⟩ : ByteArray) ha_n1 (.slice aPA PA.length cPA) (.slice aPB PB.length cPB) aCL cCL _ CL vCL hCL (Old.of_old (xs := [(lq l1 d1 (⟨#[106]⟩) RJ), (pk d1 m1 D), smd]) [4, 1, 9] oCL hS48 rfl (by decide)) aPA cPA _ PA vPA hPA (Old.of_old (xs := [(lq l1 d1 (⟨#[106]⟩) RJ), (pk d1 m1 D), smd]) [4, 1, 9] oPA hS48 rfl (by decide)) i (by omega) (fun r hr => getr_le hPrA r hr) (fun hlt => ⟨⟨by have := (rowsT_le (rows := PA) (i := i)).2; omega, by omega⟩, by omega⟩) (by omega) (by omega) (hS48.give (xs := [(lq l1 d1 (⟨#[106]⟩) RJ), (pk d1 m1 D), smd]) [4, 1, 9] rfl (by decide))) ?_
        rintro _ w29 ⟨D16, sm16, ks9, tw9, htw9, hup13, rfl, hM16, ht20⟩
        have hS49 : St w0 [] (fl [[(blk1, .cells #[.slice aPA PA.length cPA, .slice aPB PB.length cPB, .slice aCL CL.length cCL] 60 (0, 0))], (pk d1 m1 D16), (pk d2 m2 Dc), (pk d3 m3 Db), (lq l1 d1 (⟨#[106]⟩) (turnR RJ PA i CL)), (lq l2 d1 (⟨#[107]⟩) RK), (lq l3 d2 (⟨#[106]⟩) RJ), (lq l4 d3 (⟨#[107]⟩) RK), [(blk4, .cells #[.slice none 0 0, .slice none 0 0, .slice none 0 0] 60 (0, 0))], sm16, smc, smb]) w29 := hS48.callL (xs := [(lq l1 d1 (⟨#[106]⟩) RJ), (pk d1 m1 D), smd]) (xs' := [(lq l1 d1 (⟨#[106]⟩) (turnR RJ PA i CL)), (pk d1 m1 D16), sm16]) (zs := []) [4, 1, 9] rfl (by decide) ht20 rfl rfl
        have hat7 := (hup13.ne ⟨#[107]⟩ (by decide)).trans ha_n2
        have hu61 := hup13.tot
        have hu62 := hup13.wr
        have hu63 := hup13.room
        have hu64 := hup13.same
        have htl9 := turn_len (RR := RJ) (rows := PA) (i := i) (C := CL)
        refine s_val hS49 rfl rfl (r_lnot rfl (.t rfl rfl)) ?_
        refine s_val hS49 rfl rfl (r_move rfl (.t rfl rfl)) ?_
        refine s_valg hS49 (wanted_of (j := 7) (b := false) (d := 181) rfl rfl rfl rfl) rfl (r_loadA rfl agg60 ti60 rfl (.t rfl rfl) (St.block (m := 8) rfl)) ?_
        refine s_valg hS49 (wanted_of (j := 7) (b := false) (d := 181) rfl rfl rfl rfl) rfl (r_move rfl (.t rfl rfl)) ?_
        refine s_valg hS49 (wanted_of (j := 7) (b := false) (d := 181) rfl rfl rfl rfl) rfl (r_fieldN rfl Try.underlying60 rfl ti30 (by decide) (.t rfl rfl) (qq := 1) rfl) ?_
        refine s_valg hS49 (wanted_of (j := 7) (b := false) (d := 181) rfl rfl rfl rfl) rfl (r_load rfl one30 (.t rfl rfl) (St.cell_own (m := 0) rfl rfl)) ?_
        refine s_valg hS49 (wanted_of (j := 7) (b := false) (d := 181) rfl rfl rfl rfl) rfl (r_move rfl (.t rfl rfl)) ?_
        refine s_callg (wanted_of (j := 7) (b := false) (d := 181) rfl rfl rfl rfl) rfl rfl (vs := [.agg #[.slice none 0 0, .slice none 0 0, .slice none 0 0], .pointer (some ⟨l2, 0, none⟩), .slice aPB PB.length cPB, .int .i64 (((i : Nat) : Int))]) ⟨(.t rfl rfl), (.t rfl rfl), (.t rfl rfl), (.t rfl rfl), trivial⟩ cb32 (turn_ok w29 _ d1 m1 D16 hup13.lv l2 RK sm16 hM16 (⟨#[107]⟩ : ByteArray) hat7 (.slice none 0 0) (.slice none 0 0) none 0 [] [] [] ⟨SlV.nil, trivial⟩ Old.none aPB cPB _ PB vPB hPB (Old.of_old (xs := [(lq l2 d1 (⟨#[107]⟩) RK), (pk d1 m1 D16), sm16]) [5, 1, 9] oPB hS49 rfl (by decide)) i (by omega) (fun r hr => getr_le hPrB r hr) (fun hlt => ⟨⟨by have := (rowsT_le (rows := PB) (i := i)).2; omega, by omega⟩, by omega⟩) (by omega) (by omega) (hS49.give (xs := [(lq l2 d1 (⟨#[107]⟩) RK), (pk d1 m1 D16), sm16]) [5, 1, 9] rfl (by decide))) ?_
        rintro _ w30 ⟨D17, sm17, ks10, tw10, htw10, hup14, rfl, hM17, ht21⟩
        have hS50 : St w0 [] (fl [[(blk1, .cells #[.slice aPA PA.length cPA, .slice aPB PB.length cPB, .slice aCL CL.length cCL] 60 (0, 0))], (pk d1 m1 D17), (pk d2 m2 Dc), (pk d3 m3 Db), (lq l1 d1 (⟨#[106]⟩) (turnR RJ PA i CL)), (lq l2 d1 (⟨#[107]⟩) (turnR RK PB i [])), (lq l3 d2 (⟨#[106]⟩) RJ), (lq l4 d3 (⟨#[107]⟩) RK), [(blk4, .cells #[.slice none 0 0, .slice none 0 0, .slice none 0 0] 60 (0, 0))], sm17, smc, smb]) w30 := hS49.callL (xs := [(lq l2 d1 (⟨#[107]⟩) RK), (pk d1 m1 D16), sm16]) (xs' := [(lq l2 d1 (⟨#[107]⟩) (turnR RK PB i [])), (pk d1 m1 D17), sm17]) (zs := []) [5, 1, 9] rfl (by decide) ht21 rfl rfl
        have hat8 := (hup14.ne ⟨#[106]⟩ (by decide)).trans hup13.at_
        have hu65 := hup14.tot
        have hu66 := hup14.wr
        have hu67 := hup14.room
        have hu68 := hup14.same
        have htl10 := turn_len (RR := RK) (rows := PB) (i := i) (C := [])
        refine s_valg hS50 (wanted_of (j := 7) (b := false) (d := 181) rfl rfl rfl rfl) rfl (r_lnot rfl (.t rfl rfl)) ?_
        refine s_val hS50 rfl rfl (r_pick rfl (.t rfl rfl) (.t rfl rfl)) ?_
        refine s_val hS50 rfl rfl (r_move rfl (.t rfl rfl)) ?_
        refine s_valg hS50 (wanted_of (j := 16) (b := false) (d := 190) rfl rfl rfl rfl) rfl (r_loadA rfl agg60 ti60 rfl (.t rfl rfl) (St.block (m := 0) rfl)) ?_
        refine s_valg hS50 (wanted_of (j := 16) (b := false) (d := 190) rfl rfl rfl rfl) rfl (r_move rfl (.t rfl rfl)) ?_
        refine s_valg hS50 (wanted_of (j := 16) (b := false) (d := 190) rfl rfl rfl rfl) rfl (r_fieldN rfl Try.underlying60 rfl ti30 (by decide) (.t rfl rfl) (qq := 0) rfl) ?_
        refine s_valg hS50 (wanted_of (j := 16) (b := false) (d := 190) rfl rfl rfl rfl) rfl (r_load rfl one30 (.t rfl rfl) (St.cell_own (m := 0) rfl rfl)) ?_
        refine s_valg hS50 (wanted_of (j := 16) (b := false) (d := 190) rfl rfl rfl rfl) rfl (r_move rfl (.t rfl rfl)) ?_
        refine s_callg (wanted_of (j := 16) (b := false) (d := 190) rfl rfl rfl rfl) rfl rfl (vs := [.agg #[.slice aPA PA.length cPA, .slice aPB PB.length cPB, .slice aCL CL.length cCL], .pointer (some ⟨l3, 0, none⟩), .slice aPA PA.length cPA, .int .i64 (((i : Nat) : Int))]) ⟨(.t rfl rfl), (.t rfl rfl), (.t rfl rfl), (.t rfl rfl), trivial⟩ cb32 (turn_ok w30 _ d2 m2 Dc lv_2 l3 RJ smc hm2_ (⟨#[106]⟩ : ByteArray) ha_n3 (.slice aPA PA.length cPA) (.slice aPB PB.length cPB) aCL cCL _ CL vCL hCL (Old.of_old (xs := [(lq l3 d2 (⟨#[106]⟩) RJ), (pk d2 m2 Dc), smc]) [6, 2, 10] oCL hS50 rfl (by decide)) aPA cPA _ PA vPA hPA (Old.of_old (xs := [(lq l3 d2 (⟨#[106]⟩) RJ), (pk d2 m2 Dc), smc]) [6, 2, 10] oPA hS50 rfl (by decide)) i (by omega) (fun r hr => getr_le hPrA r hr) (fun hlt => ⟨⟨by have := (rowsT_le (rows := PA) (i := i)).2; omega, by omega⟩, by omega⟩) (by omega) (by omega) (hS50.give (xs := [(lq l3 d2 (⟨#[106]⟩) RJ), (pk d2 m2 Dc), smc]) [6, 2, 10] rfl (by decide))) ?_
        rintro _ w31 ⟨D18, sm18, ks11, tw11, htw11, hup15, rfl, hM18, ht22⟩
        have hS51 : St w0 [] (fl [[(blk1, .cells #[.slice aPA PA.length cPA, .slice aPB PB.length cPB, .slice aCL CL.length cCL] 60 (0, 0))], (pk d1 m1 D17), (pk d2 m2 D18), (pk d3 m3 Db), (lq l1 d1 (⟨#[106]⟩) (turnR RJ PA i CL)), (lq l2 d1 (⟨#[107]⟩) (turnR RK PB i [])), (lq l3 d2 (⟨#[106]⟩) (turnR RJ PA i CL)), (lq l4 d3 (⟨#[107]⟩) RK), [(blk4, .cells #[.slice none 0 0, .slice none 0 0, .slice none 0 0] 60 (0, 0))], sm17, sm18, smb]) w31 := hS50.callL (xs := [(lq l3 d2 (⟨#[106]⟩) RJ), (pk d2 m2 Dc), smc]) (xs' := [(lq l3 d2 (⟨#[106]⟩) (turnR RJ PA i CL)), (pk d2 m2 D18), sm18]) (zs := []) [6, 2, 10] rfl (by decide) ht22 rfl rfl
        have hu69 := hup15.tot
        have hu70 := hup15.wr
        have hu71 := hup15.room
        have hu72 := hup15.same
        have htl11 := turn_len (RR := RJ) (rows := PA) (i := i) (C := CL)
        refine s_valg hS51 (wanted_of (j := 16) (b := false) (d := 190) rfl rfl rfl rfl) rfl (r_lnot rfl (.t rfl rfl)) ?_
        refine s_val hS51 rfl rfl (r_pick rfl (.t rfl rfl) (.t rfl rfl)) ?_
        refine s_val hS51 rfl rfl (r_move rfl (.t rfl rfl)) ?_
        refine s_valg hS51 (wanted_of (j := 25) (b := false) (d := 199) rfl rfl rfl rfl) rfl (r_loadA rfl agg60 ti60 rfl (.t rfl rfl) (St.block (m := 8) rfl)) ?_
        refine s_valg hS51 (wanted_of (j := 25) (b := false) (d := 199) rfl rfl rfl rfl) rfl (r_move rfl (.t rfl rfl)) ?_
        refine s_valg hS51 (wanted_of (j := 25) (b := false) (d := 199) rfl rfl rfl rfl) rfl (r_fieldN rfl Try.underlying60 rfl ti30 (by decide) (.t rfl rfl) (qq := 1) rfl) ?_
        refine s_valg hS51 (wanted_of (j := 25) (b := false) (d := 199) rfl rfl rfl rfl) rfl (r_load rfl one30 (.t rfl rfl) (St.cell_own (m := 0) rfl rfl)) ?_
        refine s_valg hS51 (wanted_of (j := 25) (b := false) (d := 199) rfl rfl rfl rfl) rfl (r_move rfl (.t rfl rfl)) ?_
        refine s_callg (wanted_of (j := 25) (b := false) (d := 199) rfl rfl rfl rfl) rfl rfl (vs := [.agg #[.slice none 0 0, .slice none 0 0, .slice none 0 0], .pointer (some ⟨l4, 0, none⟩), .slice aPB PB.length cPB, .int .i64 (((i : Nat) : Int))]) ⟨(.t rfl rfl), (.t rfl rfl), (.t rfl rfl), (.t rfl rfl), trivial⟩ cb32 (turn_ok w31 _ d3 m3 Db lv_3 l4 RK smb hm3_ (⟨#[107]⟩ : ByteArray) ha_n4 (.slice none 0 0) (.slice none 0 0) none 0 [] [] [] ⟨SlV.nil, trivial⟩ Old.none aPB cPB _ PB vPB hPB (Old.of_old (xs := [(lq l4 d3 (⟨#[107]⟩) RK), (pk d3 m3 Db), smb]) [7, 3, 11] oPB hS51 rfl (by decide)) i (by omega) (fun r hr => getr_le hPrB r hr) (fun hlt => ⟨⟨by have := (rowsT_le (rows := PB) (i := i)).2; omega, by omega⟩, by omega⟩) (by omega) (by omega) (hS51.give (xs := [(lq l4 d3 (⟨#[107]⟩) RK), (pk d3 m3 Db), smb]) [7, 3, 11] rfl (by decide))) ?_
        rintro _ w32 ⟨D19, sm19, ks12, tw12, htw12, hup16, rfl, hM19, ht23⟩
        have hS52 : St w0 [] (fl [[(blk1, .cells #[.slice aPA PA.length cPA, .slice aPB PB.length cPB, .slice aCL CL.length cCL] 60 (0, 0))], (pk d1 m1 D17), (pk d2 m2 D18), (pk d3 m3 D19), (lq l1 d1 (⟨#[106]⟩) (turnR RJ PA i CL)), (lq l2 d1 (⟨#[107]⟩) (turnR RK PB i [])), (lq l3 d2 (⟨#[106]⟩) (turnR RJ PA i CL)), (lq l4 d3 (⟨#[107]⟩) (turnR RK PB i [])), [(blk4, .cells #[.slice none 0 0, .slice none 0 0, .slice none 0 0] 60 (0, 0))], sm17, sm18, sm19]) w32 := hS51.callL (xs := [(lq l4 d3 (⟨#[107]⟩) RK), (pk d3 m3 Db), smb]) (xs' := [(lq l4 d3 (⟨#[107]⟩) (turnR RK PB i [])), (pk d3 m3 D19), sm19]) (zs := []) [7, 3, 11] rfl (by decide) ht23 rfl rfl
        have hu73 := hup16.tot
        have hu74 := hup16.wr
        have hu75 := hup16.room
        have hu76 := hup16.same
        have htl12 := turn_len (RR := RK) (rows := PB) (i := i) (C := [])
        refine s_valg hS52 (wanted_of (j := 25) (b := false) (d := 199) rfl rfl rfl rfl) rfl (r_lnot rfl (.t rfl rfl)) ?_
        refine s_val hS52 rfl rfl (r_pick rfl (.t rfl rfl) (.t rfl rfl)) ?_
        refine wpList_nil ?_
        refine x_tn ?_
        refine k_reb [(1, .pointer (some ⟨blk1, 0, none⟩)), (2, .bool false), (3, .pointer (some ⟨d1, 0, none⟩)), (5, .pointer (some ⟨d2, 0, none⟩)), (7, .pointer (some ⟨d3, 0, none⟩)), (9, .pointer (some ⟨l1, 0, none⟩)), (11, .pointer (some ⟨l2, 0, none⟩)), (13, .pointer (some ⟨l3, 0, none⟩)), (15, .pointer (some ⟨l4, 0, none⟩)), (18, .int .i64 (lf - (((sz3 : Nat) : Int)))), (19, .int .i64 (((i : Nat) : Int))), (207, .bool false)] ⟨rfl, rfl, rfl, rfl, rfl, rfl, rfl, rfl, rfl, rfl, rfl, rfl, trivial⟩ fun G42 => ?_
        refine k_f (.t rfl rfl) ?_
        refine wp_skip ?_
        refine x_bn ?_
        refine x_tn ?_
        refine k_reb [(1, .pointer (some ⟨blk1, 0, none⟩)), (2, .bool false), (3, .pointer (some ⟨d1, 0, none⟩)), (5, .pointer (some ⟨d2, 0, none⟩)), (7, .pointer (some ⟨d3, 0, none⟩)), (9, .pointer (some ⟨l1, 0, none⟩)), (11, .pointer (some ⟨l2, 0, none⟩)), (13, .pointer (some ⟨l3, 0, none⟩)), (15, .pointer (some ⟨l4, 0, none⟩)), (18, .int .i64 (lf - (((sz3 : Nat) : Int)))), (19, .int .i64 (((i : Nat) : Int)))] ⟨rfl, rfl, rfl, rfl, rfl, rfl, rfl, rfl, rfl, rfl, rfl, trivial⟩ fun G43 => ?_
        refine k_reg ?_
        refine s_val hS52 rfl rfl (r_move rfl (.t rfl rfl)) ?_
        refine s_val hS52 rfl rfl (r_arith rfl rfl (.t rfl rfl) .c (c := ((i + 1 : Nat) : Int)) (wn_i64 (by show (((i : Nat) : Int) : Int) + 1 = _; omega) (by omega))) ?_
        refine s_val hS52 rfl rfl (r_assign rfl (.t rfl rfl)) ?_
        refine wpList_nil ?_
        refine x_tn ?_
        have hS53 : St w0 [] (fl [[(blk1, .cells #[.slice aPA PA.length cPA, .slice aPB PB.length cPB, .slice aCL CL.length cCL] 60 (0, 0))], (pk d1 m1 D17), (pk d2 m2 D18), (pk d3 m3 D19), (lq l1 d1 (⟨#[106]⟩) (turnR RJ PA i CL)), (lq l2 d1 (⟨#[107]⟩) (turnR RK PB i [])), (lq l3 d2 (⟨#[106]⟩) (turnR RJ PA i CL)), (lq l4 d3 (⟨#[107]⟩) (turnR RK PB i [])), sm17, sm18, sm19]) w32 := hS52.pick [0, 1, 2, 3, 4, 5, 6, 7, 9, 10, 11] rfl (by decide)
        refine ⟨40 - (i + 1), by omega, _, i + 1, D17, D18, D19, (turnR RJ PA i CL), (turnR RK PB i []), sm17, sm18, sm19, ks9, ks10, ks11, ks12, (lf - (((sz3 : Nat) : Int))), fr_reb _ ⟨rfl, rfl, rfl, rfl, rfl, rfl, rfl, rfl, rfl, rfl, rfl, trivial⟩, hS53, ?_⟩
        exact ⟨by omega, by omega, hup14.lv, hup15.lv, hup16.lv, hM17, hM18, hM19, hat8, hup14.at_, hup15.at_, hup16.at_, by omega, by omega, by omega, by omega, by omega, by omega, by omega, by omega, by omega, by omega, by omega, by omega⟩
      ·
       refine s_val hS26 rfl rfl (r_cmp_f rfl rfl (.t rfl rfl) (.t rfl rfl) (show ¬ (((i : Nat) : Int) < ((PB.length : Nat) : Int)) from by omega)) ?_
       refine wpList_nil ?_
       refine x_tn ?_
       refine k_reb [(1, .pointer (some ⟨blk1, 0, none⟩)), (2, .bool false), (3, .pointer (some ⟨d1, 0, none⟩)), (5, .pointer (some ⟨d2, 0, none⟩)), (7, .pointer (some ⟨d3, 0, none⟩)), (9, .pointer (some ⟨l1, 0, none⟩)), (11, .pointer (some ⟨l2, 0, none⟩)), (13, .pointer (some ⟨l3, 0, none⟩)), (15, .pointer (some ⟨l4, 0, none⟩)), (18, .int .i64 lf), (19, .int .i64 (((i : Nat) : Int))), (161, .bool false)] ⟨rfl, rfl, rfl, rfl, rfl, rfl, rfl, rfl, rfl, rfl, rfl, rfl, trivial⟩ fun G44 => ?_
       refine k_f (.t rfl rfl) ?_
       refine wp_skip ?_
       refine x_tn ?_
       refine k_reb [(1, .pointer (some ⟨blk1, 0, none⟩)), (2, .bool false), (3, .pointer (some ⟨d1, 0, none⟩)), (5, .pointer (some ⟨d2, 0, none⟩)), (7, .pointer (some ⟨d3, 0, none⟩)), (9, .pointer (some ⟨l1, 0, none⟩)), (11, .pointer (some ⟨l2, 0, none⟩)), (13, .pointer (some ⟨l3, 0, none⟩)), (15, .pointer (some ⟨l4, 0, none⟩)), (18, .int .i64 lf), (19, .int .i64 (((i : Nat) : Int)))] ⟨rfl, rfl, rfl, rfl, rfl, rfl, rfl, rfl, rfl, rfl, rfl, trivial⟩ fun G45 => ?_
       refine wp_seq ?_
       refine wp_seq ?_
       refine k_reg ?_
       refine s_val hS26 rfl rfl (r_move rfl (.t rfl rfl)) ?_
       by_cases c6 : lf < 0
       ·
        refine s_val hS26 rfl rfl (r_cmp_t rfl rfl (.t rfl rfl) .c (show lf < 0 from by omega)) ?_
        refine wpList_nil ?_
        refine x_tn ?_
        refine k_reb [(1, .pointer (some ⟨blk1, 0, none⟩)), (2, .bool false), (3, .pointer (some ⟨d1, 0, none⟩)), (5, .pointer (some ⟨d2, 0, none⟩)), (7, .pointer (some ⟨d3, 0, none⟩)), (9, .pointer (some ⟨l1, 0, none⟩)), (11, .pointer (some ⟨l2, 0, none⟩)), (13, .pointer (some ⟨l3, 0, none⟩)), (15, .pointer (some ⟨l4, 0, none⟩)), (18, .int .i64 lf), (19, .int .i64 (((i : Nat) : Int))), (172, .bool true)] ⟨rfl, rfl, rfl, rfl, rfl, rfl, rfl, rfl, rfl, rfl, rfl, rfl, trivial⟩ fun G46 => ?_
        refine k_t (.t rfl rfl) ?_
        refine wp_exit ?_
        refine x_te ?_
        refine x_bne rfl ?_
        refine x_te ?_
        refine x_te ?_
        refine x_be ?_
        refine x_tn ?_
        refine ⟨_, D, Dc, Db, RJ, RK, smd, smc, smb, k1, k2, k3, k4, fr_reb _ ⟨rfl, rfl, rfl, rfl, rfl, rfl, rfl, trivial⟩, hS26, ?_⟩
        exact ⟨lv_1, lv_2, lv_3, hm1_, hm2_, hm3_, ha_n1, ha_n2, ha_n3, ha_n4, by omega, by omega⟩
       ·
        refine s_val hS26 rfl rfl (r_cmp_f rfl rfl (.t rfl rfl) .c (show ¬ (lf < 0) from by omega)) ?_
        refine wpList_nil ?_
        refine x_tn ?_
        refine k_reb [(1, .pointer (some ⟨blk1, 0, none⟩)), (2, .bool false), (3, .pointer (some ⟨d1, 0, none⟩)), (5, .pointer (some ⟨d2, 0, none⟩)), (7, .pointer (some ⟨d3, 0, none⟩)), (9, .pointer (some ⟨l1, 0, none⟩)), (11, .pointer (some ⟨l2, 0, none⟩)), (13, .pointer (some ⟨l3, 0, none⟩)), (15, .pointer (some ⟨l4, 0, none⟩)), (18, .int .i64 lf), (19, .int .i64 (((i : Nat) : Int))), (172, .bool false)] ⟨rfl, rfl, rfl, rfl, rfl, rfl, rfl, rfl, rfl, rfl, rfl, rfl, trivial⟩ fun G47 => ?_
        refine k_f (.t rfl rfl) ?_
        refine wp_skip ?_
        refine x_tn ?_
        refine k_reb [(1, .pointer (some ⟨blk1, 0, none⟩)), (2, .bool false), (3, .pointer (some ⟨d1, 0, none⟩)), (5, .pointer (some ⟨d2, 0, none⟩)), (7, .pointer (some ⟨d3, 0, none⟩)), (9, .pointer (some ⟨l1, 0, none⟩)), (11, .pointer (some ⟨l2, 0, none⟩)), (13, .pointer (some ⟨l3, 0, none⟩)), (15, .pointer (some ⟨l4, 0, none⟩)), (18, .int .i64 lf), (19, .int .i64 (((i : Nat) : Int)))] ⟨rfl, rfl, rfl, rfl, rfl, rfl, rfl, rfl, rfl, rfl, rfl, trivial⟩ fun G48 => ?_
        refine wp_seq ?_
        refine k_reg ?_
        refine s_val hS26 rfl rfl (r_build rfl Try.underlying60 ti60 pl60 (vs := []) trivial rfl) ?_
        refine s_alloc rfl rfl rfl ti60 (cs := #[.slice none 0 0, .slice none 0 0, .slice none 0 0]) rfl hS26 fun blk5 w33 hb5 hB5 hS54 => ?_
        have hS55 : St w0 [] (fl [[(blk1, .cells #[.slice aPA PA.length cPA, .slice aPB PB.length cPB, .slice aCL CL.length cCL] 60 (0, 0))], (pk d1 m1 D), (pk d2 m2 Dc), (pk d3 m3 Db), (lq l1 d1 (⟨#[106]⟩) RJ), (lq l2 d1 (⟨#[107]⟩) RK), (lq l3 d2 (⟨#[106]⟩) RJ), (lq l4 d3 (⟨#[107]⟩) RK), [(blk5, .cells #[.slice none 0 0, .slice none 0 0, .slice none 0 0] 60 (0, 0))], smd, smc, smb]) w33 := hS54.push 8 rfl
        refine s_storeA (m := 8) rfl rfl rfl ti60 (.t rfl rfl) (vs := [.slice none 0 0, .slice none 0 0, .slice none 0 0]) (.t rfl rfl) rfl rfl hS55 rfl (show 3 ≤ 3 from by decide) (c' := #[.slice none 0 0, .slice none 0 0, .slice none 0 0]) rfl (h' := (fl [[(blk1, .cells #[.slice aPA PA.length cPA, .slice aPB PB.length cPB, .slice aCL CL.length cCL] 60 (0, 0))], (pk d1 m1 D), (pk d2 m2 Dc), (pk d3 m3 Db), (lq l1 d1 (⟨#[106]⟩) RJ), (lq l2 d1 (⟨#[107]⟩) RK), (lq l3 d2 (⟨#[106]⟩) RJ), (lq l4 d3 (⟨#[107]⟩) RK), [(blk5, .cells #[.slice none 0 0, .slice none 0 0, .slice none 0 0] 60 (0, 0))], smd, smc, smb])) rfl fun w34 hS56 => ?_
        refine wpList_nil ?_
        refine x_tn ?_
        refine k_reb [(1, .pointer (some ⟨blk1, 0, none⟩)), (2, .bool false), (3, .pointer (some ⟨d1, 0, none⟩)), (5, .pointer (some ⟨d2, 0, none⟩)), (7, .pointer (some ⟨d3, 0, none⟩)), (9, .pointer (some ⟨l1, 0, none⟩)), (11, .pointer (some ⟨l2, 0, none⟩)), (13, .pointer (some ⟨l3, 0, none⟩)), (15, .pointer (some ⟨l4, 0, none⟩)), (18, .int .i64 lf), (19, .int .i64 (((i : Nat) : Int))), (20, .pointer (some ⟨blk5, 0, none⟩))] ⟨rfl, rfl, rfl, rfl, rfl, rfl, rfl, rfl, rfl, rfl, rfl, rfl, trivial⟩ fun G49 => ?_
        refine wp_seq ?_
        refine k_reg ?_
        have hqA := (rowsT_le (rows := PA) (i := i))
        have hzA : (bodyL (rowsT PA i)).length ≤ 0 := by rw [rowsT_none (by omega)]; omega
        have hqB := (rowsT_le (rows := PB) (i := i))
        have hzB : (bodyL (rowsT PB i)).length ≤ 0 := by rw [rowsT_none (by omega)]; omega
        refine s_val hS56 rfl rfl (r_loadA rfl agg60 ti60 rfl (.t rfl rfl) (St.block (m := 0) rfl)) ?_
        refine s_val hS56 rfl rfl (r_move rfl (.t rfl rfl)) ?_
        refine s_val hS56 rfl rfl (r_fieldN rfl Try.underlying60 rfl ti30 (by decide) (.t rfl rfl) (qq := 0) rfl) ?_
        refine s_val hS56 rfl rfl (r_load rfl one30 (.t rfl rfl) (St.cell_own (m := 0) rfl rfl)) ?_
        refine s_val hS56 rfl rfl (r_move rfl (.t rfl rfl)) ?_
        refine s_call rfl rfl rfl (vs := [.agg #[.slice aPA PA.length cPA, .slice aPB PB.length cPB, .slice aCL CL.length cCL], .pointer (some ⟨l1, 0, none⟩), .slice aPA PA.length cPA, .int .i64 (((i : Nat) : Int))]) ⟨(.t rfl rfl), (.t rfl rfl), (.t rfl rfl), (.t rfl rfl), trivial⟩ cb32 (turn_ok w34 _ d1 m1 D lv_1 l1 RJ smd hm1_ (⟨#[106]⟩ : ByteArray) ha_n1 (.slice aPA PA.length cPA) (.slice aPB PB.length cPB) aCL cCL _ CL vCL hCL (Old.of_old (xs := [(lq l1 d1 (⟨#[106]⟩) RJ), (pk d1 m1 D), smd]) [4, 1, 9] oCL hS56 rfl (by decide)) aPA cPA _ PA vPA hPA (Old.of_old (xs := [(lq l1 d1 (⟨#[106]⟩) RJ), (pk d1 m1 D), smd]) [4, 1, 9] oPA hS56 rfl (by decide)) i (by omega) (fun r hr => getr_le hPrA r hr) (fun hlt => ⟨⟨by have := (rowsT_le (rows := PA) (i := i)).2; omega, by omega⟩, by omega⟩) (by omega) (by omega) (hS56.give (xs := [(lq l1 d1 (⟨#[106]⟩) RJ), (pk d1 m1 D), smd]) [4, 1, 9] rfl (by decide))) ?_
        rintro _ w35 ⟨D20, sm20, ks13, tw13, htw13, hup17, rfl, hM20, ht24⟩
        have hS57 : St w0 [] (fl [[(blk1, .cells #[.slice aPA PA.length cPA, .slice aPB PB.length cPB, .slice aCL CL.length cCL] 60 (0, 0))], (pk d1 m1 D20), (pk d2 m2 Dc), (pk d3 m3 Db), (lq l1 d1 (⟨#[106]⟩) (turnR RJ PA i CL)), (lq l2 d1 (⟨#[107]⟩) RK), (lq l3 d2 (⟨#[106]⟩) RJ), (lq l4 d3 (⟨#[107]⟩) RK), [(blk5, .cells #[.slice none 0 0, .slice none 0 0, .slice none 0 0] 60 (0, 0))], sm20, smc, smb]) w35 := hS56.callL (xs := [(lq l1 d1 (⟨#[106]⟩) RJ), (pk d1 m1 D), smd]) (xs' := [(lq l1 d1 (⟨#[106]⟩) (turnR RJ PA i CL)), (pk d1 m1 D20), sm20]) (zs := []) [4, 1, 9] rfl (by decide) ht24 rfl rfl
        have hat9 := (hup17.ne ⟨#[107]⟩ (by decide)).trans ha_n2
        have hu77 := hup17.tot
        have hu78 := hup17.wr
        have hu79 := hup17.room
        have hu80 := hup17.same
        have htl13 := turn_len (RR := RJ) (rows := PA) (i := i) (C := CL)
        refine s_val hS57 rfl rfl (r_lnot rfl (.t rfl rfl)) ?_
        refine s_val hS57 rfl rfl (r_move rfl (.t rfl rfl)) ?_
        refine s_valg hS57 (wanted_of (j := 7) (b := false) (d := 181) rfl rfl rfl rfl) rfl (r_loadA rfl agg60 ti60 rfl (.t rfl rfl) (St.block (m := 8) rfl)) ?_
        refine s_valg hS57 (wanted_of (j := 7) (b := false) (d := 181) rfl rfl rfl rfl) rfl (r_move rfl (.t rfl rfl)) ?_
        refine s_valg hS57 (wanted_of (j := 7) (b := false) (d := 181) rfl rfl rfl rfl) rfl (r_fieldN rfl Try.underlying60 rfl ti30 (by decide) (.t rfl rfl) (qq := 1) rfl) ?_
        refine s_valg hS57 (wanted_of (j := 7) (b := false) (d := 181) rfl rfl rfl rfl) rfl (r_load rfl one30 (.t rfl rfl) (St.cell_own (m := 0) rfl rfl)) ?_
        refine s_valg hS57 (wanted_of (j := 7) (b := false) (d := 181) rfl rfl rfl rfl) rfl (r_move rfl (.t rfl rfl)) ?_
        refine s_callg (wanted_of (j := 7) (b := false) (d := 181) rfl rfl rfl rfl) rfl rfl (vs := [.agg #[.slice none 0 0, .slice none 0 0, .slice none 0 0], .pointer (some ⟨l2, 0, none⟩), .slice aPB PB.length cPB, .int .i64 (((i : Nat) : Int))]) ⟨(.t rfl rfl), (.t rfl rfl), (.t rfl rfl), (.t rfl rfl), trivial⟩ cb32 (turn_ok w35 _ d1 m1 D20 hup17.lv l2 RK sm20 hM20 (⟨#[107]⟩ : ByteArray) hat9 (.slice none 0 0) (.slice none 0 0) none 0 [] [] [] ⟨SlV.nil, trivial⟩ Old.none aPB cPB _ PB vPB hPB (Old.of_old (xs := [(lq l2 d1 (⟨#[107]⟩) RK), (pk d1 m1 D20), sm20]) [5, 1, 9] oPB hS57 rfl (by decide)) i (by omega) (fun r hr => getr_le hPrB r hr) (fun hlt => ⟨⟨by have := (rowsT_le (rows := PB) (i := i)).2; omega, by omega⟩, by omega⟩) (by omega) (by omega) (hS57.give (xs := [(lq l2 d1 (⟨#[107]⟩) RK), (pk d1 m1 D20), sm20]) [5, 1, 9] rfl (by decide))) ?_
        rintro _ w36 ⟨D21, sm21, ks14, tw14, htw14, hup18, rfl, hM21, ht25⟩
        have hS58 : St w0 [] (fl [[(blk1, .cells #[.slice aPA PA.length cPA, .slice aPB PB.length cPB, .slice aCL CL.length cCL] 60 (0, 0))], (pk d1 m1 D21), (pk d2 m2 Dc), (pk d3 m3 Db), (lq l1 d1 (⟨#[106]⟩) (turnR RJ PA i CL)), (lq l2 d1 (⟨#[107]⟩) (turnR RK PB i [])), (lq l3 d2 (⟨#[106]⟩) RJ), (lq l4 d3 (⟨#[107]⟩) RK), [(blk5, .cells #[.slice none 0 0, .slice none 0 0, .slice none 0 0] 60 (0, 0))], sm21, smc, smb]) w36 := hS57.callL (xs := [(lq l2 d1 (⟨#[107]⟩) RK), (pk d1 m1 D20), sm20]) (xs' := [(lq l2 d1 (⟨#[107]⟩) (turnR RK PB i [])), (pk d1 m1 D21), sm21]) (zs := []) [5, 1, 9] rfl (by decide) ht25 rfl rfl
        have hat10 := (hup18.ne ⟨#[106]⟩ (by decide)).trans hup17.at_
        have hu81 := hup18.tot
        have hu82 := hup18.wr
        have hu83 := hup18.room
        have hu84 := hup18.same
        have htl14 := turn_len (RR := RK) (rows := PB) (i := i) (C := [])
        refine s_valg hS58 (wanted_of (j := 7) (b := false) (d := 181) rfl rfl rfl rfl) rfl (r_lnot rfl (.t rfl rfl)) ?_
        refine s_val hS58 rfl rfl (r_pick rfl (.t rfl rfl) (.t rfl rfl)) ?_
        refine s_val hS58 rfl rfl (r_move rfl (.t rfl rfl)) ?_
        refine s_valg hS58 (wanted_of (j := 16) (b := false) (d := 190) rfl rfl rfl rfl) rfl (r_loadA rfl agg60 ti60 rfl (.t rfl rfl) (St.block (m := 0) rfl)) ?_
        refine s_valg hS58 (wanted_of (j := 16) (b := false) (d := 190) rfl rfl rfl rfl) rfl (r_move rfl (.t rfl rfl)) ?_
        refine s_valg hS58 (wanted_of (j := 16) (b := false) (d := 190) rfl rfl rfl rfl) rfl (r_fieldN rfl Try.underlying60 rfl ti30 (by decide) (.t rfl rfl) (qq := 0) rfl) ?_
        refine s_valg hS58 (wanted_of (j := 16) (b := false) (d := 190) rfl rfl rfl rfl) rfl (r_load rfl one30 (.t rfl rfl) (St.cell_own (m := 0) rfl rfl)) ?_
        refine s_valg hS58 (wanted_of (j := 16) (b := false) (d := 190) rfl rfl rfl rfl) rfl (r_move rfl (.t rfl rfl)) ?_
        refine s_callg (wanted_of (j := 16) (b := false) (d := 190) rfl rfl rfl rfl) rfl rfl (vs := [.agg #[.slice aPA PA.length cPA, .slice aPB PB.length cPB, .slice aCL CL.length cCL], .pointer (some ⟨l3, 0, none⟩), .slice aPA PA.length cPA, .int .i64 (((i : Nat) : Int))]) ⟨(.t rfl rfl), (.t rfl rfl), (.t rfl rfl), (.t rfl rfl), trivial⟩ cb32 (turn_ok w36 _ d2 m2 Dc lv_2 l3 RJ smc hm2_ (⟨#[106]⟩ : ByteArray) ha_n3 (.slice aPA PA.length cPA) (.slice aPB PB.length cPB) aCL cCL _ CL vCL hCL (Old.of_old (xs := [(lq l3 d2 (⟨#[106]⟩) RJ), (pk d2 m2 Dc), smc]) [6, 2, 10] oCL hS58 rfl (by decide)) aPA cPA _ PA vPA hPA (Old.of_old (xs := [(lq l3 d2 (⟨#[106]⟩) RJ), (pk d2 m2 Dc), smc]) [6, 2, 10] oPA hS58 rfl (by decide)) i (by omega) (fun r hr => getr_le hPrA r hr) (fun hlt => ⟨⟨by have := (rowsT_le (rows := PA) (i := i)).2; omega, by omega⟩, by omega⟩) (by omega) (by omega) (hS58.give (xs := [(lq l3 d2 (⟨#[106]⟩) RJ), (pk d2 m2 Dc), smc]) [6, 2, 10] rfl (by decide))) ?_
        rintro _ w37 ⟨D22, sm22, ks15, tw15, htw15, hup19, rfl, hM22, ht26⟩
        have hS59 : St w0 [] (fl [[(blk1, .cells #[.slice aPA PA.length cPA, .slice aPB PB.length cPB, .slice aCL CL.length cCL] 60 (0, 0))], (pk d1 m1 D21), (pk d2 m2 D22), (pk d3 m3 Db), (lq l1 d1 (⟨#[106]⟩) (turnR RJ PA i CL)), (lq l2 d1 (⟨#[107]⟩) (turnR RK PB i [])), (lq l3 d2 (⟨#[106]⟩) (turnR RJ PA i CL)), (lq l4 d3 (⟨#[107]⟩) RK), [(blk5, .cells #[.slice none 0 0, .slice none 0 0, .slice none 0 0] 60 (0, 0))], sm21, sm22, smb]) w37 := hS58.callL (xs := [(lq l3 d2 (⟨#[106]⟩) RJ), (pk d2 m2 Dc), smc]) (xs' := [(lq l3 d2 (⟨#[106]⟩) (turnR RJ PA i CL)), (pk d2 m2 D22), sm22]) (zs := []) [6, 2, 10] rfl (by decide) ht26 rfl rfl
        have hu85 := hup19.tot
        have hu86 := hup19.wr
        have hu87 := hup19.room
        have hu88 := hup19.same
        have htl15 := turn_len (RR := RJ) (rows := PA) (i := i) (C := CL)
        refine s_valg hS59 (wanted_of (j := 16) (b := false) (d := 190) rfl rfl rfl rfl) rfl (r_lnot rfl (.t rfl rfl)) ?_
        refine s_val hS59 rfl rfl (r_pick rfl (.t rfl rfl) (.t rfl rfl)) ?_
        refine s_val hS59 rfl rfl (r_move rfl (.t rfl rfl)) ?_
        refine s_valg hS59 (wanted_of (j := 25) (b := false) (d := 199) rfl rfl rfl rfl) rfl (r_loadA rfl agg60 ti60 rfl (.t rfl rfl) (St.block (m := 8) rfl)) ?_
        refine s_valg hS59 (wanted_of (j := 25) (b := false) (d := 199) rfl rfl rfl rfl) rfl (r_move rfl (.t rfl rfl)) ?_
        refine s_valg hS59 (wanted_of (j := 25) (b := false) (d := 199) rfl rfl rfl rfl) rfl (r_fieldN rfl Try.underlying60 rfl ti30 (by decide) (.t rfl rfl) (qq := 1) rfl) ?_
        refine s_valg hS59 (wanted_of (j := 25) (b := false) (d := 199) rfl rfl rfl rfl) rfl (r_load rfl one30 (.t rfl rfl) (St.cell_own (m := 0) rfl rfl)) ?_
        refine s_valg hS59 (wanted_of (j := 25) (b := false) (d := 199) rfl rfl rfl rfl) rfl (r_move rfl (.t rfl rfl)) ?_
        refine s_callg (wanted_of (j := 25) (b := false) (d := 199) rfl rfl rfl rfl) rfl rfl (vs := [.agg #[.slice none 0 0, .slice none 0 0, .slice none 0 0], .pointer (some ⟨l4, 0, none⟩), .slice aPB PB.length cPB, .int .i64 (((i : Nat) : Int))]) ⟨(.t rfl rfl), (.t rfl rfl), (.t rfl rfl), (.t rfl rfl), trivial⟩ cb32 (turn_ok w37 _ d3 m3 Db lv_3 l4 RK smb hm3_ (⟨#[107]⟩ : ByteArray) ha_n4 (.slice none 0 0) (.slice none 0 0) none 0 [] [] [] ⟨SlV.nil, trivial⟩ Old.none aPB cPB _ PB vPB hPB (Old.of_old (xs := [(lq l4 d3 (⟨#[107]⟩) RK), (pk d3 m3 Db), smb]) [7, 3, 11] oPB hS59 rfl (by decide)) i (by omega) (fun r hr => getr_le hPrB r hr) (fun hlt => ⟨⟨by have := (rowsT_le (rows := PB) (i := i)).2; omega, by omega⟩, by omega⟩) (by omega) (by omega) (hS59.give (xs := [(lq l4 d3 (⟨#[107]⟩) RK), (pk d3 m3 Db), smb]) [7, 3, 11] rfl (by decide))) ?_
        rintro _ w38 ⟨D23, sm23, ks16, tw16, htw16, hup20, rfl, hM23, ht27⟩
        have hS60 : St w0 [] (fl [[(blk1, .cells #[.slice aPA PA.length cPA, .slice aPB PB.length cPB, .slice aCL CL.length cCL] 60 (0, 0))], (pk d1 m1 D21), (pk d2 m2 D22), (pk d3 m3 D23), (lq l1 d1 (⟨#[106]⟩) (turnR RJ PA i CL)), (lq l2 d1 (⟨#[107]⟩) (turnR RK PB i [])), (lq l3 d2 (⟨#[106]⟩) (turnR RJ PA i CL)), (lq l4 d3 (⟨#[107]⟩) (turnR RK PB i [])), [(blk5, .cells #[.slice none 0 0, .slice none 0 0, .slice none 0 0] 60 (0, 0))], sm21, sm22, sm23]) w38 := hS59.callL (xs := [(lq l4 d3 (⟨#[107]⟩) RK), (pk d3 m3 Db), smb]) (xs' := [(lq l4 d3 (⟨#[107]⟩) (turnR RK PB i [])), (pk d3 m3 D23), sm23]) (zs := []) [7, 3, 11] rfl (by decide) ht27 rfl rfl
        have hu89 := hup20.tot
        have hu90 := hup20.wr
        have hu91 := hup20.room
        have hu92 := hup20.same
        have htl16 := turn_len (RR := RK) (rows := PB) (i := i) (C := [])
        refine s_valg hS60 (wanted_of (j := 25) (b := false) (d := 199) rfl rfl rfl rfl) rfl (r_lnot rfl (.t rfl rfl)) ?_
        refine s_val hS60 rfl rfl (r_pick rfl (.t rfl rfl) (.t rfl rfl)) ?_
        refine wpList_nil ?_
        refine x_tn ?_
        refine k_reb [(1, .pointer (some ⟨blk1, 0, none⟩)), (2, .bool false), (3, .pointer (some ⟨d1, 0, none⟩)), (5, .pointer (some ⟨d2, 0, none⟩)), (7, .pointer (some ⟨d3, 0, none⟩)), (9, .pointer (some ⟨l1, 0, none⟩)), (11, .pointer (some ⟨l2, 0, none⟩)), (13, .pointer (some ⟨l3, 0, none⟩)), (15, .pointer (some ⟨l4, 0, none⟩)), (18, .int .i64 lf), (19, .int .i64 (((i : Nat) : Int))), (207, .bool false)] ⟨rfl, rfl, rfl, rfl, rfl, rfl, rfl, rfl, rfl, rfl, rfl, rfl, trivial⟩ fun G50 => ?_
        refine k_f (.t rfl rfl) ?_
        refine wp_skip ?_
        refine x_bn ?_
        refine x_tn ?_
        refine k_reb [(1, .pointer (some ⟨blk1, 0, none⟩)), (2, .bool false), (3, .pointer (some ⟨d1, 0, none⟩)), (5, .pointer (some ⟨d2, 0, none⟩)), (7, .pointer (some ⟨d3, 0, none⟩)), (9, .pointer (some ⟨l1, 0, none⟩)), (11, .pointer (some ⟨l2, 0, none⟩)), (13, .pointer (some ⟨l3, 0, none⟩)), (15, .pointer (some ⟨l4, 0, none⟩)), (18, .int .i64 lf), (19, .int .i64 (((i : Nat) : Int)))] ⟨rfl, rfl, rfl, rfl, rfl, rfl, rfl, rfl, rfl, rfl, rfl, trivial⟩ fun G51 => ?_
        refine k_reg ?_
        refine s_val hS60 rfl rfl (r_move rfl (.t rfl rfl)) ?_
        refine s_val hS60 rfl rfl (r_arith rfl rfl (.t rfl rfl) .c (c := ((i + 1 : Nat) : Int)) (wn_i64 (by show (((i : Nat) : Int) : Int) + 1 = _; omega) (by omega))) ?_
        refine s_val hS60 rfl rfl (r_assign rfl (.t rfl rfl)) ?_
        refine wpList_nil ?_
        refine x_tn ?_
        have hS61 : St w0 [] (fl [[(blk1, .cells #[.slice aPA PA.length cPA, .slice aPB PB.length cPB, .slice aCL CL.length cCL] 60 (0, 0))], (pk d1 m1 D21), (pk d2 m2 D22), (pk d3 m3 D23), (lq l1 d1 (⟨#[106]⟩) (turnR RJ PA i CL)), (lq l2 d1 (⟨#[107]⟩) (turnR RK PB i [])), (lq l3 d2 (⟨#[106]⟩) (turnR RJ PA i CL)), (lq l4 d3 (⟨#[107]⟩) (turnR RK PB i [])), sm21, sm22, sm23]) w38 := hS60.pick [0, 1, 2, 3, 4, 5, 6, 7, 9, 10, 11] rfl (by decide)
        refine ⟨40 - (i + 1), by omega, _, i + 1, D21, D22, D23, (turnR RJ PA i CL), (turnR RK PB i []), sm21, sm22, sm23, ks13, ks14, ks15, ks16, lf, fr_reb _ ⟨rfl, rfl, rfl, rfl, rfl, rfl, rfl, rfl, rfl, rfl, rfl, trivial⟩, hS61, ?_⟩
        exact ⟨by omega, by omega, hup18.lv, hup19.lv, hup20.lv, hM21, hM22, hM23, hat10, hup18.at_, hup19.at_, hup20.at_, by omega, by omega, by omega, by omega, by omega, by omega, by omega, by omega, by omega, by omega, by omega, by omega⟩
    ·
     refine s_valg hS26 (wanted_of (j := 9) (b := true) (d := 137) rfl rfl rfl rfl) rfl (r_cmp_f rfl rfl (.t rfl rfl) .c (show ¬ (((i : Nat) : Int) < 40) from by omega)) ?_
     refine s_val hS26 rfl rfl (r_pick rfl (.t rfl rfl) (.t rfl rfl)) ?_
     refine wpList_nil ?_
     refine x_tn ?_
     refine k_reb [(1, .pointer (some ⟨blk1, 0, none⟩)), (2, .bool false), (3, .pointer (some ⟨d1, 0, none⟩)), (5, .pointer (some ⟨d2, 0, none⟩)), (7, .pointer (some ⟨d3, 0, none⟩)), (9, .pointer (some ⟨l1, 0, none⟩)), (11, .pointer (some ⟨l2, 0, none⟩)), (13, .pointer (some ⟨l3, 0, none⟩)), (15, .pointer (some ⟨l4, 0, none⟩)), (18, .int .i64 lf), (19, .int .i64 (((i : Nat) : Int))), (140, .bool false)] ⟨rfl, rfl, rfl, rfl, rfl, rfl, rfl, rfl, rfl, rfl, rfl, rfl, trivial⟩ fun G52 => ?_
     refine k_f (.t rfl rfl) ?_
     refine wp_exit ?_
     refine x_te ?_
     refine x_te ?_
     refine x_be ?_
     refine x_tn ?_
     refine ⟨_, D, Dc, Db, RJ, RK, smd, smc, smb, k1, k2, k3, k4, fr_reb _ ⟨rfl, rfl, rfl, rfl, rfl, rfl, rfl, trivial⟩, hS26, ?_⟩
     exact ⟨lv_1, lv_2, lv_3, hm1_, hm2_, hm3_, ha_n1, ha_n2, ha_n3, ha_n4, by omega, by omega⟩
   ·
    refine s_val hS26 rfl rfl (r_cmp_f rfl rfl (.t rfl rfl) (.t rfl rfl) (show ¬ (((i : Nat) : Int) < ((PA.length + PB.length : Nat) : Int)) from by omega)) ?_
    refine s_val hS26 rfl rfl (r_move rfl (.t rfl rfl)) ?_
    refine s_skip (unwanted_of (j := 9) (b := true) (b' := false) (d := 137) rfl rfl rfl rfl rfl) rfl ?_
    refine s_skip (unwanted_of (j := 9) (b := true) (b' := false) (d := 137) rfl rfl rfl rfl rfl) rfl ?_
    refine s_val hS26 rfl rfl (r_pick rfl (.t rfl rfl) .c) ?_
    refine wpList_nil ?_
    refine x_tn ?_
    refine k_reb [(1, .pointer (some ⟨blk1, 0, none⟩)), (2, .bool false), (3, .pointer (some ⟨d1, 0, none⟩)), (5, .pointer (some ⟨d2, 0, none⟩)), (7, .pointer (some ⟨d3, 0, none⟩)), (9, .pointer (some ⟨l1, 0, none⟩)), (11, .pointer (some ⟨l2, 0, none⟩)), (13, .pointer (some ⟨l3, 0, none⟩)), (15, .pointer (some ⟨l4, 0, none⟩)), (18, .int .i64 lf), (19, .int .i64 (((i : Nat) : Int))), (140, .bool false)] ⟨rfl, rfl, rfl, rfl, rfl, rfl, rfl, rfl, rfl, rfl, rfl, rfl, trivial⟩ fun G53 => ?_
    refine k_f (.t rfl rfl) ?_
    refine wp_exit ?_
    refine x_te ?_
    refine x_te ?_
    refine x_be ?_
    refine x_tn ?_
    refine ⟨_, D, Dc, Db, RJ, RK, smd, smc, smb, k1, k2, k3, k4, fr_reb _ ⟨rfl, rfl, rfl, rfl, rfl, rfl, rfl, trivial⟩, hS26, ?_⟩
    exact ⟨lv_1, lv_2, lv_3, hm1_, hm2_, hm3_, ha_n1, ha_n2, ha_n3, ha_n4, by omega, by omega⟩
 ·
  rintro _ w10 ⟨G54, D, Dc, Db, RJ, RK, smd, smc, smb, k1, k2, k3, k4, rfl, hS62, ⟨lv_1, lv_2, lv_3, hm1_, hm2_, hm3_, ha_n1, ha_n2, ha_n3, ha_n4, lJ, lK⟩⟩
  refine x_tn ?_
  refine wp_seq ?_
  refine k_reg ?_
  refine s_val hS62 rfl rfl (r_move rfl (.t rfl rfl)) ?_
  refine s_call rfl rfl rfl (vs := [.pointer (some ⟨d1, 0, none⟩), .string (⟨#[106]⟩)]) ⟨(.t rfl rfl), .c, trivial⟩ cb15 (Read_lv w10 _ d1 m1 D lv_1 smd hm1_ (⟨#[106]⟩ : ByteArray) ha_n1 (hS62.give (xs := [(pk d1 m1 D), smd]) [1, 8] rfl (by decide))) ?_
  rintro _ w39 ⟨ra1, rc1, sg5, rfl, hG1, ht28⟩
  have hS63 : St w0 [] (fl [[(blk1, .cells #[.slice aPA PA.length cPA, .slice aPB PB.length cPB, .slice aCL CL.length cCL] 60 (0, 0))], (pk d1 m1 D), (pk d2 m2 Dc), (pk d3 m3 Db), (lq l1 d1 (⟨#[106]⟩) RJ), (lq l2 d1 (⟨#[107]⟩) RK), (lq l3 d2 (⟨#[106]⟩) RJ), (lq l4 d3 (⟨#[107]⟩) RK), smd, smc, smb, sg5]) w39 := hS62.callL (xs := [(pk d1 m1 D), smd]) (xs' := [(pk d1 m1 D), smd]) (zs := [sg5]) [1, 8] rfl (by decide) ht28 rfl rfl
  refine s_val hS63 rfl rfl (r_move rfl (.t rfl rfl)) ?_
  refine s_val hS63 rfl rfl (r_extract rfl (.t rfl rfl) rfl) ?_
  refine s_val hS63 rfl rfl (r_extract rfl (.t rfl rfl) rfl) ?_
  refine s_val hS63 rfl rfl (r_assign rfl (.t rfl rfl)) ?_
  refine s_val hS63 rfl rfl (r_assign rfl (.t rfl rfl)) ?_
  refine wpList_nil ?_
  refine x_tn ?_
  refine k_reb [(3, .pointer (some ⟨d1, 0, none⟩)), (5, .pointer (some ⟨d2, 0, none⟩)), (7, .pointer (some ⟨d3, 0, none⟩)), (9, .pointer (some ⟨l1, 0, none⟩)), (11, .pointer (some ⟨l2, 0, none⟩)), (13, .pointer (some ⟨l3, 0, none⟩)), (15, .pointer (some ⟨l4, 0, none⟩)), (21, .slice ra1 ((logL RJ).length) rc1)] ⟨rfl, rfl, rfl, rfl, rfl, rfl, rfl, rfl, trivial⟩ fun G55 => ?_
  refine wp_seq ?_
  refine k_reg ?_
  refine s_val hS63 rfl rfl (r_move rfl (.t rfl rfl)) ?_
  refine s_call rfl rfl rfl (vs := [.pointer (some ⟨d1, 0, none⟩), .string (⟨#[107]⟩)]) ⟨(.t rfl rfl), .c, trivial⟩ cb15 (Read_lv w39 _ d1 m1 D lv_1 smd hm1_ (⟨#[107]⟩ : ByteArray) ha_n2 (hS63.give (xs := [(pk d1 m1 D), smd]) [1, 8] rfl (by decide))) ?_
  rintro _ w40 ⟨ra2, rc2, sg6, rfl, hG2, ht29⟩
  have hS64 : St w0 [] (fl [[(blk1, .cells #[.slice aPA PA.length cPA, .slice aPB PB.length cPB, .slice aCL CL.length cCL] 60 (0, 0))], (pk d1 m1 D), (pk d2 m2 Dc), (pk d3 m3 Db), (lq l1 d1 (⟨#[106]⟩) RJ), (lq l2 d1 (⟨#[107]⟩) RK), (lq l3 d2 (⟨#[106]⟩) RJ), (lq l4 d3 (⟨#[107]⟩) RK), smd, smc, smb, sg5, sg6]) w40 := hS63.callL (xs := [(pk d1 m1 D), smd]) (xs' := [(pk d1 m1 D), smd]) (zs := [sg6]) [1, 8] rfl (by decide) ht29 rfl rfl
  refine s_val hS64 rfl rfl (r_move rfl (.t rfl rfl)) ?_
  refine s_val hS64 rfl rfl (r_extract rfl (.t rfl rfl) rfl) ?_
  refine s_val hS64 rfl rfl (r_extract rfl (.t rfl rfl) rfl) ?_
  refine s_val hS64 rfl rfl (r_assign rfl (.t rfl rfl)) ?_
  refine s_val hS64 rfl rfl (r_assign rfl (.t rfl rfl)) ?_
  refine wpList_nil ?_
  refine x_tn ?_
  refine k_reb [(5, .pointer (some ⟨d2, 0, none⟩)), (7, .pointer (some ⟨d3, 0, none⟩)), (9, .pointer (some ⟨l1, 0, none⟩)), (11, .pointer (some ⟨l2, 0, none⟩)), (13, .pointer (some ⟨l3, 0, none⟩)), (15, .pointer (some ⟨l4, 0, none⟩)), (21, .slice ra1 ((logL RJ).length) rc1), (23, .slice ra2 ((logL RK).length) rc2)] ⟨rfl, rfl, rfl, rfl, rfl, rfl, rfl, rfl, trivial⟩ fun G56 => ?_
  refine wp_seq ?_
  refine k_reg ?_
  refine s_val hS64 rfl rfl (r_move rfl (.t rfl rfl)) ?_
  refine s_call rfl rfl rfl (vs := [.pointer (some ⟨d2, 0, none⟩), .string (⟨#[106]⟩)]) ⟨(.t rfl rfl), .c, trivial⟩ cb15 (Read_lv w40 _ d2 m2 Dc lv_2 smc hm2_ (⟨#[106]⟩ : ByteArray) ha_n3 (hS64.give (xs := [(pk d2 m2 Dc), smc]) [2, 9] rfl (by decide))) ?_
  rintro _ w41 ⟨ra3, rc3, sg7, rfl, hG3, ht30⟩
  have hS65 : St w0 [] (fl [[(blk1, .cells #[.slice aPA PA.length cPA, .slice aPB PB.length cPB, .slice aCL CL.length cCL] 60 (0, 0))], (pk d1 m1 D), (pk d2 m2 Dc), (pk d3 m3 Db), (lq l1 d1 (⟨#[106]⟩) RJ), (lq l2 d1 (⟨#[107]⟩) RK), (lq l3 d2 (⟨#[106]⟩) RJ), (lq l4 d3 (⟨#[107]⟩) RK), smd, smc, smb, sg5, sg6, sg7]) w41 := hS64.callL (xs := [(pk d2 m2 Dc), smc]) (xs' := [(pk d2 m2 Dc), smc]) (zs := [sg7]) [2, 9] rfl (by decide) ht30 rfl rfl
  refine s_val hS65 rfl rfl (r_move rfl (.t rfl rfl)) ?_
  refine s_val hS65 rfl rfl (r_extract rfl (.t rfl rfl) rfl) ?_
  refine s_val hS65 rfl rfl (r_extract rfl (.t rfl rfl) rfl) ?_
  refine s_val hS65 rfl rfl (r_assign rfl (.t rfl rfl)) ?_
  refine s_val hS65 rfl rfl (r_assign rfl (.t rfl rfl)) ?_
  refine wpList_nil ?_
  refine x_tn ?_
  refine k_reb [(7, .pointer (some ⟨d3, 0, none⟩)), (9, .pointer (some ⟨l1, 0, none⟩)), (11, .pointer (some ⟨l2, 0, none⟩)), (13, .pointer (some ⟨l3, 0, none⟩)), (15, .pointer (some ⟨l4, 0, none⟩)), (21, .slice ra1 ((logL RJ).length) rc1), (23, .slice ra2 ((logL RK).length) rc2), (25, .slice ra3 ((logL RJ).length) rc3)] ⟨rfl, rfl, rfl, rfl, rfl, rfl, rfl, rfl, trivial⟩ fun G57 => ?_
  refine wp_seq ?_
  refine k_reg ?_
  refine s_val hS65 rfl rfl (r_move rfl (.t rfl rfl)) ?_
  refine s_call rfl rfl rfl (vs := [.pointer (some ⟨d3, 0, none⟩), .string (⟨#[107]⟩)]) ⟨(.t rfl rfl), .c, trivial⟩ cb15 (Read_lv w41 _ d3 m3 Db lv_3 smb hm3_ (⟨#[107]⟩ : ByteArray) ha_n4 (hS65.give (xs := [(pk d3 m3 Db), smb]) [3, 10] rfl (by decide))) ?_
  rintro _ w42 ⟨ra4, rc4, sg8, rfl, hG4, ht31⟩
  have hS66 : St w0 [] (fl [[(blk1, .cells #[.slice aPA PA.length cPA, .slice aPB PB.length cPB, .slice aCL CL.length cCL] 60 (0, 0))], (pk d1 m1 D), (pk d2 m2 Dc), (pk d3 m3 Db), (lq l1 d1 (⟨#[106]⟩) RJ), (lq l2 d1 (⟨#[107]⟩) RK), (lq l3 d2 (⟨#[106]⟩) RJ), (lq l4 d3 (⟨#[107]⟩) RK), smd, smc, smb, sg5, sg6, sg7, sg8]) w42 := hS65.callL (xs := [(pk d3 m3 Db), smb]) (xs' := [(pk d3 m3 Db), smb]) (zs := [sg8]) [3, 10] rfl (by decide) ht31 rfl rfl
  refine s_val hS66 rfl rfl (r_move rfl (.t rfl rfl)) ?_
  refine s_val hS66 rfl rfl (r_extract rfl (.t rfl rfl) rfl) ?_
  refine s_val hS66 rfl rfl (r_extract rfl (.t rfl rfl) rfl) ?_
  refine s_val hS66 rfl rfl (r_assign rfl (.t rfl rfl)) ?_
  refine s_val hS66 rfl rfl (r_assign rfl (.t rfl rfl)) ?_
  refine wpList_nil ?_
  refine x_tn ?_
  refine k_reb [(9, .pointer (some ⟨l1, 0, none⟩)), (11, .pointer (some ⟨l2, 0, none⟩)), (13, .pointer (some ⟨l3, 0, none⟩)), (15, .pointer (some ⟨l4, 0, none⟩)), (21, .slice ra1 ((logL RJ).length) rc1), (23, .slice ra2 ((logL RK).length) rc2), (25, .slice ra3 ((logL RJ).length) rc3), (27, .slice ra4 ((logL RK).length) rc4)] ⟨rfl, rfl, rfl, rfl, rfl, rfl, rfl, rfl, trivial⟩ fun G58 => ?_
  refine wp_seq ?_
  refine k_reg ?_
  refine s_val hS66 rfl rfl (r_move rfl (.t rfl rfl)) ?_
  refine s_val hS66 rfl rfl (r_move rfl (.t rfl rfl)) ?_
  refine s_call rfl rfl rfl (vs := [.slice ra1 ((logL RJ).length) rc1, .slice ra3 ((logL RJ).length) rc3]) ⟨(.t rfl rfl), (.t rfl rfl), trivial⟩ cb20 (Eq_ok w42 ra1 rc1 (logL RJ) sg5 (hG1.sl (by omega) (lv_1.file ha_n1).2.2.2.2.1) (Old.of_piece (i := 11) (xs := []) [] hS66 rfl rfl (by decide)) ra3 rc3 (logL RJ) sg7 (hG3.sl (by omega) (lv_2.file ha_n3).2.2.2.2.1) (Old.of_piece (i := 13) (xs := []) [] hS66 rfl rfl (by decide)) ) ?_
  rintro _ w43 ⟨rfl, ht32⟩
  have hS67 : St w0 [] (fl [[(blk1, .cells #[.slice aPA PA.length cPA, .slice aPB PB.length cPB, .slice aCL CL.length cCL] 60 (0, 0))], (pk d1 m1 D), (pk d2 m2 Dc), (pk d3 m3 Db), (lq l1 d1 (⟨#[106]⟩) RJ), (lq l2 d1 (⟨#[107]⟩) RK), (lq l3 d2 (⟨#[106]⟩) RJ), (lq l4 d3 (⟨#[107]⟩) RK), smd, smc, smb, sg5, sg6, sg7, sg8]) w43 := hS66.callL (xs := []) (xs' := []) (zs := []) [] rfl (by decide) ht32 rfl rfl
  by_cases he1 : (logL RJ) = (logL RJ)
  ·
   refine s_asb (b' := true) (decide_eq_true he1) ?_
   refine s_val hS67 rfl rfl (r_move rfl (.t rfl rfl)) ?_
   refine s_valg hS67 (wanted_of (j := 3) (b := true) (d := 231) rfl rfl rfl rfl) rfl (r_move rfl (.t rfl rfl)) ?_
   refine s_valg hS67 (wanted_of (j := 3) (b := true) (d := 231) rfl rfl rfl rfl) rfl (r_move rfl (.t rfl rfl)) ?_
   refine s_callg (wanted_of (j := 3) (b := true) (d := 231) rfl rfl rfl rfl) rfl rfl (vs := [.slice ra2 ((logL RK).length) rc2, .slice ra4 ((logL RK).length) rc4]) ⟨(.t rfl rfl), (.t rfl rfl), trivial⟩ cb20 (Eq_ok w43 ra2 rc2 (logL RK) sg6 (hG2.sl (by omega) (lv_1.file ha_n2).2.2.2.2.1) (Old.of_piece (i := 12) (xs := []) [] hS67 rfl rfl (by decide)) ra4 rc4 (logL RK) sg8 (hG4.sl (by omega) (lv_3.file ha_n4).2.2.2.2.1) (Old.of_piece (i := 14) (xs := []) [] hS67 rfl rfl (by decide)) ) ?_
   rintro _ w44 ⟨rfl, ht33⟩
   have hS68 : St w0 [] (fl [[(blk1, .cells #[.slice aPA PA.length cPA, .slice aPB PB.length cPB, .slice aCL CL.length cCL] 60 (0, 0))], (pk d1 m1 D), (pk d2 m2 Dc), (pk d3 m3 Db), (lq l1 d1 (⟨#[106]⟩) RJ), (lq l2 d1 (⟨#[107]⟩) RK), (lq l3 d2 (⟨#[106]⟩) RJ), (lq l4 d3 (⟨#[107]⟩) RK), smd, smc, smb, sg5, sg6, sg7, sg8]) w44 := hS67.callL (xs := []) (xs' := []) (zs := []) [] rfl (by decide) ht33 rfl rfl
   by_cases he2 : (logL RK) = (logL RK)
   ·
    refine s_asb (b' := true) (decide_eq_true he2) ?_
    refine s_val hS68 rfl rfl (r_pick rfl (.t rfl rfl) (.t rfl rfl)) ?_
    refine s_val hS68 rfl rfl (r_move rfl (.t rfl rfl)) ?_
    refine s_valg hS68 (wanted_of (j := 8) (b := true) (d := 236) rfl rfl rfl rfl) rfl (r_move rfl (.t rfl rfl)) ?_
    refine s_callg (wanted_of (j := 8) (b := true) (d := 236) rfl rfl rfl rfl) rfl rfl (vs := [.pointer (some ⟨l1, 0, none⟩)]) ⟨(.t rfl rfl), trivial⟩ cb30 (LCount_ok w44 _ l1 d1 (⟨#[106]⟩ : ByteArray) (lg RJ) (hS68.give (xs := [(lq l1 d1 (⟨#[106]⟩) RJ)]) [4] rfl (by decide))) ?_
    rintro _ w45 ⟨rfl, ht34⟩
    have hS69 : St w0 [] (fl [[(blk1, .cells #[.slice aPA PA.length cPA, .slice aPB PB.length cPB, .slice aCL CL.length cCL] 60 (0, 0))], (pk d1 m1 D), (pk d2 m2 Dc), (pk d3 m3 Db), (lq l1 d1 (⟨#[106]⟩) RJ), (lq l2 d1 (⟨#[107]⟩) RK), (lq l3 d2 (⟨#[106]⟩) RJ), (lq l4 d3 (⟨#[107]⟩) RK), smd, smc, smb, sg5, sg6, sg7, sg8]) w45 := hS68.callL (xs := [(lq l1 d1 (⟨#[106]⟩) RJ)]) (xs' := [(lq l1 d1 (⟨#[106]⟩) RJ)]) (zs := []) [4] rfl (by decide) ht34 rfl rfl
    have hzq1 : (lg RJ).count = (RJ).length := rfl
    refine s_valg hS69 (wanted_of (j := 8) (b := true) (d := 236) rfl rfl rfl rfl) rfl (r_move rfl (.t rfl rfl)) ?_
    refine s_callg (wanted_of (j := 8) (b := true) (d := 236) rfl rfl rfl rfl) rfl rfl (vs := [.pointer (some ⟨l3, 0, none⟩)]) ⟨(.t rfl rfl), trivial⟩ cb30 (LCount_ok w45 _ l3 d2 (⟨#[106]⟩ : ByteArray) (lg RJ) (hS69.give (xs := [(lq l3 d2 (⟨#[106]⟩) RJ)]) [6] rfl (by decide))) ?_
    rintro _ w46 ⟨rfl, ht35⟩
    have hS70 : St w0 [] (fl [[(blk1, .cells #[.slice aPA PA.length cPA, .slice aPB PB.length cPB, .slice aCL CL.length cCL] 60 (0, 0))], (pk d1 m1 D), (pk d2 m2 Dc), (pk d3 m3 Db), (lq l1 d1 (⟨#[106]⟩) RJ), (lq l2 d1 (⟨#[107]⟩) RK), (lq l3 d2 (⟨#[106]⟩) RJ), (lq l4 d3 (⟨#[107]⟩) RK), smd, smc, smb, sg5, sg6, sg7, sg8]) w46 := hS69.callL (xs := [(lq l3 d2 (⟨#[106]⟩) RJ)]) (xs' := [(lq l3 d2 (⟨#[106]⟩) RJ)]) (zs := []) [6] rfl (by decide) ht35 rfl rfl
    have hzq2 : (lg RJ).count = (RJ).length := rfl
    refine s_valg hS70 (wanted_of (j := 8) (b := true) (d := 236) rfl rfl rfl rfl) rfl (r_cmp_t rfl rfl (.t rfl rfl) (.t rfl rfl) (show (((lg RJ).count : Nat) : Int) = (((lg RJ).count : Nat) : Int) from rfl)) ?_
    refine s_val hS70 rfl rfl (r_pick rfl (.t rfl rfl) (.t rfl rfl)) ?_
    refine s_val hS70 rfl rfl (r_move rfl (.t rfl rfl)) ?_
    refine s_valg hS70 (wanted_of (j := 15) (b := true) (d := 243) rfl rfl rfl rfl) rfl (r_move rfl (.t rfl rfl)) ?_
    refine s_callg (wanted_of (j := 15) (b := true) (d := 243) rfl rfl rfl rfl) rfl rfl (vs := [.pointer (some ⟨l2, 0, none⟩)]) ⟨(.t rfl rfl), trivial⟩ cb30 (LCount_ok w46 _ l2 d1 (⟨#[107]⟩ : ByteArray) (lg RK) (hS70.give (xs := [(lq l2 d1 (⟨#[107]⟩) RK)]) [5] rfl (by decide))) ?_
    rintro _ w47 ⟨rfl, ht36⟩
    have hS71 : St w0 [] (fl [[(blk1, .cells #[.slice aPA PA.length cPA, .slice aPB PB.length cPB, .slice aCL CL.length cCL] 60 (0, 0))], (pk d1 m1 D), (pk d2 m2 Dc), (pk d3 m3 Db), (lq l1 d1 (⟨#[106]⟩) RJ), (lq l2 d1 (⟨#[107]⟩) RK), (lq l3 d2 (⟨#[106]⟩) RJ), (lq l4 d3 (⟨#[107]⟩) RK), smd, smc, smb, sg5, sg6, sg7, sg8]) w47 := hS70.callL (xs := [(lq l2 d1 (⟨#[107]⟩) RK)]) (xs' := [(lq l2 d1 (⟨#[107]⟩) RK)]) (zs := []) [5] rfl (by decide) ht36 rfl rfl
    have hzq3 : (lg RK).count = (RK).length := rfl
    refine s_valg hS71 (wanted_of (j := 15) (b := true) (d := 243) rfl rfl rfl rfl) rfl (r_move rfl (.t rfl rfl)) ?_
    refine s_callg (wanted_of (j := 15) (b := true) (d := 243) rfl rfl rfl rfl) rfl rfl (vs := [.pointer (some ⟨l4, 0, none⟩)]) ⟨(.t rfl rfl), trivial⟩ cb30 (LCount_ok w47 _ l4 d3 (⟨#[107]⟩ : ByteArray) (lg RK) (hS71.give (xs := [(lq l4 d3 (⟨#[107]⟩) RK)]) [7] rfl (by decide))) ?_
    rintro _ w48 ⟨rfl, ht37⟩
    have hS72 : St w0 [] (fl [[(blk1, .cells #[.slice aPA PA.length cPA, .slice aPB PB.length cPB, .slice aCL CL.length cCL] 60 (0, 0))], (pk d1 m1 D), (pk d2 m2 Dc), (pk d3 m3 Db), (lq l1 d1 (⟨#[106]⟩) RJ), (lq l2 d1 (⟨#[107]⟩) RK), (lq l3 d2 (⟨#[106]⟩) RJ), (lq l4 d3 (⟨#[107]⟩) RK), smd, smc, smb, sg5, sg6, sg7, sg8]) w48 := hS71.callL (xs := [(lq l4 d3 (⟨#[107]⟩) RK)]) (xs' := [(lq l4 d3 (⟨#[107]⟩) RK)]) (zs := []) [7] rfl (by decide) ht37 rfl rfl
    have hzq4 : (lg RK).count = (RK).length := rfl
    refine s_valg hS72 (wanted_of (j := 15) (b := true) (d := 243) rfl rfl rfl rfl) rfl (r_cmp_t rfl rfl (.t rfl rfl) (.t rfl rfl) (show (((lg RK).count : Nat) : Int) = (((lg RK).count : Nat) : Int) from rfl)) ?_
    refine s_val hS72 rfl rfl (r_pick rfl (.t rfl rfl) (.t rfl rfl)) ?_
    refine s_val hS72 rfl rfl (r_move rfl (.t rfl rfl)) ?_
    refine s_callg (wanted_of (j := 22) (b := true) (d := 250) rfl rfl rfl rfl) rfl rfl (vs := []) trivial cb12 (works_ok w48  ) ?_
    rintro _ w49 ⟨rfl, ht38⟩
    have hS73 : St w0 [] (fl [[(blk1, .cells #[.slice aPA PA.length cPA, .slice aPB PB.length cPB, .slice aCL CL.length cCL] 60 (0, 0))], (pk d1 m1 D), (pk d2 m2 Dc), (pk d3 m3 Db), (lq l1 d1 (⟨#[106]⟩) RJ), (lq l2 d1 (⟨#[107]⟩) RK), (lq l3 d2 (⟨#[106]⟩) RJ), (lq l4 d3 (⟨#[107]⟩) RK), smd, smc, smb, sg5, sg6, sg7, sg8]) w49 := hS72.callL (xs := []) (xs' := []) (zs := []) [] rfl (by decide) ht38 rfl rfl
    refine s_val hS73 rfl rfl (r_pick rfl (.t rfl rfl) (.t rfl rfl)) ?_
    refine s_val hS73 rfl rfl (r_assign rfl (.t rfl rfl)) ?_
    refine wpList_nil ?_
    refine x_tn ?_
    refine k_reb [(2, .bool true)] ⟨rfl, trivial⟩ fun G59 => ?_
    refine wp_ret ?_
    refine k_ret1 Try.results7 rfl rfl ?_
    refine ⟨_, rfl, ?_⟩
    have hS74 : St w0 [] (fl []) w49 := hS73.pick [] rfl (by decide)
    exact ⟨rfl, hS74⟩
   ·
    exact absurd rfl he2
  ·
   exact absurd rfl he1

end Go.Proofs.Ytdmiklegahdafaa

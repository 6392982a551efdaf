/- Contracts of functions of the program, each walked once. -/
import Derived.Test.YtdmiklegahdafaaFnP
import Derived.Test.YtdmiklegahdafaaKTurn
namespace Go.Proofs.Ytdmiklegahdafaa
open Go Go.RowKit K
namespace FQ
theorem mixed : Try.prog.follows .mixedOrders = true := by kernel_rfl
theorem cb16 : callable Try.prog 16 = true := by kernel_rfl
theorem cb27 : callable Try.prog 27 = true := by kernel_rfl
theorem cb28 : callable Try.prog 28 = true := by kernel_rfl
theorem cb36 : callable Try.prog 36 = true := by kernel_rfl
theorem one3 : One Try.prog 3 = true := by kernel_rfl
theorem one34 : One Try.prog 34 = true := by kernel_rfl
theorem one56 : One Try.prog 56 = true := by kernel_rfl
theorem ti3 : (Try.prog.info? 3).map (fun i => (i.zero, i.size, i.bytes)) = some (some (.int .i64 0), 1, 8) := by kernel_rfl
theorem ti34 : (Try.prog.info? 34).map (fun i => (i.zero, i.size, i.bytes)) = some (some (.slice none 0 0), 1, 24) := by kernel_rfl
theorem ti56 : (Try.prog.info? 56).map (fun i => (i.zero, i.size, i.bytes)) = some (some (.slice none 0 0), 1, 24) := by kernel_rfl

end FQ
open FQ
attribute [local irreducible] Go.wpList Go.wpQuiet Go.wpStill Go.wpAny Go.Code.wp
set_option maxRecDepth 10000
set_option maxHeartbeats 8000000
set_option linter.unusedVariables false
set_option linter.unusedSimpArgs false
theorem turn_ok (w0 : World) (K : List Nat) (d m : Nat) (D : Dk) (h : Lv D) (l : Nat) (RR : Recs) (sm : Hp) (hM : MapH U8 m none D.F sm) (s : ByteArray) {k : Nat} (ha : lookF D.F s = some ⟨s, logL RR, k⟩) (va vb : Value) (aCL : Option Addr) (cCL : Nat) (uCL : List Value) (CL : List Int) (vCL : Hp) (hCL : RwV RI aCL cCL uCL CL vCL) (oCL : Old w0 K vCL) (aPL : Option Addr) (cPL : Nat) (uPL : List Value) (PL : List (List (List Nat))) (vPL : Hp) (hPL : RwV R2 aPL cPL uPL PL vPL) (oPL : Old w0 K vPL) (i : Nat) (li : i ≤ 1000) (hr : ∀ r ∈ PL.getD i [], r.length ≤ 1000000000000) (hg : i < PL.length → goodR (rowsT PL i) ∧ tot D.F + (8 + (bodyL (rowsT PL i)).length) ≤ D.room) (hw : D.writes ≤ 1000000000) (hrm : D.room ≤ 268435456) (hS0 : St w0 K (fl [[(l, .cells #[.pointer (some ⟨d, 0, none⟩), .string s, .int .i64 ((lg RR).size : Nat), .int .i64 ((lg RR).count : Nat), .bool (lg RR).off] LT (0, 0))], [(d, .cells (dkC 0 m D) DT (0, 0))], sm]) w0) :
  Calls Try.prog 32 #[.agg #[va, vb, .slice aCL CL.length cCL], .pointer (some ⟨l, 0, none⟩), .slice aPL PL.length cPL, .int .i64 (((i : Nat) : Int))] w0 (Ret fun v w' => ∃ D1 sm' ks w, w ≤ 22 ∧ UpA D D1 s (logL RR) (logL (turnR RR PL i CL)) ks w ∧ v = .bool true ∧ MapH U8 m none D1.F sm' ∧ St w0 K (fl [[(l, .cells #[.pointer (some ⟨d, 0, none⟩), .string s, .int .i64 ((lg (turnR RR PL i CL)).size : Nat), .int .i64 ((lg (turnR RR PL i CL)).count : Nat), .bool (lg (turnR RR PL i CL)).off] LT (0, 0))], [(d, .cells (dkC 0 m D1) DT (0, 0))], sm']) w') := by
 refine k_enter (vs := [.agg #[va, vb, .slice aCL CL.length cCL], .pointer (some ⟨l, 0, none⟩), .slice aPL PL.length cPL, .int .i64 (((i : Nat) : Int))]) Try.func32 rfl Try.ntmps32 rfl ?_
 have hS : St w0 K (fl [(lq l d s RR), (pk d m D), sm]) w0 := hS0
 have mP := hPL.most
 have mC := hCL.most
 have hf0 := h.ok.fits
 have hfl := (h.file ha).2.2.2.2.2
 have hlr0 := logL_rows RR
 refine wp_seq ?_
 refine k_reg ?_
 refine s_box rfl rfl rfl (.t rfl rfl) (cs := #[va, vb, .slice aCL CL.length cCL]) rfl hS fun blk1 w1 hb1 hB1 hS1 => ?_
 have hS2 : St w0 K (fl [(lq l d s RR), (pk d m D), [(blk1, .cells #[va, vb, .slice aCL CL.length cCL] 60 (0, 0))], sm]) w1 := hS1.push 2 rfl
 refine s_val hS2 rfl rfl (r_assign rfl .c) ?_
 refine wpList_nil ?_
 refine x_tn ?_
 refine k_reb [(1, .pointer (some ⟨l, 0, none⟩)), (2, .slice aPL PL.length cPL), (3, .int .i64 (((i : Nat) : Int))), (4, .pointer (some ⟨blk1, 0, none⟩)), (8, .bool false)] ⟨rfl, rfl, rfl, rfl, rfl, trivial⟩ fun G1 => ?_
 refine wp_seq ?_
 refine wp_seq ?_
 refine k_reg ?_
 refine s_val hS2 rfl rfl (r_move rfl (.t rfl rfl)) ?_
 refine s_val hS2 rfl rfl (r_move rfl (.t rfl rfl)) ?_
 refine s_val hS2 rfl rfl (r_len rfl rfl Try.underlying30 (.t rfl rfl)) ?_
 by_cases hil : i < PL.length
 ·
  refine s_val hS2 rfl rfl (r_cmp_t rfl rfl (.t rfl rfl) (.t rfl rfl) (show ((i : Nat) : Int) < ((PL.length : Nat) : Int) from by omega)) ?_
  refine s_val hS2 rfl rfl (r_move rfl (.t rfl rfl)) ?_
  refine s_valg hS2 (wanted_of (j := 4) (b := true) (d := 14) rfl rfl rfl rfl) rfl (r_move rfl (.t rfl rfl)) ?_
  refine s_valg hS2 (wanted_of (j := 4) (b := true) (d := 14) rfl rfl rfl rfl) rfl (r_move rfl (.t rfl rfl)) ?_
  refine s_valg hS2 (wanted_of (j := 4) (b := true) (d := 14) rfl rfl rfl rfl) rfl (r_move rfl (.t rfl rfl)) ?_
  refine s_valg hS2 (wanted_of (j := 4) (b := true) (d := 14) rfl rfl rfl rfl) rfl (r_ixv (j := i) rfl Try.underlying30 ti56 (.t rfl rfl) (.t rfl rfl) hPL.sl (hPL.len) rfl (by omega)) ?_
  obtain ⟨ea1, ec1, us1, hv1, hx1⟩ := hPL.get2 i (by omega)
  refine s_valg hS2 (wanted_of (j := 4) (b := true) (d := 14) rfl rfl rfl rfl) rfl (r_load rfl one56 (.t rfl rfl) (hPL.sl.cell_o oPL hv1)) ?_
  refine s_callg (wanted_of (j := 4) (b := true) (d := 14) rfl rfl rfl rfl) rfl rfl (vs := [.slice ea1 ((PL.getD i []).length) ec1]) ⟨(.t rfl rfl), trivial⟩ cb28 (copied_q w1 ea1 ec1 _ ((PL.getD i [])) vPL hx1 (Old.of_old (xs := []) [] oPL hS2 rfl (by decide)) hr ) ?_
  rintro _ w2 ⟨Q, ra1, rc1, sg1, hQ1, hQ31, hQr1, rfl, hG1, ht1⟩
  have hS3 : St w0 K (fl [(lq l d s RR), (pk d m D), [(blk1, .cells #[va, vb, .slice aCL CL.length cCL] 60 (0, 0))], sm, sg1]) w2 := hS2.callL (xs := []) (xs' := []) (zs := [sg1]) [] rfl (by decide) ht1 rfl rfl
  have hg2 := hg hil
  rw [show rowsT PL i = Q from hQ1.symm] at hg2
  obtain ⟨hg3, hg4⟩ := hg2
  obtain ⟨us2, hw1⟩ := hG1.sl R1.mono (by omega)
  refine s_callg (wanted_of (j := 4) (b := true) (d := 14) rfl rfl rfl rfl) rfl rfl (vs := [.pointer (some ⟨l, 0, none⟩), .slice ra1 Q.length rc1]) ⟨(.t rfl rfl), (.t rfl rfl), trivial⟩ cb27 (LAppend_lv w2 _ d m D h l RR sm hM (s : ByteArray) ha ra1 rc1 _ Q sg1 hw1 (Old.of_piece (i := 4) (xs := [(lq l d s RR), (pk d m D), sm]) [0, 1, 3] hS3 rfl rfl (by decide)) hg3 (by omega) (by omega) (by omega) (by omega) (hS3.give (xs := [(lq l d s RR), (pk d m D), sm]) [0, 1, 3] rfl (by decide))) ?_
  rintro _ w3 ⟨D1, sm1, hup1, rfl, hM1, ht2⟩
  have hS4 : St w0 K (fl [(lq l d s (RR ++ [Q])), (pk d m D1), [(blk1, .cells #[va, vb, .slice aCL CL.length cCL] 60 (0, 0))], sm1, sg1]) w3 := hS3.callL (xs := [(lq l d s RR), (pk d m D), sm]) (xs' := [(lq l d s (RR ++ [Q])), (pk d m D1), sm1]) (zs := []) [0, 1, 3] rfl (by decide) ht2 rfl rfl
  have hu1 := hup1.tot
  have hu2 := hup1.wr
  have hu3 := hup1.room
  have hu4 := hup1.same
  have hln1 := logL_len_snoc RR Q
  refine s_callg (wanted_of (j := 4) (b := true) (d := 14) rfl rfl rfl rfl) rfl rfl (vs := [.int .i64 0]) ⟨(.t rfl rfl), trivial⟩ cb16 (num_ok w3 0) ?_
  rintro _ w3 ⟨rfl, rfl⟩
  refine s_valg hS4 (wanted_of (j := 4) (b := true) (d := 14) rfl rfl rfl rfl) rfl (r_cmp_f rfl rfl (.t rfl rfl) .c (show ¬ (¬ 0 = 0) from by omega)) ?_
  refine s_val hS4 rfl rfl (r_pick rfl (.t rfl rfl) (.t rfl rfl)) ?_
  refine wpList_nil ?_
  refine x_tn ?_
  refine k_reb [(1, .pointer (some ⟨l, 0, none⟩)), (3, .int .i64 (((i : Nat) : Int))), (4, .pointer (some ⟨blk1, 0, none⟩)), (8, .bool false), (24, .bool false)] ⟨rfl, rfl, rfl, rfl, rfl, trivial⟩ fun G2 => ?_
  refine k_f (.t rfl rfl) ?_
  refine wp_skip ?_
  refine x_tn ?_
  refine k_reb [(1, .pointer (some ⟨l, 0, none⟩)), (3, .int .i64 (((i : Nat) : Int))), (4, .pointer (some ⟨blk1, 0, none⟩)), (8, .bool false)] ⟨rfl, rfl, rfl, rfl, trivial⟩ fun G3 => ?_
  refine wp_seq ?_
  refine wp_seq ?_
  refine k_reg ?_
  refine s_val hS4 rfl rfl (r_assign rfl .c) ?_
  refine wpList_nil ?_
  refine x_tn ?_
  refine wp_block ?_
  have hS5 : St w0 K (fl [[(blk1, .cells #[va, vb, .slice aCL CL.length cCL] 60 (0, 0))], (lq l d s (RR ++ [Q])), (pk d m D1), sm1]) w3 := hS4.pick [2, 0, 1, 3] rfl (by decide)
  refine wp_loop_ghost (fun (m1 : Nat) a w => ∃ (G : Nat → Value) (c : Nat) (Dq : Dk) (R2_ : Recs) (smq : Hp) (ksq : Nat) (nw : Nat), a = fr 49 [(1, .pointer (some ⟨l, 0, none⟩)), (3, .int .i64 (((i : Nat) : Int))), (4, .pointer (some ⟨blk1, 0, none⟩)), (8, .bool false), (9, .int .i64 (((c : Nat) : Int)))] G ∧ St w0 K (fl [[(blk1, .cells #[va, vb, .slice aCL CL.length cCL] 60 (0, 0))], (lq l d s R2_), (pk d m Dq), smq]) w ∧ (m1 = CL.length - c ∧ c ≤ CL.length ∧ c ≤ 20 ∧ nw ≤ 2 + c ∧ UpA D Dq s (logL RR) (logL R2_) ksq nw ∧ MapH U8 m none Dq.F smq ∧ R2_ = clrR (RR ++ [Q]) CL c i)) (CL.length) ⟨_, 0, D1, (RR ++ [Q]), sm1, ((logL (RR ++ [Q])).length), 2, fr_reb _ ⟨rfl, rfl, rfl, rfl, rfl, trivial⟩, hS5, ?_⟩ ?_
  ·
   exact ⟨rfl, by omega, by omega, by omega, hup1, hM1, clr_zero⟩
  ·
   intro m1 _ w4 hI1
   obtain ⟨G4, c, Dq, R2_, smq, ksq, nw, rfl, hS6, ⟨hm, hc, hc20, hw2, hupq, hMq, hR2⟩⟩ := hI1
   have hw3 := hupq.wr
   have ht3 := hupq.tot
   have hr3 := hupq.room
   have hf3 := hupq.lv.ok.fits
   have hlr := logL_rows R2_
   refine wp_seq ?_
   refine wp_seq ?_
   refine k_reg ?_
   refine s_val hS6 rfl rfl (r_move rfl (.t rfl rfl)) ?_
   refine s_val hS6 rfl rfl (r_fieldN rfl Try.underlying60 rfl ti34 (by decide) (.t rfl rfl) (qq := 2) rfl) ?_
   refine s_val hS6 rfl rfl (r_load rfl one34 (.t rfl rfl) (St.cell_own (m := 0) rfl rfl)) ?_
   refine s_val hS6 rfl rfl (r_len rfl rfl Try.underlying34 (.t rfl rfl)) ?_
   by_cases c1 : c < CL.length
   ·
    refine s_val hS6 rfl rfl (r_cmp_t rfl rfl (.t rfl rfl) (.t rfl rfl) (show ((c : Nat) : Int) < ((CL.length : Nat) : Int) from by omega)) ?_
    refine s_val hS6 rfl rfl (r_move rfl (.t rfl rfl)) ?_
    refine s_valg hS6 (wanted_of (j := 5) (b := true) (d := 30) rfl rfl rfl rfl) rfl (r_move rfl (.t rfl rfl)) ?_
    by_cases c2 : c < 20
    ·
     refine s_valg hS6 (wanted_of (j := 5) (b := true) (d := 30) rfl rfl rfl rfl) rfl (r_cmp_t rfl rfl (.t rfl rfl) .c (show ((c : Nat) : Int) < 20 from by omega)) ?_
     refine s_val hS6 rfl rfl (r_pick rfl (.t rfl rfl) (.t rfl rfl)) ?_
     refine wpList_nil ?_
     refine x_tn ?_
     refine k_reb [(1, .pointer (some ⟨l, 0, none⟩)), (3, .int .i64 (((i : Nat) : Int))), (4, .pointer (some ⟨blk1, 0, none⟩)), (8, .bool false), (9, .int .i64 (((c : Nat) : Int))), (33, .bool true)] ⟨rfl, rfl, rfl, rfl, rfl, rfl, trivial⟩ fun G5 => ?_
     refine k_t (.t rfl rfl) ?_
     refine wp_skip ?_
     refine x_tn ?_
     refine k_reb [(1, .pointer (some ⟨l, 0, none⟩)), (3, .int .i64 (((i : Nat) : Int))), (4, .pointer (some ⟨blk1, 0, none⟩)), (8, .bool false), (9, .int .i64 (((c : Nat) : Int)))] ⟨rfl, rfl, rfl, rfl, rfl, trivial⟩ fun G6 => ?_
     refine wp_seq ?_
     refine wp_block ?_
     refine wp_seq ?_
     refine k_reg ?_
     refine s_val hS6 rfl rfl (r_fieldN rfl Try.underlying60 rfl ti34 (by decide) (.t rfl rfl) (qq := 2) rfl) ?_
     refine s_val hS6 rfl rfl (r_load rfl one34 (.t rfl rfl) (St.cell_own (m := 0) rfl rfl)) ?_
     refine s_val hS6 rfl rfl (r_move rfl (.t rfl rfl)) ?_
     refine s_val hS6 rfl rfl (r_ixv (j := c) rfl Try.underlying34 ti3 (.t rfl rfl) (.t rfl rfl) hCL.sl (hCL.len) rfl (by omega)) ?_
     obtain ⟨hv2, hx2, hx3⟩ := hCL.geti c (by omega)
     refine s_val hS6 rfl rfl (r_load rfl one3 (.t rfl rfl) (hCL.sl.cell_o oCL hv2)) ?_
     refine s_val hS6 rfl rfl (r_move rfl (.t rfl rfl)) ?_
     by_cases hcy : CL.getD c 0 = ((i : Nat) : Int)
     ·
      refine s_val hS6 rfl rfl (r_cmp_t rfl rfl (.t rfl rfl) (.t rfl rfl) (show CL.getD c 0 = ((i : Nat) : Int) from by omega)) ?_
      refine s_val hS6 rfl rfl (r_move rfl (.t rfl rfl)) ?_
      refine s_valg hS6 (wanted_of (j := 7) (b := true) (d := 43) rfl rfl rfl rfl) rfl (r_move rfl (.t rfl rfl)) ?_
      refine s_callg (wanted_of (j := 7) (b := true) (d := 43) rfl rfl rfl rfl) rfl rfl (vs := [.pointer (some ⟨l, 0, none⟩)]) ⟨(.t rfl rfl), trivial⟩ cb36 (LClear_lv w4 _ d m Dq hupq.lv l R2_ smq hMq (s : ByteArray) hupq.at_ (by omega) (by omega) (by omega) (hS6.give (xs := [(lq l d s R2_), (pk d m Dq), smq]) [1, 2, 3] rfl (by decide))) ?_
      rintro _ w5 ⟨D2, sm2, hup2, rfl, hM2, ht3⟩
      have hS7 : St w0 K (fl [[(blk1, .cells #[va, vb, .slice aCL CL.length cCL] 60 (0, 0))], (lq l d s noR), (pk d m D2), sm2]) w5 := hS6.callL (xs := [(lq l d s R2_), (pk d m Dq), smq]) (xs' := [(lq l d s noR), (pk d m D2), sm2]) (zs := []) [1, 2, 3] rfl (by decide) ht3 rfl rfl
      have hu5 := hup2.tot
      have hu6 := hup2.wr
      have hu7 := hup2.room
      have hu8 := hup2.same
      have hnr1 : noR.length = 0 := rfl
      have hnr2 : (logL noR).length = 8 := rfl
      refine s_callg (wanted_of (j := 7) (b := true) (d := 43) rfl rfl rfl rfl) rfl rfl (vs := [.int .i64 0]) ⟨(.t rfl rfl), trivial⟩ cb16 (num_ok w5 0) ?_
      rintro _ w5 ⟨rfl, rfl⟩
      refine s_valg hS7 (wanted_of (j := 7) (b := true) (d := 43) rfl rfl rfl rfl) rfl (r_cmp_f rfl rfl (.t rfl rfl) .c (show ¬ (¬ 0 = 0) from by omega)) ?_
      refine s_val hS7 rfl rfl (r_pick rfl (.t rfl rfl) (.t rfl rfl)) ?_
      refine wpList_nil ?_
      refine x_tn ?_
      refine k_reb [(1, .pointer (some ⟨l, 0, none⟩)), (3, .int .i64 (((i : Nat) : Int))), (4, .pointer (some ⟨blk1, 0, none⟩)), (8, .bool false), (9, .int .i64 (((c : Nat) : Int))), (48, .bool false)] ⟨rfl, rfl, rfl, rfl, rfl, rfl, trivial⟩ fun G7 => ?_
      refine k_f (.t rfl rfl) ?_
      refine wp_skip ?_
      refine x_bn ?_
      refine x_tn ?_
      refine k_reb [(1, .pointer (some ⟨l, 0, none⟩)), (3, .int .i64 (((i : Nat) : Int))), (4, .pointer (some ⟨blk1, 0, none⟩)), (8, .bool false), (9, .int .i64 (((c : Nat) : Int)))] ⟨rfl, rfl, rfl, rfl, rfl, trivial⟩ fun G8 => ?_
      refine k_reg ?_
      refine s_val hS7 rfl rfl (r_move rfl (.t rfl rfl)) ?_
      refine s_val hS7 rfl rfl (r_arith rfl rfl (.t rfl rfl) .c (c := ((c + 1 : Nat) : Int)) (wn_i64 (by show (((c : Nat) : Int) : Int) + 1 = _; omega) (by omega))) ?_
      refine s_val hS7 rfl rfl (r_assign rfl (.t rfl rfl)) ?_
      refine wpList_nil ?_
      refine x_tn ?_
      refine ⟨CL.length - (c + 1), by omega, _, c + 1, D2, noR, sm2, (min ksq 8), (nw + 1), fr_reb _ ⟨rfl, rfl, rfl, rfl, rfl, trivial⟩, hS7, ?_⟩
      exact ⟨by omega, by omega, by omega, by omega, hupq.trans hup2, hM2, clr_yes (by omega) hcy⟩
     ·
      refine s_val hS6 rfl rfl (r_cmp_f rfl rfl (.t rfl rfl) (.t rfl rfl) (show ¬ (CL.getD c 0 = ((i : Nat) : Int)) from by omega)) ?_
      refine s_val hS6 rfl rfl (r_move rfl (.t rfl rfl)) ?_
      refine s_skip (unwanted_of (j := 7) (b := true) (b' := false) (d := 43) rfl rfl rfl rfl rfl) rfl ?_
      refine s_skip (unwanted_of (j := 7) (b := true) (b' := false) (d := 43) rfl rfl rfl rfl rfl) rfl ?_
      refine s_skip (unwanted_of (j := 7) (b := true) (b' := false) (d := 43) rfl rfl rfl rfl rfl) rfl ?_
      refine s_skip (unwanted_of (j := 7) (b := true) (b' := false) (d := 43) rfl rfl rfl rfl rfl) rfl ?_
      refine s_val hS6 rfl rfl (r_pick rfl (.t rfl rfl) .c) ?_
      refine wpList_nil ?_
      refine x_tn ?_
      refine k_reb [(1, .pointer (some ⟨l, 0, none⟩)), (3, .int .i64 (((i : Nat) : Int))), (4, .pointer (some ⟨blk1, 0, none⟩)), (8, .bool false), (9, .int .i64 (((c : Nat) : Int))), (48, .bool false)] ⟨rfl, rfl, rfl, rfl, rfl, rfl, trivial⟩ fun G9 => ?_
      refine k_f (.t rfl rfl) ?_
      refine wp_skip ?_
      refine x_bn ?_
      refine x_tn ?_
      refine k_reb [(1, .pointer (some ⟨l, 0, none⟩)), (3, .int .i64 (((i : Nat) : Int))), (4, .pointer (some ⟨blk1, 0, none⟩)), (8, .bool false), (9, .int .i64 (((c : Nat) : Int)))] ⟨rfl, rfl, rfl, rfl, rfl, trivial⟩ fun G10 => ?_
      refine k_reg ?_
      refine s_val hS6 rfl rfl (r_move rfl (.t rfl rfl)) ?_
      refine s_val hS6 rfl rfl (r_arith rfl rfl (.t rfl rfl) .c (c := ((c + 1 : Nat) : Int)) (wn_i64 (by show (((c : Nat) : Int) : Int) + 1 = _; omega) (by omega))) ?_
      refine s_val hS6 rfl rfl (r_assign rfl (.t rfl rfl)) ?_
      refine wpList_nil ?_
      refine x_tn ?_
      refine ⟨CL.length - (c + 1), by omega, _, c + 1, Dq, R2_, smq, ksq, nw, fr_reb _ ⟨rfl, rfl, rfl, rfl, rfl, trivial⟩, hS6, ?_⟩
      exact ⟨by omega, by omega, by omega, by omega, hupq, hMq, hR2.trans (clr_no (by omega) hcy)⟩
    ·
     refine s_valg hS6 (wanted_of (j := 5) (b := true) (d := 30) rfl rfl rfl rfl) rfl (r_cmp_f rfl rfl (.t rfl rfl) .c (show ¬ (((c : Nat) : Int) < 20) from by omega)) ?_
     refine s_val hS6 rfl rfl (r_pick rfl (.t rfl rfl) (.t rfl rfl)) ?_
     refine wpList_nil ?_
     refine x_tn ?_
     refine k_reb [(1, .pointer (some ⟨l, 0, none⟩)), (3, .int .i64 (((i : Nat) : Int))), (4, .pointer (some ⟨blk1, 0, none⟩)), (8, .bool false), (9, .int .i64 (((c : Nat) : Int))), (33, .bool false)] ⟨rfl, rfl, rfl, rfl, rfl, rfl, trivial⟩ fun G11 => ?_
     refine k_f (.t rfl rfl) ?_
     refine wp_exit ?_
     refine x_te ?_
     refine x_te ?_
     refine x_be ?_
     refine x_tn ?_
     refine k_reb [(8, .bool false)] ⟨rfl, trivial⟩ fun G12 => ?_
     refine wp_seq ?_
     refine k_reg ?_
     refine s_val hS6 rfl rfl (r_assign rfl .c) ?_
     refine wpList_nil ?_
     refine x_tn ?_
     refine wp_ret ?_
     refine k_ret1 Try.results32 rfl rfl ?_
     refine ⟨_, rfl, ?_⟩
     have hfin : R2_ = turnR RR PL i CL := by
      rw [hR2, clr_end (by omega)]; unfold turnR moreR
      rw [if_pos hil, show rowsT PL i = Q from hQ1.symm]
     have hS8 : St w0 K (fl [(lq l d s R2_), (pk d m Dq), smq]) w4 := hS6.pick [1, 2, 3] rfl (by decide)
     rw [hfin] at hupq
     exact ⟨Dq, smq, ksq, nw, by omega, hupq, rfl, hMq, by have q := hS8; rw [hfin] at q; exact q⟩
   ·
    refine s_val hS6 rfl rfl (r_cmp_f rfl rfl (.t rfl rfl) (.t rfl rfl) (show ¬ (((c : Nat) : Int) < ((CL.length : Nat) : Int)) from by omega)) ?_
    refine s_val hS6 rfl rfl (r_move rfl (.t rfl rfl)) ?_
    refine s_skip (unwanted_of (j := 5) (b := true) (b' := false) (d := 30) rfl rfl rfl rfl rfl) rfl ?_
    refine s_skip (unwanted_of (j := 5) (b := true) (b' := false) (d := 30) rfl rfl rfl rfl rfl) rfl ?_
    refine s_val hS6 rfl rfl (r_pick rfl (.t rfl rfl) .c) ?_
    refine wpList_nil ?_
    refine x_tn ?_
    refine k_reb [(1, .pointer (some ⟨l, 0, none⟩)), (3, .int .i64 (((i : Nat) : Int))), (4, .pointer (some ⟨blk1, 0, none⟩)), (8, .bool false), (9, .int .i64 (((c : Nat) : Int))), (33, .bool false)] ⟨rfl, rfl, rfl, rfl, rfl, rfl, trivial⟩ fun G13 => ?_
    refine k_f (.t rfl rfl) ?_
    refine wp_exit ?_
    refine x_te ?_
    refine x_te ?_
    refine x_be ?_
    refine x_tn ?_
    refine k_reb [(8, .bool false)] ⟨rfl, trivial⟩ fun G14 => ?_
    refine wp_seq ?_
    refine k_reg ?_
    refine s_val hS6 rfl rfl (r_assign rfl .c) ?_
    refine wpList_nil ?_
    refine x_tn ?_
    refine wp_ret ?_
    refine k_ret1 Try.results32 rfl rfl ?_
    refine ⟨_, rfl, ?_⟩
    have hfin : R2_ = turnR RR PL i CL := by
     rw [hR2, clr_end (by omega)]; unfold turnR moreR
     rw [if_pos hil, show rowsT PL i = Q from hQ1.symm]
    have hS9 : St w0 K (fl [(lq l d s R2_), (pk d m Dq), smq]) w4 := hS6.pick [1, 2, 3] rfl (by decide)
    rw [hfin] at hupq
    exact ⟨Dq, smq, ksq, nw, by omega, hupq, rfl, hMq, by have q := hS9; rw [hfin] at q; exact q⟩
 ·
  refine s_val hS2 rfl rfl (r_cmp_f rfl rfl (.t rfl rfl) (.t rfl rfl) (show ¬ (((i : Nat) : Int) < ((PL.length : Nat) : Int)) from by omega)) ?_
  refine s_val hS2 rfl rfl (r_move rfl (.t rfl rfl)) ?_
  refine s_skip (unwanted_of (j := 4) (b := true) (b' := false) (d := 14) rfl rfl rfl rfl rfl) rfl ?_
  refine s_skip (unwanted_of (j := 4) (b := true) (b' := false) (d := 14) rfl rfl rfl rfl rfl) rfl ?_
  refine s_skip (unwanted_of (j := 4) (b := true) (b' := false) (d := 14) rfl rfl rfl rfl rfl) rfl ?_
  refine s_skip (unwanted_of (j := 4) (b := true) (b' := false) (d := 14) rfl rfl rfl rfl rfl) rfl ?_
  refine s_skip (unwanted_of (j := 4) (b := true) (b' := false) (d := 14) rfl rfl rfl rfl rfl) rfl ?_
  refine s_skip (unwanted_of (j := 4) (b := true) (b' := false) (d := 14) rfl rfl rfl rfl rfl) rfl ?_
  refine s_skip (unwanted_of (j := 4) (b := true) (b' := false) (d := 14) rfl rfl rfl rfl rfl) rfl ?_
  refine s_skip (unwanted_of (j := 4) (b := true) (b' := false) (d := 14) rfl rfl rfl rfl rfl) rfl ?_
  refine s_skip (unwanted_of (j := 4) (b := true) (b' := false) (d := 14) rfl rfl rfl rfl rfl) rfl ?_
  refine s_val hS2 rfl rfl (r_pick rfl (.t rfl rfl) .c) ?_
  refine wpList_nil ?_
  refine x_tn ?_
  refine k_reb [(1, .pointer (some ⟨l, 0, none⟩)), (3, .int .i64 (((i : Nat) : Int))), (4, .pointer (some ⟨blk1, 0, none⟩)), (8, .bool false), (24, .bool false)] ⟨rfl, rfl, rfl, rfl, rfl, trivial⟩ fun G15 => ?_
  refine k_f (.t rfl rfl) ?_
  refine wp_skip ?_
  refine x_tn ?_
  refine k_reb [(1, .pointer (some ⟨l, 0, none⟩)), (3, .int .i64 (((i : Nat) : Int))), (4, .pointer (some ⟨blk1, 0, none⟩)), (8, .bool false)] ⟨rfl, rfl, rfl, rfl, trivial⟩ fun G16 => ?_
  refine wp_seq ?_
  refine wp_seq ?_
  refine k_reg ?_
  refine s_val hS2 rfl rfl (r_assign rfl .c) ?_
  refine wpList_nil ?_
  refine x_tn ?_
  refine wp_block ?_
  have hS10 : St w0 K (fl [[(blk1, .cells #[va, vb, .slice aCL CL.length cCL] 60 (0, 0))], (lq l d s RR), (pk d m D), sm]) w1 := hS2.pick [2, 0, 1, 3] rfl (by decide)
  refine wp_loop_ghost (fun (m2 : Nat) a w => ∃ (G : Nat → Value) (c : Nat) (Dq : Dk) (R2_ : Recs) (smq : Hp) (ksq : Nat) (nw : Nat), a = fr 49 [(1, .pointer (some ⟨l, 0, none⟩)), (3, .int .i64 (((i : Nat) : Int))), (4, .pointer (some ⟨blk1, 0, none⟩)), (8, .bool false), (9, .int .i64 (((c : Nat) : Int)))] G ∧ St w0 K (fl [[(blk1, .cells #[va, vb, .slice aCL CL.length cCL] 60 (0, 0))], (lq l d s R2_), (pk d m Dq), smq]) w ∧ (m2 = CL.length - c ∧ c ≤ CL.length ∧ c ≤ 20 ∧ nw ≤ 2 + c ∧ UpA D Dq s (logL RR) (logL R2_) ksq nw ∧ MapH U8 m none Dq.F smq ∧ R2_ = clrR RR CL c i)) (CL.length) ⟨_, 0, D, RR, sm, k, 0, fr_reb _ ⟨rfl, rfl, rfl, rfl, rfl, trivial⟩, hS10, ?_⟩ ?_
  ·
   exact ⟨rfl, by omega, by omega, by omega, UpA.refl h ha, hM, clr_zero⟩
  ·
   intro m2 _ w6 hI2
   obtain ⟨G17, c, Dq, R2_, smq, ksq, nw, rfl, hS11, ⟨hm, hc, hc20, hw2, hupq, hMq, hR2⟩⟩ := hI2
   have hw3 := hupq.wr
   have ht3 := hupq.tot
   have hr3 := hupq.room
   have hf3 := hupq.lv.ok.fits
   have hlr := logL_rows R2_
   refine wp_seq ?_
   refine wp_seq ?_
   refine k_reg ?_
   refine s_val hS11 rfl rfl (r_move rfl (.t rfl rfl)) ?_
   refine s_val hS11 rfl rfl (r_fieldN rfl Try.underlying60 rfl ti34 (by decide) (.t rfl rfl) (qq := 2) rfl) ?_
   refine s_val hS11 rfl rfl (r_load rfl one34 (.t rfl rfl) (St.cell_own (m := 0) rfl rfl)) ?_
   refine s_val hS11 rfl rfl (r_len rfl rfl Try.underlying34 (.t rfl rfl)) ?_
   by_cases c3 : c < CL.length
   ·
    refine s_val hS11 rfl rfl (r_cmp_t rfl rfl (.t rfl rfl) (.t rfl rfl) (show ((c : Nat) : Int) < ((CL.length : Nat) : Int) from by omega)) ?_
    refine s_val hS11 rfl rfl (r_move rfl (.t rfl rfl)) ?_
    refine s_valg hS11 (wanted_of (j := 5) (b := true) (d := 30) rfl rfl rfl rfl) rfl (r_move rfl (.t rfl rfl)) ?_
    by_cases c4 : c < 20
    ·
     refine s_valg hS11 (wanted_of (j := 5) (b := true) (d := 30) rfl rfl rfl rfl) rfl (r_cmp_t rfl rfl (.t rfl rfl) .c (show ((c : Nat) : Int) < 20 from by omega)) ?_
     refine s_val hS11 rfl rfl (r_pick rfl (.t rfl rfl) (.t rfl rfl)) ?_
     refine wpList_nil ?_
     refine x_tn ?_
     refine k_reb [(1, .pointer (some ⟨l, 0, none⟩)), (3, .int .i64 (((i : Nat) : Int))), (4, .pointer (some ⟨blk1, 0, none⟩)), (8, .bool false), (9, .int .i64 (((c : Nat) : Int))), (33, .bool true)] ⟨rfl, rfl, rfl, rfl, rfl, rfl, trivial⟩ fun G18 => ?_
     refine k_t (.t rfl rfl) ?_
     refine wp_skip ?_
     refine x_tn ?_
     refine k_reb [(1, .pointer (some ⟨l, 0, none⟩)), (3, .int .i64 (((i : Nat) : Int))), (4, .pointer (some ⟨blk1, 0, none⟩)), (8, .bool false), (9, .int .i64 (((c : Nat) : Int)))] ⟨rfl, rfl, rfl, rfl, rfl, trivial⟩ fun G19 => ?_
     refine wp_seq ?_
     refine wp_block ?_
     refine wp_seq ?_
     refine k_reg ?_
     refine s_val hS11 rfl rfl (r_fieldN rfl Try.underlying60 rfl ti34 (by decide) (.t rfl rfl) (qq := 2) rfl) ?_
     refine s_val hS11 rfl rfl (r_load rfl one34 (.t rfl rfl) (St.cell_own (m := 0) rfl rfl)) ?_
     refine s_val hS11 rfl rfl (r_move rfl (.t rfl rfl)) ?_
     refine s_val hS11 rfl rfl (r_ixv (j := c) rfl Try.underlying34 ti3 (.t rfl rfl) (.t rfl rfl) hCL.sl (hCL.len) rfl (by omega)) ?_
     obtain ⟨hv3, hx4, hx5⟩ := hCL.geti c (by omega)
     refine s_val hS11 rfl rfl (r_load rfl one3 (.t rfl rfl) (hCL.sl.cell_o oCL hv3)) ?_
     refine s_val hS11 rfl rfl (r_move rfl (.t rfl rfl)) ?_
     by_cases hcy : CL.getD c 0 = ((i : Nat) : Int)
     ·
      refine s_val hS11 rfl rfl (r_cmp_t rfl rfl (.t rfl rfl) (.t rfl rfl) (show CL.getD c 0 = ((i : Nat) : Int) from by omega)) ?_
      refine s_val hS11 rfl rfl (r_move rfl (.t rfl rfl)) ?_
      refine s_valg hS11 (wanted_of (j := 7) (b := true) (d := 43) rfl rfl rfl rfl) rfl (r_move rfl (.t rfl rfl)) ?_
      refine s_callg (wanted_of (j := 7) (b := true) (d := 43) rfl rfl rfl rfl) rfl rfl (vs := [.pointer (some ⟨l, 0, none⟩)]) ⟨(.t rfl rfl), trivial⟩ cb36 (LClear_lv w6 _ d m Dq hupq.lv l R2_ smq hMq (s : ByteArray) hupq.at_ (by omega) (by omega) (by omega) (hS11.give (xs := [(lq l d s R2_), (pk d m Dq), smq]) [1, 2, 3] rfl (by decide))) ?_
      rintro _ w7 ⟨D3, sm3, hup3, rfl, hM3, ht4⟩
      have hS12 : St w0 K (fl [[(blk1, .cells #[va, vb, .slice aCL CL.length cCL] 60 (0, 0))], (lq l d s noR), (pk d m D3), sm3]) w7 := hS11.callL (xs := [(lq l d s R2_), (pk d m Dq), smq]) (xs' := [(lq l d s noR), (pk d m D3), sm3]) (zs := []) [1, 2, 3] rfl (by decide) ht4 rfl rfl
      have hu9 := hup3.tot
      have hu10 := hup3.wr
      have hu11 := hup3.room
      have hu12 := hup3.same
      have hnr3 : noR.length = 0 := rfl
      have hnr4 : (logL noR).length = 8 := rfl
      refine s_callg (wanted_of (j := 7) (b := true) (d := 43) rfl rfl rfl rfl) rfl rfl (vs := [.int .i64 0]) ⟨(.t rfl rfl), trivial⟩ cb16 (num_ok w7 0) ?_
      rintro _ w7 ⟨rfl, rfl⟩
      refine s_valg hS12 (wanted_of (j := 7) (b := true) (d := 43) rfl rfl rfl rfl) rfl (r_cmp_f rfl rfl (.t rfl rfl) .c (show ¬ (¬ 0 = 0) from by omega)) ?_
      refine s_val hS12 rfl rfl (r_pick rfl (.t rfl rfl) (.t rfl rfl)) ?_
      refine wpList_nil ?_
      refine x_tn ?_
      refine k_reb [(1, .pointer (some ⟨l, 0, none⟩)), (3, .int .i64 (((i : Nat) : Int))), (4, .pointer (some ⟨blk1, 0, none⟩)), (8, .bool false), (9, .int .i64 (((c : Nat) : Int))), (48, .bool false)] ⟨rfl, rfl, rfl, rfl, rfl, rfl, trivial⟩ fun G20 => ?_
      refine k_f (.t rfl rfl) ?_
      refine wp_skip ?_
      refine x_bn ?_
      refine x_tn ?_
      refine k_reb [(1, .pointer (some ⟨l, 0, none⟩)), (3, .int .i64 (((i : Nat) : Int))), (4, .pointer (some ⟨blk1, 0, none⟩)), (8, .bool false), (9, .int .i64 (((c : Nat) : Int)))] ⟨rfl, rfl, rfl, rfl, rfl, trivial⟩ fun G21 => ?_
      refine k_reg ?_
      refine s_val hS12 rfl rfl (r_move rfl (.t rfl rfl)) ?_
      refine s_val hS12 rfl rfl (r_arith rfl rfl (.t rfl rfl) .c (c := ((c + 1 : Nat) : Int)) (wn_i64 (by show (((c : Nat) : Int) : Int) + 1 = _; omega) (by omega))) ?_
      refine s_val hS12 rfl rfl (r_assign rfl (.t rfl rfl)) ?_
      refine wpList_nil ?_
      refine x_tn ?_
      refine ⟨CL.length - (c + 1), by omega, _, c + 1, D3, noR, sm3, (min ksq 8), (nw + 1), fr_reb _ ⟨rfl, rfl, rfl, rfl, rfl, trivial⟩, hS12, ?_⟩
      exact ⟨by omega, by omega, by omega, by omega, hupq.trans hup3, hM3, clr_yes (by omega) hcy⟩
     ·
      refine s_val hS11 rfl rfl (r_cmp_f rfl rfl (.t rfl rfl) (.t rfl rfl) (show ¬ (CL.getD c 0 = ((i : Nat) : Int)) from by omega)) ?_
      refine s_val hS11 rfl rfl (r_move rfl (.t rfl rfl)) ?_
      refine s_skip (unwanted_of (j := 7) (b := true) (b' := false) (d := 43) rfl rfl rfl rfl rfl) rfl ?_
      refine s_skip (unwanted_of (j := 7) (b := true) (b' := false) (d := 43) rfl rfl rfl rfl rfl) rfl ?_
      refine s_skip (unwanted_of (j := 7) (b := true) (b' := false) (d := 43) rfl rfl rfl rfl rfl) rfl ?_
      refine s_skip (unwanted_of (j := 7) (b := true) (b' := false) (d := 43) rfl rfl rfl rfl rfl) rfl ?_
      refine s_val hS11 rfl rfl (r_pick rfl (.t rfl rfl) .c) ?_
      refine wpList_nil ?_
      refine x_tn ?_
      refine k_reb [(1, .pointer (some ⟨l, 0, none⟩)), (3, .int .i64 (((i : Nat) : Int))), (4, .pointer (some ⟨blk1, 0, none⟩)), (8, .bool false), (9, .int .i64 (((c : Nat) : Int))), (48, .bool false)] ⟨rfl, rfl, rfl, rfl, rfl, rfl, trivial⟩ fun G22 => ?_
      refine k_f (.t rfl rfl) ?_
      refine wp_skip ?_
      refine x_bn ?_
      refine x_tn ?_
      refine k_reb [(1, .pointer (some ⟨l, 0, none⟩)), (3, .int .i64 (((i : Nat) : Int))), (4, .pointer (some ⟨blk1, 0, none⟩)), (8, .bool false), (9, .int .i64 (((c : Nat) : Int)))] ⟨rfl, rfl, rfl, rfl, rfl, trivial⟩ fun G23 => ?_
      refine k_reg ?_
      refine s_val hS11 rfl rfl (r_move rfl (.t rfl rfl)) ?_
      refine s_val hS11 rfl rfl (r_arith rfl rfl (.t rfl rfl) .c (c := ((c + 1 : Nat) : Int)) (wn_i64 (by show (((c : Nat) : Int) : Int) + 1 = _; omega) (by omega))) ?_
      refine s_val hS11 rfl rfl (r_assign rfl (.t rfl rfl)) ?_
      refine wpList_nil ?_
      refine x_tn ?_
      refine ⟨CL.length - (c + 1), by omega, _, c + 1, Dq, R2_, smq, ksq, nw, fr_reb _ ⟨rfl, rfl, rfl, rfl, rfl, trivial⟩, hS11, ?_⟩
      exact ⟨by omega, by omega, by omega, by omega, hupq, hMq, hR2.trans (clr_no (by omega) hcy)⟩
    ·
     refine s_valg hS11 (wanted_of (j := 5) (b := true) (d := 30) rfl rfl rfl rfl) rfl (r_cmp_f rfl rfl (.t rfl rfl) .c (show ¬ (((c : Nat) : Int) < 20) from by omega)) ?_
     refine s_val hS11 rfl rfl (r_pick rfl (.t rfl rfl) (.t rfl rfl)) ?_
     refine wpList_nil ?_
     refine x_tn ?_
     refine k_reb [(1, .pointer (some ⟨l, 0, none⟩)), (3, .int .i64 (((i : Nat) : Int))), (4, .pointer (some ⟨blk1, 0, none⟩)), (8, .bool false), (9, .int .i64 (((c : Nat) : Int))), (33, .bool false)] ⟨rfl, rfl, rfl, rfl, rfl, rfl, trivial⟩ fun G24 => ?_
     refine k_f (.t rfl rfl) ?_
     refine wp_exit ?_
     refine x_te ?_
     refine x_te ?_
     refine x_be ?_
     refine x_tn ?_
     refine k_reb [(8, .bool false)] ⟨rfl, trivial⟩ fun G25 => ?_
     refine wp_seq ?_
     refine k_reg ?_
     refine s_val hS11 rfl rfl (r_assign rfl .c) ?_
     refine wpList_nil ?_
     refine x_tn ?_
     refine wp_ret ?_
     refine k_ret1 Try.results32 rfl rfl ?_
     refine ⟨_, rfl, ?_⟩
     have hfin : R2_ = turnR RR PL i CL := by
      rw [hR2, clr_end (by omega)]; unfold turnR moreR
      rw [if_neg hil]
     have hS13 : St w0 K (fl [(lq l d s R2_), (pk d m Dq), smq]) w6 := hS11.pick [1, 2, 3] rfl (by decide)
     rw [hfin] at hupq
     exact ⟨Dq, smq, ksq, nw, by omega, hupq, rfl, hMq, by have q := hS13; rw [hfin] at q; exact q⟩
   ·
    refine s_val hS11 rfl rfl (r_cmp_f rfl rfl (.t rfl rfl) (.t rfl rfl) (show ¬ (((c : Nat) : Int) < ((CL.length : Nat) : Int)) from by omega)) ?_
    refine s_val hS11 rfl rfl (r_move rfl (.t rfl rfl)) ?_
    refine s_skip (unwanted_of (j := 5) (b := true) (b' := false) (d := 30) rfl rfl rfl rfl rfl) rfl ?_
    refine s_skip (unwanted_of (j := 5) (b := true) (b' := false) (d := 30) rfl rfl rfl rfl rfl) rfl ?_
    refine s_val hS11 rfl rfl (r_pick rfl (.t rfl rfl) .c) ?_
    refine wpList_nil ?_
    refine x_tn ?_
    refine k_reb [(1, .pointer (some ⟨l, 0, none⟩)), (3, .int .i64 (((i : Nat) : Int))), (4, .pointer (some ⟨blk1, 0, none⟩)), (8, .bool false), (9, .int .i64 (((c : Nat) : Int))), (33, .bool false)] ⟨rfl, rfl, rfl, rfl, rfl, rfl, trivial⟩ fun G26 => ?_
    refine k_f (.t rfl rfl) ?_
    refine wp_exit ?_
    refine x_te ?_
    refine x_te ?_
    refine x_be ?_
    refine x_tn ?_
    refine k_reb [(8, .bool false)] ⟨rfl, trivial⟩ fun G27 => ?_
    refine wp_seq ?_
    refine k_reg ?_
    refine s_val hS11 rfl rfl (r_assign rfl .c) ?_
    refine wpList_nil ?_
    refine x_tn ?_
    refine wp_ret ?_
    refine k_ret1 Try.results32 rfl rfl ?_
    refine ⟨_, rfl, ?_⟩
    have hfin : R2_ = turnR RR PL i CL := by
     rw [hR2, clr_end (by omega)]; unfold turnR moreR
     rw [if_neg hil]
    have hS14 : St w0 K (fl [(lq l d s R2_), (pk d m Dq), smq]) w6 := hS11.pick [1, 2, 3] rfl (by decide)
    rw [hfin] at hupq
    exact ⟨Dq, smq, ksq, nw, by omega, hupq, rfl, hMq, by have q := hS14; rw [hfin] at q; exact q⟩

end Go.Proofs.Ytdmiklegahdafaa

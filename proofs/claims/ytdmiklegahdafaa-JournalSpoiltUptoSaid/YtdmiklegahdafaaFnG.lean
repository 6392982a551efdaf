/- Contracts of functions of the program, each walked once. -/
import Derived.Test.YtdmiklegahdafaaFnF
import Derived.Test.YtdmiklegahdafaaKLab
namespace Go.Proofs.Ytdmiklegahdafaa
open Go Go.RowKit K
namespace FG
theorem mixed : Try.prog.follows .mixedOrders = true := by kernel_rfl
theorem cb49 : callable Try.prog 49 = true := by kernel_rfl
theorem ti22 : (Try.prog.info? 22).map (fun i => (i.zero, i.size, i.bytes)) = some (some (.slice none 0 0), 1, 24) := by kernel_rfl
theorem ti5 : (Try.prog.info? 5).map (fun i => (i.zero, i.size, i.bytes)) = some (some (.int .u8 0), 1, 1) := by kernel_rfl

end FG
open FG
attribute [local irreducible] Go.wpList Go.wpQuiet Go.wpStill Go.wpAny Go.Code.wp
set_option maxRecDepth 10000
set_option maxHeartbeats 8000000
set_option linter.unusedVariables false
set_option linter.unusedSimpArgs false
theorem rows_ok (w0 : World) (aB : Option Addr) (cB : Nat) (B : List Nat) (vB : Hp) (hB : Sl .u8 aB cB B vB) (oB : Old w0 [] vB) (lB : B.length ≤ 1000000000) :
  Calls Try.prog 50 #[.slice aB B.length cB] w0 (Ret fun v w' => (∃ LL a c sg, B = bodyL LL ∧ v = .tuple #[.slice a LL.length c, .bool (decide (LL.length ≤ 4096))] ∧ GrP R1 22 a c LL sg ∧ St w0 [] (fl [sg]) w') ∨ ((∀ M, B ≠ bodyL M) ∧ v = .tuple #[.slice none 0 0, .bool false] ∧ St w0 [] (fl []) w')) := by
 refine k_enter (vs := [.slice aB B.length cB]) Try.func50 rfl Try.ntmps50 rfl ?_
 have hS : St w0 [] (fl []) w0 := St.init w0
 have fB := hB.fit
 refine wp_seq ?_
 refine k_reg ?_
 refine s_val hS rfl rfl (r_assign rfl .c) ?_
 refine s_val hS rfl rfl (r_assign rfl .c) ?_
 refine wpList_nil ?_
 refine x_tn ?_
 refine k_scopeG (fun l_ m_ a_ w_ => (l_ = 0 ∧ ∃ (G : Nat → Value) (LL : List (List Nat)) (R : List Nat) (k : Nat) (ra : Option Addr) (rc : Nat) (ga : Option Addr) (gc : Nat) (sg : Hp), a_ = fr 36 [(0, .slice ra R.length rc), (4, .slice ga k gc)] G ∧ St w0 [] (fl [sg]) w_ ∧ (m_ = R.length ∧ k = LL.length ∧ B = bodyL LL ++ R ∧ Sl .u8 ra rc R vB ∧ GrP R1 22 ga gc LL sg))) ?_ ?_
 ·
  refine wp_seq ?_
  refine k_reg ?_
  refine s_val hS rfl rfl (r_assign rfl .c) ?_
  refine wpList_nil ?_
  refine x_tn ?_
  refine wp_seq ?_
  refine wp_label ?_
  refine x_tn ?_
  refine wp_seq ?_
  refine wp_seq ?_
  refine k_reg ?_
  refine s_val hS rfl rfl (r_move rfl (.t rfl rfl)) ?_
  refine s_val hS rfl rfl (r_len rfl rfl Try.underlying22 (.t rfl rfl)) ?_
  by_cases c1 : B.length = 0
  ·
   refine s_val hS rfl rfl (r_cmp_t rfl rfl (.t rfl rfl) .c (show ((B.length : Nat) : Int) = 0 from by omega)) ?_
   refine wpList_nil ?_
   refine x_tn ?_
   refine k_t (.t rfl rfl) ?_
   refine wp_seq ?_
   refine k_reg ?_
   refine s_val hS rfl rfl (r_move rfl (.t rfl rfl)) ?_
   refine s_val hS rfl rfl (r_move rfl (.t rfl rfl)) ?_
   refine s_val hS rfl rfl (r_len rfl rfl Try.underlying56 (.t rfl rfl)) ?_
   refine s_val hS rfl rfl (r_cmp_t rfl rfl (.t rfl rfl) .c (show 0 ≤ 4096 from by omega)) ?_
   refine s_val hS rfl rfl (r_assign rfl (.t rfl rfl)) ?_
   refine s_val hS rfl rfl (r_assign rfl (.t rfl rfl)) ?_
   refine wpList_nil ?_
   refine x_tn ?_
   refine wp_ret ?_
   refine x_tr ?_
   refine j_r ?_
   refine k_ret2 Try.results50 rfl rfl rfl rfl ?_
   refine ⟨_, rfl, ?_⟩
   have hB0 : B = [] := List.length_eq_zero_iff.1 (by omega)
   exact .inl ⟨[], none, 0, [], hB0, rfl, GrP.nil, (by have := hS; simpa using this)⟩
  ·
   refine s_val hS rfl rfl (r_cmp_f rfl rfl (.t rfl rfl) .c (show ¬ (((B.length : Nat) : Int) = 0) from by omega)) ?_
   refine wpList_nil ?_
   refine x_tn ?_
   refine k_f (.t rfl rfl) ?_
   refine wp_skip ?_
   refine x_tn ?_
   refine wp_seq ?_
   refine wp_seq ?_
   refine k_reg ?_
   refine s_val hS rfl rfl (r_move rfl (.t rfl rfl)) ?_
   refine s_val hS rfl rfl (r_len rfl rfl Try.underlying22 (.t rfl rfl)) ?_
   by_cases c2 : B.length < 4
   ·
    refine s_val hS rfl rfl (r_cmp_t rfl rfl (.t rfl rfl) .c (show ((B.length : Nat) : Int) < 4 from by omega)) ?_
    refine wpList_nil ?_
    refine x_tn ?_
    refine k_t (.t rfl rfl) ?_
    refine wp_seq ?_
    refine k_reg ?_
    refine s_val hS rfl rfl (r_assign rfl .c) ?_
    refine s_val hS rfl rfl (r_assign rfl .c) ?_
    refine wpList_nil ?_
    refine x_tn ?_
    refine wp_ret ?_
    refine x_tr ?_
    refine j_r ?_
    refine k_ret2 Try.results50 rfl rfl rfl rfl ?_
    refine ⟨_, rfl, ?_⟩
    exact .inr ⟨by first | exact no_short (by omega) (by omega) | exact no_long' (by assumption) (by omega) (by omega) (by omega), rfl, hS⟩
   ·
    refine s_val hS rfl rfl (r_cmp_f rfl rfl (.t rfl rfl) .c (show ¬ (((B.length : Nat) : Int) < 4) from by omega)) ?_
    refine wpList_nil ?_
    refine x_tn ?_
    refine k_f (.t rfl rfl) ?_
    refine wp_skip ?_
    refine x_tn ?_
    refine wp_seq ?_
    refine k_reg ?_
    refine s_val hS rfl rfl (r_move rfl (.t rfl rfl)) ?_
    refine s_call rfl rfl rfl (vs := [.slice aB B.length cB]) ⟨(.t rfl rfl), trivial⟩ cb49 (number_ok w0 aB cB B vB hB (Old.of_old (xs := []) [] oB hS rfl (by decide)) (by omega) ) ?_
    rintro _ w2 ⟨q1, hq1, hql1, rfl, ht1⟩
    have hS2 : St w0 [] (fl []) w2 := hS.callL (xs := []) (xs' := []) (zs := []) [] rfl (by decide) ht1 rfl rfl
    refine s_val hS2 rfl rfl (r_conv rfl Try.underlying25 Try.underlying3 (.t rfl rfl) (c := ((q1 : Nat) : Int)) (wn_i64 rfl (by omega))) ?_
    refine s_val hS2 rfl rfl (r_assign rfl (.t rfl rfl)) ?_
    refine wpList_nil ?_
    refine x_tn ?_
    refine wp_seq ?_
    refine wp_seq ?_
    refine k_reg ?_
    refine s_val hS2 rfl rfl (r_move rfl (.t rfl rfl)) ?_
    have hq2 := (hB).le
    have hx1 : Sl .u8 (cutA aB 4 cB) (cB - 4) (B.drop 4) vB := hB.drop_ (by omega)
    have hn1 : (B.drop 4).length = B.length - 4 := by simp only [List.length_drop, List.length_take] <;> omega
    refine s_val hS2 rfl rfl (Rn.asSl (p' := (B.drop 4).length) rfl (by omega) rfl (r_cutl rfl Try.underlying22 ti5 (.t rfl rfl) hB rfl (.s .c) .n .n (lw := 4) (hh := B.length) (m := cB) (by omega) (by omega) (by omega) (by omega))) ?_
    refine s_val hS2 rfl rfl (r_assign rfl (.t rfl rfl)) ?_
    refine wpList_nil ?_
    refine x_tn ?_
    refine wp_seq ?_
    refine k_reg ?_
    refine s_val hS2 rfl rfl (r_move rfl (.t rfl rfl)) ?_
    refine s_val hS2 rfl rfl (r_move rfl (.t rfl rfl)) ?_
    refine s_val hS2 rfl rfl (r_len rfl rfl Try.underlying22 (.t rfl rfl)) ?_
    by_cases c3 : q1 > (B.drop 4).length
    ·
     refine s_val hS2 rfl rfl (r_cmp_t rfl rfl (.t rfl rfl) (.t rfl rfl) (show ((q1 : Nat) : Int) > (((B.drop 4).length : Nat) : Int) from by omega)) ?_
     refine wpList_nil ?_
     refine x_tn ?_
     refine k_t (.t rfl rfl) ?_
     refine wp_seq ?_
     refine k_reg ?_
     refine s_val hS2 rfl rfl (r_assign rfl .c) ?_
     refine s_val hS2 rfl rfl (r_assign rfl .c) ?_
     refine wpList_nil ?_
     refine x_tn ?_
     refine wp_ret ?_
     refine x_tr ?_
     refine j_r ?_
     refine k_ret2 Try.results50 rfl rfl rfl rfl ?_
     refine ⟨_, rfl, ?_⟩
     exact .inr ⟨by first | exact no_short (by omega) (by omega) | exact no_long' (by assumption) (by omega) (by omega) (by omega), rfl, hS2⟩
    ·
     refine s_val hS2 rfl rfl (r_cmp_f rfl rfl (.t rfl rfl) (.t rfl rfl) (show ¬ (((q1 : Nat) : Int) > (((B.drop 4).length : Nat) : Int)) from by omega)) ?_
     refine wpList_nil ?_
     refine x_tn ?_
     refine k_f (.t rfl rfl) ?_
     refine wp_skip ?_
     refine x_tn ?_
     refine wp_seq ?_
     refine k_reg ?_
     refine s_val hS2 rfl rfl (r_move rfl (.t rfl rfl)) ?_
     refine s_lit rfl rfl rfl Try.underlying22 ti5 (vs := []) trivial (L := []) rfl (by omega) rfl hS2 fun blk1 w3 hb1 hB1 hS3 => ?_
     have hS4 : St w0 [] (fl [[(blk1, .cells (encN .u8 ([])) 5 (0, 0))]]) w3 := hS3.push 0 rfl
     refine s_val hS4 rfl rfl (r_move rfl (.t rfl rfl)) ?_
     refine s_val hS4 rfl rfl (r_move rfl (.t rfl rfl)) ?_
     have hq3 := (hx1).le
     have hx2 : Sl .u8 (cutA aB 4 cB) (cB - 4) (((B.drop 4)).take q1) vB := hx1.take_ (by omega) (by omega) (by omega)
     have hn2 : (((B.drop 4)).take q1).length = q1 := by rw [List.length_take]; omega
     refine s_val hS4 rfl rfl (Rn.asSl (ad' := (cutA aB 4 cB)) (p' := (((B.drop 4)).take q1).length) (q' := cB - 4) (by simp [cutA]) (by omega) (by omega) (r_cutl rfl Try.underlying22 ti5 (.t rfl rfl) hx1 rfl .n (.s (.t rfl rfl)) .n (lw := 0) (hh := q1) (m := cB - 4) (by omega) (by omega) (by omega) (by omega))) ?_
     obtain ⟨sg1, hG1, hS5⟩ : ∃ sg1 : Hp, Gr .u8 5 (some ⟨blk1, 0, none⟩) ([]).length ([]) sg1 ∧ St w0 [] (fl [sg1]) w3 := ⟨_, Gr.of_row (by first | rfl | (simp; done) | omega), hS4.pick [0] rfl (by decide)⟩
     refine s_appendG (i := 0) rfl rfl rfl rfl ⟨_, _, rfl, Try.underlying22⟩ Try.underlying22 ti5 (by omega) (by omega) (.t rfl rfl) (.t rfl rfl) rfl hG1 hS5 (by first | rfl | assumption | omega | (simp; done) | (simp; omega)) hx2 (oB.has hS5) rfl (by simp only [List.length_nil]; omega) fun ga1 gc1 sg2 w4 hG2 hS6 => ?_
     have hS7 : St w0 [] (fl [sg2]) w4 := hS6
     rw [List.nil_append] at hG2
     refine s_litV rfl rfl rfl Try.underlying56 ti22 rfl (vs := [(0, .slice ga1 (0 + ((((B.drop 4)).take q1).length)) gc1)]) ⟨rfl, (.t rfl rfl), trivial⟩ (L := [.slice ga1 (0 + ((((B.drop 4)).take q1).length)) gc1]) rfl (by decide) rfl hS7 fun blk2 w5 hb2 hB2 hS8 => ?_
     have hS9 : St w0 [] (fl [[(blk2, .cells #[.slice ga1 (0 + ((((B.drop 4)).take q1).length)) gc1] 22 (0, 0))], sg2]) w5 := hS8.push 0 rfl
     have hS10 : St w0 [] (fl [[(blk2, .cells #[.slice ga1 (0 + ((((B.drop 4)).take q1).length)) gc1] 22 (0, 0))], sg2, []]) w5 := St.re hS9 (by simp)
     obtain ⟨vs1, hg1, hr1, gA1, gB1, gC1, hS11⟩ := GrP.open_ (i := 2) (GrP.nil (R := R1) (T := 22)) hS10 rfl
     have hS12 : St w0 [] (fl [[(blk2, .cells #[.slice ga1 (0 + ((((B.drop 4)).take q1).length)) gc1] 22 (0, 0))], sg2, hg1, hr1]) w5 := hS11
     refine s_appendV (i := 2) (L := vs1) (A := [.slice ga1 (0 + ((((B.drop 4)).take q1).length)) gc1]) rfl rfl rfl rfl ⟨_, _, rfl, Try.underlying56⟩ Try.underlying56 ti22 (by omega) (by omega) rfl (by simp [oneC]) (.t rfl rfl) (.t rfl rfl) rfl (by first | exact gC1 | (rw [gC1]; first | rfl | assumption | omega | (simp; done))) gA1 hS12 rfl (SlV.lit (by simp) (by simp)) (hS12.has (i := 0) rfl) (by rw [gC1]; first | (simp; done) | (simp only [List.length_cons, List.length_nil]; omega)) fun ga2 gc2 hg2 w6 hG3 hS13 => ?_
     have hS14 : St w0 [] (fl [[(blk2, .cells #[.slice ga1 (0 + ((((B.drop 4)).take q1).length)) gc1] 22 (0, 0))], sg2, hg2, hr1]) w6 := hS13
     obtain ⟨sg3, hG4, hS15⟩ : ∃ sg3 : Hp, GrP R1 22 ga2 gc2 (([]) ++ [(((B.drop 4)).take q1)]) sg3 ∧ St w0 [] (fl [sg3]) w6 := ⟨_, GrP.snoc R1.mono hG3 gB1 (R1.of_gr hG2 (by omega) (fun y hy => fB y (List.mem_of_mem_drop (List.mem_of_mem_take hy))) (by first | rfl | omega | (simp; done) | (simp; omega))), ((hS14.merge (L' := [[(blk2, .cells #[.slice ga1 (0 + ((((B.drop 4)).take q1).length)) gc1] 22 (0, 0))], [], hg2, (hr1 ++ sg2)]) 3 1 rfl rfl rfl rfl).merge (L' := [[(blk2, .cells #[.slice ga1 (0 + ((((B.drop 4)).take q1).length)) gc1] 22 (0, 0))], [], (hg2 ++ (hr1 ++ sg2)), []]) 2 3 rfl rfl rfl rfl).pick [2] rfl (by decide)⟩
     refine s_val hS15 rfl rfl (r_assign rfl (.t rfl rfl)) ?_
     refine wpList_nil ?_
     refine x_tn ?_
     refine wp_seq ?_
     refine k_reg ?_
     refine s_val hS15 rfl rfl (r_move rfl (.t rfl rfl)) ?_
     refine s_val hS15 rfl rfl (r_move rfl (.t rfl rfl)) ?_
     have hq4 := (hx1).le
     have hx3 : Sl .u8 (cutA (cutA aB 4 cB) q1 (cB - 4)) (cB - 4 - q1) (((B.drop 4)).drop q1) vB := hx1.drop_ (by omega)
     have hn3 : (((B.drop 4)).drop q1).length = (B.drop 4).length - q1 := by simp only [List.length_drop, List.length_take] <;> omega
     refine s_val hS15 rfl rfl (Rn.asSl (p' := (((B.drop 4)).drop q1).length) rfl (by omega) rfl (r_cutl rfl Try.underlying22 ti5 (.t rfl rfl) hx1 rfl (.s (.t rfl rfl)) .n .n (lw := q1) (hh := (B.drop 4).length) (m := cB - 4) (by omega) (by omega) (by omega) (by omega))) ?_
     refine s_val hS15 rfl rfl (r_assign rfl (.t rfl rfl)) ?_
     refine wpList_nil ?_
     refine x_tn ?_
     refine wp_goto ?_
     refine j_g ?_
     have hstep : B = bodyL (([]) ++ [(((B.drop 4)).take q1)]) ++ ((B.drop 4)).drop q1 := (show B = bodyL [] ++ B from rfl).trans (body_step' (LL := []) hq1 (by omega) fB (by omega))
     refine ⟨(((B.drop 4)).drop q1).length, ⟨rfl, _, (([]) ++ [(((B.drop 4)).take q1)]), (((B.drop 4)).drop q1), (0 + 1), (cutA (cutA aB 4 cB) q1 (cB - 4)), (cB - 4 - q1), ga2, gc2, sg3, fr_reb _ ⟨rfl, rfl, trivial⟩, hS15, ?_⟩⟩
     exact ⟨rfl, by simp only [List.length_append, List.length_cons, List.length_nil] <;> omega, hstep, hx3, hG4⟩
 ·
  rintro _ m1 _ w1 (⟨rfl, G1, LL, R, k, ra, rc, ga, gc, sg, rfl, hS1, ⟨hm, hk, hBR, hR, hG⟩⟩)
  have lBR : B.length = (bodyL LL).length + R.length := by rw [hBR, List.length_append]
  have hbr := bodyL_rows LL
  have fR : ∀ x ∈ R, x ≤ 255 := hR.fit
  refine ⟨_, rfl, ?_⟩
  refine wp_seq ?_
  refine wp_skip ?_
  refine x_tn ?_
  refine wp_seq ?_
  refine wp_seq ?_
  refine k_reg ?_
  refine s_val hS1 rfl rfl (r_move rfl (.t rfl rfl)) ?_
  refine s_val hS1 rfl rfl (r_len rfl rfl Try.underlying22 (.t rfl rfl)) ?_
  by_cases c4 : R.length = 0
  ·
   refine s_val hS1 rfl rfl (r_cmp_t rfl rfl (.t rfl rfl) .c (show ((R.length : Nat) : Int) = 0 from by omega)) ?_
   refine wpList_nil ?_
   refine x_tn ?_
   refine k_t (.t rfl rfl) ?_
   refine wp_seq ?_
   refine k_reg ?_
   refine s_val hS1 rfl rfl (r_move rfl (.t rfl rfl)) ?_
   refine s_val hS1 rfl rfl (r_move rfl (.t rfl rfl)) ?_
   refine s_val hS1 rfl rfl (r_len rfl rfl Try.underlying56 (.t rfl rfl)) ?_
   by_cases c5 : k ≤ 4096
   ·
    refine s_val hS1 rfl rfl (r_cmp_t rfl rfl (.t rfl rfl) .c (show ((k : Nat) : Int) ≤ 4096 from by omega)) ?_
    refine s_val hS1 rfl rfl (r_assign rfl (.t rfl rfl)) ?_
    refine s_val hS1 rfl rfl (r_assign rfl (.t rfl rfl)) ?_
    refine wpList_nil ?_
    refine x_tn ?_
    refine wp_ret ?_
    refine x_tr ?_
    refine j_r ?_
    refine k_ret2 Try.results50 rfl rfl rfl rfl ?_
    refine ⟨_, rfl, ?_⟩
    have hR0 : R = [] := List.length_eq_zero_iff.1 (by omega)
    rw [hR0, List.append_nil] at hBR
    exact .inl ⟨LL, _, _, _, hBR, by rw [← hk, decide_eq_true (by omega)], hG, hS1⟩
   ·
    refine s_val hS1 rfl rfl (r_cmp_f rfl rfl (.t rfl rfl) .c (show ¬ (((k : Nat) : Int) ≤ 4096) from by omega)) ?_
    refine s_val hS1 rfl rfl (r_assign rfl (.t rfl rfl)) ?_
    refine s_val hS1 rfl rfl (r_assign rfl (.t rfl rfl)) ?_
    refine wpList_nil ?_
    refine x_tn ?_
    refine wp_ret ?_
    refine x_tr ?_
    refine j_r ?_
    refine k_ret2 Try.results50 rfl rfl rfl rfl ?_
    refine ⟨_, rfl, ?_⟩
    have hR0 : R = [] := List.length_eq_zero_iff.1 (by omega)
    rw [hR0, List.append_nil] at hBR
    exact .inl ⟨LL, _, _, _, hBR, by rw [← hk, decide_eq_false (by omega)], hG, hS1⟩
  ·
   refine s_val hS1 rfl rfl (r_cmp_f rfl rfl (.t rfl rfl) .c (show ¬ (((R.length : Nat) : Int) = 0) from by omega)) ?_
   refine wpList_nil ?_
   refine x_tn ?_
   refine k_f (.t rfl rfl) ?_
   refine wp_skip ?_
   refine x_tn ?_
   refine wp_seq ?_
   refine wp_seq ?_
   refine k_reg ?_
   refine s_val hS1 rfl rfl (r_move rfl (.t rfl rfl)) ?_
   refine s_val hS1 rfl rfl (r_len rfl rfl Try.underlying22 (.t rfl rfl)) ?_
   by_cases c6 : R.length < 4
   ·
    refine s_val hS1 rfl rfl (r_cmp_t rfl rfl (.t rfl rfl) .c (show ((R.length : Nat) : Int) < 4 from by omega)) ?_
    refine wpList_nil ?_
    refine x_tn ?_
    refine k_t (.t rfl rfl) ?_
    refine wp_seq ?_
    refine k_reg ?_
    refine s_val hS1 rfl rfl (r_assign rfl .c) ?_
    refine s_val hS1 rfl rfl (r_assign rfl .c) ?_
    refine wpList_nil ?_
    refine x_tn ?_
    refine wp_ret ?_
    refine x_tr ?_
    refine j_r ?_
    refine k_ret2 Try.results50 rfl rfl rfl rfl ?_
    refine ⟨_, rfl, ?_⟩
    have hS16 : St w0 [] (fl []) w1 := hS1.pick [] rfl (by decide)
    exact .inr ⟨by rw [hBR]; exact body_rest (by rw [← hBR]; omega) (by first | exact no_short (by omega) (by omega) | exact no_long' (by assumption) (by omega) (by omega) (by omega)), rfl, hS16⟩
   ·
    refine s_val hS1 rfl rfl (r_cmp_f rfl rfl (.t rfl rfl) .c (show ¬ (((R.length : Nat) : Int) < 4) from by omega)) ?_
    refine wpList_nil ?_
    refine x_tn ?_
    refine k_f (.t rfl rfl) ?_
    refine wp_skip ?_
    refine x_tn ?_
    refine wp_seq ?_
    refine k_reg ?_
    refine s_val hS1 rfl rfl (r_move rfl (.t rfl rfl)) ?_
    refine s_call rfl rfl rfl (vs := [.slice ra R.length rc]) ⟨(.t rfl rfl), trivial⟩ cb49 (number_ok w1 ra rc R vB hR (Old.of_old (xs := []) [] oB hS1 rfl (by decide)) (by omega) ) ?_
    rintro _ w7 ⟨q2, hq5, hql2, rfl, ht2⟩
    have hS17 : St w0 [] (fl [sg]) w7 := hS1.callL (xs := []) (xs' := []) (zs := []) [] rfl (by decide) ht2 rfl rfl
    refine s_val hS17 rfl rfl (r_conv rfl Try.underlying25 Try.underlying3 (.t rfl rfl) (c := ((q2 : Nat) : Int)) (wn_i64 rfl (by omega))) ?_
    refine s_val hS17 rfl rfl (r_assign rfl (.t rfl rfl)) ?_
    refine wpList_nil ?_
    refine x_tn ?_
    refine wp_seq ?_
    refine wp_seq ?_
    refine k_reg ?_
    refine s_val hS17 rfl rfl (r_move rfl (.t rfl rfl)) ?_
    have hq6 := (hR).le
    have hx4 : Sl .u8 (cutA ra 4 rc) (rc - 4) (R.drop 4) vB := hR.drop_ (by omega)
    have hn4 : (R.drop 4).length = R.length - 4 := by simp only [List.length_drop, List.length_take] <;> omega
    refine s_val hS17 rfl rfl (Rn.asSl (p' := (R.drop 4).length) rfl (by omega) rfl (r_cutl rfl Try.underlying22 ti5 (.t rfl rfl) hR rfl (.s .c) .n .n (lw := 4) (hh := R.length) (m := rc) (by omega) (by omega) (by omega) (by omega))) ?_
    refine s_val hS17 rfl rfl (r_assign rfl (.t rfl rfl)) ?_
    refine wpList_nil ?_
    refine x_tn ?_
    refine wp_seq ?_
    refine k_reg ?_
    refine s_val hS17 rfl rfl (r_move rfl (.t rfl rfl)) ?_
    refine s_val hS17 rfl rfl (r_move rfl (.t rfl rfl)) ?_
    refine s_val hS17 rfl rfl (r_len rfl rfl Try.underlying22 (.t rfl rfl)) ?_
    by_cases c7 : q2 > (R.drop 4).length
    ·
     refine s_val hS17 rfl rfl (r_cmp_t rfl rfl (.t rfl rfl) (.t rfl rfl) (show ((q2 : Nat) : Int) > (((R.drop 4).length : Nat) : Int) from by omega)) ?_
     refine wpList_nil ?_
     refine x_tn ?_
     refine k_t (.t rfl rfl) ?_
     refine wp_seq ?_
     refine k_reg ?_
     refine s_val hS17 rfl rfl (r_assign rfl .c) ?_
     refine s_val hS17 rfl rfl (r_assign rfl .c) ?_
     refine wpList_nil ?_
     refine x_tn ?_
     refine wp_ret ?_
     refine x_tr ?_
     refine j_r ?_
     refine k_ret2 Try.results50 rfl rfl rfl rfl ?_
     refine ⟨_, rfl, ?_⟩
     have hS18 : St w0 [] (fl []) w7 := hS17.pick [] rfl (by decide)
     exact .inr ⟨by rw [hBR]; exact body_rest (by rw [← hBR]; omega) (by first | exact no_short (by omega) (by omega) | exact no_long' (by assumption) (by omega) (by omega) (by omega)), rfl, hS18⟩
    ·
     refine s_val hS17 rfl rfl (r_cmp_f rfl rfl (.t rfl rfl) (.t rfl rfl) (show ¬ (((q2 : Nat) : Int) > (((R.drop 4).length : Nat) : Int)) from by omega)) ?_
     refine wpList_nil ?_
     refine x_tn ?_
     refine k_f (.t rfl rfl) ?_
     refine wp_skip ?_
     refine x_tn ?_
     refine wp_seq ?_
     refine k_reg ?_
     refine s_val hS17 rfl rfl (r_move rfl (.t rfl rfl)) ?_
     refine s_lit rfl rfl rfl Try.underlying22 ti5 (vs := []) trivial (L := []) rfl (by omega) rfl hS17 fun blk3 w8 hb3 hB3 hS19 => ?_
     have hS20 : St w0 [] (fl [[(blk3, .cells (encN .u8 ([])) 5 (0, 0))], sg]) w8 := hS19.push 0 rfl
     refine s_val hS20 rfl rfl (r_move rfl (.t rfl rfl)) ?_
     refine s_val hS20 rfl rfl (r_move rfl (.t rfl rfl)) ?_
     have hq7 := (hx4).le
     have hx5 : Sl .u8 (cutA ra 4 rc) (rc - 4) (((R.drop 4)).take q2) vB := hx4.take_ (by omega) (by omega) (by omega)
     have hn5 : (((R.drop 4)).take q2).length = q2 := by rw [List.length_take]; omega
     refine s_val hS20 rfl rfl (Rn.asSl (ad' := (cutA ra 4 rc)) (p' := (((R.drop 4)).take q2).length) (q' := rc - 4) (by simp [cutA]) (by omega) (by omega) (r_cutl rfl Try.underlying22 ti5 (.t rfl rfl) hx4 rfl .n (.s (.t rfl rfl)) .n (lw := 0) (hh := q2) (m := rc - 4) (by omega) (by omega) (by omega) (by omega))) ?_
     obtain ⟨sg4, hG5, hS21⟩ : ∃ sg4 : Hp, Gr .u8 5 (some ⟨blk3, 0, none⟩) ([]).length ([]) sg4 ∧ St w0 [] (fl [sg, sg4]) w8 := ⟨_, Gr.of_row (by first | rfl | (simp; done) | omega), hS20.pick [1, 0] rfl (by decide)⟩
     refine s_appendG (i := 1) rfl rfl rfl rfl ⟨_, _, rfl, Try.underlying22⟩ Try.underlying22 ti5 (by omega) (by omega) (.t rfl rfl) (.t rfl rfl) rfl hG5 hS21 (by first | rfl | assumption | omega | (simp; done) | (simp; omega)) hx5 (oB.has hS21) rfl (by simp only [List.length_nil]; omega) fun ga3 gc3 sg5 w9 hG6 hS22 => ?_
     have hS23 : St w0 [] (fl [sg, sg5]) w9 := hS22
     rw [List.nil_append] at hG6
     refine s_litV rfl rfl rfl Try.underlying56 ti22 rfl (vs := [(0, .slice ga3 (0 + ((((R.drop 4)).take q2).length)) gc3)]) ⟨rfl, (.t rfl rfl), trivial⟩ (L := [.slice ga3 (0 + ((((R.drop 4)).take q2).length)) gc3]) rfl (by decide) rfl hS23 fun blk4 w10 hb4 hB4 hS24 => ?_
     have hS25 : St w0 [] (fl [[(blk4, .cells #[.slice ga3 (0 + ((((R.drop 4)).take q2).length)) gc3] 22 (0, 0))], sg, sg5]) w10 := hS24.push 0 rfl
     obtain ⟨vs2, hg3, hr2, gA2, gB2, gC2, hS26⟩ := GrP.open_ (i := 1) hG hS25 rfl
     have hS27 : St w0 [] (fl [[(blk4, .cells #[.slice ga3 (0 + ((((R.drop 4)).take q2).length)) gc3] 22 (0, 0))], hg3, sg5, hr2]) w10 := hS26
     refine s_appendV (i := 1) (L := vs2) (A := [.slice ga3 (0 + ((((R.drop 4)).take q2).length)) gc3]) rfl rfl rfl rfl ⟨_, _, rfl, Try.underlying56⟩ Try.underlying56 ti22 (by omega) (by omega) rfl (by simp [oneC]) (.t rfl rfl) (.t rfl rfl) rfl (by first | exact gC2 | (rw [gC2]; first | rfl | assumption | omega | (simp; done))) gA2 hS27 rfl (SlV.lit (by simp) (by simp)) (hS27.has (i := 0) rfl) (by rw [gC2]; first | (simp; done) | (simp only [List.length_cons, List.length_nil]; omega)) fun ga4 gc4 hg4 w11 hG7 hS28 => ?_
     have hS29 : St w0 [] (fl [[(blk4, .cells #[.slice ga3 (0 + ((((R.drop 4)).take q2).length)) gc3] 22 (0, 0))], hg4, sg5, hr2]) w11 := hS28
     obtain ⟨sg6, hG8, hS30⟩ : ∃ sg6 : Hp, GrP R1 22 ga4 gc4 (LL ++ [(((R.drop 4)).take q2)]) sg6 ∧ St w0 [] (fl [sg6]) w11 := ⟨_, GrP.snoc R1.mono hG7 gB2 (R1.of_gr hG6 (by omega) (fun y hy => fR y (List.mem_of_mem_drop (List.mem_of_mem_take hy))) (by first | rfl | omega | (simp; done) | (simp; omega))), ((hS29.merge (L' := [[(blk4, .cells #[.slice ga3 (0 + ((((R.drop 4)).take q2).length)) gc3] 22 (0, 0))], hg4, [], (hr2 ++ sg5)]) 3 2 rfl rfl rfl rfl).merge (L' := [[(blk4, .cells #[.slice ga3 (0 + ((((R.drop 4)).take q2).length)) gc3] 22 (0, 0))], (hg4 ++ (hr2 ++ sg5)), [], []]) 1 3 rfl rfl rfl rfl).pick [1] rfl (by decide)⟩
     refine s_val hS30 rfl rfl (r_assign rfl (.t rfl rfl)) ?_
     refine wpList_nil ?_
     refine x_tn ?_
     refine wp_seq ?_
     refine k_reg ?_
     refine s_val hS30 rfl rfl (r_move rfl (.t rfl rfl)) ?_
     refine s_val hS30 rfl rfl (r_move rfl (.t rfl rfl)) ?_
     have hq8 := (hx4).le
     have hx6 : Sl .u8 (cutA (cutA ra 4 rc) q2 (rc - 4)) (rc - 4 - q2) (((R.drop 4)).drop q2) vB := hx4.drop_ (by omega)
     have hn6 : (((R.drop 4)).drop q2).length = (R.drop 4).length - q2 := by simp only [List.length_drop, List.length_take] <;> omega
     refine s_val hS30 rfl rfl (Rn.asSl (p' := (((R.drop 4)).drop q2).length) rfl (by omega) rfl (r_cutl rfl Try.underlying22 ti5 (.t rfl rfl) hx4 rfl (.s (.t rfl rfl)) .n .n (lw := q2) (hh := (R.drop 4).length) (m := rc - 4) (by omega) (by omega) (by omega) (by omega))) ?_
     refine s_val hS30 rfl rfl (r_assign rfl (.t rfl rfl)) ?_
     refine wpList_nil ?_
     refine x_tn ?_
     refine wp_goto ?_
     refine j_g ?_
     have hstep : B = bodyL (LL ++ [(((R.drop 4)).take q2)]) ++ ((R.drop 4)).drop q2 := hBR.trans (body_step' hq5 (by omega) fR (by omega))
     refine ⟨(((R.drop 4)).drop q2).length, (by simp only [List.length_drop]; omega), ⟨rfl, _, (LL ++ [(((R.drop 4)).take q2)]), (((R.drop 4)).drop q2), (k + 1), (cutA (cutA ra 4 rc) q2 (rc - 4)), (rc - 4 - q2), ga4, gc4, sg6, fr_reb _ ⟨rfl, rfl, trivial⟩, hS30, ?_⟩⟩
     exact ⟨rfl, by simp only [List.length_append, List.length_cons, List.length_nil] <;> omega, hstep, hx6, hG8⟩

end Go.Proofs.Ytdmiklegahdafaa

/- Where a log's records end; what Open tells of a log that ends anywhere. -/
import Derived.Test.YtdmiklegahdafaaKLv
namespace Go.Proofs.Ytdmiklegahdafaa.K
open Go Go.RowKit
set_option linter.unusedSimpArgs false
set_option linter.unusedVariables false

def plc (RR : Recs) (i : Nat) : Nat := (logL (RR.take i)).length
def plcL (RR : Recs) : List Nat := (List.range (RR.length + 1)).map (plc RR)
theorem plcL_len (RR : Recs) : (plcL RR).length = RR.length + 1 := by simp [plcL]
theorem plcL_get {RR : Recs} {i : Nat} (h : i ≤ RR.length) : (plcL RR).getD i 0 = plc RR i := by
  simp [plcL, List.getD_eq_getElem?_getD, show i < RR.length + 1 by omega]
theorem plc_all (RR : Recs) : plc RR RR.length = (logL RR).length := by rw [plc, List.take_length]
theorem plcL_snoc (RR : Recs) (Q : List (List Nat)) : plcL (RR ++ [Q]) = plcL RR ++ [(logL (RR ++ [Q])).length] := by
  unfold plcL
  rw [List.length_append, List.length_singleton, List.range_succ, List.map_append]
  congr 1
  · apply List.map_congr_left
    intro i hi
    have := List.mem_range.1 hi
    unfold plc
    rw [List.take_append_of_le_length (by omega)]
  · simp only [List.map_cons, List.map_nil]
    rw [← plc_all (RR ++ [Q])]; simp
theorem recsL_take_succ {RR : Recs} {i : Nat} (h : i < RR.length) : recsL (RR.take (i + 1)) = recsL (RR.take i) ++ recL (RR.getD i []) := by rw [take_succ_getD h, recsL_snoc]
theorem plc_eq (RR : Recs) (i : Nat) : plc RR i = 8 + (recsL (RR.take i)).length := logL_len _
theorem plc_succ {RR : Recs} {i : Nat} (h : i < RR.length) : plc RR (i + 1) = plc RR i + (8 + (bodyL (RR.getD i [])).length) := by
  rw [plc_eq, plc_eq, recsL_take_succ h, List.length_append, recL_len]; omega
theorem plc_mono {RR : Recs} : ∀ {j i : Nat}, i ≤ j → j ≤ RR.length → plc RR i ≤ plc RR j
  | 0, i, h, _ => by rw [show i = 0 by omega]; exact Nat.le_refl _
  | j + 1, i, h, hj => by
    rcases Nat.lt_or_ge i (j + 1) with q | q
    · have := plc_mono (RR := RR) (j := j) (i := i) (by omega) (by omega)
      have := plc_succ (RR := RR) (i := j) (by omega)
      omega
    · rw [show i = j + 1 by omega]; exact Nat.le_refl _
theorem plc_zero (RR : Recs) : plc RR 0 = 8 := by rw [plc_eq]; simp [recsL]
theorem plc_ge (RR : Recs) (i : Nat) : 8 ≤ plc RR i := by rw [plc_eq]; omega
theorem plc_le {RR : Recs} {i : Nat} (h : i ≤ RR.length) : plc RR i ≤ (logL RR).length := by rw [← plc_all]; exact plc_mono h (Nat.le_refl _)
theorem logL_split (RR : Recs) (i : Nat) : logL RR = logL (RR.take i) ++ recsL (RR.drop i) := by
  have : recsL RR = recsL (RR.take i) ++ recsL (RR.drop i) := by
    unfold recsL
    rw [← List.flatMap_append, List.take_append_drop]
  rw [logL, this, ← List.append_assoc]; rfl
theorem logL_take (RR : Recs) (i : Nat) : (logL RR).take (plc RR i) = logL (RR.take i) := by
  rw [logL_split RR i]; exact List.take_left
/-- where a cut falls -/
theorem plc_find {RR : Recs} (n : Nat) (h8 : 8 ≤ n) : ∀ (m : Nat), m ≤ RR.length → plc RR m ≤ n ∨ ∃ q, q < m ∧ plc RR q ≤ n ∧ n < plc RR (q + 1)
  | 0, _ => .inl (by rw [plc_zero]; exact h8)
  | m + 1, h => by
    rcases plc_find (RR := RR) n h8 m (by omega) with h1 | ⟨q, h1, h2, h3⟩
    · rcases Nat.lt_or_ge n (plc RR (m + 1)) with h2 | h2
      · exact .inr ⟨m, by omega, h1, h2⟩
      · exact .inl h2
    · exact .inr ⟨q, by omega, h2, h3⟩
theorem torn_pre {LL : List (List Nat)} (hg : goodR LL) (X : List Nat) {j : Nat} (h0 : 0 < j) (hj : j < 8 + (bodyL LL).length) : TornR ((recL LL ++ X).take j) := by
  obtain ⟨h1, h2, h3, h4, h5⟩ := rec_num hg X
  have hl : ((recL LL ++ X).take j).length = j := by rw [List.length_take]; omega
  refine ⟨by omega, ?_⟩
  rw [hl]
  rcases Nat.lt_or_ge j 8 with q | q
  · exact .inl q
  · right
    have hn : numL ((recL LL ++ X).take j) = numL (recL LL ++ X) := by
      have : ∀ i, i < 4 → ((recL LL ++ X).take j).getD i 0 = (recL LL ++ X).getD i 0 := fun i hi => by
        rw [List.getD_eq_getElem?_getD, List.getD_eq_getElem?_getD, List.getElem?_take_of_lt (by omega)]
      unfold numL
      rw [this 0 (by omega), this 1 (by omega), this 2 (by omega), this 3 (by omega)]
    have := hg.2
    rw [hn, h1]
    exact ⟨by omega, by omega⟩
variable {D D1 : Dk} {s : ByteArray} {B B0 : List Nat} {k n e : Nat}
theorem lv_begin0 (h : Lv D) (ha : lookF D.F s = some ⟨s, [], k⟩) (hr : tot D.F + 8 ≤ D.room) (hst : StpN n e D1 (D.begin s 0) D) : e = 0 ∧ UpA D D1 s [] (logL []) 8 2 := by
  have he := hst.eq
  obtain ⟨q1, q2⟩ := lv_append' h ha headL_fit hr (Stp.append h.ok h.names s headL_fit)
  obtain ⟨q3, q4⟩ := lv_sync' q2.lv q2.at_ (Stp.sync q2.lv.ok q2.lv.names s)
  unfold Dk.begin at he
  simp only [Nat.lt_irrefl, if_false, q1, ne_eq, not_true_eq_false] at he
  have h3 := congrArg Prod.fst he
  have h4 := congrArg Prod.snd he
  have hlg : logL [] = headL := by simp [logL, recsL]
  refine ⟨by rw [← q3]; exact h3.symm, ?_⟩
  rw [← show _ = D1 from h4, hlg]
  exact q2.trans q4
/-- the file ends within its head -/
theorem opn_head {RR : Recs} {z : Lg} (h : Lv D) (ha : lookF D.F s = some ⟨s, headL.take n, k⟩) (hn : n < 8) (hr : tot D.F + 8 ≤ D.room) (hO : OpnS D s e D1 RR z) : e = 0 ∧ RR = [] ∧ z = lg [] ∧ ∃ w, w ≤ 3 ∧ UpA D D1 s (headL.take n) (logL []) 8 w := by
  have hrd := (lv_read h ha).1
  have hl : (headL.take n).length = n := by rw [List.length_take, show headL.length = 8 from rfl]; omega
  have nh : ∀ R : List Nat, headL.take n ≠ headL ++ R := fun R q => by
    have := congrArg List.length q
    rw [hl, List.length_append, show headL.length = 8 from rfl] at this; omega
  cases hO with
  | rd h' h1 h2 => have := h'.eq.symm.trans hrd; cases this; exact absurd rfl h1
  | short h' h1 h2 h3 h4 =>
    have := h'.eq.symm.trans hrd; cases this
    refine ⟨?_, rfl, rfl, ?_⟩
    · rw [hl] at h4
      rcases Nat.eq_zero_or_pos n with q | q
      · subst q; exact (lv_begin0 h ha hr h4).1
      · exact (lv_begin' h ha q (by omega) h4).1
    · rw [hl] at h4
      rcases Nat.eq_zero_or_pos n with q | q
      · subst q; exact ⟨2, by omega, (lv_begin0 h ha hr h4).2⟩
      · exact ⟨3, by omega, (lv_begin' h ha q (by omega) h4).2⟩
  | head h' h1 h2 h3 =>
    have := h'.eq.symm.trans hrd; cases this
    exact absurd ⟨by omega, by rw [hl]⟩ h2
  | clean h' h1 h2 h3 => have e1 := h2.symm.trans (congrArg Prod.fst (h'.eq.symm.trans hrd)); exact absurd e1.symm (nh _)
  | torn h' h1 h2 h3 h4 h5 => have e1 := h2.symm.trans (congrArg Prod.fst (h'.eq.symm.trans hrd)); exact absurd e1.symm (nh _)
  | bad h' h1 h2 h3 h4 => have e1 := h2.symm.trans (congrArg Prod.fst (h'.eq.symm.trans hrd)); exact absurd e1.symm (nh _)
/-- a log that ends anywhere -/
theorem opn_cut {RR R' : Recs} {z : Lg} (h : Lv D) (ha : lookF D.F s = some ⟨s, (logL RR).take n, k⟩) (hn : n ≤ (logL RR).length) (hg : ∀ LL ∈ RR, goodR LL) (hr : tot D.F + 8 ≤ D.room) (hO : OpnS D s e D1 R' z) :
    ∃ q, q ≤ RR.length ∧ (plc RR q ≤ n ∨ q = 0) ∧ (q < RR.length → n < plc RR (q + 1)) ∧ e = 0 ∧ R' = RR.take q ∧ z = lg (RR.take q) ∧ ∃ ks w, w ≤ 3 ∧ UpA D D1 s ((logL RR).take n) (logL (RR.take q)) ks w := by
  rcases Nat.lt_or_ge n 8 with h8 | h8
  · have e1 : (logL RR).take n = headL.take n := by
      unfold logL; rw [List.take_append_of_le_length (by show n ≤ 8; omega)]
    rw [e1] at ha ⊢
    obtain ⟨q1, q2, q3, w, q4, q5⟩ := opn_head h ha h8 hr hO
    refine ⟨0, Nat.zero_le _, .inr rfl, fun _ => ?_, q1, q2, q3, 8, w, q4, q5⟩
    have := plc_ge RR (0 + 1); omega
  · have key : ∃ q, q ≤ RR.length ∧ plc RR q ≤ n ∧ (q < RR.length → n < plc RR (q + 1)) := by
      rcases plc_find n h8 RR.length (Nat.le_refl _) with h1 | ⟨q, h1, h2, h3⟩
      · exact ⟨_, Nat.le_refl _, h1, fun q => absurd q (Nat.lt_irrefl _)⟩
      · exact ⟨q, by omega, h2, fun _ => h3⟩
    obtain ⟨q, hq, h1, h2⟩ := key
    obtain ⟨R0, hR0, hT⟩ : ∃ R0, (logL RR).take n = headL ++ (recsL (RR.take q) ++ R0) ∧ (R0 = [] ∨ TornR R0) := by
      rcases Nat.eq_or_lt_of_le h1 with e1 | e1
      · exact ⟨[], by rw [← e1, logL_take, List.append_nil]; rfl, .inl rfl⟩
      · have hlt : q < RR.length := by
          rcases Nat.lt_or_ge q RR.length with g | g
          · exact g
          · rw [show q = RR.length by omega, plc_all] at e1; omega
        have h3 := h2 hlt
        rw [plc_succ hlt] at h3
        refine ⟨(recL (RR.getD q []) ++ recsL (RR.drop (q + 1))).take (n - plc RR q), ?_, .inr (torn_pre (hg _ (getD_mem hlt)) _ (by omega) (by omega))⟩
        have e2 : recsL (RR.drop q) = recL (RR.getD q []) ++ recsL (RR.drop (q + 1)) := by
          rw [List.drop_eq_getElem_cons hlt, recsL_cons, List.getD_eq_getElem?_getD, List.getElem?_eq_getElem hlt]; rfl
        rw [logL_split RR q, e2, List.take_append, ← List.append_assoc]
        have e3 : (logL (RR.take q)).take n = headL ++ recsL (RR.take q) := by rw [List.take_of_length_le (by show plc RR q ≤ n; exact h1)]; rfl
        rw [e3]; rfl
    rw [hR0] at ha
    have hgq : ∀ LL ∈ RR.take q, goodR LL := fun LL hL => hg LL (List.mem_of_mem_take hL)
    obtain ⟨k1, k2, k3⟩ := opn_at (lv_read h ha).1 hgq (by rcases hT with g | g; exact .inl g; exact .inr (.inl g)) hO
    refine ⟨q, hq, .inl h1, h2, ?_⟩
    rcases hT with rfl | hT
    · obtain ⟨rfl, rfl, rfl, rfl⟩ := k1 rfl
      refine ⟨rfl, rfl, rfl, k, 0, by omega, ?_⟩
      rw [hR0]
      rw [List.append_nil] at ha ⊢
      exact UpA.refl h ha
    · obtain ⟨rfl, rfl, hst⟩ := k2 hT
      have hle : 8 + (recsL (RR.take q)).length ≤ (headL ++ (recsL (RR.take q) ++ R0)).length := by rw [List.length_append, List.length_append]; show _ ≤ 8 + _; omega
      obtain ⟨g1, g2⟩ := lv_cut' h ha hle hst
      refine ⟨g1, rfl, rfl, min k (8 + (recsL (RR.take q)).length), 1, by omega, ?_⟩
      rw [hR0]
      have e4 : (headL ++ (recsL (RR.take q) ++ R0)).take (8 + (recsL (RR.take q)).length) = logL (RR.take q) := by
        rw [← List.append_assoc, List.take_left' (by rw [List.length_append]; rfl)]; rfl
      rw [e4] at g2
      exact g2
theorem logL_rows2 (RR : Recs) : 8 * RR.length + 8 ≤ (logL RR).length := by have := recsL_long RR; rw [logL_len]; omega
/-- a file of any bytes -/
theorem opn_raw {RR : Recs} {z : Lg} (h : Lv D) (ha : lookF D.F s = some ⟨s, B, k⟩) (hr : tot D.F + 8 ≤ D.room) (hO : OpnS D s e D1 RR z) :
    (e = 111 ∧ D1 = D) ∨ (e = 0 ∧ (∀ LL ∈ RR, goodR LL) ∧ z = lg RR ∧ (logL RR).length ≤ B.length + 8 ∧ ∃ ks w, w ≤ 3 ∧ UpA D D1 s B (logL RR) ks w) := by
  have hrd := (lv_read h ha).1
  cases hO with
  | rd h' h1 h2 => have := h'.eq.symm.trans hrd; cases this; exact absurd rfl h1
  | short h' h1 h2 h3 h4 =>
    have := h'.eq.symm.trans hrd; cases this
    right
    have hl : (logL ([] : Recs)).length = 8 := rfl
    rcases Nat.eq_zero_or_pos B.length with q | q
    · have hB : B = [] := List.length_eq_zero_iff.1 q
      subst hB
      obtain ⟨g1, g2⟩ := lv_begin0 h ha hr h4
      exact ⟨g1, (fun LL hL => nomatch hL), rfl, by omega, 8, 2, by omega, g2⟩
    · obtain ⟨g1, g2⟩ := lv_begin' h ha q (by omega) h4
      exact ⟨g1, (fun LL hL => nomatch hL), rfl, by omega, 8, 3, by omega, g2⟩
  | head h' h1 h2 h3 => exact .inl ⟨rfl, rfl⟩
  | clean h' h1 h2 h3 =>
    have := h'.eq.symm.trans hrd; cases this
    refine .inr ⟨rfl, h3, rfl, ?_, k, 0, by omega, ?_⟩
    · rw [h2]; show (headL ++ _).length ≤ _; omega
    · have e1 : logL RR = B := h2.symm
      rw [e1]; exact UpA.refl h ha
  | torn h' h1 h2 h3 h4 h5 =>
    have := h'.eq.symm.trans hrd; cases this
    have hl : 8 + (recsL RR).length ≤ B.length := by
      have q := congrArg List.length h2
      rw [List.length_append, List.length_append, show headL.length = 8 from rfl] at q
      omega
    obtain ⟨g1, g2⟩ := lv_cut' h ha (n := 8 + (recsL RR).length) (by omega) h5
    refine .inr ⟨g1, h3, rfl, by rw [logL_len]; omega, min k (8 + (recsL RR).length), 1, by omega, ?_⟩
    have e4 : B.take (8 + (recsL RR).length) = logL RR := by
      rw [h2, ← List.append_assoc, List.take_left' (by rw [List.length_append]; rfl)]; rfl
    rw [e4] at g2
    exact g2
  | bad h' h1 h2 h3 h4 => exact .inl ⟨rfl, rfl⟩
theorem row_le {LL : List (List Nat)} {r : List Nat} (h : r ∈ LL) : r.length ≤ (bodyL LL).length := by
  induction LL with
  | nil => cases h
  | cons x LL ih =>
    rw [bodyL_cons, List.length_append, List.length_append]
    rcases List.mem_cons.1 h with rfl | h
    · omega
    · have := ih h; omega
theorem rec_le {RR : Recs} {i : Nat} (h : i < RR.length) : 8 + (bodyL (RR.getD i [])).length ≤ (logL RR).length := by
  have := plc_succ h
  have := plc_le (RR := RR) (i := i + 1) (by omega)
  omega
theorem cut_same {RR : Recs} {n q c : Nat} (hq : q ≤ RR.length) (h1 : plc RR q ≤ n ∨ q = 0) (h2 : q < RR.length → n < plc RR (q + 1)) (hc : c ≤ RR.length) (h3 : plc RR c ≤ n ∨ c = 0) (h4 : c < RR.length → n < plc RR (c + 1)) : c = q := by
  rcases Nat.lt_trichotomy c q with h | h | h
  · have := h4 (by omega)
    have := plc_mono (RR := RR) (i := c + 1) (j := q) (by omega) hq
    omega
  · exact h
  · have := h2 (by omega)
    have := plc_mono (RR := RR) (i := q + 1) (j := c) (by omega) hc
    omega
end Go.Proofs.Ytdmiklegahdafaa.K

/- A log with one byte as another one: what Open tells of it. -/
import Derived.Test.YtdmiklegahdafaaKLv2
import Derived.Test.YtdmiklegahdafaaKCrc2
namespace Go.Proofs.Ytdmiklegahdafaa.K
open Go Go.RowKit
set_option linter.unusedSimpArgs false
set_option linter.unusedVariables false
variable {D D1 : Dk} {s : ByteArray} {k e : Nat}

def SumsP (B : List Nat) : Prop := 8 ≤ B.length ∧ numL B ≤ B.length - 8 ∧ crcM 0 (B.take 4 ++ (B.drop 8).take (numL B)) = numL (B.drop 4)
def spoil (B : List Nat) (i d : Nat) : List Nat := B.set i (B.getD i 0 ^^^ d)
theorem spoil_len (B : List Nat) (i d : Nat) : (spoil B i d).length = B.length := by simp [spoil]
theorem xor_ne {x d : Nat} (h : d ≠ 0) : x ^^^ d ≠ x := by
  intro e
  have := congrArg (x ^^^ ·) e
  simp only [← Nat.xor_assoc, Nat.xor_self, Nat.zero_xor] at this
  exact h this
theorem spoil_get {B : List Nat} {i d : Nat} (h : i < B.length) : (spoil B i d).getD i 0 = B.getD i 0 ^^^ d := by
  rw [spoil, List.getD_eq_getElem?_getD, List.getElem?_set_self h]; rfl
theorem spoil_ne {B : List Nat} {i d : Nat} (h : i < B.length) (h0 : d ≠ 0) : spoil B i d ≠ B := by
  intro e
  have := spoil_get (d := d) h
  rw [e] at this
  exact xor_ne h0 this.symm
theorem getD_app_right {A B : List Nat} {i : Nat} (h : A.length ≤ i) : (A ++ B).getD i 0 = B.getD (i - A.length) 0 := by
  rw [List.getD_eq_getElem?_getD, List.getD_eq_getElem?_getD, List.getElem?_append_right h]
theorem getD_app_left {A B : List Nat} {i : Nat} (h : i < A.length) : (A ++ B).getD i 0 = A.getD i 0 := by
  rw [List.getD_eq_getElem?_getD, List.getD_eq_getElem?_getD, List.getElem?_append_left h]
theorem spoil_right {A B : List Nat} {i d : Nat} (h : A.length ≤ i) : spoil (A ++ B) i d = A ++ spoil B (i - A.length) d := by
  unfold spoil
  rw [List.set_append_right _ _ h, getD_app_right h]
theorem spoil_left {A B : List Nat} {i d : Nat} (h : i < A.length) : spoil (A ++ B) i d = spoil A i d ++ B := by
  unfold spoil
  rw [List.set_append_left _ _ h, getD_app_left h]
theorem spoil_fit {B : List Nat} {i d : Nat} (hB : ∀ x ∈ B, x ≤ 255) (hd : d ≤ 255) : ∀ x ∈ spoil B i d, x ≤ 255 := set_fit hB (xor_fit (getD_le hB i) hd)
/-- whole records ahead are told -/
theorem recs_pre : ∀ {RR SS : Recs} {R S : List Nat}, (∀ LL ∈ RR, goodR LL) → (∀ LL ∈ SS, goodR LL) → TailR S → recsL RR ++ R = recsL SS ++ S → ∃ B2, SS = RR ++ B2 ∧ R = recsL B2 ++ S
  | [], SS, R, S, _, _, _, h => ⟨SS, rfl, h⟩
  | A :: RR, [], R, S, hr, _, hS, h => by
    rw [recsL_cons, List.append_assoc] at h
    have h' : recL A ++ (recsL RR ++ R) = S := h
    rw [← h'] at hS
    exact absurd hS (rec_notail (hr A (by simp)) _)
  | A :: RR, B :: SS, R, S, hr, hs, hS, h => by
    rw [recsL_cons, recsL_cons, List.append_assoc, List.append_assoc] at h
    obtain ⟨e1, e2⟩ := rec_inj (hr A (by simp)) (hs B (by simp)) h
    obtain ⟨B2, e3, e4⟩ := recs_pre (fun L hL => hr L (by simp [hL])) (fun L hL => hs L (by simp [hL])) hS e2
    exact ⟨B2, by rw [e1, e3]; rfl, e4⟩
theorem sums_rec {M : List (List Nat)} (hg : goodR M) (X : List Nat) : SumsP (recL M ++ X) := by
  obtain ⟨h1, h2, h3, h4, h5⟩ := rec_num hg X
  refine ⟨by omega, by omega, ?_⟩
  rw [h1, h2, h3, h4, crcM_app (fourL_fit _)]
/-- what stands behind whole records is told, or refused -/
theorem opn_rest {RR R' : Recs} {R0 : List Nat} {z : Lg} (h : Lv D) (ha : lookF D.F s = some ⟨s, headL ++ (recsL RR ++ R0), k⟩) (hg : ∀ LL ∈ RR, goodR LL) (hO : OpnS D s e D1 R' z) :
    (e = 111 ∧ D1 = D) ∨ (e = 0 ∧ (R' = RR ∨ (RR.length < R'.length ∧ SumsP R0))) := by
  have hrd := (lv_read h ha).1
  have fin : ∀ {S : List Nat}, (∀ LL ∈ R', goodR LL) → TailR S → headL ++ (recsL RR ++ R0) = headL ++ (recsL R' ++ S) → R' = RR ∨ (RR.length < R'.length ∧ SumsP R0) := by
    intro S hg' hS e1
    obtain ⟨B2, e2, e3⟩ := recs_pre hg hg' hS (List.append_cancel_left e1)
    cases B2 with
    | nil => exact .inl (by rw [e2, List.append_nil])
    | cons M B2 =>
      right
      refine ⟨by rw [e2]; simp, ?_⟩
      rw [e3, recsL_cons, List.append_assoc]
      exact sums_rec (hg' M (by rw [e2]; simp)) _
  cases hO with
  | rd h' h1 h2 => have := h'.eq.symm.trans hrd; cases this; exact absurd rfl h1
  | short h' h1 h2 h3 h4 => have := h'.eq.symm.trans hrd; cases this; exact absurd ⟨h2, h3⟩ head_long_not
  | head h' h1 h2 h3 => have := h'.eq.symm.trans hrd; cases this; exact absurd rfl (h3 _)
  | clean h' h1 h2 h3 =>
    have e1 := h2.symm.trans (congrArg Prod.fst (h'.eq.symm.trans hrd))
    exact .inr ⟨rfl, fin h3 (.inl rfl) (by rw [List.append_nil]; exact e1.symm)⟩
  | torn h' h1 h2 h3 h4 h5 =>
    have e0 := h'.eq.symm.trans hrd
    have e1 := h2.symm.trans (congrArg Prod.fst e0)
    have hl : 8 + (recsL R').length ≤ (headL ++ (recsL RR ++ R0)).length := by
      rw [← show _ = headL ++ (recsL RR ++ R0) from e1, List.length_append, List.length_append, show headL.length = 8 from rfl]; omega
    exact .inr ⟨(lv_cut' h ha hl h5).1, fin h3 (.inr (.inl h4)) e1.symm⟩
  | bad h' h1 h2 h3 h4 => exact .inl ⟨rfl, rfl⟩
theorem numL_inj {A B : List Nat} (hA : A.length = 4) (hB : B.length = 4) (fA : ∀ x ∈ A, x ≤ 255) (fB : ∀ x ∈ B, x ≤ 255) (X Y : List Nat) (h : numL (A ++ X) = numL (B ++ Y)) : A = B := by
  have e1 := four_num (R := A) (by omega) fA
  have e2 := four_num (R := B) (by omega) fB
  have n4 : ∀ (A X : List Nat), A.length = 4 → numL (A ++ X) = numL A := fun A X h4 => by
    unfold numL; rw [getD_app_left (by omega), getD_app_left (by omega), getD_app_left (by omega), getD_app_left (by omega)]
  rw [n4 A X hA, n4 B Y hB] at h
  rw [List.take_of_length_le (by omega)] at e1 e2
  rw [e1, e2, h]
/-- a sum, or a body, with a byte as another one -/
theorem bad_rec {LL : List (List Nat)} (hg : goodR LL) (hf : ∀ r ∈ LL, ∀ x ∈ r, x ≤ 255) (X : List Nat) {o d : Nat} (h4 : 4 ≤ o) (ho : o < 8 + (bodyL LL).length) (hd : d ≤ 255) (h0 : d ≠ 0) : BadR (spoil (recL LL ++ X) o d) := by
  obtain ⟨n, hn⟩ : ∃ n, n = (bodyL LL).length := ⟨_, rfl⟩
  have hb := hg.2
  have hbf := bodyL_fit hf
  obtain ⟨c, hc⟩ : ∃ c, c = crcM (crcM 0 (fourL n)) (bodyL LL) := ⟨_, rfl⟩
  have hrec : recL LL ++ X = fourL n ++ (fourL c ++ (bodyL LL ++ X)) := by rw [hn] at hc ⊢; rw [hc]; unfold recL; simp only [List.append_assoc]
  have hcl : c ≤ 4294967295 := by rw [hc]; exact Nat.le_of_lt_succ crcM_lt
  rw [hrec, spoil_right (by rw [fourL_len]; exact h4), fourL_len]
  rcases Nat.lt_or_ge o 8 with h8 | h8
  · rw [spoil_left (by rw [fourL_len]; omega)]
    have hsl : (spoil (fourL c) (o - 4) d).length = 4 := by rw [spoil_len, fourL_len]
    refine ⟨by simp only [List.length_append, fourL_len, hsl]; omega, .inr ⟨by rw [numL_app (by omega)]; omega, by rw [numL_app (by omega)]; simp only [List.length_append, fourL_len, hsl]; omega, .inl ?_⟩⟩
    rw [numL_app (by omega), List.take_left' (fourL_len _), List.drop_left' (fourL_len _)]
    have e8 : (fourL n ++ (spoil (fourL c) (o - 4) d ++ (bodyL LL ++ X))).drop 8 = bodyL LL ++ X := by
      rw [← List.append_assoc, List.drop_left' (by rw [List.length_append, fourL_len, hsl])]
    rw [e8, hn, List.take_left, ← hn, ← hc]
    intro e1
    have e2 : numL (fourL c ++ []) = numL (spoil (fourL c) (o - 4) d ++ (bodyL LL ++ X)) := by rw [numL_app hcl]; exact e1
    have := numL_inj (fourL_len _) hsl (fourL_fit _) (spoil_fit (fourL_fit _) hd) _ _ e2
    exact spoil_ne (by rw [fourL_len]; omega) h0 this.symm
  · rw [spoil_right (by rw [fourL_len]; omega), fourL_len, spoil_left (by omega)]
    have hsl : (spoil (bodyL LL) (o - 4 - 4) d).length = n := by rw [spoil_len, hn]
    refine ⟨by simp only [List.length_append, fourL_len, hsl]; omega, .inr ⟨by rw [numL_app (by omega)]; omega, by rw [numL_app (by omega)]; simp only [List.length_append, fourL_len, hsl]; omega, .inl ?_⟩⟩
    rw [numL_app (by omega), List.take_left' (fourL_len _), List.drop_left' (fourL_len _), numL_app hcl]
    have e8 : (fourL n ++ (fourL c ++ (spoil (bodyL LL) (o - 4 - 4) d ++ X))).drop 8 = spoil (bodyL LL) (o - 4 - 4) d ++ X := by
      rw [← List.append_assoc, List.drop_left' (by rw [List.length_append, fourL_len, fourL_len])]
    rw [e8, List.take_left' hsl, hc, crcM_app (fourL_fit _), crcM_app (fourL_fit _)]
    have e9 : fourL n ++ spoil (bodyL LL) (o - 4 - 4) d = spoil (fourL n ++ bodyL LL) (4 + (o - 4 - 4)) d := by
      rw [spoil_right (by rw [fourL_len]; omega), fourL_len]; congr 2; omega
    rw [e9]
    exact crcM_other (app_fit (fourL_fit _) hbf) (by rw [List.length_append, fourL_len]; omega) hd h0
/-- a log with one byte as another one -/
theorem opn_spoil {RR R' : Recs} {n d : Nat} {z : Lg} (h : Lv D) (ha : lookF D.F s = some ⟨s, spoil (logL RR) n d, k⟩) (hg : ∀ LL ∈ RR, goodR LL) (hf : ∀ LL ∈ RR, ∀ r ∈ LL, ∀ x ∈ r, x ≤ 255) (hn : n < (logL RR).length) (hd : d ≤ 255) (h0 : d ≠ 0) (hO : OpnS D s e D1 R' z) :
    (e = 111 ∧ D1 = D) ∨ (e = 0 ∧ ∃ q, q < RR.length ∧ plc RR q ≤ n ∧ n < plc RR q + 4 ∧ (R' = RR.take q ∨ (q < R'.length ∧ SumsP ((spoil (logL RR) n d).drop (plc RR q))))) := by
  rcases Nat.lt_or_ge n 8 with h8 | h8
  · left
    have hrd := (lv_read h ha).1
    have hl : ¬ (spoil (logL RR) n d).length < 8 := by rw [spoil_len, logL_len]; omega
    have nh : ∀ R : List Nat, spoil (logL RR) n d ≠ headL ++ R := fun R q => by
      have e1 := spoil_get (d := d) hn
      rw [q, getD_app_left (show n < headL.length from h8)] at e1
      rw [show logL RR = headL ++ recsL RR from rfl, getD_app_left (show n < headL.length from h8)] at e1
      exact xor_ne h0 e1.symm
    cases hO with
    | rd h' h1 h2 => have := h'.eq.symm.trans hrd; cases this; exact absurd rfl h1
    | short h' h1 h2 h3 h4 => have := h'.eq.symm.trans hrd; cases this; exact absurd h2 hl
    | head h' h1 h2 h3 => exact ⟨rfl, rfl⟩
    | clean h' h1 h2 h3 => have e1 := h2.symm.trans (congrArg Prod.fst (h'.eq.symm.trans hrd)); exact absurd e1.symm (nh _)
    | torn h' h1 h2 h3 h4 h5 => have e1 := h2.symm.trans (congrArg Prod.fst (h'.eq.symm.trans hrd)); exact absurd e1.symm (nh _)
    | bad h' h1 h2 h3 h4 => exact ⟨rfl, rfl⟩
  · obtain ⟨q, hq, h1, h2⟩ : ∃ q, q < RR.length ∧ plc RR q ≤ n ∧ n < plc RR (q + 1) := by
      rcases plc_find (RR := RR) n h8 RR.length (Nat.le_refl _) with g | g
      · rw [plc_all] at g; omega
      · exact g
    rw [plc_succ hq] at h2
    have e2 : recsL (RR.drop q) = recL (RR.getD q []) ++ recsL (RR.drop (q + 1)) := by
      rw [List.drop_eq_getElem_cons hq, recsL_cons, List.getD_eq_getElem?_getD, List.getElem?_eq_getElem hq]; rfl
    have e3 : spoil (logL RR) n d = logL (RR.take q) ++ spoil (recL (RR.getD q []) ++ recsL (RR.drop (q + 1))) (n - plc RR q) d := by
      rw [logL_split RR q, e2, spoil_right (show (logL (RR.take q)).length ≤ n from h1)]; rfl
    have e4 : (spoil (logL RR) n d).drop (plc RR q) = spoil (recL (RR.getD q []) ++ recsL (RR.drop (q + 1))) (n - plc RR q) d := by rw [e3]; exact List.drop_left
    have hgq : ∀ LL ∈ RR.take q, goodR LL := fun LL hL => hg LL (List.mem_of_mem_take hL)
    have e5 : logL (RR.take q) ++ spoil (recL (RR.getD q []) ++ recsL (RR.drop (q + 1))) (n - plc RR q) d = headL ++ (recsL (RR.take q) ++ spoil (recL (RR.getD q []) ++ recsL (RR.drop (q + 1))) (n - plc RR q) d) := by rw [logL, List.append_assoc]
    have ha' := ha
    rw [e3, e5] at ha'
    rcases Nat.lt_or_ge (n - plc RR q) 4 with g | g
    · rcases opn_rest h ha' hgq hO with r | ⟨r1, r2⟩
      · exact .inl r
      · refine .inr ⟨r1, q, hq, h1, by omega, ?_⟩
        rcases r2 with r2 | ⟨r2, r3⟩
        · exact .inl r2
        · right
          rw [e4]
          have : (RR.take q).length = q := by rw [List.length_take]; omega
          exact ⟨by omega, r3⟩
    · exact .inl ((opn_at (lv_read h ha').1 hgq (.inr (.inr (bad_rec (hg _ (getD_mem hq)) (hf _ (getD_mem hq)) _ g (by omega) hd h0))) hO).2.2 (bad_rec (hg _ (getD_mem hq)) (hf _ (getD_mem hq)) _ g (by omega) hd h0))
theorem log_rows {RR : Recs} (h : ∀ x ∈ logL RR, x ≤ 255) : ∀ LL ∈ RR, ∀ r ∈ LL, ∀ x ∈ r, x ≤ 255 := fun LL hL r hr x hx => by
  refine h x (List.mem_append_right _ (List.mem_flatMap.2 ⟨LL, hL, ?_⟩))
  unfold recL
  exact List.mem_append_right _ (List.mem_append_right _ (List.mem_flatMap.2 ⟨r, hr, List.mem_append_right _ hx⟩))
theorem numL_drop4 (B : List Nat) : numL (B.drop 4) = B.getD 4 0 * 16777216 + B.getD 5 0 * 65536 + B.getD 6 0 * 256 + B.getD 7 0 := by
  simp only [numL, List.getD_eq_getElem?_getD, List.getElem?_drop]
theorem sums_q {B : List Nat} {q : Nat} (hs : SumsP B) (hq : NumIs q B) : q ≤ B.length - 8 := by unfold NumIs at hq; subst hq; exact hs.2.1
theorem sums_crc {B : List Nat} {q : Nat} (hs : SumsP B) (hq : NumIs q B) : crcM 0 (B.take 4 ++ (B.take (8 + q)).drop 8) = B.getD 4 0 * 16777216 + B.getD 5 0 * 65536 + B.getD 6 0 * 256 + B.getD 7 0 := by
  unfold NumIs at hq; subst hq
  have := hs.2.2
  rw [← mid_eq, numL_drop4] at this
  exact this
theorem spo_same {RR : Recs} {n q c : Nat} (hq : q < RR.length) (h1 : plc RR q ≤ n) (h2 : n < plc RR q + 4) (hc : c < RR.length) (h3 : plc RR c ≤ n) (h4 : RR.length ≤ c + 1 ∨ n < plc RR (c + 1)) : c = q := by
  have hs := plc_succ hq
  rcases Nat.lt_trichotomy c q with h | h | h
  · have := plc_mono (RR := RR) (i := c + 1) (j := q) (by omega) (by omega)
    omega
  · exact h
  · have := plc_mono (RR := RR) (i := q + 1) (j := c) (by omega) (by omega)
    omega
end Go.Proofs.Ytdmiklegahdafaa.K

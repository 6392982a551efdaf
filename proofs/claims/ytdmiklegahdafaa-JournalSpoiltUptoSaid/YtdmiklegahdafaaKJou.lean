/- A journal's file, plain: records of rows. -/
import Derived.Test.YtdmiklegahdafaaKRows
import Derived.Test.YtdmiklegahdafaaKCrc
import Derived.Test.YtdmiklegahdafaaKDisk
namespace Go.Proofs.Ytdmiklegahdafaa.K
open Go Go.RowKit
set_option linter.unusedSimpArgs false
set_option linter.unusedVariables false

def bodyL (LL : List (List Nat)) : List Nat := LL.flatMap fun r => fourL r.length ++ r
def recL (LL : List (List Nat)) : List Nat := fourL (bodyL LL).length ++ (fourL (crcM (crcM 0 (fourL (bodyL LL).length)) (bodyL LL)) ++ bodyL LL)
theorem bodyL_append (A B : List (List Nat)) : bodyL (A ++ B) = bodyL A ++ bodyL B := by simp [bodyL]
theorem bodyL_take {LL : List (List Nat)} {i : Nat} (h : i < LL.length) : bodyL (LL.take (i + 1)) = bodyL (LL.take i) ++ fourL (LL.getD i []).length ++ LL.getD i [] := by
  rw [List.take_succ_eq_append_getElem h, bodyL_append, List.getD_eq_getElem?_getD, List.getElem?_eq_getElem h, Option.getD_some]
  simp [bodyL]
theorem bodyL_split (LL : List (List Nat)) (i : Nat) : bodyL LL = bodyL (LL.take i) ++ bodyL (LL.drop i) := by rw [← bodyL_append, List.take_append_drop]
theorem bodyL_take_le (LL : List (List Nat)) (i : Nat) : (bodyL (LL.take i)).length ≤ (bodyL LL).length := by
  have := congrArg List.length (bodyL_split LL i)
  rw [List.length_append] at this; omega
theorem bodyL_row_le {LL : List (List Nat)} {i : Nat} (h : i < LL.length) : (bodyL (LL.take i)).length + 4 + (LL.getD i []).length ≤ (bodyL LL).length := by
  have h1 := bodyL_take_le LL (i + 1)
  rw [bodyL_take h, List.length_append, List.length_append, fourL_len] at h1
  omega
theorem bodyL_fit {LL : List (List Nat)} (h : ∀ r ∈ LL, ∀ x ∈ r, x ≤ 255) : ∀ x ∈ bodyL LL, x ≤ 255 := by
  intro x hx
  simp only [bodyL, List.mem_flatMap, List.mem_append] at hx
  obtain ⟨r, hr, hx | hx⟩ := hx
  · exact fourL_fit _ x hx
  · exact h r hr x hx
theorem bodyL_take_fit {LL : List (List Nat)} (h : ∀ r ∈ LL, ∀ x ∈ r, x ≤ 255) (i : Nat) : ∀ x ∈ bodyL (LL.take i), x ≤ 255 := bodyL_fit fun r hr => h r (List.mem_of_mem_take hr)
theorem RwV.fit {ad : Option Addr} {cap : Nat} {vs : List Value} {xs : List (List Nat)} {hv : Hp} (h : RwV R1 ad cap vs xs hv) : ∀ r ∈ xs, ∀ x ∈ r, x ≤ 255 := by
  intro r hr
  obtain ⟨j, hj, rfl⟩ := List.mem_iff_getElem.1 hr
  obtain ⟨b, c, _, h2⟩ := h.get j hj
  have e : xs.getD j [] = xs[j] := by rw [List.getD_eq_getElem?_getD, List.getElem?_eq_getElem hj, Option.getD_some]
  rw [e] at h2
  exact h2.fit
theorem recL_fit {LL : List (List Nat)} (h : ∀ r ∈ LL, ∀ x ∈ r, x ≤ 255) : ∀ x ∈ recL LL, x ≤ 255 := by
  intro x hx
  simp only [recL, List.mem_append] at hx
  rcases hx with hx | hx | hx
  · exact fourL_fit _ x hx
  · exact fourL_fit _ x hx
  · exact bodyL_fit h x hx
theorem recL_len (LL : List (List Nat)) : (recL LL).length = 8 + (bodyL LL).length := by simp only [recL, List.length_append, fourL_len]; omega
theorem lay_fit {LL : List (List Nat)} (h : ∀ r ∈ LL, ∀ x ∈ r, x ≤ 255) (i : Nat) : ∀ x ∈ List.replicate 8 0 ++ bodyL (LL.take i), x ≤ 255 := by
  intro x hx
  rcases List.mem_append.1 hx with hx | hx
  · rw [List.eq_of_mem_replicate hx]; exact Nat.zero_le _
  · exact bodyL_take_fit h i x hx
theorem app_fit {A B : List Nat} {m : Nat} (h1 : ∀ x ∈ A, x ≤ m) (h2 : ∀ x ∈ B, x ≤ m) : ∀ x ∈ A ++ B, x ≤ m := fun x hx => (List.mem_append.1 hx).elim (h1 x) (h2 x)
/-! bodies taken apart -/
theorem bodyL_nil : bodyL [] = [] := rfl
theorem bodyL_cons (r : List Nat) (LL : List (List Nat)) : bodyL (r :: LL) = fourL r.length ++ (r ++ bodyL LL) := by simp [bodyL]
theorem bodyL_snoc (LL : List (List Nat)) (r : List Nat) : bodyL (LL ++ [r]) = bodyL LL ++ (fourL r.length ++ r) := by simp [bodyL]
theorem bodyL_rows (LL : List (List Nat)) : 4 * LL.length ≤ (bodyL LL).length := by
  induction LL with
  | nil => simp
  | cons r LL ih => rw [bodyL_cons]; simp only [List.length_append, List.length_cons, fourL_len]; omega
/-- what is left is no rows: then the whole is none -/
theorem body_rest {LL : List (List Nat)} {R : List Nat} (hb : (bodyL LL ++ R).length ≤ 4294967295) (h : ∀ M, R ≠ bodyL M) : ∀ M, bodyL LL ++ R ≠ bodyL M := by
  induction LL with
  | nil => simpa [bodyL] using h
  | cons r LL ih =>
    intro M e
    rw [bodyL_cons] at e hb
    cases M with
    | nil => simp [bodyL, fourL] at e
    | cons r2 M =>
      rw [bodyL_cons] at e
      have hl := congrArg List.length e
      simp only [List.length_append, fourL_len] at hl hb
      have e1 : numL (fourL r.length ++ (r ++ bodyL LL) ++ R) = r.length := by rw [List.append_assoc]; exact numL_app (by omega) _
      rw [e, numL_app (by omega)] at e1
      simp only [List.append_assoc] at e
      rw [e1] at e
      have e2 := List.append_cancel_left e
      obtain ⟨e3, e4⟩ := List.append_inj e2 e1.symm
      exact ih (by rw [List.length_append]; omega) M e4
theorem no_short {R : List Nat} (h0 : R.length ≠ 0) (h : R.length < 4) : ∀ M, R ≠ bodyL M := by
  rintro (_ | ⟨r, M⟩) rfl
  · simp [bodyL] at h0
  · rw [bodyL_cons] at h; simp only [List.length_append, fourL_len] at h; omega
theorem no_long {R : List Nat} (hb : R.length ≤ 4294967295) (h0 : R.length ≠ 0) (h : R.length - 4 < numL R) : ∀ M, R ≠ bodyL M := by
  rintro (_ | ⟨r, M⟩) rfl
  · simp [bodyL] at h0
  · rw [bodyL_cons] at h hb; simp only [List.length_append, fourL_len] at h hb
    rw [numL_app (by omega)] at h; omega
theorem body_step {LL : List (List Nat)} {R : List Nat} (h4 : 4 ≤ R.length) (hf : ∀ x ∈ R, x ≤ 255) (hn : numL R ≤ R.length - 4) : bodyL LL ++ R = bodyL (LL ++ [(R.drop 4).take (numL R)]) ++ (R.drop 4).drop (numL R) := by
  rw [bodyL_snoc]
  have e1 : ((R.drop 4).take (numL R)).length = numL R := by rw [List.length_take, List.length_drop]; omega
  rw [e1]
  rcases R with _ | ⟨a, _ | ⟨b, _ | ⟨c, _ | ⟨d, R⟩⟩⟩⟩
  · simp at h4
  · simp at h4
  · simp at h4
  · simp at h4
  · have ha := hf a (by simp); have hb := hf b (by simp); have hc := hf c (by simp); have hd := hf d (by simp)
    have e2 : fourL (numL (a :: b :: c :: d :: R)) = [a, b, c, d] := by
      simp only [fourL, numL, List.getD_cons_zero, List.getD_cons_succ, List.cons.injEq, and_true]
      refine ⟨?_, ?_, ?_, ?_⟩ <;> omega
    rw [e2]
    simp only [List.drop_succ_cons, List.drop_zero, List.append_assoc, List.take_append_drop]
    rfl
theorem no_long' {R : List Nat} {q : Nat} (hq : NumIs q R) (hb : R.length ≤ 4294967295) (h0 : R.length ≠ 0) (h : R.length - 4 < q) : ∀ M, R ≠ bodyL M := by
  unfold NumIs at hq; subst hq; exact no_long hb h0 h
theorem body_step' {LL : List (List Nat)} {R : List Nat} {q : Nat} (hq : NumIs q R) (h4 : 4 ≤ R.length) (hf : ∀ x ∈ R, x ≤ 255) (hn : q ≤ R.length - 4) : bodyL LL ++ R = bodyL (LL ++ [(R.drop 4).take q]) ++ (R.drop 4).drop q := by
  unfold NumIs at hq; subst hq; exact body_step h4 hf hn
/-- a record's head laid over zeros -/
theorem zer_four (x : Nat) (B : List Nat) : (List.replicate 8 0 ++ B).take 0 ++ fourL x ++ (List.replicate 8 0 ++ B).drop (0 + (fourL x).length) = fourL x ++ (List.replicate 4 0 ++ B) := by
  simp [fourL, List.replicate]
theorem zer_four2 (x y : Nat) (B : List Nat) : (fourL x ++ (List.replicate 4 0 ++ B)).take 4 ++ fourL y ++ (fourL x ++ (List.replicate 4 0 ++ B)).drop (4 + (fourL y).length) = fourL x ++ (fourL y ++ B) := by
  simp [fourL, List.replicate]
theorem head_four (x : Nat) (B : List Nat) : (fourL x ++ B).take 4 = fourL x := by simp [fourL]
theorem tail_four (x : Nat) (B : List Nat) : (fourL x ++ (List.replicate 4 0 ++ B)).drop 8 = B := by simp [fourL, List.replicate]
end Go.Proofs.Ytdmiklegahdafaa.K

/- Numbers as decimal texts. No program in sight. -/
import Derived.Test.YtdmiklegahdafaaKByt
namespace Go.Proofs.Ytdmiklegahdafaa.K
open Go Go.RowKit
set_option linter.unusedVariables false
set_option linter.unusedSimpArgs false

/-- the byte j of a string -/
def ch (s : ByteArray) (j : Nat) : Nat := (s.data.toList.getD j 0).toNat
/-- the value of the first k digits -/
def dv (s : ByteArray) : Nat → Nat
  | 0 => 0
  | k + 1 => 10 * dv s k + (ch s k - 48)
def okT (s : ByteArray) : Prop := s.size ≠ 0 ∧ ¬ (ch s 0 = 48 ∧ 1 < s.size) ∧ ∀ j, j < s.size → 48 ≤ ch s j ∧ ch s j ≤ 57
theorem bytes_toList (s : ByteArray) : s.toList = s.data.toList := by
  have key : ∀ (n i : Nat) (r : List UInt8), s.size - i = n → i ≤ s.size → ByteArray.toList.loop s i r = r.reverse ++ s.data.toList.drop i := by
    intro n
    induction n with
    | zero =>
      intro i r h1 h2
      unfold ByteArray.toList.loop
      have hi : ¬ i < s.size := by omega
      rw [if_neg hi, List.drop_of_length_le (by rw [Array.length_toList]; show s.size ≤ i; omega), List.append_nil]
    | succ n ih =>
      intro i r h1 h2
      unfold ByteArray.toList.loop
      have hi : i < s.size := by omega
      rw [if_pos hi, ih (i + 1) _ (by omega) (by omega)]
      have hi' : i < s.data.toList.length := by rw [Array.length_toList]; exact hi
      rw [List.drop_eq_getElem_cons hi', List.reverse_cons, List.append_assoc]
      congr 1
      simp [ByteArray.get!, hi]
  have := key s.size 0 [] (by omega) (by omega)
  simpa [ByteArray.toList] using this
theorem str_empty {a : ByteArray} (h : a.size = 0) : (a.toList == (⟨#[]⟩ : ByteArray).toList) = true := by
  have : a = ⟨#[]⟩ := by
    cases a with
    | mk d =>
      have : d.size = 0 := h
      simp at this
      rw [this]
  exact str_same this
theorem str_full {a : ByteArray} (h : ¬ a.size = 0) : (a.toList == (⟨#[]⟩ : ByteArray).toList) = false := by
  rw [bytes_toList, bytes_toList]
  rw [beq_eq_false_iff_ne]
  intro e
  have : a.data.toList.length = 0 := by rw [e]; rfl
  rw [Array.length_toList] at this
  exact h this
theorem dv_lt (s : ByteArray) (h : ∀ j, j < s.size → 48 ≤ ch s j ∧ ch s j ≤ 57) : ∀ k, k ≤ s.size → dv s k < 10 ^ k
  | 0, _ => by simp [dv]
  | k + 1, hk => by
    have h1 := dv_lt s h k (by omega)
    have h2 := h k (by omega)
    simp only [dv, Nat.pow_succ]
    omega
/-- nine digits more -/
theorem dv_nine (s : ByteArray) (i : Nat) : ∀ j g, (g + dv s i * 10 ^ j = dv s (i + j)) → 10 * g + (ch s (i + j) - 48) + dv s i * 10 ^ (j + 1) = dv s (i + (j + 1)) := by
  intro j g e
  rw [← Nat.add_assoc i j 1]
  simp only [dv]
  rw [← e, Nat.pow_succ]
  grind
end Go.Proofs.Ytdmiklegahdafaa.K

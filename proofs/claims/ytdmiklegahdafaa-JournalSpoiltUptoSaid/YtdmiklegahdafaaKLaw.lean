/- Plain laws of the numbers: powers, roots, lengths in bits. No program in sight. -/
import Derived.Test.YtdmiklegahdafaaKWin
namespace Go.Proofs.Ytdmiklegahdafaa.K
open Go Go.RowKit
set_option linter.unusedVariables false
set_option linter.unusedSimpArgs false

theorem nm_one : Nm [1] := ⟨by intro x hx; simp at hx; omega, .inr (by decide), by decide⟩
theorem lv_single (x : Nat) : lv [x] = x := by simp [lv]
theorem nm_lt {A : List Nat} (n : Nm A) : lv A < Top := lt_top n.lim n.len
def TopE : Nat := 262144
theorem top_two : Top = 2 ^ TopE := by
  have h := pw_two 8192
  have e : 32 * 8192 = TopE := rfl
  rw [e] at h
  exact h
theorem one_top : 1 < Top := by have := nm_lt nm_one; rwa [lv_single] at this
theorem two_top {n : Nat} (h : 262144 ≤ n) : Top ≤ 2 ^ n := by rw [top_two]; exact Nat.pow_le_pow_right (by omega) h
theorem shl_top {a n : Nat} (ha : 0 < a) (h : 262144 ≤ n) : Top ≤ a * 2 ^ n := Nat.le_trans (two_top h) (Nat.le_mul_of_pos_left _ ha)
theorem pow_top {b n : Nat} (hb : 2 ≤ b) (h : 262144 ≤ n) : Top ≤ b ^ n := Nat.le_trans (two_top h) (Nat.pow_le_pow_left hb n)
theorem half_bit (n k : Nat) (hk : 0 < k) : n / 2 ^ (k - 1) = 2 * (n / 2 ^ k) + n / 2 ^ (k - 1) % 2 := by
  have h : n / 2 ^ k = n / 2 ^ (k - 1) / 2 := by
    rw [Nat.div_div_eq_div_mul, ← Nat.pow_succ]
    congr 2
    omega
  rw [h]
  omega
theorem pow_even {b n k : Nat} (hk : 0 < k) (h : n / 2 ^ (k - 1) % 2 = 0) : b ^ (n / 2 ^ k) * b ^ (n / 2 ^ k) = b ^ (n / 2 ^ (k - 1)) := by
  have := half_bit n k hk
  rw [h] at this
  rw [this, ← Nat.pow_add]
  congr 1
  omega
theorem pow_odd {b n k : Nat} (hk : 0 < k) (h : n / 2 ^ (k - 1) % 2 = 1) : b ^ (n / 2 ^ k) * b ^ (n / 2 ^ k) * b = b ^ (n / 2 ^ (k - 1)) := by
  have := half_bit n k hk
  rw [h] at this
  rw [this, ← Nat.pow_add, ← Nat.pow_succ]
  congr 1
  omega
theorem pow_part {b n k : Nat} (hb : 2 ≤ b) (h : Top ≤ b ^ (n / 2 ^ k)) : Top ≤ b ^ n :=
  Nat.le_trans h (Nat.pow_le_pow_right (by omega) (Nat.div_le_self _ _))
theorem pow_begin (b n : Nat) : b ^ (n / 2 ^ bl n) = 1 := by rw [Nat.div_eq_of_lt (bl_lt n), Nat.pow_zero]
theorem bl_lv {A : List Nat} (lA : Lim A) (nA : Nz A) (h : 0 < A.length) : bl (lv A) = 32 * (A.length - 1) + bl (A.getD (A.length - 1) 0) := by
  have hp := top_pos nA h
  have e := lv_split A (k := A.length - 1) (by omega)
  rw [lv_drop (by omega), List.drop_of_length_le (by omega)] at e
  simp only [lv, Nat.mul_zero, Nat.add_zero] at e
  have ht := lv_lt (lim_take lA (A.length - 1))
  rw [List.length_take, Nat.min_eq_left (by omega)] at ht
  generalize A.getD (A.length - 1) 0 = x at *
  have h1 := bl_lt x
  have h2 := bl_ge hp
  have h3 := bl_pos hp
  rw [pw_two] at e ht
  refine bl_uniq (by omega) ?_ ?_
  · rw [show 32 * (A.length - 1) + bl x - 1 = 32 * (A.length - 1) + (bl x - 1) by omega, Nat.pow_add, e]
    have := Nat.mul_le_mul_left (2 ^ (32 * (A.length - 1))) h2
    omega
  · rw [Nat.pow_add, e]
    have := Nat.mul_le_mul_left (2 ^ (32 * (A.length - 1))) h1
    rw [Nat.mul_succ] at this
    omega

theorem gcd_step (x y : Nat) : Nat.gcd y (x % y) = Nat.gcd x y := by rw [Nat.gcd_comm y, ← Nat.gcd_rec, Nat.gcd_comm]

/-! roots -/
theorem root_next {a x q : Nat} (hx : 0 < x) (hq : q = a / x) : a < ((x + q) / 2 + 1) * ((x + q) / 2 + 1) := by
  have h1 : a < x * (q + 1) := by rw [hq]; exact Nat.lt_mul_div_succ a hx
  have h2 : x + q + 1 ≤ 2 * ((x + q) / 2 + 1) := by omega
  generalize (x + q) / 2 + 1 = t at *
  have h3 : (x + (q + 1)) * (x + (q + 1)) ≤ 2 * t * (2 * t) := Nat.mul_le_mul (by omega) (by omega)
  have h4 : 4 * (x * (q + 1)) ≤ (x + (q + 1)) * (x + (q + 1)) := by
    generalize q + 1 = y
    rcases Nat.le_total x y with h | h
    · obtain ⟨d, rfl⟩ := Nat.exists_eq_add_of_le h
      have : (x + (x + d)) * (x + (x + d)) = 4 * (x * (x + d)) + d * d := by grind
      omega
    · obtain ⟨d, rfl⟩ := Nat.exists_eq_add_of_le h
      have : (y + d + y) * (y + d + y) = 4 * ((y + d) * y) + d * d := by grind
      omega
  have h5 : 2 * t * (2 * t) = 4 * (t * t) := by grind
  omega
theorem root_stop {a x q : Nat} (hx : 0 < x) (hq : q = a / x) (h : x ≤ (x + q) / 2) : x * x ≤ a := by
  have h1 : x ≤ q := by omega
  have h2 : x * q ≤ a := by rw [hq]; exact Nat.mul_div_le a x
  exact Nat.le_trans (Nat.mul_le_mul_left x h1) h2
theorem root_pos {a x q : Nat} (ha : 0 < a) (hx : 0 < x) (hq : q = a / x) : 0 < (x + q) / 2 := by
  rcases Nat.lt_or_ge x 2 with h | h
  · have : x = 1 := by omega
    subst this
    rw [Nat.div_one] at hq
    omega
  · omega
theorem root_first {a : Nat} : a < (2 ^ ((bl a + 1) / 2) + 1) * (2 ^ ((bl a + 1) / 2) + 1) := by
  have h1 := bl_lt a
  have h2 : 2 ^ bl a ≤ 2 ^ ((bl a + 1) / 2) * 2 ^ ((bl a + 1) / 2) := by
    rw [← Nat.pow_add]
    exact Nat.pow_le_pow_right (by omega) (by omega)
  have h3 : 2 ^ ((bl a + 1) / 2) * 2 ^ ((bl a + 1) / 2) ≤ (2 ^ ((bl a + 1) / 2) + 1) * (2 ^ ((bl a + 1) / 2) + 1) := Nat.mul_le_mul (by omega) (by omega)
  omega
theorem root_uniq {a r s : Nat} (h1 : r * r ≤ a) (h2 : a < (r + 1) * (r + 1)) (h3 : s * s ≤ a) (h4 : a < (s + 1) * (s + 1)) : r = s := by
  rcases Nat.lt_trichotomy r s with h | h | h
  · have := Nat.mul_le_mul (show r + 1 ≤ s from h) (show r + 1 ≤ s from h)
    omega
  · exact h
  · have := Nat.mul_le_mul (show s + 1 ≤ r from h) (show s + 1 ≤ r from h)
    omega
theorem bl_top {a : Nat} (h : a < Top) : bl a ≤ 262144 := show bl a ≤ TopE from bl_le (by rw [← top_two]; exact h)
theorem root_small {a : Nat} (h : a < Top) : 2 ^ ((bl a + 1) / 2) < Top := by
  have := bl_top h
  rw [top_two]
  exact Nat.pow_lt_pow_right (by omega) (by unfold TopE; omega)
end Go.Proofs.Ytdmiklegahdafaa.K

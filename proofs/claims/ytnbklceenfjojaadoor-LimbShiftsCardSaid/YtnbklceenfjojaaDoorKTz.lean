/- The lowest bit of a number. No program in sight. -/
import Derived.Test.YtnbklceenfjojaaDoorKTab
namespace Go.Proofs.YtnbklceenfjojaaDoor.K
open Go Go.RowKit
set_option linter.unusedVariables false
set_option linter.unusedSimpArgs false

def ctzF : Nat → Nat → Nat
  | 0, _ => 0
  | f + 1, x => if x % 2 = 1 then 0 else ctzF f (x / 2) + 1
/-- the place of the lowest bit of a limb -/
def ctz (x : Nat) : Nat := ctzF 32 x
theorem and_two (a b : Nat) : a &&& b = 2 * (a / 2 &&& b / 2) + (a % 2) * (b % 2) := by
  have h1 : (a &&& b) / 2 = a / 2 &&& b / 2 := Nat.and_div_two
  have h2 : (a &&& b) % 2 = (a % 2) * (b % 2) := by
    have h3 := Nat.and_mod_two_pow (a := a) (b := b) (n := 1)
    rw [Nat.pow_one] at h3
    rw [h3]
    rcases Nat.mod_two_eq_zero_or_one a with p | p <;> rcases Nat.mod_two_eq_zero_or_one b with q | q <;> rw [p, q] <;> rfl
  omega
theorem and_compl : ∀ (n m : Nat), m < 2 ^ n → m &&& (2 ^ n - 1 - m) = 0
  | 0, m, h => by
    have : m = 0 := by simpa using h
    subst this
    rfl
  | n + 1, m, h => by
    have hp : 2 ^ (n + 1) = 2 * 2 ^ n := by rw [Nat.pow_succ]; omega
    have ih := and_compl n (m / 2) (by omega)
    rw [and_two]
    have e1 : (2 ^ (n + 1) - 1 - m) / 2 = 2 ^ n - 1 - m / 2 := by omega
    have e2 : m % 2 * ((2 ^ (n + 1) - 1 - m) % 2) = 0 := by
      rcases Nat.mod_two_eq_zero_or_one m with p | p
      · rw [p, Nat.zero_mul]
      · have : (2 ^ (n + 1) - 1 - m) % 2 = 0 := by omega
        rw [this, Nat.mul_zero]
    rw [e1, ih, e2]
theorem and_neg : ∀ (n x : Nat), 0 < x → x < 2 ^ n → x &&& (2 ^ n - x) = 2 ^ ctzF n x
  | 0, x, h0, h => by simp at h; omega
  | n + 1, x, h0, h => by
    have hp : 2 ^ (n + 1) = 2 * 2 ^ n := by rw [Nat.pow_succ]; omega
    rw [and_two]
    unfold ctzF
    by_cases c : x % 2 = 1
    · have e1 : (2 ^ (n + 1) - x) / 2 = 2 ^ n - 1 - x / 2 := by omega
      have e2 : (2 ^ (n + 1) - x) % 2 = 1 := by omega
      rw [e1, and_compl n (x / 2) (by omega), if_pos c, c, e2]
    · have e1 : (2 ^ (n + 1) - x) / 2 = 2 ^ n - x / 2 := by omega
      have c0 : x % 2 = 0 := by omega
      rw [e1, and_neg n (x / 2) (by omega) (by omega), if_neg c, c0, Nat.zero_mul, Nat.pow_succ]
      omega
theorem ctzF_lt : ∀ (n x : Nat), 0 < x → x < 2 ^ n → ctzF n x < n
  | 0, x, h0, h => by simp at h; omega
  | n + 1, x, h0, h => by
    have hp : 2 ^ (n + 1) = 2 * 2 ^ n := by rw [Nat.pow_succ]; omega
    unfold ctzF
    by_cases c : x % 2 = 1
    · rw [if_pos c]; omega
    · rw [if_neg c]
      have := ctzF_lt n (x / 2) (by omega) (by omega)
      omega
/-- what the lowest bit's place says of the number -/
theorem ctzF_split : ∀ (n x : Nat), 0 < x → x < 2 ^ n → x % 2 ^ ctzF n x = 0 ∧ x / 2 ^ ctzF n x % 2 = 1
  | 0, x, h0, h => by simp at h; omega
  | n + 1, x, h0, h => by
    have hp : 2 ^ (n + 1) = 2 * 2 ^ n := by rw [Nat.pow_succ]; omega
    unfold ctzF
    by_cases c : x % 2 = 1
    · rw [if_pos c]
      simp [Nat.mod_one, c]
    · rw [if_neg c]
      obtain ⟨h1, h2⟩ := ctzF_split n (x / 2) (by omega) (by omega)
      have e : 2 ^ (ctzF n (x / 2) + 1) = 2 * 2 ^ ctzF n (x / 2) := by rw [Nat.pow_succ]; omega
      rw [e, ← Nat.div_div_eq_div_mul]
      refine ⟨?_, h2⟩
      rw [Nat.mod_mul, h1]
      omega
/-- k is the place of x's lowest bit -/
def Lowest (x k : Nat) : Prop := x % 2 ^ k = 0 ∧ x / 2 ^ k % 2 = 1
theorem lowest_limb {A : List Nat} {i : Nat} (lA : Lim A) (hi : i < A.length) (h0 : lv (A.take i) = 0) (hx : 0 < A.getD i 0) : Lowest (lv A) (32 * i + ctz (A.getD i 0)) := by
  have e := lv_split A (k := i) (by omega)
  rw [h0, Nat.zero_add, lv_drop hi] at e
  have hlt : A.getD i 0 < 2 ^ 32 := Nat.lt_of_le_of_lt (getD_lim lA i) (by decide)
  obtain ⟨h1, h2⟩ := ctzF_split 32 (A.getD i 0) hx hlt
  have hk := ctzF_lt 32 (A.getD i 0) hx hlt
  unfold ctz
  generalize A.getD i 0 = x at *
  generalize lv (A.drop (i + 1)) = r at *
  generalize ctzF 32 x = k at *
  have e2 : 4294967296 = 2 ^ k * 2 ^ (32 - k) := by rw [← Nat.pow_add, show k + (32 - k) = 32 by omega]
  have e3 : 2 ^ (32 - k) = 2 * 2 ^ (31 - k) := by rw [← Nat.pow_succ', show 32 - k = (31 - k).succ by omega]
  have hp : 0 < 2 ^ k := Nat.pow_pos (by omega)
  have hx2 : x = 2 ^ k * (x / 2 ^ k) := by have := Nat.div_add_mod x (2 ^ k); omega
  have hx3 : 2 ^ k * (x / 2 ^ k) = x := hx2.symm
  have e5 : x + 4294967296 * r = 2 ^ k * (x / 2 ^ k + 2 * (2 ^ (31 - k) * r)) := by
    rw [Nat.mul_add, hx3, e2, e3]
    congr 1
    grind
  have e4 : lv A = 2 ^ (32 * i + k) * (x / 2 ^ k + 2 * (2 ^ (31 - k) * r)) := by
    rw [e, e5, pw_two, Nat.pow_add, Nat.mul_assoc]
  refine ⟨by rw [e4]; exact Nat.mul_mod_right _ _, ?_⟩
  rw [e4, Nat.mul_div_cancel_left _ (Nat.pow_pos (by omega))]
  omega
theorem lowest_uniq {x a b : Nat} (h1 : Lowest x a) (h2 : Lowest x b) : a = b := by
  have key : ∀ {a b : Nat}, a < b → Lowest x a → Lowest x b → False := by
    intro a b hab h1 h2
    have e : 2 ^ b = 2 ^ a * (2 * 2 ^ (b - a - 1)) := by
      rw [← Nat.pow_succ', ← Nat.pow_add]; congr 1; omega
    have hx : x = 2 ^ b * (x / 2 ^ b) := by have := Nat.div_add_mod x (2 ^ b); have := h2.1; omega
    have h3 := h1.2
    rw [hx, e, Nat.mul_assoc, Nat.mul_div_cancel_left _ (Nat.pow_pos (by omega)), Nat.mul_assoc, Nat.mul_mod_right] at h3
    omega
  rcases Nat.lt_trichotomy a b with h | h | h
  · exact (key h h1 h2).elim
  · exact h
  · exact (key h h2 h1).elim
theorem lowest_gone {x k n : Nat} (h : Lowest x k) : k < n ↔ x % 2 ^ n ≠ 0 := by
  have hx : x = 2 ^ k * (x / 2 ^ k) := by have := Nat.div_add_mod x (2 ^ k); have := h.1; omega
  constructor
  · intro hk h0
    have e : 2 ^ n = 2 ^ k * (2 * 2 ^ (n - k - 1)) := by rw [← Nat.pow_succ', ← Nat.pow_add]; congr 1; omega
    rw [hx, e, Nat.mul_mod_mul_left] at h0
    have h1 : x / 2 ^ k % (2 * 2 ^ (n - k - 1)) = 0 := by
      rcases Nat.mul_eq_zero.1 h0 with q | q
      · exact absurd q (Nat.ne_of_gt (Nat.pow_pos (by omega)))
      · exact q
    have h2 := Nat.mod_mul_right_mod (x / 2 ^ k) 2 (2 ^ (n - k - 1))
    rw [h1, h.2] at h2
    omega
  · intro h0
    rcases Nat.lt_or_ge k n with q | q
    · exact q
    · exfalso
      apply h0
      have e : 2 ^ k = 2 ^ n * 2 ^ (k - n) := by rw [← Nat.pow_add]; congr 1; omega
      rw [hx, e, Nat.mul_assoc, Nat.mul_mod_right]
theorem bit_over {A : List Nat} {N : Nat} (lA : Lim A) (h : A.length ≤ N / 32) : lv A / 2 ^ N % 2 = 0 := by
  rw [right_over lA h]
theorem bit_limb {A : List Nat} {N : Nat} (lA : Lim A) (h : N / 32 < A.length) : lv A / 2 ^ N % 2 = A.getD (N / 32) 0 / 2 ^ (N % 32) % 2 := by
  have e : 2 ^ N = pw (N / 32) * 2 ^ (N % 32) := by rw [Nat.mul_comm, shift_two]
  have e1 : lv A / pw (N / 32) = lv (A.drop (N / 32)) := by
    have h1 := lv_split A (k := N / 32) (by omega)
    have h2 := lv_lt (lim_take lA (N / 32))
    rw [List.length_take, Nat.min_eq_left (by omega)] at h2
    rw [h1, Nat.add_comm, Nat.mul_add_div (pw_pos _), Nat.div_eq_of_lt h2]
    rfl
  rw [e, ← Nat.div_div_eq_div_mul, e1, lv_drop h]
  have hs : N % 32 ≤ 31 := by omega
  generalize N % 32 = s at *
  have e2 : 4294967296 = 2 ^ s * (2 * 2 ^ (31 - s)) := by rw [← Nat.pow_succ', ← Nat.pow_add, show s + (31 - s).succ = 32 by omega]
  rw [e2, Nat.mul_assoc, Nat.add_mul_div_left _ _ (Nat.pow_pos (by omega)), Nat.mul_assoc]
  omega
theorem two_lt_pw {n k : Nat} (h : n < 32 * k) : 2 ^ n < pw k := by rw [pw_two]; exact Nat.pow_lt_pow_right (by omega) h
theorem shift_fit {a n : Nat} (ha : a < pw 200) (hn : n < 5000) : a * 2 ^ n < Top := by
  have h : 2 ^ n < pw 157 := two_lt_pw (by omega)
  exact pw_top (mul_pw ha h) (by decide)
theorem bl_two (n : Nat) : bl (2 ^ n) = n + 1 := bl_uniq (by omega) (Nat.le_refl _) (Nat.pow_lt_pow_right (by omega) (by omega))
theorem lowest_two (n : Nat) : Lowest (2 ^ n) n := ⟨Nat.mod_self _, by rw [Nat.div_self (Nat.pow_pos (by omega))]⟩
theorem lv_odd (A : List Nat) : lv A % 2 = A.getD 0 0 % 2 := by
  cases A with
  | nil => rfl
  | cons x r => simp only [lv, List.getD_cons_zero]; omega
theorem bl_mul_two {x n : Nat} (h : 0 < x) : bl (x * 2 ^ n) = bl x + n := by
  have hp := bl_pos h
  refine bl_uniq (by omega) ?_ ?_
  · rw [show bl x + n - 1 = bl x - 1 + n from by omega, Nat.pow_add]; exact Nat.mul_le_mul_right _ (bl_ge h)
  · rw [Nat.pow_add]; exact Nat.mul_lt_mul_of_pos_right (bl_lt x) (Nat.pow_pos (by omega))
theorem lowest_mul {x k n : Nat} (h : Lowest x k) : Lowest (x * 2 ^ n) (k + n) := by
  obtain ⟨h1, h2⟩ := h
  have e : x * 2 ^ n / 2 ^ (k + n) = x / 2 ^ k := by rw [Nat.pow_add, Nat.mul_div_mul_right _ _ (Nat.pow_pos (by omega))]
  refine ⟨?_, by rw [e]; exact h2⟩
  rw [Nat.pow_add, Nat.mul_mod_mul_right, h1, Nat.zero_mul]
theorem low_shift {x n a b : Nat} (hx : 0 < x) (h1 : (x * 2 ^ n = 0 ∧ a = 0) ∨ (0 < x * 2 ^ n ∧ Lowest (x * 2 ^ n) a)) (h2 : (x = 0 ∧ b = 0) ∨ (0 < x ∧ Lowest x b)) : a = b + n := by
  have hp := Nat.mul_pos hx (Nat.pow_pos (n := n) (show 0 < 2 by omega))
  rcases h1 with h1 | h1
  · omega
  rcases h2 with h2 | h2
  · omega
  exact lowest_uniq h1.2 (lowest_mul h2.2)
theorem ne_dec {P Q : Prop} [Decidable P] [Decidable Q] (h : P ↔ Q) : (!(decide P == decide Q)) = false := by
  by_cases hp : P
  · simp [hp, h.1 hp]
  · have hq : ¬ Q := fun q => hp (h.2 q)
    simp [hp, hq]
theorem ne_dec0 {P : Prop} [Decidable P] (h : ¬ P) : (!(decide P == false)) = false := by simp [h]
theorem nm_pos {A : List Nat} (n : Nm A) : lv A ≠ 0 ↔ A.length > 0 := by
  constructor
  · intro h; rcases A with _ | ⟨x, r⟩
    · exact absurd rfl h
    · simp
  · intro h; have := lv_pos n.nz h; omega
def deB : List Nat := [0, 1, 28, 2, 29, 14, 24, 3, 30, 22, 20, 15, 25, 17, 4, 8, 31, 27, 13, 23, 21, 19, 16, 7, 26, 12, 18, 6, 11, 5, 10, 9]
theorem deB_at : ∀ k, k < 32 → deB.getD (2 ^ k * 125613361 % 4294967296 / 134217728) 0 = k := by decide
end Go.Proofs.YtnbklceenfjojaaDoor.K

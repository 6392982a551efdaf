/- Plain laws of the numbers that the laws speak of: what fits. No program in sight. -/
import Derived.Test.YtdmiklegahdafaaKDec
namespace Go.Proofs.Ytdmiklegahdafaa.K
open Go Go.RowKit
set_option linter.unusedVariables false
set_option linter.unusedSimpArgs false

theorem RdS.st {w0 w : World} {S : List Nat} {h : Hp} {ad : Option Addr} {LL : List (Option Addr × Nat × List Nat)} (hS : St w0 S h w) (hr : RdS w0 ad LL) (hno : ∀ x ∈ S, x = x ∧ False) : RdS w ad LL := by
  have hS0 : S = [] := by
    cases S with
    | nil => rfl
    | cons x r => exact ((hno x (by simp)).2).elim
  subst hS0
  refine ⟨hr.most, fun j hj => ?_⟩
  obtain ⟨h1, h2, h3, h4⟩ := hr.at_ j hj
  exact ⟨h1, Nat.lt_of_lt_of_le h2 hS.size, cell_rdS hr hj (by simp) w hS, rd_st hS h4 (by simp)⟩
theorem lv_nil : lv [] = 0 := rfl
theorem nm_bound {A : List Nat} {m : Nat} (n : Nm A) (h : A.length ≤ m) : lv A < pw m := Nat.lt_of_lt_of_le (lv_lt n.lim) (pw_le h)
theorem len_pos {A : List Nat} (h : 0 < lv A) : 0 < A.length := Nat.pos_of_ne_zero fun q => by rw [List.eq_nil_of_length_eq_zero q] at h; simp [lv] at h
theorem nz_len {A : List Nat} (n : Nz A) : 0 < A.length ↔ 0 < lv A :=
  ⟨fun h => lv_pos n h, fun h => Nat.pos_of_ne_zero fun q => by rw [List.eq_nil_of_length_eq_zero q] at h; simp [lv] at h⟩
theorem mul_pw {a b i k : Nat} (h1 : a < pw i) (h2 : b < pw k) : a * b < pw (i + k) := by
  rw [pw_add]
  rcases Nat.eq_zero_or_pos b with q | q
  · subst q; rw [Nat.mul_zero]; exact Nat.mul_pos (pw_pos _) (pw_pos _)
  · exact Nat.lt_of_lt_of_le (Nat.mul_lt_mul_of_pos_right h1 q) (Nat.mul_le_mul_left _ (Nat.le_of_lt h2))
theorem add_pw {a b i k : Nat} (h1 : a < pw i) (h2 : b < pw k) : a + b < pw (max i k + 1) := by
  have e1 : pw i ≤ pw (max i k) := pw_le (by omega)
  have e2 : pw k ≤ pw (max i k) := pw_le (by omega)
  rw [pw_succ]
  omega
theorem pw_top {a i : Nat} (h : a < pw i) (hi : i ≤ 8192) : a < Top := Nat.lt_of_lt_of_le h (pw_le hi)
theorem ring_fits {a b c : Nat} (ha : a < pw 300) (hb : b < pw 300) (hc : c < pw 300) :
    a + b < Top ∧ b + a < Top ∧ a + b + c < Top ∧ b + c < Top ∧ a + (b + c) < Top ∧ a * b < Top ∧ b * a < Top ∧ a * b * c < Top ∧ b * c < Top ∧ a * (b * c) < Top ∧ a * (b + c) < Top ∧ (a * c < Top ∧ a * b + a * c < Top ∧ a < Top ∧ b < Top) := by
  have hab := mul_pw ha hb
  have hbc := mul_pw hb hc
  have hac := mul_pw ha hc
  have h1 := pw_top (add_pw (add_pw ha hb) hc) (by decide)
  have h2 := pw_top (mul_pw hab hc) (by decide)
  have h3 := pw_top (mul_pw ha hbc) (by decide)
  have h4 := pw_top (mul_pw ha (add_pw hb hc)) (by decide)
  have h5 := pw_top (add_pw hab hac) (by decide)
  have h6 := pw_top hab (by decide)
  have h7 := pw_top hbc (by decide)
  have h8 := pw_top hac (by decide)
  exact ⟨by omega, by omega, h1, by omega, by omega, h6, by rw [Nat.mul_comm]; exact h6, h2, h7, h3, h4, h8, h5, by omega, by omega⟩
theorem div_fits {a b c : Nat} (ha : a < pw 250) (hb : b < pw 250) (hc : c < pw 250) : a * b < Top ∧ a * b + b < Top ∧ a + 1 < Top ∧ b * (a + 1) < Top ∧ b < Top := by
  have h1 := pw_top (add_pw (mul_pw ha hb) hb) (by decide)
  have h2 : b * (a + 1) = a * b + b := by rw [Nat.mul_add, Nat.mul_one, Nat.mul_comm]
  have h3 := pw_top (add_pw ha (show 1 < pw 1 by decide)) (by decide)
  have h4 := pw_top hb (by decide)
  exact ⟨by omega, h1, h3, by rw [h2]; exact h1, h4⟩
theorem div_back {q b r : Nat} (hr : r < b) : (q * b + r) / b = q ∧ (q * b + r) % b = r := by
  have hb : 0 < b := by omega
  refine ⟨?_, ?_⟩
  · rw [Nat.add_comm, Nat.add_mul_div_right _ _ hb, Nat.div_eq_of_lt hr, Nat.zero_add]
  · rw [Nat.add_comm, Nat.add_mul_mod_self_right, Nat.mod_eq_of_lt hr]
theorem div_less {q b : Nat} (hb : 0 < b) : (b * (q + 1) - 1) / b = q ∧ (b * (q + 1) - 1) % b = b - 1 := by
  have e : b * (q + 1) - 1 = q * b + (b - 1) := by rw [Nat.mul_add, Nat.mul_one, Nat.mul_comm]; omega
  rw [e]
  exact div_back (by omega)
theorem gcd_fits {a b c : Nat} (ha : a < pw 25) (hb : b < pw 25) (hc : c < pw 25) : a + b < Top ∧ a * c < Top ∧ b * c < Top ∧ Nat.gcd a b < pw 26 ∧ Nat.gcd a b * c < Top := by
  have h1 := add_pw ha hb
  have h2 := pw_top (mul_pw ha hc) (by decide)
  have h3 := pw_top (mul_pw hb hc) (by decide)
  have h4 : Nat.gcd a b ≤ a + b := by
    rcases Nat.eq_zero_or_pos a with q | q
    · subst q; simp
    · have := Nat.gcd_le_left b q; omega
  have h5 := pw_top (mul_pw (Nat.lt_of_le_of_lt h4 h1) hc) (by decide)
  exact ⟨pw_top h1 (by decide), h2, h3, Nat.lt_of_le_of_lt h4 h1, h5⟩
theorem root_fits {a b r : Nat} (ha : a < pw 120) (hb : b < pw 120) (hr : r * r ≤ a) : a < Top ∧ b * b + 1 < Top ∧ r * r < Top ∧ r + 1 < Top ∧ (r + 1) * (r + 1) < Top := by
  have h0 := pw_top ha (by decide)
  have h1 := pw_top (add_pw (mul_pw hb hb) (show 1 < pw 1 by decide)) (by decide)
  have hra : r < pw 120 := by
    rcases Nat.lt_or_ge r (pw 120) with q | q
    · exact q
    · have : r ≤ r * r := Nat.le_mul_self r
      omega
  have h2 := add_pw hra (show 1 < pw 1 by decide)
  exact ⟨h0, h1, by omega, pw_top h2 (by decide), pw_top (mul_pw h2 h2) (by decide)⟩
theorem root_sq {b r : Nat} (h1 : r * r ≤ b * b) (h2 : b * b < (r + 1) * (r + 1)) : r = b :=
  root_uniq h1 h2 (Nat.le_refl _) (Nat.mul_lt_mul'' (by omega) (by omega))
theorem root_below {b r : Nat} (hb : 0 < b) (h1 : r * r ≤ b * b - 1) (h2 : b * b - 1 < (r + 1) * (r + 1)) : r = b - 1 := by
  have hbb : 0 < b * b := Nat.mul_pos hb hb
  refine root_uniq h1 h2 ?_ ?_
  · have : (b - 1) * (b - 1) ≤ (b - 1) * b := Nat.mul_le_mul_left _ (by omega)
    have e : b * b = (b - 1) * b + b := by
      obtain ⟨c, rfl⟩ : ∃ c, b = 1 + c := ⟨b - 1, by omega⟩
      rw [show 1 + c - 1 = c by omega]
      grind
    omega
  · rw [show b - 1 + 1 = b by omega]; omega
theorem root_below_exact {b : Nat} (hb : 0 < b) : ((b - 1) * (b - 1) = b * b - 1) ↔ b = 1 := by
  obtain ⟨c, rfl⟩ : ∃ c, b = 1 + c := ⟨b - 1, by omega⟩
  rw [show 1 + c - 1 = c by omega]
  have e : (1 + c) * (1 + c) = c * c + 2 * c + 1 := by grind
  omega
theorem root_above {b r : Nat} (hb : 0 < b) (h1 : r * r ≤ b * b + 1) (h2 : b * b + 1 < (r + 1) * (r + 1)) : r = b := by
  refine root_uniq h1 h2 (by omega) ?_
  have e : (b + 1) * (b + 1) = b * b + 2 * b + 1 := by grind
  omega
end Go.Proofs.Ytdmiklegahdafaa.K

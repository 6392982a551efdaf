/- Numbers as bytes. No program in sight. -/
import Derived.Test.YtdmiklegahdafaaKTab
namespace Go.Proofs.Ytdmiklegahdafaa.K
open Go Go.RowKit
set_option linter.unusedVariables false
set_option linter.unusedSimpArgs false

/-- the value of bytes, the lowest first -/
def lev : List Nat → Nat
  | [] => 0
  | x :: r => x + 256 * lev r
/-- the k low bytes, the lowest first -/
def byts : Nat → Nat → List Nat
  | 0, _ => []
  | k + 1, n => n % 256 :: byts k (n / 256)
theorem byts_len : ∀ (k n : Nat), (byts k n).length = k
  | 0, _ => rfl
  | k + 1, n => by simp [byts, byts_len k]
theorem byts_get : ∀ (k j n : Nat), j < k → (byts k n).getD j 0 = n / 256 ^ j % 256
  | 0, j, n, h => by omega
  | k + 1, 0, n, _ => by simp [byts]
  | k + 1, j + 1, n, h => by
    simp only [byts, List.getD_cons_succ]
    rw [byts_get k j (n / 256) (by omega), Nat.div_div_eq_div_mul, Nat.pow_succ, Nat.mul_comm]
theorem lev_byts : ∀ (k n : Nat), lev (byts k n) = n % 256 ^ k
  | 0, n => by simp [byts, lev, Nat.mod_one]
  | k + 1, n => by
    simp only [byts, lev]
    rw [lev_byts k (n / 256), Nat.pow_succ, Nat.mul_comm (256 ^ k) 256, Nat.mod_mul]
theorem byts_fit (k n : Nat) : ∀ x ∈ byts k n, x ≤ 255 := by
  induction k generalizing n with
  | zero => intro x h; cases h
  | succ k ih =>
    intro x h
    simp only [byts, List.mem_cons] at h
    rcases h with h | h
    · omega
    · exact ih _ x h
theorem lev_take_succ {l : List Nat} : ∀ {k : Nat}, k < l.length → lev (l.take (k + 1)) = lev (l.take k) + l.getD k 0 * 256 ^ k := by
  induction l with
  | nil => intro k h; simp at h
  | cons x r ih =>
    intro k h
    cases k with
    | zero => simp [lev]
    | succ k =>
      simp only [List.length_cons] at h
      simp only [List.take_succ_cons, lev, List.getD_cons_succ]
      rw [ih (by omega), Nat.pow_succ]
      grind
theorem lev_lt {l : List Nat} (h : ∀ x ∈ l, x ≤ 255) : lev l < 256 ^ l.length := by
  induction l with
  | nil => simp [lev]
  | cons x r ih =>
    have h1 := ih fun y hy => h y (by simp [hy])
    have h2 := h x (by simp)
    simp only [lev, List.length_cons, Nat.pow_succ]
    omega
theorem p256 (i : Nat) : 256 ^ i = 2 ^ (i % 4 * 8) * pw (i / 4) := by
  rw [pw_two, ← Nat.pow_add, show (256 : Nat) = 2 ^ 8 from rfl, ← Nat.pow_mul]
  congr 1
  omega
theorem lv_div_pw {A : List Nat} (lA : Lim A) {k : Nat} (h : k ≤ A.length) : lv A / pw k = lv (A.drop k) := by
  rw [lv_split A h]
  have h1 := lv_lt (lim_take lA k)
  rw [List.length_take, Nat.min_eq_left h] at h1
  rw [Nat.add_comm, Nat.mul_add_div (pw_pos k), Nat.div_eq_of_lt h1]
  rfl
/-- a byte out of a limb is a byte of the number -/
theorem limb_byte {A : List Nat} (lA : Lim A) {i : Nat} (h : i / 4 < A.length) : A.getD (i / 4) 0 / 2 ^ (i % 4 * 8) % 256 = lv A / 256 ^ i % 256 := by
  rw [p256 i, Nat.mul_comm (2 ^ (i % 4 * 8)) (pw (i / 4)), ← Nat.div_div_eq_div_mul, lv_div_pw lA (by omega), ← drop_head A lA (i / 4)]
  generalize lv (A.drop (i / 4)) = x
  have h4 : i % 4 = 0 ∨ i % 4 = 1 ∨ i % 4 = 2 ∨ i % 4 = 3 := by omega
  rcases h4 with q | q | q | q <;> rw [q] <;> omega
theorem len_bytes {x : Nat} : x < 256 ^ ((bl x + 7) / 8) := by
  have h := bl_lt x
  refine Nat.lt_of_lt_of_le h ?_
  rw [show (256 : Nat) = 2 ^ 8 from rfl, ← Nat.pow_mul]
  exact Nat.pow_le_pow_right (by omega) (by omega)
theorem top_byte {x n : Nat} (hx : 0 < x) (hn : n = (bl x + 7) / 8) : x / 256 ^ (n - 1) % 256 ≠ 0 := by
  have h1 := bl_pos hx
  have h2 := bl_ge hx
  have h3 := @len_bytes x
  rw [← hn] at h3
  have hn1 : 1 ≤ n := by omega
  have h4 : x / 256 ^ (n - 1) < 256 := Nat.div_lt_of_lt_mul (by rw [← Nat.pow_succ, show (n - 1).succ = n by omega]; exact h3)
  have h5 : 0 < x / 256 ^ (n - 1) := by
    refine Nat.div_pos ?_ (Nat.pow_pos (by omega))
    refine Nat.le_trans ?_ h2
    rw [show (256 : Nat) = 2 ^ 8 from rfl, ← Nat.pow_mul]
    exact Nat.pow_le_pow_right (by omega) (by omega)
  omega
/-- a byte into a limb -/
theorem byte_or {O : List Nat} {i x : Nat} (hO : lv O < 256 ^ i) (hi : i / 4 < O.length) (hx : x ≤ 255) :
    O.getD (i / 4) 0 ||| x * 2 ^ (i % 4 * 8) % 4294967296 = O.getD (i / 4) 0 + x * 2 ^ (i % 4 * 8) ∧ O.getD (i / 4) 0 + x * 2 ^ (i % 4 * 8) ≤ 4294967295 := by
  have h1 : O.getD (i / 4) 0 < 2 ^ (i % 4 * 8) := by
    rcases Nat.lt_or_ge (O.getD (i / 4) 0) (2 ^ (i % 4 * 8)) with q | q
    · exact q
    · have h2 : O.getD (i / 4) 0 * pw (i / 4) ≤ lv O := by
        have e := lv_split O (k := i / 4) (by omega)
        rw [lv_drop hi, Nat.mul_add, Nat.mul_comm (pw (i / 4))] at e
        omega
      have h3 := Nat.mul_le_mul_right (pw (i / 4)) q
      rw [← p256] at h3
      omega
  generalize O.getD (i / 4) 0 = o at *
  have h4 : i % 4 = 0 ∨ i % 4 = 1 ∨ i % 4 = 2 ∨ i % 4 = 3 := by omega
  have hm : x * 2 ^ (i % 4 * 8) % 4294967296 = x * 2 ^ (i % 4 * 8) := by
    rcases h4 with q | q | q | q <;> rw [q] <;> omega
  rw [hm]
  refine ⟨?_, by rcases h4 with q | q | q | q <;> rw [q] at h1 ⊢ <;> omega⟩
  rw [Nat.or_comm, Nat.mul_comm, ← Nat.two_pow_add_eq_or_of_lt h1, Nat.add_comm]
theorem byte_step {O R : List Nat} {i : Nat} (e : lv O = lev (R.take i)) (hi : i / 4 < O.length) (hR : i < R.length) : lv (O.set (i / 4) (O.getD (i / 4) 0 + R.getD i 0 * 2 ^ (i % 4 * 8))) = lev (R.take (i + 1)) := by
  have h := lv_set (O.getD (i / 4) 0 + R.getD i 0 * 2 ^ (i % 4 * 8)) hi
  rw [lev_take_succ hR, p256, ← e]
  rw [Nat.add_mul, Nat.mul_assoc] at h
  omega
theorem getD_rev {L : List Nat} {i : Nat} (h : i < L.length) : L.getD (L.length - 1 - i) 0 = L.reverse.getD i 0 := by
  rw [List.getD_eq_getElem?_getD, List.getD_eq_getElem?_getD, List.getElem?_reverse h]
theorem lev_small {L : List Nat} {i : Nat} (h : ∀ x ∈ L, x ≤ 255) : lev (L.reverse.take i) < 256 ^ i := by
  have h1 := lev_lt (l := L.reverse.take i) fun x hx => h x (List.mem_reverse.1 (List.mem_of_mem_take hx))
  exact Nat.lt_of_lt_of_le h1 (Nat.pow_le_pow_right (by omega) (by rw [List.length_take]; omega))
theorem lev_take_le : ∀ (l : List Nat) (k : Nat), lev (l.take k) ≤ lev l
  | [], k => by simp
  | x :: r, 0 => by simp [lev]
  | x :: r, k + 1 => by
    simp only [List.take_succ_cons, lev]
    have := lev_take_le r k
    omega
theorem lev_top {L : List Nat} (h : ∀ x ∈ L, x ≤ 255) (hl : L.length ≤ 32768) : lev L.reverse < Top := by
  have h1 := lev_lt (l := L.reverse) fun x hx => h x (List.mem_reverse.1 hx)
  refine Nat.lt_of_lt_of_le h1 ?_
  rw [List.length_reverse, top_two, show (256 : Nat) = 2 ^ 8 from rfl, ← Nat.pow_mul]
  exact Nat.pow_le_pow_right (by omega) (by unfold TopE; omega)
end Go.Proofs.Ytdmiklegahdafaa.K

/- A sum of bytes (CRC-32), as the program reckons it: plain. -/
import Derived.Test.YtdmiklegahdafaaKCell
namespace Go.Proofs.Ytdmiklegahdafaa.K
set_option linter.unusedSimpArgs false
set_option linter.unusedVariables false

def crc1 (r : Nat) : Nat := (r / 2) ^^^ (3988292384 &&& ((4294967296 - r % 2) % 4294967296))
def crcI : Nat → Nat → Nat
  | 0, i => i
  | k + 1, i => crc1 (crcI k i)
def crcT (i : Nat) : Nat := crcI 8 i
def tabU (i : Nat) : List Nat := (List.range i).map crcT ++ List.replicate (256 - i) 0
def tabL : List Nat := (List.range 256).map crcT
def crcB (r c : Nat) : Nat := crcT ((r % 256) ^^^ c) ^^^ (r / 256)
def crcR (r : Nat) (L : List Nat) : Nat := L.foldl crcB r
def crcM (sum : Nat) (L : List Nat) : Nat := 4294967295 - crcR (4294967295 - sum) L
theorem crc1_lt {r : Nat} (h : r < 4294967296) : crc1 r < 4294967296 := by
  unfold crc1
  exact Nat.xor_lt_two_pow (n := 32) (by omega) (Nat.and_lt_two_pow (n := 32) _ (Nat.mod_lt _ (by omega)))
theorem crcI_lt : ∀ (k : Nat) {i : Nat}, i < 4294967296 → crcI k i < 4294967296
  | 0, _, h => h
  | k + 1, _, h => crc1_lt (crcI_lt k h)
theorem crcT_lt {i : Nat} (h : i < 4294967296) : crcT i < 4294967296 := crcI_lt 8 h
theorem tab_zero : List.replicate 256 0 = tabU 0 := rfl
theorem tabU_len {i : Nat} (h : i ≤ 256) : (tabU i).length = 256 := by simp [tabU]; omega
theorem tabU_all : tabU 256 = tabL := by simp [tabU, tabL]
theorem tabU_set {i : Nat} (h : i < 256) : (tabU i).set i (crcT i) = tabU (i + 1) := by
  unfold tabU
  rw [List.set_append_right _ _ (by simp)]
  simp only [List.length_map, List.length_range, Nat.sub_self]
  rw [List.range_succ, List.map_append, List.append_assoc]
  congr 1
  rw [show 256 - i = (256 - (i + 1)) + 1 by omega, List.replicate_succ]
  rfl
theorem tabL_len : tabL.length = 256 := by simp [tabL]
theorem tabL_get {j : Nat} (h : j < 256) : tabL.getD j 0 = crcT j := by
  simp [tabL, List.getD_eq_getElem?_getD, h]
theorem tabL_fit : ∀ x ∈ tabL, x ≤ 4294967295 := by
  intro x hx
  simp only [tabL, List.mem_map, List.mem_range] at hx
  obtain ⟨i, hi, rfl⟩ := hx
  have := crcT_lt (i := i) (by omega)
  omega
theorem tabU_fit {i : Nat} (hi : i ≤ 256) : ∀ x ∈ tabU i, x ≤ 4294967295 := by
  intro x hx
  simp only [tabU, List.mem_append, List.mem_map, List.mem_range, List.mem_replicate] at hx
  rcases hx with ⟨j, hj, rfl⟩ | ⟨_, rfl⟩
  · have := crcT_lt (i := j) (by omega); omega
  · omega
theorem byte_xor {r c : Nat} (h : c ≤ 255) : (r % 256) ^^^ c < 256 := Nat.xor_lt_two_pow (n := 8) (Nat.mod_lt _ (by omega)) (by omega)
theorem crcB_lt {r c : Nat} (hr : r < 4294967296) (hc : c ≤ 255) : crcB r c < 4294967296 := by
  unfold crcB
  have := byte_xor (r := r) hc
  exact Nat.xor_lt_two_pow (n := 32) (crcT_lt (by omega)) (by omega)
theorem crcR_lt : ∀ (L : List Nat) {r : Nat}, r < 4294967296 → (∀ x ∈ L, x ≤ 255) → crcR r L < 4294967296
  | [], _, h, _ => h
  | x :: L, r, h, hL => crcR_lt L (crcB_lt h (hL x (by simp))) fun y hy => hL y (by simp [hy])
theorem crcR_succ {L : List Nat} {r i : Nat} (h : i < L.length) : crcR r (L.take (i + 1)) = crcB (crcR r (L.take i)) (L.getD i 0) := by
  unfold crcR
  rw [List.take_succ_eq_append_getElem h, List.foldl_append, List.getD_eq_getElem?_getD, List.getElem?_eq_getElem h]
  rfl
theorem crcM_lt {L : List Nat} {s : Nat} : crcM s L < 4294967296 := by unfold crcM; omega
/-! four bytes -/
def fourL (x : Nat) : List Nat := [x / 16777216 % 256, x / 65536 % 256, x / 256 % 256, x % 256]
def numL (B : List Nat) : Nat := B.getD 0 0 * 16777216 + B.getD 1 0 * 65536 + B.getD 2 0 * 256 + B.getD 3 0
theorem fourL_len (x : Nat) : (fourL x).length = 4 := rfl
theorem fourL_fit (x : Nat) : ∀ y ∈ fourL x, y ≤ 255 := by
  intro y hy
  simp only [fourL, List.mem_cons, List.not_mem_nil, or_false] at hy
  rcases hy with rfl | rfl | rfl | rfl <;> omega
theorem numL_four {x : Nat} (h : x ≤ 4294967295) : numL (fourL x) = x := by
  simp only [numL, fourL, List.getD_cons_zero, List.getD_cons_succ]; omega
theorem numL_app {x : Nat} (h : x ≤ 4294967295) (R : List Nat) : numL (fourL x ++ R) = x := by
  simp only [numL, fourL, List.cons_append, List.getD_cons_zero, List.getD_cons_succ]; omega
theorem numL_lt {B : List Nat} (h : ∀ x ∈ B, x ≤ 255) : numL B ≤ 4294967295 := by
  have q : ∀ j, B.getD j 0 ≤ 255 := fun j => by
    rcases Nat.lt_or_ge j B.length with q | q
    · rw [List.getD_eq_getElem?_getD, List.getElem?_eq_getElem q]; exact h _ (List.getElem_mem q)
    · rw [List.getD_eq_getElem?_getD, List.getElem?_eq_none q]; exact Nat.zero_le _
  have := q 0; have := q 1; have := q 2; have := q 3
  unfold numL; omega
theorem or_dvd {x y m k : Nat} (hm : 2 ^ k = m) (hx : x % m = 0) (hy : y < m) : x ||| y = x + y := by
  subst hm
  have e : x = 2 ^ k * (x / 2 ^ k) := by
    have := Nat.div_add_mod x (2 ^ k); omega
  rw [e, ← Nat.two_pow_add_eq_or_of_lt hy]
/-- a number told by a name, hidden from omega -/
def NumIs (q : Nat) (L : List Nat) : Prop := q = numL L
end Go.Proofs.Ytdmiklegahdafaa.K

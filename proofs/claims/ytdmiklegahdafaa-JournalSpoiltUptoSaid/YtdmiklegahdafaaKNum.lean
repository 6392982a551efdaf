/- Whole numbers as rows of limbs of 32 bits, the lowest first: plain facts. -/
namespace Go.Proofs.Ytdmiklegahdafaa
set_option linter.unusedVariables false
set_option linter.unusedSimpArgs false
def lv : List Nat → Nat
  | [] => 0
  | x :: r => x + 4294967296 * lv r
def Lim (l : List Nat) : Prop := ∀ x ∈ l, x ≤ 4294967295
/-- no nought on top -/
def Nz (l : List Nat) : Prop := l = [] ∨ l.getD (l.length - 1) 0 ≠ 0
/-- the value of limb k is 1 -/
def pw (k : Nat) : Nat := 4294967296 ^ k
theorem pw_zero : pw 0 = 1 := rfl
theorem pw_succ (k : Nat) : pw (k + 1) = 4294967296 * pw k := by unfold pw; rw [Nat.pow_succ]; omega
theorem pw_pos (k : Nat) : 0 < pw k := Nat.pow_pos (by omega)
theorem pw_add (i k : Nat) : pw (i + k) = pw i * pw k := by unfold pw; exact Nat.pow_add ..
theorem pw_le {i k : Nat} (h : i ≤ k) : pw i ≤ pw k := Nat.pow_le_pow_right (by omega) h
/-- how many limbs are left when the noughts on top of the first n go -/
def tlen (l : List Nat) : Nat → Nat
  | 0 => 0
  | n + 1 => if l.getD n 0 = 0 then tlen l n else n + 1
theorem tlen_le (l : List Nat) : ∀ n, tlen l n ≤ n
  | 0 => Nat.le_refl _
  | n + 1 => by
    unfold tlen; split
    · exact Nat.le_succ_of_le (tlen_le l n)
    · exact Nat.le_refl _
theorem tlen_zero {l : List Nat} {n : Nat} (h0 : 0 < n) (h : l.getD (n - 1) 0 = 0) : tlen l n = tlen l (n - 1) := by
  obtain ⟨m, rfl⟩ : ∃ m, n = m + 1 := ⟨n - 1, by omega⟩
  rw [tlen, if_pos (by simpa using h)]; rfl
theorem tlen_pos {l : List Nat} {n : Nat} (h0 : 0 < n) (h : l.getD (n - 1) 0 ≠ 0) : tlen l n = n := by
  obtain ⟨m, rfl⟩ : ∃ m, n = m + 1 := ⟨n - 1, by omega⟩
  rw [tlen, if_neg (by simpa using h)]
theorem tlen_top (l : List Nat) : ∀ n, tlen l n = 0 ∨ l.getD (tlen l n - 1) 0 ≠ 0
  | 0 => .inl rfl
  | n + 1 => by
    unfold tlen; split
    · exact tlen_top l n
    · right; simpa

theorem getD_lim {l : List Nat} (h : Lim l) (j : Nat) : l.getD j 0 ≤ 4294967295 := by
  rcases Nat.lt_or_ge j l.length with q | q
  · rw [List.getD_eq_getElem?_getD, List.getElem?_eq_getElem q]; exact h _ (List.getElem_mem q)
  · rw [List.getD_eq_getElem?_getD, List.getElem?_eq_none q]; exact Nat.zero_le _
theorem lim_set {l : List Nat} (h : Lim l) {k x : Nat} (hx : x ≤ 4294967295) : Lim (l.set k x) := by
  intro y hy
  rcases List.mem_or_eq_of_mem_set hy with q | q
  · exact h y q
  · subst q; exact hx
theorem lim_rep (n : Nat) : Lim (List.replicate n 0) := by intro x hx; rw [(List.mem_replicate.1 hx).2]; omega
theorem lim_take {l : List Nat} (h : Lim l) (k : Nat) : Lim (l.take k) := fun x hx => h x (List.mem_of_mem_take hx)
theorem lim_drop {l : List Nat} (h : Lim l) (k : Nat) : Lim (l.drop k) := fun x hx => h x (List.mem_of_mem_drop hx)
theorem lim_append {l m : List Nat} (h : Lim l) (h2 : Lim m) : Lim (l ++ m) := fun x hx => by
  rcases List.mem_append.1 hx with q | q
  · exact h x q
  · exact h2 x q
theorem lim_nil : Lim [] := fun x hx => by cases hx

theorem lv_append (l m : List Nat) : lv (l ++ m) = lv l + pw l.length * lv m := by
  induction l with
  | nil => simp [lv, pw_zero]
  | cons x r ih => rw [List.cons_append, lv, lv, ih, List.length_cons, pw_succ]; grind
theorem lv_rep : ∀ n, lv (List.replicate n 0) = 0
  | 0 => rfl
  | n + 1 => by rw [List.replicate_succ, lv, lv_rep n]
theorem lv_lt {l : List Nat} (h : Lim l) : lv l < pw l.length := by
  induction l with
  | nil => simp [lv, pw]
  | cons x r ih =>
    have h1 := ih fun y hy => h y (List.mem_cons_of_mem _ hy)
    have h2 := h x (List.mem_cons_self ..)
    rw [lv, List.length_cons, pw_succ]; omega
theorem lv_take_succ {l : List Nat} {k : Nat} (h : k < l.length) : lv (l.take (k + 1)) = lv (l.take k) + l.getD k 0 * pw k := by
  rw [List.take_succ_eq_append_getElem h, lv_append, List.length_take, Nat.min_eq_left (Nat.le_of_lt h), lv, lv]
  simp [h]; rw [Nat.mul_comm]
theorem lv_split (l : List Nat) {k : Nat} (h : k ≤ l.length) : lv l = lv (l.take k) + pw k * lv (l.drop k) := by
  have := lv_append (l.take k) (l.drop k)
  rw [List.take_append_drop, List.length_take, Nat.min_eq_left h] at this; exact this
theorem lv_drop {l : List Nat} {k : Nat} (h : k < l.length) : lv (l.drop k) = l.getD k 0 + 4294967296 * lv (l.drop (k + 1)) := by
  rw [List.drop_eq_getElem_cons h, lv]; simp [h]
theorem take_all {l : List Nat} {k : Nat} (h : l.length ≤ k) : l.take k = l := List.take_of_length_le h
theorem lv_set {l : List Nat} {k : Nat} (x : Nat) (h : k < l.length) : lv (l.set k x) + l.getD k 0 * pw k = lv l + x * pw k := by
  induction l generalizing k with
  | nil => simp at h
  | cons y r ih =>
    cases k with
    | zero => simp [lv, pw]; omega
    | succ k =>
      have := ih (k := k) (by simpa using h)
      simp only [List.set_cons_succ, lv, List.getD_cons_succ, pw_succ]
      grind
theorem take_set_lt {l : List Nat} {k j x : Nat} (h : k ≤ j) : (l.set j x).take k = l.take k := by rw [List.take_set_of_le h]
theorem getD_set_eq {l : List Nat} {k x : Nat} (h : k < l.length) : (l.set k x).getD k 0 = x := by simp [h]
theorem getD_set_ne {l : List Nat} {k j x : Nat} (h : k ≠ j) : (l.set j x).getD k 0 = l.getD k 0 := by simp [List.getD, List.getElem?_set_ne (Ne.symm h)]
theorem lv_take_set {l : List Nat} {k x : Nat} (h : k < l.length) : lv ((l.set k x).take (k + 1)) = lv (l.take k) + x * pw k := by
  rw [lv_take_succ (by simpa using h), take_set_lt (Nat.le_refl _), getD_set_eq h]
theorem lv_tlen (l : List Nat) : ∀ n, n ≤ l.length → lv (l.take (tlen l n)) = lv (l.take n)
  | 0, _ => rfl
  | n + 1, h => by
    unfold tlen; split
    · next h0 => rw [lv_tlen l n (by omega), lv_take_succ (by omega), h0]; omega
    · rfl
theorem lv_norm (l : List Nat) : lv (l.take (tlen l l.length)) = lv l := by rw [lv_tlen l _ (Nat.le_refl _), List.take_length]
theorem len_norm (l : List Nat) : (l.take (tlen l l.length)).length = tlen l l.length := by rw [List.length_take, Nat.min_eq_left (tlen_le ..)]
theorem nz_norm (l : List Nat) : Nz (l.take (tlen l l.length)) := by
  by_cases h0 : tlen l l.length = 0
  · left; rw [h0]; rfl
  · rcases tlen_top l l.length with h | h
    · exact absurd h h0
    · right; rw [len_norm, List.getD_eq_getElem?_getD, List.getElem?_take_of_lt (by omega), ← List.getD_eq_getElem?_getD]; exact h
theorem nz_nil : Nz [] := .inl rfl
theorem lv_ge {l : List Nat} (h : Nz l) (h0 : 0 < l.length) : pw (l.length - 1) ≤ lv l := by
  rcases h with h | h
  · subst h; simp at h0
  · have e := lv_take_succ (l := l) (k := l.length - 1) (by omega)
    rw [show l.length - 1 + 1 = l.length by omega, List.take_length] at e
    have : 1 * pw (l.length - 1) ≤ l.getD (l.length - 1) 0 * pw (l.length - 1) := Nat.mul_le_mul_right _ (by omega)
    omega
theorem lv_lt_of_len {A B : List Nat} (hA : Lim A) (hB : Nz B) (h : A.length < B.length) : lv A < lv B := by
  have h1 := lv_lt hA
  have h2 := lv_ge hB (by omega)
  have h3 : pw A.length ≤ pw (B.length - 1) := pw_le (by omega)
  omega
theorem lv_inj : ∀ {A B : List Nat}, Lim A → Lim B → A.length = B.length → lv A = lv B → A = B
  | [], [], _, _, _, _ => rfl
  | [], _ :: _, _, _, h, _ => by simp at h
  | _ :: _, [], _, _, h, _ => by simp at h
  | x :: r, y :: s, hA, hB, h, e => by
    have h1 := hA x (List.mem_cons_self ..)
    have h2 := hB y (List.mem_cons_self ..)
    simp only [lv] at e
    have e1 : x = y := by omega
    have e2 : lv r = lv s := by omega
    rw [e1, lv_inj (fun z hz => hA z (List.mem_cons_of_mem _ hz)) (fun z hz => hB z (List.mem_cons_of_mem _ hz)) (by simpa using h) e2]
theorem lv_uniq {A B : List Nat} (hA : Lim A) (hB : Lim B) (zA : Nz A) (zB : Nz B) (e : lv A = lv B) : A = B := by
  refine lv_inj hA hB ?_ e
  rcases Nat.lt_trichotomy A.length B.length with h | h | h
  · have := lv_lt_of_len hA zB h; omega
  · exact h
  · have := lv_lt_of_len hB zA h; omega
theorem lv_zero {A : List Nat} (zA : Nz A) (e : lv A = 0) : A = [] := by
  cases A with
  | nil => rfl
  | cons x r =>
    have h1 := lv_ge zA (by simp)
    have h2 := pw_pos ((x :: r).length - 1)
    omega
/-- one more than the greatest number -/
def Top : Nat := pw 8192
theorem top_iff {l : List Nat} (h : Lim l) : tlen l l.length ≤ 8192 ↔ lv l < Top := by
  have h1 := lv_norm l
  have h2 := nz_norm l
  have h3 := len_norm l
  have h4 := lim_take h (tlen l l.length)
  generalize l.take (tlen l l.length) = m at *
  rw [← h1, ← h3]
  constructor
  · intro hm
    exact Nat.lt_of_lt_of_le (lv_lt h4) (pw_le hm)
  · intro hm
    rcases Nat.lt_or_ge 8192 m.length with q | q
    · have := lv_ge h2 (by omega)
      have h5 : pw 8192 ≤ pw (m.length - 1) := pw_le (by omega)
      unfold Top at hm; omega
    · exact q
theorem len_of_lt {l : List Nat} (z : Nz l) {k : Nat} (h : lv l < pw k) : l.length ≤ k := by
  rcases Nat.lt_or_ge k l.length with q | q
  · have := lv_ge z (by omega)
    have h5 : pw k ≤ pw (l.length - 1) := pw_le (by omega)
    omega
  · exact q
theorem lt_top {l : List Nat} (h : Lim l) (hl : l.length ≤ 8192) : lv l < Top := Nat.lt_of_lt_of_le (lv_lt h) (pw_le hl)
/-- a number: limbs of 32 bits, none on top that is 0, at most 8192 of them -/
structure Nm (l : List Nat) : Prop where
  lim : Lim l
  nz : Nz l
  len : l.length ≤ 8192
theorem nm_nil : Nm [] := ⟨lim_nil, nz_nil, by simp⟩

/-! what Check tells -/
def chk (l : List Nat) : Nat := if 8192 < l.length then 21 else if 0 < l.length ∧ l.getD (l.length - 1) 0 = 0 then 20 else 0
theorem chk_21 {l : List Nat} (h : 8192 < l.length) : chk l = 21 := if_pos h
theorem chk_20 {l : List Nat} (h : ¬ 8192 < l.length) (h1 : 0 < l.length) (h2 : l.getD (l.length - 1) 0 = 0) : chk l = 20 := by unfold chk; rw [if_neg h, if_pos ⟨h1, h2⟩]
theorem chk_0 {l : List Nat} (h : ¬ 8192 < l.length) (h1 : ¬ (0 < l.length ∧ l.getD (l.length - 1) 0 = 0)) : chk l = 0 := by unfold chk; rw [if_neg h, if_neg h1]
theorem chk_nm {l : List Nat} (h : Nm l) : chk l = 0 := by
  unfold chk
  rw [if_neg (by have := h.len; omega), if_neg]
  rintro ⟨h1, h2⟩
  rcases h.nz with q | q
  · subst q; simp at h1
  · exact q h2
theorem chk_zero {l : List Nat} (hl : Lim l) (h : chk l = 0) : Nm l := by
  unfold chk at h
  split at h
  · omega
  · next h1 =>
    split at h
    · omega
    · next h2 =>
      refine ⟨hl, ?_, by omega⟩
      cases l with
      | nil => exact .inl rfl
      | cons x r => right; intro e; exact h2 ⟨by simp, e⟩
theorem chk_cases (l : List Nat) : chk l = 0 ∨ chk l = 20 ∨ chk l = 21 := by unfold chk; split <;> (try split) <;> simp

def chk2 (l m : List Nat) : Nat := if chk l ≠ 0 then chk l else chk m
theorem chk2_nm {l m : List Nat} (h : Nm l) (h2 : Nm m) : chk2 l m = 0 := by unfold chk2; rw [chk_nm h, chk_nm h2]; rfl
theorem chk2_zero {l m : List Nat} (hl : Lim l) (hm : Lim m) (h : chk2 l m = 0) : Nm l ∧ Nm m := by
  unfold chk2 at h
  split at h
  · next q => exact absurd h q
  · next q => exact ⟨chk_zero hl (by omega), chk_zero hm h⟩

/-! order -/
theorem cmp_drop {A B : List Nat} {k : Nat} (hA : k < A.length) (hB : k < B.length) (e : lv (A.drop (k + 1)) = lv (B.drop (k + 1))) : lv (A.drop k) + B.getD k 0 = lv (B.drop k) + A.getD k 0 := by
  rw [lv_drop hA, lv_drop hB, e]; omega
theorem cmp_lt {A B : List Nat} {k : Nat} (lA : Lim A) (hl : A.length = B.length) (hk : k < A.length) (e : lv (A.drop (k + 1)) = lv (B.drop (k + 1))) (h : A.getD k 0 < B.getD k 0) : lv A < lv B := by
  have h1 := lv_split A (k := k + 1) (by omega)
  have h2 := lv_split B (k := k + 1) (by omega)
  have h3 := lv_take_succ (l := A) (k := k) (by omega)
  have h4 := lv_take_succ (l := B) (k := k) (by omega)
  have h5 := lv_lt (lim_take lA k)
  rw [List.length_take, Nat.min_eq_left (by omega)] at h5
  have h6 : (A.getD k 0 + 1) * pw k ≤ B.getD k 0 * pw k := Nat.mul_le_mul_right _ h
  rw [Nat.add_mul] at h6
  rw [e] at h1
  omega

/-! sums -/
theorem add_step {O A B : List Nat} {k c x y : Nat} (hO : k < O.length) (hA : k < A.length) (e : lv (O.take k) + c * pw k = lv (A.take k) + lv (B.take k)) (hy : lv (B.take (k + 1)) = lv (B.take k) + y * pw k) (hx : x = A.getD k 0) :
    lv ((O.set k ((c + x + y) % 4294967296)).take (k + 1)) + (c + x + y) / 4294967296 * pw (k + 1) = lv (A.take (k + 1)) + lv (B.take (k + 1)) := by
  rw [lv_take_set hO, lv_take_succ hA, hy, pw_succ, ← hx]
  have hs := Nat.mod_add_div (c + x + y) 4294967296
  generalize (c + x + y) % 4294967296 = r at *
  generalize (c + x + y) / 4294967296 = q at *
  grind
theorem take_succ_none {B : List Nat} {k : Nat} (h : B.length ≤ k) : lv (B.take (k + 1)) = lv (B.take k) + 0 * pw k := by
  rw [take_all h, take_all (by omega)]; omega

/-! single limbs -/
theorem top_bit {x : Nat} (h : x ≤ 4294967295) : x / 2147483648 = 0 ∨ x / 2147483648 = 1 := by omega
/-- the borrow that bits.Sub32 tells -/
theorem sub_borrow {x y b d : Nat} (hx : x ≤ 4294967295) (hy : y ≤ 4294967295) (hb : b ≤ 1) (hd : d = (x + 8589934592 - y - b) % 4294967296) :
    x + 4294967296 * ((((4294967295 - x) &&& y) ||| ((4294967295 - (x ^^^ y)) &&& d)) / 2147483648) = d + y + b := by
  have hxy : x ^^^ y ≤ 4294967295 := Nat.le_of_lt_succ (Nat.xor_lt_two_pow (n := 32) (by omega) (by omega))
  have hd' : d ≤ 4294967295 := by omega
  rw [show 2147483648 = 2 ^ 31 from rfl, Nat.or_div_two_pow, Nat.and_div_two_pow, Nat.and_div_two_pow, show 2 ^ 31 = 2147483648 from rfl]
  have h1 : (4294967295 - x) / 2147483648 = 1 - x / 2147483648 := by omega
  have h2 : (4294967295 - (x ^^^ y)) / 2147483648 = 1 - (x ^^^ y) / 2147483648 := by omega
  have h3 : (x ^^^ y) / 2147483648 = (x / 2147483648) ^^^ (y / 2147483648) := by
    rw [show 2147483648 = 2 ^ 31 from rfl, Nat.xor_div_two_pow]
  rw [h1, h2, h3]
  rcases top_bit hx with e1 | e1 <;> rcases top_bit hy with e2 | e2 <;> rcases top_bit hd' with e3 | e3 <;> simp only [e1, e2, e3] <;> simp <;> omega
theorem sub_bit {x y b d o : Nat} (hx : x ≤ 4294967295) (hy : y ≤ 4294967295) (hb : b ≤ 1) (hd : d ≤ 4294967295) (h : x + 4294967296 * o = d + y + b) : o ≤ 1 := by omega

/-- how many bits -/
def bl (x : Nat) : Nat := if x = 0 then 0 else Nat.log2 x + 1
theorem bl_lt (x : Nat) : x < 2 ^ bl x := by
  unfold bl; split
  · next h => subst h; simp
  · exact Nat.lt_log2_self
theorem bl_ge {x : Nat} (h : 0 < x) : 2 ^ (bl x - 1) ≤ x := by
  unfold bl; rw [if_neg (by omega)]; simp; exact Nat.log2_self_le (by omega)
theorem bl_pos {x : Nat} (h : 0 < x) : 0 < bl x := by unfold bl; rw [if_neg (by omega)]; omega
theorem bl_uniq {x n : Nat} (h0 : 0 < n) (h1 : 2 ^ (n - 1) ≤ x) (h2 : x < 2 ^ n) : bl x = n := by
  have hx : 0 < x := Nat.lt_of_lt_of_le (Nat.pow_pos (by omega)) h1
  have h3 := bl_lt x
  have h4 := bl_ge hx
  have h5 := bl_pos hx
  have a1 : n - 1 < bl x := (Nat.pow_lt_pow_iff_right (a := 2) (by omega)).1 (Nat.lt_of_le_of_lt h1 h3)
  have a2 : bl x - 1 < n := (Nat.pow_lt_pow_iff_right (a := 2) (by omega)).1 (Nat.lt_of_le_of_lt h4 h2)
  omega
theorem bl_shift {x s : Nat} (h : 2 ^ s ≤ x) : bl x = s + bl (x / 2 ^ s) := by
  have h0 : 0 < x / 2 ^ s := Nat.div_pos h (Nat.pow_pos (by omega))
  have h1 := bl_ge h0
  have h2 := bl_lt (x / 2 ^ s)
  have h3 := bl_pos h0
  refine bl_uniq (by omega) ?_ ?_
  · rw [show s + bl (x / 2 ^ s) - 1 = (bl (x / 2 ^ s) - 1) + s by omega, Nat.pow_add]
    exact Nat.le_trans (Nat.mul_le_mul_right _ h1) (Nat.div_mul_le_self _ _)
  · rw [Nat.add_comm s, Nat.pow_add]
    have := Nat.lt_mul_of_div_lt h2 (Nat.pow_pos (n := s) (by omega))
    exact this
theorem bl_le {x n : Nat} (h : x < 2 ^ n) : bl x ≤ n := by
  rcases Nat.eq_zero_or_pos x with q | q
  · subst q; simp [bl]
  · have h4 := bl_ge q
    have := (Nat.pow_lt_pow_iff_right (a := 2) (by omega)).1 (Nat.lt_of_le_of_lt h4 h)
    omega
def len8tab : List Nat := (List.range 256).map bl
theorem or_add {hi lo : Nat} (h : lo ≤ 4294967295) : (hi * 4294967296) ||| lo = hi * 4294967296 + lo := by
  have := Nat.two_pow_add_eq_or_of_lt (i := 32) (b := lo) (by omega) hi
  rw [Nat.mul_comm] at this
  exact this.symm
theorem div_small {hi lo y : Nat} (h : lo < 4294967296) (hlt : hi < y) : (hi * 4294967296 + lo) / y ≤ 4294967295 := by
  have h1 : (hi + 1) * 4294967296 ≤ y * 4294967296 := Nat.mul_le_mul_right _ hlt
  have : (hi * 4294967296 + lo) / y < 4294967296 := Nat.div_lt_of_lt_mul (by omega)
  omega

/-! products -/
theorem lv_take_set2 {O : List Nat} {k m x : Nat} (h : k < m) (hm : m ≤ O.length) : lv ((O.set k x).take m) + O.getD k 0 * pw k = lv (O.take m) + x * pw k := by
  have e : (O.set k x).take m = (O.take m).set k x := by rw [List.take_set]
  have h1 := lv_set (l := O.take m) (k := k) x (by rw [List.length_take]; omega)
  have h2 : (O.take m).getD k 0 = O.getD k 0 := by rw [List.getD_eq_getElem?_getD, List.getElem?_take_of_lt h, ← List.getD_eq_getElem?_getD]
  rw [e]; rw [h2] at h1; exact h1
theorem mul_step {O : List Nat} {B : List Nat} {i j c a m V : Nat} (hO : i + m ≤ O.length) (hj : j < m) (hB : m = B.length)
    (e : lv (O.take (i + m)) + c * pw (i + j) = V + a * lv (B.take j) * pw i) :
    lv ((O.set (i + j) ((c + (O.getD (i + j) 0 + a * B.getD j 0)) % 4294967296)).take (i + m)) + (c + (O.getD (i + j) 0 + a * B.getD j 0)) / 4294967296 * pw (i + (j + 1)) = V + a * lv (B.take (j + 1)) * pw i := by
  have h1 := lv_take_set2 (O := O) (k := i + j) (m := i + m) (x := (c + (O.getD (i + j) 0 + a * B.getD j 0)) % 4294967296) (by omega) hO
  have hs := Nat.mod_add_div (c + (O.getD (i + j) 0 + a * B.getD j 0)) 4294967296
  have h2 := lv_take_succ (l := B) (k := j) (by omega)
  rw [h2, show i + (j + 1) = (i + j) + 1 by omega, pw_succ]
  have hp := pw_add i j
  generalize lv ((O.set (i + j) ((c + (O.getD (i + j) 0 + a * B.getD j 0)) % 4294967296)).take (i + m)) = X at *
  generalize (c + (O.getD (i + j) 0 + a * B.getD j 0)) % 4294967296 = r at *
  generalize (c + (O.getD (i + j) 0 + a * B.getD j 0)) / 4294967296 = q at *
  generalize O.getD (i + j) 0 = o at *
  generalize B.getD j 0 = b at *
  generalize lv (O.take (i + m)) = Y at *
  generalize lv (B.take j) = W at *
  rw [hp] at *
  generalize pw i = p1 at *
  generalize pw j = p2 at *
  have hs2 : (r + 4294967296 * q) * (p1 * p2) = (c + (o + a * b)) * (p1 * p2) := by rw [hs]
  grind
theorem mul_row {O A B : List Nat} {i c : Nat} (hi : i < A.length) (hO : i + B.length < O.length)
    (e : lv (O.take (i + B.length)) + c * pw (i + B.length) = lv (A.take i) * lv B + A.getD i 0 * lv (B.take B.length) * pw i) :
    lv ((O.set (i + B.length) c).take (i + 1 + B.length)) = lv (A.take (i + 1)) * lv B := by
  rw [show i + 1 + B.length = i + B.length + 1 by omega, lv_take_set hO, e, lv_take_succ hi, List.take_length]
  grind

/-! one limb's quotient -/
theorem by_step {A O : List Nat} {k d rest : Nat} (hk : 0 < k) (hA : k ≤ A.length) (hO : k ≤ O.length) (e : lv (A.drop k) = d * lv (O.drop k) + rest) :
    lv (A.drop (k - 1)) = d * lv ((O.set (k - 1) ((rest * 4294967296 + A.getD (k - 1) 0) / d)).drop (k - 1)) + (rest * 4294967296 + A.getD (k - 1) 0) % d := by
  have h1 := lv_drop (l := A) (k := k - 1) (by omega)
  have h2 := lv_drop (l := O.set (k - 1) ((rest * 4294967296 + A.getD (k - 1) 0) / d)) (k := k - 1) (by simp; omega)
  rw [show k - 1 + 1 = k by omega] at h1 h2
  rw [getD_set_eq (by omega)] at h2
  have h6 : (O.set (k - 1) ((rest * 4294967296 + A.getD (k - 1) 0) / d)).drop k = O.drop k := List.drop_set_of_lt (by omega)
  rw [h6] at h2
  have hs := Nat.mod_add_div (rest * 4294967296 + A.getD (k - 1) 0) d
  rw [h1, h2, e]
  generalize (rest * 4294967296 + A.getD (k - 1) 0) / d = q at *
  generalize (rest * 4294967296 + A.getD (k - 1) 0) % d = r at *
  generalize lv (O.drop k) = x at *
  grind

/-! shifts -/
theorem lo_mul {a n : Nat} (hn : n ≤ 31) : (a * 2 ^ n) % 4294967296 = (a % 2 ^ (32 - n)) * 2 ^ n := by
  have : 4294967296 = 2 ^ (32 - n) * 2 ^ n := by rw [← Nat.pow_add, show 32 - n + n = 32 by omega]
  rw [this, Nat.mul_mod_mul_right]
theorem left_or {a n o : Nat} (hn : n ≤ 31) (ho : o < 2 ^ n) : o ||| (a * 2 ^ n) % 4294967296 = o + (a * 2 ^ n) % 4294967296 := by
  rw [lo_mul hn]
  have := Nat.two_pow_add_eq_or_of_lt ho (a % 2 ^ (32 - n))
  rw [Nat.mul_comm] at this
  rw [Nat.or_comm, ← this]; omega
theorem left_lt {a n o : Nat} (hn : n ≤ 31) (ho : o < 2 ^ n) : o + (a * 2 ^ n) % 4294967296 ≤ 4294967295 := by
  rw [lo_mul hn]
  have e : 4294967296 = 2 ^ (32 - n) * 2 ^ n := by rw [← Nat.pow_add, show 32 - n + n = 32 by omega]
  have h1 : a % 2 ^ (32 - n) < 2 ^ (32 - n) := Nat.mod_lt _ (Nat.pow_pos (by omega))
  have h2 : (a % 2 ^ (32 - n) + 1) * 2 ^ n ≤ 2 ^ (32 - n) * 2 ^ n := Nat.mul_le_mul_right _ h1
  rw [Nat.add_mul] at h2
  omega
theorem left_hi {a n : Nat} (ha : a ≤ 4294967295) : a * 2 ^ n / 4294967296 < 2 ^ n := by
  have hp : 0 < 2 ^ n := Nat.pow_pos (by omega)
  have : a * 2 ^ n ≤ 4294967295 * 2 ^ n := Nat.mul_le_mul_right _ ha
  exact Nat.div_lt_of_lt_mul (by omega)
theorem pow31 {n : Nat} (hn : n ≤ 31) : 2 ^ n ≤ 2147483648 := by
  have : 2 ^ n ≤ 2 ^ 31 := Nat.pow_le_pow_right (by omega) hn
  simpa using this
theorem left_step {A O : List Nat} {i s n : Nat} (hi : i < A.length) (hO : s + i + 1 < O.length) (e : lv (O.take (s + i + 1)) = lv (A.take i) * (2 ^ n * pw s)) :
    lv (((O.set (s + i) (O.getD (s + i) 0 + (A.getD i 0 * 2 ^ n) % 4294967296)).set (s + i + 1) (A.getD i 0 * 2 ^ n / 4294967296)).take (s + (i + 1) + 1)) = lv (A.take (i + 1)) * (2 ^ n * pw s) := by
  rw [show s + (i + 1) + 1 = s + i + 1 + 1 by omega, lv_take_set (by simpa using hO)]
  have h1 := lv_take_set2 (O := O) (k := s + i) (m := s + i + 1) (x := O.getD (s + i) 0 + (A.getD i 0 * 2 ^ n) % 4294967296) (by omega) (by omega)
  have hs := Nat.mod_add_div (A.getD i 0 * 2 ^ n) 4294967296
  rw [lv_take_succ hi, pw_succ, pw_add] at *
  generalize lv ((O.set (s + i) (O.getD (s + i) 0 + (A.getD i 0 * 2 ^ n) % 4294967296)).take (s + i + 1)) = X at *
  generalize (A.getD i 0 * 2 ^ n) % 4294967296 = r at *
  generalize A.getD i 0 * 2 ^ n / 4294967296 = q at *
  generalize O.getD (s + i) 0 = o at *
  generalize A.getD i 0 = a at *
  generalize lv (O.take (s + i + 1)) = Y at *
  generalize lv (A.take i) = W at *
  generalize pw s = p1 at *
  generalize pw i = p2 at *
  generalize 2 ^ n = p3 at *
  have hs2 : (r + 4294967296 * q) * (p1 * p2) = (a * p3) * (p1 * p2) := by rw [hs]
  grind
theorem right_or {d f n : Nat} (hn : n ≤ 31) (hd : d ≤ 4294967295) : (d / 2 ^ n) ||| (f * 2 ^ (32 - n)) % 4294967296 = d / 2 ^ n + (f * 2 ^ (32 - n)) % 4294967296 := by
  have e : 4294967296 = 2 ^ n * 2 ^ (32 - n) := by rw [← Nat.pow_add, show n + (32 - n) = 32 by omega]
  have h1 : d / 2 ^ n < 2 ^ (32 - n) := Nat.div_lt_of_lt_mul (by rw [← e]; omega)
  have h2 : (f * 2 ^ (32 - n)) % 4294967296 = (f % 2 ^ n) * 2 ^ (32 - n) := by rw [e, Nat.mul_mod_mul_right]
  rw [h2]
  have := Nat.two_pow_add_eq_or_of_lt h1 (f % 2 ^ n)
  rw [Nat.mul_comm] at this
  rw [Nat.or_comm, ← this]; omega
theorem right_lt {d f n : Nat} (hn : n ≤ 31) (hd : d ≤ 4294967295) : d / 2 ^ n + (f * 2 ^ (32 - n)) % 4294967296 ≤ 4294967295 := by
  have e : 4294967296 = 2 ^ n * 2 ^ (32 - n) := by rw [← Nat.pow_add, show n + (32 - n) = 32 by omega]
  have h1 : d / 2 ^ n < 2 ^ (32 - n) := Nat.div_lt_of_lt_mul (by rw [← e]; omega)
  have h2 : (f * 2 ^ (32 - n)) % 4294967296 = (f % 2 ^ n) * 2 ^ (32 - n) := by rw [e, Nat.mul_mod_mul_right]
  have h3 : f % 2 ^ n < 2 ^ n := Nat.mod_lt _ (Nat.pow_pos (by omega))
  have h4 : (f % 2 ^ n + 1) * 2 ^ (32 - n) ≤ 2 ^ n * 2 ^ (32 - n) := Nat.mul_le_mul_right _ h3
  rw [Nat.add_mul] at h4
  rw [h2]; omega
/-- the limb of a number shifted to the right -/
theorem right_limb {d E n : Nat} (hn : n ≤ 31) (hd : d ≤ 4294967295) : ((d + 4294967296 * E) / 2 ^ n) % 4294967296 = d / 2 ^ n + (E % 4294967296 * 2 ^ (32 - n)) % 4294967296 := by
  have e : 4294967296 = 2 ^ n * 2 ^ (32 - n) := by rw [← Nat.pow_add, show n + (32 - n) = 32 by omega]
  have h0 : (d + 4294967296 * E) / 2 ^ n = d / 2 ^ n + 2 ^ (32 - n) * E := by
    rw [show d + 4294967296 * E = d + 2 ^ n * (2 ^ (32 - n) * E) by rw [← Nat.mul_assoc, ← e]]
    rw [Nat.add_mul_div_left _ _ (Nat.pow_pos (by omega))]
  have h5 := right_lt (f := E % 4294967296) hn hd
  rw [h0]
  have h6 : (2 ^ (32 - n) * E) % 4294967296 = (E % 4294967296 * 2 ^ (32 - n)) % 4294967296 := by rw [Nat.mul_comm, Nat.mod_mul_mod]
  rw [← h6] at h5 ⊢
  have h1 : d / 2 ^ n < 4294967296 := by omega
  rw [Nat.add_mod, Nat.mod_eq_of_lt h1, Nat.mod_eq_of_lt (by omega)]
theorem right_step {A O : List Nat} {i n x : Nat} (hO : i < O.length) (hA : i < A.length) (lA : Lim A) (hn : n ≤ 31) (e : lv (O.take i) = (lv A / 2 ^ n) % pw i)
    (hx : x = A.getD i 0 / 2 ^ n + (lv (A.drop (i + 1)) % 4294967296 * 2 ^ (32 - n)) % 4294967296) : lv ((O.set i x).take (i + 1)) = (lv A / 2 ^ n) % pw (i + 1) := by
  rw [lv_take_set hO, e, pw_succ, hx]
  have h1 := right_limb (E := lv (A.drop (i + 1))) hn (getD_lim lA i)
  rw [← h1, ← lv_drop hA]
  have h2 := lv_split A (k := i) (by omega)
  have h3 := lv_lt (lim_take lA i)
  rw [List.length_take, Nat.min_eq_left (by omega)] at h3
  have h4 : lv A / 2 ^ n / pw i = lv (A.drop i) / 2 ^ n := by
    rw [Nat.div_div_eq_div_mul, Nat.mul_comm, ← Nat.div_div_eq_div_mul, h2, Nat.add_mul_div_left _ _ (pw_pos i), Nat.div_eq_of_lt h3, Nat.zero_add]
  rw [← h4, Nat.mul_comm 4294967296, Nat.mod_mul, Nat.mul_comm]
theorem drop_head (A : List Nat) (lA : Lim A) (i : Nat) : lv (A.drop i) % 4294967296 = A.getD i 0 := by
  rcases Nat.lt_or_ge i A.length with h | h
  · rw [lv_drop h]; have := getD_lim lA i; omega
  · rw [List.drop_eq_nil_of_le h, List.getD_eq_getElem?_getD, List.getElem?_eq_none h]; rfl
theorem right_all {A : List Nat} (lA : Lim A) (n : Nat) : (lv A / 2 ^ n) % pw A.length = lv A / 2 ^ n := by
  apply Nat.mod_eq_of_lt
  exact Nat.lt_of_le_of_lt (Nat.div_le_self _ _) (lv_lt lA)
theorem pw_two (k : Nat) : pw k = 2 ^ (32 * k) := by unfold pw; rw [show 4294967296 = 2 ^ 32 from rfl, ← Nat.pow_mul]
theorem shift_two (n : Nat) : 2 ^ (n % 32) * pw (n / 32) = 2 ^ n := by rw [pw_two, ← Nat.pow_add]; congr 1; omega
theorem right_drop {A : List Nat} (lA : Lim A) {s : Nat} (h : s ≤ A.length) (n : Nat) : lv (A.drop s) / 2 ^ n = lv A / (2 ^ n * pw s) := by
  have h2 := lv_split A (k := s) h
  have h3 := lv_lt (lim_take lA s)
  rw [List.length_take, Nat.min_eq_left h] at h3
  rw [Nat.mul_comm, ← Nat.div_div_eq_div_mul, h2, Nat.add_mul_div_left _ _ (pw_pos s), Nat.div_eq_of_lt h3, Nat.zero_add]
theorem getD_drop (A : List Nat) (s k : Nat) : (A.drop s).getD k 0 = A.getD (s + k) 0 := by
  rw [List.getD_eq_getElem?_getD, List.getElem?_drop, ← List.getD_eq_getElem?_getD]
theorem pow32 {n : Nat} (hn : n ≤ 32) : 2 ^ n ≤ 4294967296 := by
  have : 2 ^ n ≤ 2 ^ 32 := Nat.pow_le_pow_right (by omega) hn
  simpa using this
theorem right_next {A O : List Nat} {s k n X : Nat} (hO : k < O.length) (hA : s + k < A.length) (lA : Lim A) (hn : n ≤ 31) (e : lv (O.take k) = (lv (A.drop s) / 2 ^ n) % pw k) :
    lv (((O.set k X).set k (A.getD (s + k) 0 / 2 ^ n + (A.getD (s + k + 1) 0 * 2 ^ (32 - n)) % 4294967296)).take (k + 1)) = (lv (A.drop s) / 2 ^ n) % pw (k + 1) := by
  refine right_step (by simpa using hO) (by rw [List.length_drop]; omega) (lim_drop lA s) hn (by rw [take_set_lt (Nat.le_refl _)]; exact e) ?_
  rw [drop_head _ (lim_drop lA s), getD_drop, getD_drop, Nat.add_assoc]
theorem right_last {A O : List Nat} {s k n : Nat} (hO : k < O.length) (hA : s + k < A.length) (hl : ¬ s + k + 1 < A.length) (lA : Lim A) (hn : n ≤ 31) (e : lv (O.take k) = (lv (A.drop s) / 2 ^ n) % pw k) :
    lv ((O.set k (A.getD (s + k) 0 / 2 ^ n)).take (k + 1)) = (lv (A.drop s) / 2 ^ n) % pw (k + 1) := by
  refine right_step hO (by rw [List.length_drop]; omega) (lim_drop lA s) hn e ?_
  rw [drop_head _ (lim_drop lA s), getD_drop, getD_drop, List.getD_eq_getElem?_getD (i := s + (k + 1)), List.getElem?_eq_none (by omega)]
  simp
theorem right_over {A : List Nat} (lA : Lim A) {N : Nat} (h : A.length ≤ N / 32) : lv A / 2 ^ N = 0 := by
  apply Nat.div_eq_of_lt
  have h1 := lv_lt lA
  have h2 : pw A.length ≤ 2 ^ N := by rw [pw_two]; exact Nat.pow_le_pow_right (by omega) (by omega)
  omega
end Go.Proofs.Ytdmiklegahdafaa

/- Decimal digits; bytes and strings. -/
import Derived.Test.YtdmiklegahdafaaKRow
import Derived.Laws.BytesArg
namespace Go.Proofs.Ytdmiklegahdafaa.K
open Go Go.RowKit

/-- the k low digits, the lowest first -/
def digs : Nat → Nat → List Nat
  | 0, _ => []
  | k + 1, n => n % 10 :: digs k (n / 10)
def digsF : Nat → Nat → List Nat
  | 0, n => [n % 10]
  | f + 1, n => if n < 10 then [n] else n % 10 :: digsF f (n / 10)
/-- the digits, the lowest first -/
def dl (n : Nat) : List Nat := digsF n n
theorem digsF_eq : ∀ (f g n : Nat), n ≤ f → n ≤ g → digsF f n = digsF g n
  | 0, 0, _, _, _ => rfl
  | 0, g + 1, n, h1, _ => by
    have : n = 0 := by omega
    subst this
    simp [digsF]
  | f + 1, 0, n, _, h2 => by
    have : n = 0 := by omega
    subst this
    simp [digsF]
  | f + 1, g + 1, n, h1, h2 => by
    unfold digsF
    by_cases h : n < 10
    · simp [h]
    · rw [if_neg h, if_neg h, digsF_eq f g (n / 10) (by omega) (by omega)]
theorem dl_small {n : Nat} (h : n < 10) : dl n = [n] := by
  unfold dl
  cases n with
  | zero => rfl
  | succ m => unfold digsF; rw [if_pos h]
theorem dl_step {n : Nat} (h : 10 ≤ n) : dl n = n % 10 :: dl (n / 10) := by
  unfold dl
  cases n with
  | zero => omega
  | succ m =>
    conv => lhs; unfold digsF
    rw [if_neg (by omega), digsF_eq m ((m + 1) / 10) _ (by omega) (Nat.le_refl _)]
theorem digs_len : ∀ (k n : Nat), (digs k n).length = k
  | 0, _ => rfl
  | k + 1, n => by simp [digs, digs_len k]
theorem digs_add : ∀ (k j n : Nat), digs (k + j) n = digs k n ++ digs j (n / 10 ^ k)
  | 0, j, n => by simp [digs]
  | k + 1, j, n => by
    rw [show k + 1 + j = (k + j) + 1 by omega]
    simp only [digs, List.cons_append]
    rw [digs_add k j (n / 10), Nat.div_div_eq_div_mul, Nat.pow_succ, Nat.mul_comm]
theorem digs_get : ∀ (k j n : Nat), j < k → (digs k n).getD j 0 = n / 10 ^ j % 10
  | 0, j, n, h => by omega
  | k + 1, 0, n, _ => by simp [digs]
  | k + 1, j + 1, n, h => by
    simp only [digs, List.getD_cons_succ]
    rw [digs_get k j (n / 10) (by omega), Nat.div_div_eq_div_mul, Nat.pow_succ, Nat.mul_comm]
theorem digs_lt : ∀ (k n : Nat), ∀ x ∈ digs k n, x ≤ 9
  | 0, _, x, h => by cases h
  | k + 1, n, x, h => by
    simp only [digs, List.mem_cons] at h
    rcases h with h | h
    · omega
    · exact digs_lt k _ x h
theorem digs_mod : ∀ (k m n : Nat), k ≤ m → digs k (n % 10 ^ m) = digs k n
  | 0, _, _, _ => rfl
  | k + 1, 0, _, h => by omega
  | k + 1, m + 1, n, h => by
    simp only [digs]
    have e1 : n % 10 ^ (m + 1) % 10 = n % 10 := by
      rw [Nat.pow_succ, Nat.mul_comm, Nat.mod_mul_right_mod]
    have e2 : n % 10 ^ (m + 1) / 10 = n / 10 % 10 ^ m := by
      rw [Nat.pow_succ, Nat.mul_comm, Nat.mod_mul_right_div_self]
    rw [e1, e2, digs_mod k m (n / 10) (by omega)]
theorem digs_dl : ∀ (k n : Nat), 1 ≤ k → n < 10 ^ k → (k = 1 ∨ n / 10 ^ (k - 1) % 10 ≠ 0) → digs k n = dl n
  | 0, _, h, _, _ => by omega
  | 1, n, _, h, _ => by
    have h' : n < 10 := by simpa using h
    rw [dl_small h']
    simp [digs, Nat.mod_eq_of_lt h']
  | k + 2, n, _, h, hl => by
    have hl : n / 10 ^ (k + 1) % 10 ≠ 0 := by
      rcases hl with q | q
      · omega
      · exact q
    have hge : 10 ≤ n := by
      rcases Nat.lt_or_ge n 10 with q | q
      · have : n / 10 ^ (k + 1) = 0 := Nat.div_eq_of_lt (Nat.lt_of_lt_of_le q (by
          have := Nat.pow_le_pow_right (show 0 < 10 by omega) (show 1 ≤ k + 1 by omega)
          omega))
        rw [this] at hl
        omega
      · exact q
    rw [dl_step hge]
    have e : digs (k + 2) n = n % 10 :: digs (k + 1) (n / 10) := rfl
    rw [e, digs_dl (k + 1) (n / 10) (by omega) (by rw [Nat.pow_succ] at h; exact Nat.div_lt_of_lt_mul (by rw [Nat.mul_comm]; exact h)) ?_]
    right
    rw [Nat.div_div_eq_div_mul, Nat.mul_comm, ← Nat.pow_succ, show (k + 1 - 1).succ = k + 1 by omega]
    exact hl

/-- the same as bytes -/
def dgs (k n : Nat) : List Nat := (digs k n).map (48 + ·)
theorem dgs_len (k n : Nat) : (dgs k n).length = k := by unfold dgs; rw [List.length_map, digs_len]
theorem dgs_fit (k n : Nat) : ∀ x ∈ dgs k n, x ≤ 255 := by
  intro x hx
  obtain ⟨y, hy, rfl⟩ := List.mem_map.1 hx
  have := digs_lt k n y hy
  omega
theorem dgs_get {k j n : Nat} (h : j < k) : (dgs k n).getD j 0 = 48 + n / 10 ^ j % 10 := by
  unfold dgs
  rw [← digs_get k j n h, List.getD_eq_getElem?_getD, List.getD_eq_getElem?_getD, List.getElem?_map]
  have : j < (digs k n).length := by rw [digs_len]; exact h
  simp [this]
theorem dgs_add (k j n : Nat) : dgs (k + j) n = dgs k n ++ dgs j (n / 10 ^ k) := by unfold dgs; rw [digs_add, List.map_append]
theorem dgs_mod {k m : Nat} (n : Nat) (h : k ≤ m) : dgs k (n % 10 ^ m) = dgs k n := by unfold dgs; rw [digs_mod k m n h]
theorem dgs_one (n : Nat) : dgs 1 n = [48 + n % 10] := rfl
theorem dgs_take {k j n : Nat} (h : k ≤ j) : (dgs j n).take k = dgs k n := by
  obtain ⟨d, rfl⟩ := Nat.exists_eq_add_of_le h
  rw [dgs_add, List.take_left' (dgs_len k n)]
/-- the text of a number -/
def decB (n : Nat) : ByteArray := ⟨(((dl n).map (48 + ·)).reverse.map Nat.toUInt8).toArray⟩
theorem dgs_snoc {r j n q : Nat} (hq : q = n / 10 ^ r % 1000000000 / 10 ^ j) : dgs r n ++ dgs j (n / 10 ^ r % 1000000000) ++ [48 + q % 10] = dgs r n ++ dgs (j + 1) (n / 10 ^ r % 1000000000) := by
  rw [dgs_add j 1, dgs_one, ← hq, List.append_assoc]
theorem dgs_nine (r n : Nat) : dgs r n ++ dgs 9 (n / 10 ^ r % 1000000000) = dgs (r + 9) n := by
  rw [dgs_add r 9, show (1000000000 : Nat) = 10 ^ 9 from rfl, dgs_mod _ (Nat.le_refl _)]
theorem div_nine (n r : Nat) : n / 10 ^ r / 1000000000 = n / 10 ^ (r + 9) := by
  rw [Nat.div_div_eq_div_mul, Nat.pow_add]
theorem div_tenth {n j q : Nat} (h : q = n / 10 ^ j) : q / 10 = n / 10 ^ (j + 1) := by rw [h, Nat.div_div_eq_div_mul, Nat.pow_succ]
theorem few_rounds {n r : Nat} (h : 0 < n / 10 ^ r) (hT : n < Top) : r < 262144 := by
  have h1 : 10 ^ r ≤ n := by
    rcases Nat.lt_or_ge n (10 ^ r) with q | q
    · rw [Nat.div_eq_of_lt q] at h; omega
    · exact q
  rcases Nat.lt_or_ge r 262144 with q | q
  · exact q
  · have h2 : Top ≤ 10 ^ r := pow_top (by omega) q
    omega
theorem lt_of_div {n k : Nat} (h : n / 10 ^ k = 0) : n < 10 ^ k := by
  rcases Nat.lt_or_ge n (10 ^ k) with q | q
  · exact q
  · have := Nat.div_pos q (Nat.pow_pos (by omega)); omega
theorem drop_digit {n k : Nat} (hk : 1 ≤ k) (h : n < 10 ^ k) (h0 : n / 10 ^ (k - 1) % 10 = 0) : n < 10 ^ (k - 1) := by
  refine lt_of_div ?_
  have h1 : n / 10 ^ (k - 1) < 10 := Nat.div_lt_of_lt_mul (by rw [← Nat.pow_succ, show (k - 1).succ = k by omega]; exact h)
  generalize n / 10 ^ (k - 1) = y at *
  omega
theorem dgs_dl {k n : Nat} (hk : 1 ≤ k) (h : n < 10 ^ k) (hl : k = 1 ∨ n / 10 ^ (k - 1) % 10 ≠ 0) : dgs k n = (dl n).map (48 + ·) := by unfold dgs; rw [digs_dl k n hk h hl]

theorem rev_step {L O : List Nat} {i : Nat} (hl : O.length = L.length) (hi : i < L.length - 1 - i)
    (he : ∀ p, p < L.length → O.getD p 0 = if p < i ∨ L.length - i ≤ p then L.getD (L.length - 1 - p) 0 else L.getD p 0) :
    ∀ p, p < L.length → ((O.set i (O.getD (L.length - 1 - i) 0)).set (L.length - 1 - i) (O.getD i 0)).getD p 0 = if p < i + 1 ∨ L.length - (i + 1) ≤ p then L.getD (L.length - 1 - p) 0 else L.getD p 0 := by
  intro p hp
  by_cases h1 : p = L.length - 1 - i
  · subst h1
    rw [getD_set_eq (by simp; omega), he i (by omega), if_neg (by omega), if_pos (by omega)]
    congr 1
    omega
  · rw [getD_set_ne h1]
    by_cases h2 : p = i
    · subst h2
      rw [getD_set_eq (by omega), he _ (by omega), if_neg (by omega), if_pos (by omega)]
    · rw [getD_set_ne h2, he p hp]
      by_cases h3 : p < i ∨ L.length - i ≤ p
      · rw [if_pos h3, if_pos (by omega)]
      · rw [if_neg h3, if_neg (by omega)]
theorem rev_end {L O : List Nat} {i : Nat} (hl : O.length = L.length) (hi : ¬ i < L.length - 1 - i) (h0 : 0 < L.length)
    (he : ∀ p, p < L.length → O.getD p 0 = if p < i ∨ L.length - i ≤ p then L.getD (L.length - 1 - p) 0 else L.getD p 0) (hi2 : 2 * i ≤ L.length) : O = L.reverse := by
  refine list_eq (by rw [List.length_reverse]; exact hl) fun j hj => ?_
  rw [he j (by omega)]
  have e : (L.reverse).getD j 0 = L.getD (L.length - 1 - j) 0 := by
    rw [List.getD_eq_getElem?_getD, List.getElem?_reverse (by omega), ← List.getD_eq_getElem?_getD]
  rw [e]
  by_cases h : j < i ∨ L.length - i ≤ j
  · rw [if_pos h]
  · rw [if_neg h]
    congr 1
    omega
def strB (L : List Nat) : ByteArray := ⟨(L.map Nat.toUInt8).toArray⟩
theorem strB_nums (L : List Nat) : strOfNums (L.map fun (x : Nat) => (x : Int)) = strB L := by
  unfold strOfNums strB
  congr 1
  rw [List.map_map]
  congr 1
variable {P : Program} {ops : Array Oper} {Q : Exit → Act → World → Prop} {rest : List Oper} {o : Oper} {n : Nat} {l : Asc} {G : Nat → Value} {D : List Deferred} {w w0 : World} {S : List Nat} {h : Hp}
theorem r_str {src dst e : TypeId} {x : Operand} {ad : Option Addr} {len cap : Nat} {L : List Nat} (ho : o.op = .convert src dst x) (hs : P.underlying src = some (.slice e)) (he : P.underlying e = some (.int .u8)) (hd : P.underlying dst = some .string)
    (hx : Ev n l x (.slice ad len cap)) (hr : Rd w .u8 ad cap L) (hl : L.length = len) (h0 : 0 < len) : Rn P o n l (fun x => x = w) (.string (strB L)) := by
  rintro G D w' rfl; unfold execOp; rw [ho]
  subst hl
  have ha := (hr.at_ 0 h0).1
  rw [ha] at hx
  have hc := run_convert_bytes_arg (P := P) w' src e hs he (adr ad).block (adr ad).off L.length cap (L.map fun (x : Nat) => (x : Int)) (by simp) (fun i hi => by
    rw [(hr.at_ i hi).2.2, List.getD_eq_getElem?_getD, List.getD_eq_getElem?_getD, List.getElem?_map]
    simp [hi]) dst hd
  rw [strB_nums] at hc
  simp only [hx G D, hc, Sem.run_bind, Result.andThen_ok]
  rfl
theorem wake_fit : 18446744073709551615 * 18446744073709551615 < Top := Nat.lt_of_lt_of_le (by decide : 18446744073709551615 * 18446744073709551615 < 2 ^ 200) (by rw [top_two]; exact Nat.pow_le_pow_right (by omega) (by unfold TopE; omega))
theorem wake_text : decB (18446744073709551615 * 18446744073709551615 / 10) = ⟨#[51, 52, 48, 50, 56, 50, 51, 54, 54, 57, 50, 48, 57, 51, 56, 52, 54, 51, 52, 50, 54, 52, 56, 49, 49, 49, 57, 50, 56, 52, 51, 52, 57, 49, 48, 56, 50, 50]⟩ := by decide +kernel
theorem wake_five : decB (18446744073709551615 * 18446744073709551615 % 10) = ⟨#[53]⟩ := by decide +kernel
variable {C : World → Prop}
theorem r_eqstr {t u : TypeId} {x y : Operand} {a b : ByteArray} {r : Bool} (ho : o.op = .binOp .eql t x y u) (hx : Ev n l x (.string a)) (hy : Ev n l y (.string b)) (hr : (a.toList == b.toList) = r) : Rn P o n l C (.bool r) := by
  subst hr
  exact run_eql ho hx hy (fun w => by simp [binOp, Op.stringOp]) (fun w => by simp [eqGuard])
theorem r_nestr {t u : TypeId} {x y : Operand} {a b : ByteArray} {r : Bool} (ho : o.op = .binOp .neq t x y u) (hx : Ev n l x (.string a)) (hy : Ev n l y (.string b)) (hr : (!(a.toList == b.toList)) = r) : Rn P o n l C (.bool r) := by
  subst hr
  exact run_neq ho hx hy (fun w => by simp [binOp, Op.stringOp]) (fun w => by simp [eqGuard])
theorem str_same {a b : ByteArray} (h : a = b) : (a.toList == b.toList) = true := by subst h; simp
end Go.Proofs.Ytdmiklegahdafaa.K

/- The order of decimal texts is the order of numbers; a text's last digit; small numbers. -/
import Derived.Test.YtdmiklegahdafaaKTxt
namespace Go.Proofs.Ytdmiklegahdafaa.K
open Go Go.RowKit
set_option linter.unusedVariables false
set_option linter.unusedSimpArgs false

theorem dl_ne : ∀ (n : Nat), 0 < (dl n).length := by
  intro n
  rcases Nat.lt_or_ge n 10 with h | h
  · rw [dl_small h]; simp
  · rw [dl_step h]; simp
theorem dl_bound : ∀ (k n : Nat), (dl n).length ≤ k → n < 10 ^ k
  | 0, n, h => by have := dl_ne n; omega
  | k + 1, n, h => by
    rcases Nat.lt_or_ge n 10 with q | q
    · have := Nat.pow_le_pow_right (show 0 < 10 by omega) (show 1 ≤ k + 1 by omega)
      omega
    · rw [dl_step q] at h
      have := dl_bound k (n / 10) (by simpa using h)
      rw [Nat.pow_succ]
      omega
theorem dl_low : ∀ (k n : Nat), k + 1 < (dl n).length → 10 ^ (k + 1) ≤ n
  | 0, n, h => by
    rcases Nat.lt_or_ge n 10 with q | q
    · rw [dl_small q] at h; simp at h
    · simpa using q
  | k + 1, n, h => by
    rcases Nat.lt_or_ge n 10 with q | q
    · rw [dl_small q] at h; simp at h
    · rw [dl_step q] at h
      have := dl_low k (n / 10) (by simpa using h)
      rw [Nat.pow_succ]
      omega
theorem dl_lt {a b : Nat} (h : (dl a).length < (dl b).length) : a < b := by
  have h0 := dl_ne a
  obtain ⟨k, hk⟩ : ∃ k, (dl a).length = k + 1 := ⟨(dl a).length - 1, by omega⟩
  have h1 := dl_bound (k + 1) a (by omega)
  have h2 := dl_low k b (by omega)
  omega
theorem dl_top : ∀ (n : Nat), (dl n).length = 1 ∨ n / 10 ^ ((dl n).length - 1) % 10 ≠ 0 := by
  intro n
  induction n using Nat.strongRecOn with
  | _ n ih =>
    rcases Nat.lt_or_ge n 10 with q | q
    · rw [dl_small q]; simp
    · right
      rw [dl_step q]
      have h0 := dl_ne (n / 10)
      simp only [List.length_cons, Nat.add_sub_cancel]
      rcases ih (n / 10) (by omega) with h | h
      · rw [h, Nat.pow_one]
        have h1 := dl_bound 1 (n / 10) (by omega)
        omega
      · obtain ⟨k, hk⟩ : ∃ k, (dl (n / 10)).length = k + 1 := ⟨(dl (n / 10)).length - 1, by omega⟩
        rw [hk] at h ⊢
        rw [Nat.add_sub_cancel, Nat.div_div_eq_div_mul, Nat.mul_comm, ← Nat.pow_succ] at h
        exact h
theorem dl_digs (n : Nat) : dl n = digs (dl n).length n :=
  (digs_dl _ n (dl_ne n) (dl_bound _ n (Nat.le_refl _)) (dl_top n)).symm
theorem digs_snoc (k n : Nat) : digs (k + 1) n = digs k n ++ [n / 10 ^ k % 10] := by rw [digs_add k 1]; rfl
/-- the digits as bytes, the highest first -/
def hi (k n : Nat) : List UInt8 := ((digs k n).map (48 + ·)).reverse.map Nat.toUInt8
theorem hi_succ (k n : Nat) : hi (k + 1) n = (48 + n / 10 ^ k % 10).toUInt8 :: hi k n := by
  unfold hi
  rw [digs_snoc]
  simp
theorem u8_lt {x y : Nat} (hx : x ≤ 255) (hy : y ≤ 255) : (x.toUInt8 < y.toUInt8) ↔ x < y := by
  rw [UInt8.lt_iff_toNat_lt]
  simp [Nat.toUInt8, UInt8.toNat_ofNat, Nat.mod_eq_of_lt (show x < 256 by omega), Nat.mod_eq_of_lt (show y < 256 by omega)]
theorem u8_eq {x y : Nat} (hx : x ≤ 255) (hy : y ≤ 255) : (x.toUInt8 = y.toUInt8) ↔ x = y := by
  constructor
  · intro h
    have := congrArg UInt8.toNat h
    simpa [Nat.toUInt8, UInt8.toNat_ofNat, Nat.mod_eq_of_lt (show x < 256 by omega), Nat.mod_eq_of_lt (show y < 256 by omega)] using this
  · intro h; rw [h]
theorem hi_less : ∀ (k a b : Nat), a < 10 ^ k → b < 10 ^ k → Op.bytesLess (hi k a) (hi k b) = decide (a < b)
  | 0, a, b, h1, h2 => by
    have e1 : a = 0 := by simpa using h1
    have e2 : b = 0 := by simpa using h2
    subst e1 e2
    rfl
  | k + 1, a, b, h1, h2 => by
    rw [hi_succ, hi_succ]
    have hp : 0 < 10 ^ k := Nat.pow_pos (by omega)
    have ha : a / 10 ^ k < 10 := Nat.div_lt_of_lt_mul (by rw [← Nat.pow_succ]; exact h1)
    have hb : b / 10 ^ k < 10 := Nat.div_lt_of_lt_mul (by rw [← Nat.pow_succ]; exact h2)
    rw [Nat.mod_eq_of_lt ha, Nat.mod_eq_of_lt hb]
    have ea : hi k a = hi k (a % 10 ^ k) := by unfold hi; rw [digs_mod k k a (Nat.le_refl _)]
    have eb : hi k b = hi k (b % 10 ^ k) := by unfold hi; rw [digs_mod k k b (Nat.le_refl _)]
    rw [ea, eb]
    simp only [Op.bytesLess]
    rw [hi_less k _ _ (Nat.mod_lt _ hp) (Nat.mod_lt _ hp)]
    have da := Nat.div_add_mod a (10 ^ k)
    have db := Nat.div_add_mod b (10 ^ k)
    have ra := Nat.mod_lt a hp
    have rb := Nat.mod_lt b hp
    generalize a / 10 ^ k = x at *
    generalize b / 10 ^ k = y at *
    generalize a % 10 ^ k = r at *
    generalize b % 10 ^ k = q at *
    generalize 10 ^ k = p at *
    have h3 : ((48 + x).toUInt8 < (48 + y).toUInt8) ↔ x < y := by rw [u8_lt (by omega) (by omega)]; omega
    have h4 : ((48 + x).toUInt8 = (48 + y).toUInt8) ↔ x = y := by rw [u8_eq (by omega) (by omega)]; omega
    subst da db
    generalize (48 + x).toUInt8 = X at *
    generalize (48 + y).toUInt8 = Y at *
    by_cases c1 : x < y
    · have : p * x + r < p * y + q := by
        have := Nat.mul_le_mul_left p (show x + 1 ≤ y by omega)
        rw [Nat.mul_add] at this
        omega
      simp [h3.2 c1, this]
    · by_cases c2 : x = y
      · subst c2
        have e6 : X = Y := h4.2 rfl
        subst e6
        have e0 : ¬ X < X := fun h => c1 (h3.1 h)
        have e5 : (p * x + r < p * x + q) ↔ r < q := by omega
        simp [e0, e5]
      · have e0 : ¬ X < Y := fun h => c1 (h3.1 h)
        have e1 : ¬ X = Y := fun h => c2 (h4.1 h)
        have : ¬ p * x + r < p * y + q := by
          have := Nat.mul_le_mul_left p (show y + 1 ≤ x by omega)
          rw [Nat.mul_add] at this
          omega
        simp [e0, e1, this]
theorem decB_hi (n : Nat) : (decB n).toList = hi (dl n).length n := by
  rw [bytes_toList, decB_list]
  unfold hi
  rw [← dl_digs]
theorem decB_less {a b : Nat} (h : (dl a).length = (dl b).length) : Op.bytesLess (decB a).toList (decB b).toList = decide (a < b) := by
  rw [decB_hi, decB_hi, h]
  exact hi_less _ a b (dl_bound _ a (by omega)) (dl_bound _ b (Nat.le_refl _))
theorem decB_eq {a b : Nat} : (decB a).toList = (decB b).toList ↔ a = b := by
  constructor
  · intro h
    have hl : (dl a).length = (dl b).length := by
      have := congrArg List.length h
      rw [bytes_toList, bytes_toList, decB_list, decB_list] at this
      simpa using this
    rcases Nat.lt_trichotomy a b with q | q | q
    · have h1 := decB_less hl
      have h2 := decB_less hl.symm
      rw [h] at h1 h2
      rw [h1] at h2
      simp [q] at h2
      omega
    · exact q
    · have h1 := decB_less hl
      have h2 := decB_less hl.symm
      rw [h] at h1 h2
      rw [h1] at h2
      simp [q] at h2
      omega
  · intro h; rw [h]
theorem decB_last (n : Nat) : ((decB n).data.toList.getD ((decB n).size - 1) 0).toNat = 48 + n % 10 := by
  rw [decB_list, decB_size]
  have e : ∃ r, dl n = n % 10 :: r := by
    rcases Nat.lt_or_ge n 10 with q | q
    · exact ⟨[], by rw [dl_small q, Nat.mod_eq_of_lt q]⟩
    · exact ⟨_, dl_step q⟩
  obtain ⟨r, hr⟩ := e
  rw [hr]
  simp [List.getD_eq_getElem?_getD, List.getElem?_append]
  omega
theorem decB_front {n : Nat} (h : 10 ≤ n) : (decB n).extract 0 ((decB n).size - 1) = decB (n / 10) := by
  apply Go.WideShapes.bytes_inj
  rw [ByteArray.data_extract, Array.toList_extract, decB_list, decB_list, decB_size, dl_step h]
  simp [List.extract]
theorem bytes_ok1 {A L : List Nat} (n : Nm A) (e : L = (byts ((bl (lv A) + 7) / 8) (lv A)).reverse) (h1 : 0 < L.length) (h2 : L.getD 0 0 = 0) : False := by
  subst e
  rw [List.length_reverse, byts_len] at h1
  rcases Nat.eq_zero_or_pos (lv A) with q | q
  · rw [q] at h1; simp [bl] at h1
  · have hp := bl_pos q
    have e := getD_rev (L := (byts ((bl (lv A) + 7) / 8) (lv A)).reverse) (i := (bl (lv A) + 7) / 8 - 1) (by rw [List.length_reverse, byts_len]; omega)
    rw [List.length_reverse, byts_len, List.reverse_reverse, byts_get _ _ _ (by omega), show (bl (lv A) + 7) / 8 - 1 - ((bl (lv A) + 7) / 8 - 1) = 0 by omega, h2] at e
    exact top_byte q rfl e.symm
theorem bytes_ok2 {A L : List Nat} (n : Nm A) (e : L = (byts ((bl (lv A) + 7) / 8) (lv A)).reverse) : L.length ≤ 32768 := by
  subst e
  rw [List.length_reverse, byts_len]
  have := bl_top (nm_lt n)
  omega
theorem bytes_lev {A L : List Nat} (e : L = (byts ((bl (lv A) + 7) / 8) (lv A)).reverse) : lev L.reverse = lv A := by
  subst e
  rw [List.reverse_reverse, lev_byts, Nat.mod_eq_of_lt len_bytes]
def Dig : Nat := 16384
theorem dl_short {n : Nat} (h : n < Top) : (dl n).length ≤ 81920 := by
  rcases Nat.lt_or_ge 81920 (dl n).length with q | q
  · obtain ⟨k, hk⟩ : ∃ k, (dl n).length = k + 2 := ⟨(dl n).length - 2, by omega⟩
    have h1 := dl_low k n (by omega)
    have h2 : 10 ^ (5 * Dig) ≤ 10 ^ (k + 1) := Nat.pow_le_pow_right (by omega) (by unfold Dig; omega)
    have h3 : (2 ^ 16) ^ Dig ≤ (10 ^ 5) ^ Dig := Nat.pow_le_pow_left (by omega) _
    rw [← Nat.pow_mul, ← Nat.pow_mul] at h3
    have h4 : Top ≤ 2 ^ (16 * Dig) := two_top (by unfold Dig; omega)
    exact absurd (Nat.le_trans h4 (Nat.le_trans h3 (Nat.le_trans h2 h1))) (Nat.not_le.2 h)
  · exact q
theorem dec_ch {n j : Nat} (h : j < (dl n).length) : ch (decB n) j = 48 + n / 10 ^ ((dl n).length - 1 - j) % 10 := by
  unfold ch
  rw [decB_list, ← List.map_reverse]
  have e1 := dl_digs n
  generalize hk : (dl n).length = k at *
  rw [e1]
  have hj : j < ((digs k n).reverse).length := by rw [List.length_reverse, digs_len]; exact h
  rw [List.map_map, List.getD_eq_getElem?_getD, List.getElem?_map, List.getElem?_eq_getElem hj]
  have e2 : (digs k n).reverse[j] = n / 10 ^ (k - 1 - j) % 10 := by
    rw [List.getElem_reverse]
    have := digs_get k (k - 1 - j) n (by omega)
    rw [List.getD_eq_getElem?_getD, List.getElem?_eq_getElem (by rw [digs_len]; omega)] at this
    simpa [digs_len] using this
  simp only [Option.map_some, Option.getD_some, Function.comp, e2]
  have : n / 10 ^ (k - 1 - j) % 10 < 10 := Nat.mod_lt _ (by omega)
  show ((48 + n / 10 ^ (k - 1 - j) % 10).toUInt8).toNat = _
  simp [Nat.toUInt8, Nat.mod_eq_of_lt (show 48 + n / 10 ^ (k - 1 - j) % 10 < 256 by omega)]
theorem dec_ok (n : Nat) : okT (decB n) := by
  refine ⟨by rw [decB_size]; have := dl_ne n; omega, ?_, fun j hj => ?_⟩
  · rintro ⟨h1, h2⟩
    rw [decB_size] at h2
    rw [dec_ch (by omega), Nat.sub_zero] at h1
    rcases dl_top n with h | h
    · omega
    · omega
  · rw [decB_size] at hj
    rw [dec_ch hj]
    have : n / 10 ^ ((dl n).length - 1 - j) % 10 < 10 := Nat.mod_lt _ (by omega)
    omega
theorem dv_dec_part (n : Nat) : ∀ k, k ≤ (dl n).length → dv (decB n) k = n / 10 ^ ((dl n).length - k)
  | 0, _ => by
    rw [Nat.sub_zero, Nat.div_eq_of_lt (dl_bound _ n (Nat.le_refl _))]
    rfl
  | k + 1, h => by
    simp only [dv]
    rw [dv_dec_part n k (by omega), dec_ch (by omega)]
    have e : 10 ^ ((dl n).length - k) = 10 ^ ((dl n).length - (k + 1)) * 10 := by rw [← Nat.pow_succ]; congr 1; omega
    rw [e, ← Nat.div_div_eq_div_mul, show (dl n).length - 1 - k = (dl n).length - (k + 1) by omega]
    omega
theorem dv_dec (n : Nat) : dv (decB n) (decB n).size = n := by
  rw [decB_size, dv_dec_part n _ (Nat.le_refl _), Nat.sub_self, Nat.pow_zero, Nat.div_one]
variable {P : Program} {o : Oper} {n : Nat} {l : Asc} {C : World → Prop}
theorem r_ltstr {t u : TypeId} {x y : Operand} {a b : ByteArray} {r : Bool} (ho : o.op = .binOp .lss t x y u) (hx : Ev n l x (.string a)) (hy : Ev n l y (.string b)) (hr : Op.bytesLess a.toList b.toList = r) : Rn P o n l C (.bool r) := by
  subst hr
  intro G D w _; unfold execOp; rw [ho]
  simp [hx G D, hy G D, eqGuard, binOp, Op.stringOp]
theorem r_cutstr {t : TypeId} {x : Operand} {hi : Option Operand} {s s' : ByteArray} {hh : Nat} (ho : o.op = .slice t x none hi none) (ht : P.underlying t = some .string) (hx : Ev n l x (.string s)) (hhi : Cb n l hi s.size hh) (h1 : hh ≤ s.size) (hr : s.extract 0 hh = s') : Rn P o n l C (.string s') := by
  intro G D w _; unfold execOp; rw [ho]; subst hr
  cases hhi with
  | n => simp [hx G D, Instr.sliceAt, Instr.slice, run_underlying ht, Instr.sliceBounds]
  | s e => simp [hx G D, Instr.sliceAt, Instr.slice, run_underlying ht, Instr.sliceBounds, e G D, run_bound h1]
theorem small_or {nn x i : Nat} (hi : i ≤ 1) (h : nn < 2 ^ (32 * i)) (hx : x ≤ 4294967295) : nn ||| x * 2 ^ (32 * i) % 18446744073709551616 = nn + x * 2 ^ (32 * i) ∧ nn + x * 2 ^ (32 * i) ≤ 18446744073709551615 := by
  have h4 : i = 0 ∨ i = 1 := by omega
  have hm : x * 2 ^ (32 * i) % 18446744073709551616 = x * 2 ^ (32 * i) := by
    rcases h4 with q | q <;> rw [q] <;> omega
  rw [hm]
  refine ⟨?_, by rcases h4 with q | q <;> rw [q] at h ⊢ <;> omega⟩
  rw [Nat.or_comm, Nat.mul_comm, ← Nat.two_pow_add_eq_or_of_lt h, Nat.add_comm]
end Go.Proofs.Ytdmiklegahdafaa.K

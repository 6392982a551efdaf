/- The engine: a row of structs that is read only; whole numbers with a sign. -/
import Derived.Test.YtdmiklegahdafaaKFits
namespace Go.Proofs.Ytdmiklegahdafaa.K
open Go Go.RowKit
set_option linter.unusedSimpArgs false
set_option linter.unusedVariables false
variable {P : Program} {ops : Array Oper} {Q : Exit → Act → World → Prop} {rest : List Oper} {o : Oper} {n : Nat} {l : Asc} {G : Nat → Value} {D : List Deferred} {w w0 : World} {S : List Nat} {h : Hp} {C : World → Prop}

/-- a row of len structs of sz cells each: cell f of element j holds F j f -/
structure RdT (w : World) (a : Option Addr) (len sz : Nat) (F : Nat → Nat → Value) : Prop where
  most : len ≤ 9223372036854775807
  at_ : ∀ j, j < len → ∀ f, f < sz → a = some ⟨(adr a).block, (adr a).off, none⟩ ∧ (adr a).block < w.heap.size ∧ w.cell? ⟨(adr a).block, (adr a).off + j * sz + f, none⟩ = some (F j f)
theorem r_ixT {t e : TypeId} {x y : Operand} {ad : Option Addr} {cap len sz : Nat} {F : Nat → Nat → Value} {k : IntKind} {i : Int} {j by_ : Nat} {z : Value} (ho : o.op = .indexAddr t x y) (ht : P.underlying t = some (.slice e)) (hi : TI P e z sz by_) (hz : 0 < sz)
    (hx : Ev n l x (.slice ad len cap)) (hy : Ev n l y (.int k i)) (hr : RdT w0 ad len sz F) (hj : i = (j : Int)) (hlt : j < len) : Rn P o n l C (.pointer (some ⟨(adr ad).block, (adr ad).off + j * sz, none⟩)) := by
  have := (hr.at_ j hlt 0 hz).1
  rw [this] at hx
  exact r_ixs ho ht hi hx hy hj hlt rfl
theorem cell_rdT {ad : Option Addr} {len sz : Nat} {F : Nat → Nat → Value} (hr : RdT w0 ad len sz F) {j f : Nat} (hj : j < len) (hf : f < sz) (hS : (adr ad).block ∉ S) : ∀ w, St w0 S h w → w.cell? ⟨(adr ad).block, (adr ad).off + j * sz + f, none⟩ = some (F j f) := by
  intro w s
  obtain ⟨_, h2, h3⟩ := hr.at_ j hj f hf
  rw [← h3]
  exact World.cell?_of_block (w := w0) (s.old _ h2 hS)
/-- x & b of whatever whole number x and a constant b -/
def lowAnd (k : IntKind) (a : Int) (b : Nat) : Nat := (a % 2 ^ k.bits).toNat &&& b
theorem lowAnd_le (k : IntKind) (a : Int) (b : Nat) : lowAnd k a b ≤ b := Nat.and_le_right
theorem r_and_low {t u : TypeId} {x y : Operand} {k : IntKind} {a : Int} {b : Nat} (ho : o.op = .binOp .and t x y u) (hx : Ev n l x (.int k a)) (hy : Ev n l y (.int k (b : Int))) (hb : b < topK k) (hw : k.wrap (lowAnd k a b : Int) = (lowAnd k a b : Int)) : Rn P o n l C (.int k (lowAnd k a b : Int)) := by
  intro G D w _; unfold execOp; rw [ho]
  rw [topK_eq] at hb
  unfold lowAnd at *
  simp [hx G D, hy G D, eqGuard, binOp, Op.intBits]
  rw [Nat.mod_eq_of_lt hb]
  exact hw
theorem byte_at {s : ByteArray} {j : Nat} (h : j < s.size) : s.data.toList[j]? = some ((s.data.toList.getD j 0).toNat.toUInt8) := by
  have h' : j < s.data.toList.length := by rw [Array.length_toList]; exact h
  rw [List.getD_eq_getElem?_getD, List.getElem?_eq_getElem h']
  simp
theorem byte_lt (x : UInt8) : x.toNat < 256 := x.toNat_lt
/-! powers and their texts -/
theorem pow_fit {b k : Nat} (hb : b ≤ 4294967295) (hk : k ≤ 8191) : b ^ k < Top := by
  have h1 : b ^ k ≤ 4294967295 ^ k := Nat.pow_le_pow_left hb k
  have h2 : 4294967295 ^ k < pw (k + 1) := by
    have h3 : 4294967295 ^ k ≤ 4294967296 ^ k := Nat.pow_le_pow_left (by omega) k
    have h4 : pw (k + 1) = 4294967296 * pw k := pw_succ k
    have h5 : 0 < pw k := pw_pos k
    have h6 : 4294967296 ^ k = pw k := rfl
    omega
  exact Nat.lt_of_le_of_lt h1 (Nat.lt_of_lt_of_le h2 (pw_le (by omega)))
theorem dl_ten : ∀ k, dl (10 ^ k) = List.replicate k 0 ++ [1]
  | 0 => dl_small (by omega)
  | k + 1 => by
    have hp : 0 < 10 ^ k := Nat.pow_pos (by omega)
    rw [Nat.pow_succ, dl_step (by omega), Nat.mul_mod_left, Nat.mul_div_cancel _ (by omega), dl_ten k]
    rfl
theorem decB_list (n : Nat) : (decB n).data.toList = ((dl n).map (48 + ·)).reverse.map Nat.toUInt8 := by unfold decB; simp
theorem decB_size (n : Nat) : (decB n).size = (dl n).length := by
  show (decB n).data.size = _
  unfold decB; simp
theorem decB_ten_list (k : Nat) : (decB (10 ^ k)).data.toList = 49 :: List.replicate k 48 := by
  rw [decB_list, dl_ten]
  simp
theorem decB_ten_size (k : Nat) : (decB (10 ^ k)).size = k + 1 := by rw [decB_size, dl_ten]; simp
theorem decB_ten_head (k : Nat) : ((decB (10 ^ k)).data.toList.getD 0 0).toNat = 49 := by rw [decB_ten_list]; rfl
theorem decB_ten_tail {k j : Nat} (h0 : 1 ≤ j) (hj : j < k + 1) : ((decB (10 ^ k)).data.toList.getD j 0).toNat = 48 := by
  rw [decB_ten_list]
  obtain ⟨i, rfl⟩ : ∃ i, j = i + 1 := ⟨j - 1, by omega⟩
  rw [List.getD_cons_succ, List.getD_eq_getElem?_getD, List.getElem?_replicate, if_pos (by omega)]
  rfl
theorem nought_pos {Z : List Nat} {k : Nat} (e : lv Z = 0 ^ k) (h : Z.length = 0) : 0 < k := by
  rcases Nat.eq_zero_or_pos k with q | q
  · subst q
    rw [List.eq_nil_of_length_eq_zero h] at e
    simp [lv] at e
  · exact q
theorem nought_zero {Z : List Nat} {k : Nat} (n : Nz Z) (e : lv Z = 0 ^ k) (h : ¬ Z.length = 0) : ¬ 0 < k := by
  intro hk
  rw [Nat.zero_pow hk] at e
  exact h (by rw [lv_zero n e]; rfl)
end Go.Proofs.Ytdmiklegahdafaa.K

/- The sum's bits: it is linear; a byte that is another one makes another sum. And a number written into a row of one's own. -/
import Derived.Test.YtdmiklegahdafaaKLv
namespace Go.Proofs.Ytdmiklegahdafaa.K
open Go Go.RowKit
set_option linter.unusedSimpArgs false
set_option linter.unusedVariables false

def crcP (r : Nat) : Nat := if r % 2 = 1 then 3988292384 else 0
theorem crc1_eq (r : Nat) : crc1 r = (r / 2) ^^^ crcP r := by
  unfold crc1 crcP
  rcases Nat.mod_two_eq_zero_or_one r with h | h
  · rw [h]; simp
  · rw [h]; simp
theorem xor_div2 (a b : Nat) : (a ^^^ b) / 2 = (a / 2) ^^^ (b / 2) := by
  have := Nat.shiftRight_xor_distrib (a := a) (b := b) (i := 1)
  simpa [Nat.shiftRight_succ] using this
theorem xor_mod2 (a b : Nat) : (a ^^^ b) % 2 = (a % 2) ^^^ (b % 2) := by
  have := Nat.xor_mod_two_pow (a := a) (b := b) (n := 1)
  simpa using this
theorem crcP_xor (a b : Nat) : crcP (a ^^^ b) = crcP a ^^^ crcP b := by
  unfold crcP
  rw [xor_mod2]
  rcases Nat.mod_two_eq_zero_or_one a with h | h <;> rcases Nat.mod_two_eq_zero_or_one b with h2 | h2 <;> rw [h, h2] <;> decide
theorem xor4 (a b c d : Nat) : (a ^^^ b) ^^^ (c ^^^ d) = (a ^^^ c) ^^^ (b ^^^ d) := by
  rw [Nat.xor_assoc, Nat.xor_assoc, ← Nat.xor_assoc b c d, Nat.xor_comm b c, Nat.xor_assoc c b d]
theorem crc1_xor (a b : Nat) : crc1 (a ^^^ b) = crc1 a ^^^ crc1 b := by
  rw [crc1_eq, crc1_eq, crc1_eq, xor_div2, crcP_xor, xor4]
theorem crcI_xor : ∀ (k a b : Nat), crcI k (a ^^^ b) = crcI k a ^^^ crcI k b
  | 0, a, b => rfl
  | k + 1, a, b => by simp only [crcI]; rw [crcI_xor k a b, crc1_xor]
theorem crcB_xor (r s c d : Nat) : crcB (r ^^^ s) (c ^^^ d) = crcB r c ^^^ crcB s d := by
  unfold crcB crcT
  have h1 : (r ^^^ s) % 256 = (r % 256) ^^^ (s % 256) := Nat.xor_mod_two_pow (a := r) (b := s) (n := 8)
  have h2 : (r ^^^ s) / 256 = (r / 256) ^^^ (s / 256) := by
    have := Nat.shiftRight_xor_distrib (a := r) (b := s) (i := 8)
    simpa [Nat.shiftRight_eq_div_pow] using this
  rw [h1, h2, xor4 (r % 256) (s % 256) c d, crcI_xor, xor4]
theorem crcR_xor : ∀ (A B : List Nat) (r s : Nat), A.length = B.length → crcR (r ^^^ s) (List.zipWith (· ^^^ ·) A B) = crcR r A ^^^ crcR s B
  | [], [], r, s, _ => rfl
  | [], b :: B, r, s, h => by simp at h
  | a :: A, [], r, s, h => by simp at h
  | a :: A, b :: B, r, s, h => by
    simp only [List.length_cons, Nat.add_right_cancel_iff] at h
    have := crcR_xor A B (crcB r a) (crcB s b) h
    simp only [crcR, List.zipWith_cons_cons, List.foldl_cons] at this ⊢
    rw [crcB_xor]; exact this
theorem comp_xor {x : Nat} (h : x < 4294967296) : 4294967295 - x = x ^^^ 4294967295 := by
  apply Nat.eq_of_testBit_eq
  intro i
  have h1 := Nat.testBit_two_pow_sub_succ (n := 32) (x := x) h i
  have h2 := Nat.testBit_two_pow_sub_one 32 i
  rw [show (2 : Nat) ^ 32 - (x + 1) = 4294967295 - x by omega] at h1
  rw [show (2 : Nat) ^ 32 - 1 = 4294967295 from rfl] at h2
  rw [h1, Nat.testBit_xor, h2]
  by_cases hi : i < 32
  · simp [hi]
  · have : x.testBit i = false := Nat.testBit_lt_two_pow (Nat.lt_of_lt_of_le h (show 4294967296 ≤ 2 ^ i from Nat.pow_le_pow_right (n := 2) (by decide) (show 32 ≤ i by omega)))
    simp [hi, this]
theorem crcM_xor {A B : List Nat} (hA : ∀ x ∈ A, x ≤ 255) (hB : ∀ x ∈ B, x ≤ 255) (hl : A.length = B.length) : crcM 0 A ^^^ crcM 0 B = crcR 0 (List.zipWith (· ^^^ ·) A B) := by
  unfold crcM
  have h1 := crcR_lt A (r := 4294967295 - 0) (by omega) hA
  have h2 := crcR_lt B (r := 4294967295 - 0) (by omega) hB
  rw [comp_xor h1, comp_xor h2, xor4, Nat.xor_self, Nat.xor_zero, ← crcR_xor A B _ _ hl, Nat.xor_self]
/-! another byte -/
theorem crc1_ne {r : Nat} (h : r < 4294967296) (h0 : r ≠ 0) : crc1 r ≠ 0 := by
  rw [crc1_eq]
  unfold crcP
  intro e
  rcases Nat.mod_two_eq_zero_or_one r with q | q
  · rw [q] at e; simp at e; omega
  · rw [q] at e
    simp only [if_true] at e
    have : r / 2 = 3988292384 := by
      have := congrArg (· ^^^ 3988292384) e
      simpa [Nat.xor_assoc] using this
    omega
theorem crcI_ne : ∀ (k : Nat) {r : Nat}, r < 4294967296 → r ≠ 0 → crcI k r ≠ 0
  | 0, r, _, h => h
  | k + 1, r, h, h0 => crc1_ne (crcI_lt k h) (crcI_ne k h h0)
theorem crc1_dbl (q : Nat) : crc1 (2 * q) = q := by
  rw [crc1_eq]; unfold crcP
  rw [if_neg (by omega), Nat.xor_zero]; omega
theorem crcI_dbl : ∀ (k q : Nat), crcI k (2 ^ k * q) = q
  | 0, q => by simp [crcI]
  | k + 1, q => by
    simp only [crcI]
    rw [show 2 ^ (k + 1) * q = 2 ^ k * (2 * q) by rw [Nat.pow_succ]; ac_rfl, crcI_dbl k (2 * q), crc1_dbl]
theorem crcB_zero {r : Nat} : crcB r 0 = crcI 8 r := by
  have e : r = (r % 256) ^^^ (256 * (r / 256)) := by
    have h := Nat.two_pow_add_eq_or_of_lt (i := 8) (b := r % 256) (Nat.mod_lt _ (by decide)) (r / 256)
    have h2 : (256 * (r / 256)) ^^^ (r % 256) = (256 * (r / 256)) ||| (r % 256) := by
      have h3 : (256 * (r / 256)) &&& (r % 256) = 0 := by
        apply Nat.eq_of_testBit_eq
        intro i
        rw [Nat.testBit_and, Nat.zero_testBit]
        by_cases hi : i < 8
        · have : (2 ^ 8 * (r / 256)).testBit i = false := by rw [Nat.testBit_two_pow_mul]; simp; omega
          rw [show 256 = 2 ^ 8 from rfl, this]; rfl
        · have : (r % 256).testBit i = false := Nat.testBit_lt_two_pow (Nat.lt_of_lt_of_le (Nat.mod_lt _ (by decide)) (show 256 ≤ 2 ^ i from Nat.pow_le_pow_right (n := 2) (by decide) (show 8 ≤ i by omega)))
          rw [this, Bool.and_false]
      apply Nat.eq_of_testBit_eq
      intro i
      have h4 := congrArg (fun x => x.testBit i) h3
      simp only [Nat.testBit_and, Nat.zero_testBit] at h4
      rw [Nat.testBit_xor, Nat.testBit_or]
      revert h4
      cases (256 * (r / 256)).testBit i <;> cases (r % 256).testBit i <;> simp
    rw [Nat.xor_comm, h2]
    rw [show (2 : Nat) ^ 8 = 256 from rfl] at h
    rw [← h]; omega
  conv => rhs; rw [e, crcI_xor, show 256 * (r / 256) = 2 ^ 8 * (r / 256) from rfl, crcI_dbl]
  unfold crcB crcT
  rw [Nat.xor_zero]
theorem crcB_ne {r : Nat} (h : r < 4294967296) (h0 : r ≠ 0) : crcB r 0 ≠ 0 := by rw [crcB_zero]; exact crcI_ne 8 h h0
theorem crcR_zeros_ne : ∀ (n : Nat) {r : Nat}, r < 4294967296 → r ≠ 0 → crcR r (List.replicate n 0) ≠ 0
  | 0, r, _, h => h
  | n + 1, r, h, h0 => by
    rw [List.replicate_succ]
    exact crcR_zeros_ne n (crcB_lt h (by omega)) (crcB_ne h h0)
theorem crcR_zeros0 : ∀ (n : Nat), crcR 0 (List.replicate n 0) = 0
  | 0 => rfl
  | n + 1 => by
    rw [List.replicate_succ]
    show crcR (crcB 0 0) _ = 0
    rw [show crcB 0 0 = 0 by decide]; exact crcR_zeros0 n
theorem xor_set : ∀ (A : List Nat) (i d : Nat), i < A.length → List.zipWith (· ^^^ ·) (A.set i (A.getD i 0 ^^^ d)) A = List.replicate i 0 ++ d :: List.replicate (A.length - (i + 1)) 0
  | [], i, d, h => by simp at h
  | a :: A, 0, d, h => by
    have hz : ∀ L : List Nat, List.zipWith (· ^^^ ·) L L = List.replicate L.length 0 := by
      intro L
      induction L with
      | nil => rfl
      | cons x L ih => rw [List.zipWith_cons_cons, ih, Nat.xor_self]; rfl
    simp only [List.getD_cons_zero, List.set_cons_zero, List.zipWith_cons_cons, List.replicate_zero, List.nil_append, List.length_cons, hz]
    congr 1
    rw [Nat.xor_comm a d, Nat.xor_assoc, Nat.xor_self, Nat.xor_zero]
  | a :: A, i + 1, d, h => by
    simp only [List.length_cons, Nat.add_lt_add_iff_right] at h
    simp only [List.getD_cons_succ, List.set_cons_succ, List.zipWith_cons_cons, Nat.xor_self, List.replicate_succ, List.cons_append, List.length_cons]
    rw [xor_set A i d h]
    congr 3; congr 1; omega
theorem xor_fit {a d : Nat} (h1 : a ≤ 255) (h2 : d ≤ 255) : a ^^^ d ≤ 255 := Nat.le_of_lt_succ (Nat.xor_lt_two_pow (n := 8) (by omega) (by omega))
theorem set_fit {A : List Nat} {i z : Nat} (hA : ∀ x ∈ A, x ≤ 255) (hz : z ≤ 255) : ∀ x ∈ A.set i z, x ≤ 255 := fun x hx => by
  rcases List.mem_or_eq_of_mem_set hx with h | h
  · exact hA x h
  · omega
theorem getD_le {A : List Nat} (hA : ∀ x ∈ A, x ≤ 255) (i : Nat) : A.getD i 0 ≤ 255 := by
  rw [List.getD_eq_getElem?_getD]
  rcases Nat.lt_or_ge i A.length with h | h
  · rw [List.getElem?_eq_getElem h]; exact hA _ (List.getElem_mem _)
  · rw [List.getElem?_eq_none h]; simp
/-- one byte as another one -/
theorem crcR_other {A : List Nat} (hA : ∀ x ∈ A, x ≤ 255) {i d r : Nat} (hr : r < 4294967296) (hi : i < A.length) (hd : d ≤ 255) (h0 : d ≠ 0) : crcR r (A.set i (A.getD i 0 ^^^ d)) ≠ crcR r A := by
  intro e
  have h := crcR_xor (A.set i (A.getD i 0 ^^^ d)) A r r (by simp)
  rw [Nat.xor_self, e, Nat.xor_self, xor_set A i d hi] at h
  have e1 : crcR 0 (List.replicate i 0 ++ d :: List.replicate (A.length - (i + 1)) 0) = crcR (crcB (crcR 0 (List.replicate i 0)) d) (List.replicate (A.length - (i + 1)) 0) := by simp [crcR, List.foldl_append]
  rw [e1, crcR_zeros0] at h
  have e2 : crcB 0 d = crcI 8 d := by
    unfold crcB crcT; simp
  rw [e2] at h
  exact crcR_zeros_ne _ (crcI_lt 8 (by omega)) (crcI_ne 8 (by omega) h0) h
theorem crcM_other {A : List Nat} (hA : ∀ x ∈ A, x ≤ 255) {i d : Nat} (hi : i < A.length) (hd : d ≤ 255) (h0 : d ≠ 0) : crcM 0 (A.set i (A.getD i 0 ^^^ d)) ≠ crcM 0 A := by
  intro e
  unfold crcM at e
  have h1 := crcR_lt A (r := 4294967295 - 0) (by omega) hA
  have h2 := crcR_lt (A.set i (A.getD i 0 ^^^ d)) (r := 4294967295 - 0) (by omega) (set_fit hA (xor_fit (getD_le hA i) hd))
  exact crcR_other hA (r := 4294967295 - 0) (by omega) hi hd h0 (by omega)
theorem crcM_app {A B : List Nat} (hA : ∀ x ∈ A, x ≤ 255) : crcM (crcM 0 A) B = crcM 0 (A ++ B) := by
  unfold crcM
  have h1 := crcR_lt A (r := 4294967295 - 0) (by omega) hA
  rw [show 4294967295 - (4294967295 - crcR (4294967295 - 0) A) = crcR (4294967295 - 0) A by omega]
  simp [crcR, List.foldl_append]
/-! exclusive-ors, one by one -/
def xorU (A B : List Nat) (i : Nat) : List Nat := (List.zipWith (· ^^^ ·) A B).take i ++ List.replicate (A.length - i) 0
theorem xorU_zero (A B : List Nat) : List.replicate A.length 0 = xorU A B 0 := by simp [xorU]
theorem xorU_len {A B : List Nat} (hl : A.length = B.length) {i : Nat} (h : i ≤ A.length) : (xorU A B i).length = A.length := by
  simp only [xorU, List.length_append, List.length_take, List.length_zipWith, List.length_replicate]; omega
theorem xorU_all {A B : List Nat} (hl : A.length = B.length) : xorU A B A.length = List.zipWith (· ^^^ ·) A B := by
  simp only [xorU, Nat.sub_self, List.replicate_zero, List.append_nil]
  rw [List.take_of_length_le (by rw [List.length_zipWith]; omega)]
theorem xorU_set {A B : List Nat} (hl : A.length = B.length) {i : Nat} (h : i < A.length) : (xorU A B i).set i (A.getD i 0 ^^^ B.getD i 0) = xorU A B (i + 1) := by
  have hz : i < (List.zipWith (· ^^^ ·) A B).length := by rw [List.length_zipWith]; omega
  unfold xorU
  rw [List.set_append_right _ _ (by rw [List.length_take]; omega), List.length_take, Nat.min_eq_left (by omega), Nat.sub_self, show A.length - i = (A.length - (i + 1)) + 1 by omega, List.replicate_succ, List.set_cons_zero, List.take_succ_eq_append_getElem hz, List.append_assoc]
  congr 1
  rw [List.getElem_zipWith, List.getD_eq_getElem?_getD, List.getD_eq_getElem?_getD, List.getElem?_eq_getElem h, List.getElem?_eq_getElem (by omega : i < B.length)]
  rfl
theorem zip_fit {A B : List Nat} (hA : ∀ x ∈ A, x ≤ 255) (hB : ∀ x ∈ B, x ≤ 255) : ∀ x ∈ List.zipWith (· ^^^ ·) A B, x ≤ 255 := by
  intro x hx
  obtain ⟨i, hi, rfl⟩ := List.getElem_of_mem hx
  rw [List.getElem_zipWith]
  exact xor_fit (hA _ (List.getElem_mem _)) (hB _ (List.getElem_mem _))
theorem xorU_fit {A B : List Nat} (hA : ∀ x ∈ A, x ≤ 255) (hB : ∀ x ∈ B, x ≤ 255) (i : Nat) : ∀ x ∈ xorU A B i, x ≤ 255 := by
  intro x hx
  rcases List.mem_append.1 hx with h | h
  · exact zip_fit hA hB x (List.mem_of_mem_take h)
  · rw [List.eq_of_mem_replicate h]; exact Nat.zero_le _
theorem rep_fit255 (n : Nat) : ∀ x ∈ List.replicate n 0, x ≤ 255 := fun x hx => by rw [List.eq_of_mem_replicate hx]; exact Nat.zero_le _
theorem sum_law {A B : List Nat} (hA : ∀ x ∈ A, x ≤ 255) (hB : ∀ x ∈ B, x ≤ 255) (hl : A.length = B.length) : crcM 0 A ^^^ crcM 0 B = crcM 0 (xorU A B A.length) ^^^ crcM 0 (List.replicate A.length 0) := by
  rw [crcM_xor hA hB hl, crcM_xor (xorU_fit hA hB _) (rep_fit255 _) (by rw [xorU_len hl (Nat.le_refl _), List.length_replicate]), xorU_all hl]
  congr 1
  have : ∀ L : List Nat, List.zipWith (· ^^^ ·) L (List.replicate L.length 0) = L := by
    intro L
    induction L with
    | nil => rfl
    | cons x L ih => simp [List.replicate_succ, ih]
  have h2 := this (List.zipWith (· ^^^ ·) A B)
  rw [List.length_zipWith, ← hl, Nat.min_self] at h2
  exact h2.symm
/-! a number into a row of one's own -/
variable {P : Program} {ops : Array Oper} {Q : Exit → Act → World → Prop} {rest : List Oper} {o : Oper} {n : Nat} {l : Asc} {G : Nat → Value} {D : List Deferred} {w w0 : World} {S : List Nat}
theorem s_storeG {t e : TypeId} {i j z : Nat} {k : IntKind} {x y : Operand} {a : Option Addr} {cap : Nat} {L : List Nat} {hv : Hp} {Lp : List Hp} (hg : o.guard = none) (hd : o.dst = none) (ho : o.op = .store t x y) (h1 : One P t = true)
    (hx : Ev n l x (.pointer (some ⟨(adr a).block, (adr a).off + j, none⟩))) (hy : Ev n l y (.int k (z : Nat))) (hG : Gr k e a cap L hv) (hj : j < L.length) (hS : St w0 S (fl Lp) w) (hp : Lp[i]? = some hv)
    (kk : ∀ hv' w', Gr k e a cap (L.set j z) hv' → St w0 S (fl (Lp.set i hv')) w' → wpList P ops Q rest (fr n l G D) w') : wpList P ops Q (o :: rest) (fr n l G D) w := by
  have hself := hS.give [i] (xs := [hv]) (by simp [hp]) (by simp)
  have fin : ∀ {hv' w'}, St w (keys (fl [hv])) (fl ([hv'] ++ [])) w' → St w0 S (fl (Lp.set i hv')) w' := fun t => hS.callL [i] (xs := [hv]) (by simp [hp]) (by simp) t rfl (by simp [setAll])
  rcases hG with ⟨rfl, rfl, rfl, rfl⟩ | ⟨b, X, rfl, rfl, hc1, hc2⟩
  · simp at hj
  · have hown := hS.own (b, _) (mem_fl hp (List.mem_singleton.2 rfl))
    simp only at hown
    have hx' : Ev n l x (.pointer (some ⟨b, j, none⟩)) := by simpa [adr] using hx
    have hcell : w.cell? ⟨b, j, none⟩ = some (.int k ((L ++ X).getD j 0 : Nat)) := by
      have := encN_get (k := k) (L := L ++ X) (j := j) (by rw [List.length_append]; omega)
      simp [World.cell?, hown, this]
    have hfz : w.frozen? ⟨b, j, none⟩ = false := by simp [World.frozen?, hown]
    refine s_run0 (w' := w.setCell ⟨b, j, none⟩ (.int k (z : Nat))) hg hd ?_ (kk _ _ (.inr ⟨b, X, rfl, rfl, by rw [List.length_set]; exact hc1, by rw [List.length_set]; exact hc2⟩) (fin ?_))
    · unfold execOp; rw [ho]
      simp [hx' G D, hy G D, Instr.storeAt, Instr.sureAddr, run_store (v := .int k (z : Nat)) h1 rfl hcell hfz]
    · have := hself.setCell (m := 0) (i := j) (.int k (z : Nat)) rfl
      have he : (encN k (L ++ X)).setIfInBounds j (.int k (z : Nat)) = encN k (L.set j z ++ X) := by rw [← List.set_append_left _ _ hj]; exact encN_set
      rw [he] at this
      simpa [fl] using this
end Go.Proofs.Ytdmiklegahdafaa.K

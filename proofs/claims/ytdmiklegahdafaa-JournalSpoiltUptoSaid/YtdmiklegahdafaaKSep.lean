/- The engine: worlds as lists of pieces; what is read out of a piece. -/
import Derived.Test.YtdmiklegahdafaaKRow
namespace Go.Proofs.Ytdmiklegahdafaa.K
open Go Go.RowKit

set_option linter.unusedSimpArgs false
set_option linter.unusedVariables false
variable {P : Program} {ops : Array Oper} {Q : Exit → Act → World → Prop} {rest : List Oper} {o : Oper} {n : Nat} {l : Asc} {G : Nat → Value} {D : List Deferred} {w w' w0 : World} {S : List Nat} {h : Hp} {C : World → Prop}

abbrev fl (L : List Hp) : Hp := L.flatten
theorem fl_cons {x : Hp} {L : List Hp} : fl (x :: L) = x ++ fl L := rfl
theorem fl_append {L M : List Hp} : fl (L ++ M) = fl L ++ fl M := List.flatten_append ..
abbrev keys (h : Hp) : List Nat := h.map (·.1)

theorem St.perm2 {h' : Hp} (s : St w0 S h w) (p : h.Perm h') : St w0 S h' w :=
  ⟨s.os, s.tape, s.output, s.size, fun x hx => s.own x (p.mem_iff.2 hx), (p.map _).nodup_iff.1 s.nodup, fun x hx => s.place x (p.mem_iff.2 hx), s.old⟩
/-- a callee was given some of the pieces -/
theorem St.frame {K K' R : Hp} (s : St w0 S (K ++ R) w) (t : St w (keys K) K' w') : St w0 S (K' ++ R) w' := by
  have hn := s.nodup
  rw [List.map_append, List.nodup_append] at hn
  obtain ⟨_, nR, nKR⟩ := hn
  have hR : ∀ p ∈ R, p.1 ∉ keys K := fun p hp q => nKR _ q _ (List.mem_map.2 ⟨p, hp, rfl⟩) rfl
  refine ⟨t.os.trans s.os, t.tape.trans s.tape, t.output.trans s.output, Nat.le_trans s.size t.size, ?_, ?_, ?_, ?_⟩
  · intro p hp
    rcases List.mem_append.1 hp with hp | hp
    · exact t.own p hp
    · rw [t.old _ (s.lt (List.mem_append_right _ hp)) (hR p hp)]; exact s.own p (List.mem_append_right _ hp)
  · rw [List.map_append, List.nodup_append]
    refine ⟨t.nodup, nR, ?_⟩
    intro a ha b hb e
    subst e
    obtain ⟨p, hp, rfl⟩ := List.mem_map.1 ha
    obtain ⟨q, hq, e⟩ := List.mem_map.1 hb
    rcases t.place p hp with k | k
    · exact hR q hq (e ▸ k)
    · have := s.lt (List.mem_append_right _ hq); omega
  · intro p hp
    rcases List.mem_append.1 hp with hp | hp
    · rcases t.place p hp with k | k
      · obtain ⟨q, hq, e⟩ := List.mem_map.1 k
        rw [← e]; exact s.place q (List.mem_append_left _ hq)
      · right; have := s.size; omega
    · exact s.place p (List.mem_append_right _ hp)
  · intro k hk hS
    have h1 : k ∉ keys K := fun q => by
      obtain ⟨p, hp, e⟩ := List.mem_map.1 q
      rcases s.place p (List.mem_append_left _ hp) with z | z
      · exact hS (e ▸ z)
      · omega
    rw [t.old k (by have := s.size; omega) h1]; exact s.old k hk hS

def setAll : List Hp → List Nat → List Hp → List Hp
  | L, i :: is, x :: xs => setAll (L.set i x) is xs
  | L, _, _ => L
theorem fl_set {L : List Hp} {i : Nat} {y : Hp} (hi : i < L.length) : (fl (L.set i y)).Perm (y ++ fl (L.set i [])) := by
  induction L generalizing i with
  | nil => simp at hi
  | cons x r ih =>
    cases i with
    | zero => simp
    | succ i =>
      simp only [List.set_cons_succ, List.flatten_cons]
      have := ih (i := i) (by simpa using hi)
      refine (List.Perm.append_left x this).trans ?_
      rw [← List.append_assoc, ← List.append_assoc]
      exact List.perm_append_comm.append_right _
theorem setAll_set {i : Nat} {y : Hp} : ∀ {is : List Nat} {L : List Hp} {ys : List Hp}, i ∉ is → setAll (L.set i y) is ys = (setAll L is ys).set i y
  | [], L, ys, _ => by cases ys <;> rfl
  | j :: is, L, [], _ => rfl
  | j :: is, L, z :: ys, hn => by
    have hij : i ≠ j := fun e => hn (by simp [e])
    show setAll ((L.set i y).set j z) is ys = _
    rw [List.set_comm _ _ hij, setAll_set (fun q => hn (by simp [q]))]
    rfl
theorem setAll_length : ∀ {is : List Nat} {L : List Hp} {ys : List Hp}, (setAll L is ys).length = L.length
  | [], L, ys => by cases ys <;> rfl
  | j :: is, L, [] => rfl
  | j :: is, L, z :: ys => by show (setAll (L.set j z) is ys).length = _; rw [setAll_length, List.length_set]
theorem split_all : ∀ {is : List Nat} {L xs : List Hp}, is.map (fun i => L[i]?) = xs.map some → is.Nodup →
    ∃ R, (fl L).Perm (fl xs ++ R) ∧ ∀ ys : List Hp, ys.length = xs.length → (fl (setAll L is ys)).Perm (fl ys ++ R)
  | [], L, [], _, _ => ⟨fl L, by simp, fun ys hy => by
      have : ys = [] := List.length_eq_zero_iff.1 hy
      subst this; simp [setAll]⟩
  | [], L, x :: xs, h, _ => by simp at h
  | i :: is, L, [], h, _ => by simp at h
  | i :: is, L, x :: xs, h, hn => by
    simp only [List.map_cons, List.cons.injEq] at h
    obtain ⟨h1, h2⟩ := h
    obtain ⟨hn1, hn2⟩ := List.nodup_cons.1 hn
    have hi : i < L.length := (List.getElem?_eq_some_iff.1 h1).1
    have h2' : is.map (fun j => (L.set i [])[j]?) = xs.map some := by
      rw [← h2]
      apply List.map_congr_left
      intro j hj
      rw [List.getElem?_set_ne (fun e : i = j => hn1 (by rw [e]; exact hj))]
    obtain ⟨R, hR1, hR2⟩ := split_all h2' hn2
    have e1 : L = L.set i x := by
      apply List.ext_getElem?
      intro j
      rw [List.getElem?_set]
      by_cases e : i = j
      · subst e; rw [if_pos rfl, if_pos hi, h1]
      · rw [if_neg e]
    refine ⟨R, ?_, ?_⟩
    · have := fl_set (L := L) (y := x) hi
      rw [← e1] at this
      refine this.trans ?_
      rw [fl_cons, List.append_assoc]
      exact hR1.append_left x
    · intro ys hy
      cases ys with
      | nil => simp at hy
      | cons y ys =>
        show (fl (setAll (L.set i y) is ys)).Perm _
        rw [setAll_set hn1]
        refine (fl_set (by rw [setAll_length]; exact hi)).trans ?_
        rw [← setAll_set hn1, fl_cons, List.append_assoc]
        exact (hR2 ys (by simpa using hy)).append_left y
/-- a call: it was given the pieces xs; it left xs' in their places, and made zs -/
theorem St.callL {L L' xs xs' zs : List Hp} {w' : World} (is : List Nat) (s : St w0 S (fl L) w) (hi : is.map (fun i => L[i]?) = xs.map some) (hn : is.Nodup) (t : St w (keys (fl xs)) (fl (xs' ++ zs)) w') (hl : xs'.length = xs.length)
    (hL : setAll L is xs' ++ zs = L') : St w0 S (fl L') w' := by
  subst hL
  obtain ⟨R, h1, h2⟩ := split_all hi hn
  have s1 := (s.perm2 h1).frame t
  refine s1.perm2 ?_
  rw [fl_append, fl_append, List.append_assoc]
  refine List.Perm.trans ?_ ((h2 xs' hl).symm.append_right _)
  rw [List.append_assoc]
  exact List.perm_append_comm.append_left _
/-- some pieces, in whatever order -/
theorem St.pick {L ys : List Hp} (is : List Nat) (s : St w0 S (fl L) w) (hi : is.map (fun i => L[i]?) = ys.map some) (hn : is.Nodup) : St w0 S (fl ys) w := by
  obtain ⟨R, h1, _⟩ := split_all hi hn
  exact (s.perm2 h1).weaken _ (List.sublist_append_left ..)
theorem St.give {L xs : List Hp} (is : List Nat) (s : St w0 S (fl L) w) (hi : is.map (fun i => L[i]?) = xs.map some) (hn : is.Nodup) : St w (keys (fl xs)) (fl xs) w := by
  have s1 := s.pick is hi hn
  exact ⟨rfl, rfl, rfl, Nat.le_refl _, s1.own, s1.nodup, fun p hp => .inl (List.mem_map.2 ⟨p, hp, rfl⟩), fun _ _ _ => rfl⟩
theorem St.push {L L' : List Hp} {p : Nat × Obj} (k : Nat) (s : St w0 S (fl L ++ [p]) w) (hL : L.take k ++ [p] :: L.drop k = L') : St w0 S (fl L') w := by
  subst hL
  refine s.perm2 ?_
  have e : fl L = fl (L.take k) ++ fl (L.drop k) := by
    conv => lhs; rw [← List.take_append_drop k L]
    exact List.flatten_append ..
  rw [e, fl_append, fl_cons, List.append_assoc]
  exact List.perm_append_comm.append_left _
/-- two pieces become one -/
theorem St.merge {L L' : List Hp} {x y : Hp} (i j : Nat) (s : St w0 S (fl L) w) (hi : L[i]? = some x) (hj : L[j]? = some y) (hij : Nat.beq i j = false) (hL : (L.set i (x ++ y)).set j [] = L') : St w0 S (fl L') w := by
  have hne : i ≠ j := fun e => by subst e; rw [Nat.beq_refl] at hij; cases hij
  obtain ⟨R, h1, h2⟩ := split_all (L := L) (is := [i, j]) (xs := [x, y]) (by simp [hi, hj]) (by simp [hne])
  have := h2 [x ++ y, []] rfl
  subst hL
  refine s.perm2 (h1.trans ?_)
  refine List.Perm.trans ?_ this.symm
  simp
theorem St.re {L L' : List Hp} (s : St w0 S (fl L) w) (e : fl L = fl L') : St w0 S (fl L') w := e ▸ s

/-! what a piece holds -/
/-- the blocks of hv stand in the world as they stood, and are not written -/
def Old (w0 : World) (S : List Nat) (hv : Hp) : Prop := ∀ p ∈ hv, w0.heap[p.1]? = some p.2 ∧ p.1 ∉ S
theorem Old.none {w0 : World} {S : List Nat} : Old w0 S [] := by intro p hp; cases hp
/-- hv's blocks are there -/
def Has (w : World) (hv : Hp) : Prop := ∀ p ∈ hv, w.heap[p.1]? = some p.2
theorem Old.has {hv : Hp} (o : Old w0 S hv) (s : St w0 S h w) : Has w hv := by
  intro p hp
  obtain ⟨h1, h2⟩ := o p hp
  have hlt : p.1 < w0.heap.size := by
    rcases Nat.lt_or_ge p.1 w0.heap.size with q | q
    · exact q
    · rw [Array.getElem?_eq_none q] at h1; cases h1
  rw [s.old _ hlt h2]; exact h1
theorem mem_fl {L : List Hp} {i : Nat} {hv : Hp} (hi : L[i]? = some hv) {p : Nat × Obj} (hp : p ∈ hv) : p ∈ fl L := List.mem_flatten.2 ⟨hv, List.mem_of_getElem? hi, hp⟩
theorem St.has {L : List Hp} {i : Nat} {hv : Hp} (s : St w0 S (fl L) w) (hi : L[i]? = some hv) : Has w hv := fun p hp => s.own p (mem_fl hi hp)
theorem Old.of_old {L xs : List Hp} {hv : Hp} (is : List Nat) (o : Old w0 S hv) (s : St w0 S (fl L) w) (hi : is.map (fun i => L[i]?) = xs.map some) (hn : is.Nodup) : Old w (keys (fl xs)) hv := by
  intro p hp
  refine ⟨o.has s p hp, fun q => ?_⟩
  obtain ⟨h1, h2⟩ := o p hp
  obtain ⟨r, hr, e⟩ := List.mem_map.1 q
  rcases (s.pick is hi hn).place r hr with k | k
  · exact h2 (e ▸ k)
  · have hlt : p.1 < w0.heap.size := by
      rcases Nat.lt_or_ge p.1 w0.heap.size with q | q
      · exact q
      · rw [Array.getElem?_eq_none q] at h1; cases h1
    omega
theorem Old.of_piece {L xs : List Hp} {hv : Hp} {i : Nat} (is : List Nat) (s : St w0 S (fl L) w) (hv_ : L[i]? = some hv) (hi : is.map (fun i => L[i]?) = xs.map some) (hn : (i :: is).Nodup) : Old w (keys (fl xs)) hv := by
  have s1 := s.pick (i :: is) (ys := hv :: xs) (by simp [hv_, hi]) hn
  intro p hp
  refine ⟨s1.own p (by simp [hp]), fun q => ?_⟩
  have := s1.nodup
  rw [fl_cons, List.map_append, List.nodup_append] at this
  exact this.2.2 _ (List.mem_map.2 ⟨p, hp, rfl⟩) _ q rfl

/-- the slice (a, cap) reads L out of hv -/
structure Sl (k : IntKind) (a : Option Addr) (cap : Nat) (L : List Nat) (hv : Hp) : Prop where
  le : L.length ≤ cap
  most : L.length ≤ 9223372036854775807
  fit : ∀ x ∈ L, x ≤ maxK k
  at_ : ∀ j, j < L.length → a = some ⟨(adr a).block, (adr a).off, none⟩ ∧ ∃ c T f, ((adr a).block, Obj.cells c T f) ∈ hv ∧ c[(adr a).off + j]? = some (.int k (L.getD j 0 : Nat))
theorem Sl.nil {k : IntKind} {hv : Hp} : Sl k none 0 [] hv := ⟨Nat.le_refl _, by simp, by simp, fun j hj => by simp at hj⟩
theorem Sl.empty {k : IntKind} {a : Option Addr} {cap : Nat} {hv : Hp} : Sl k a cap [] hv := ⟨Nat.zero_le _, by simp, by simp, fun j hj => by simp at hj⟩
theorem Sl.lt {k : IntKind} {a : Option Addr} {cap : Nat} {A : List Nat} {hv : Hp} (hr : Sl k a cap A hv) (j : Nat) : A.getD j 0 ≤ maxK k := by
  rcases Nat.lt_or_ge j A.length with h | h
  · rw [List.getD_eq_getElem?_getD, List.getElem?_eq_getElem h]; exact hr.fit _ (List.getElem_mem h)
  · rw [List.getD_eq_getElem?_getD, List.getElem?_eq_none h]; exact Nat.zero_le _
theorem Sl.mono {k : IntKind} {a : Option Addr} {cap : Nat} {A : List Nat} {hv hv' : Hp} (hr : Sl k a cap A hv) (hs : ∀ p ∈ hv, p ∈ hv') : Sl k a cap A hv' :=
  ⟨hr.le, hr.most, hr.fit, fun j hj => by obtain ⟨h1, c, T, f, h2, h3⟩ := hr.at_ j hj; exact ⟨h1, c, T, f, hs _ h2, h3⟩⟩
theorem Sl.cell_has {k : IntKind} {a : Option Addr} {cap : Nat} {A : List Nat} {hv : Hp} (hr : Sl k a cap A hv) (hh : Has w hv) {j : Nat} (hj : j < A.length) : w.cell? ⟨(adr a).block, (adr a).off + j, none⟩ = some (.int k (A.getD j 0 : Nat)) := by
  obtain ⟨_, c, T, f, h2, h3⟩ := hr.at_ j hj
  have := hh _ h2
  simp only at this
  simp [World.cell?, this, h3]
theorem Sl.rd_has {k : IntKind} {a : Option Addr} {cap : Nat} {A : List Nat} {hv : Hp} (hr : Sl k a cap A hv) (hh : Has w hv) : Rd w k a cap A :=
  ⟨hr.le, hr.most, fun j hj => by
    obtain ⟨h1, c, T, f, h2, _⟩ := hr.at_ j hj
    have := hh _ h2
    simp only at this
    refine ⟨h1, ?_, hr.cell_has hh hj⟩
    rcases Nat.lt_or_ge (adr a).block w.heap.size with q | q
    · exact q
    · rw [Array.getElem?_eq_none q] at this; exact absurd this (by simp), hr.fit⟩
theorem Sl.cell_p {k : IntKind} {a : Option Addr} {cap i : Nat} {A : List Nat} {hv : Hp} {L : List Hp} (hr : Sl k a cap A hv) (hi : L[i]? = some hv) {j : Nat} (hj : j < A.length) : ∀ w, St w0 S (fl L) w → w.cell? ⟨(adr a).block, (adr a).off + j, none⟩ = some (.int k (A.getD j 0 : Nat)) :=
  fun w s => hr.cell_has (s.has hi) hj
theorem Sl.cell_o {k : IntKind} {a : Option Addr} {cap : Nat} {A : List Nat} {hv : Hp} (hr : Sl k a cap A hv) (ho : Old w0 S hv) {j : Nat} (hj : j < A.length) : ∀ w, St w0 S h w → w.cell? ⟨(adr a).block, (adr a).off + j, none⟩ = some (.int k (A.getD j 0 : Nat)) :=
  fun w s => hr.cell_has (ho.has s) hj
theorem r_ixl {t e : TypeId} {x y : Operand} {a : Option Addr} {cap len : Nat} {A : List Nat} {kk k : IntKind} {i : Int} {j by_ : Nat} {z : Value} {hv : Hp} (ho : o.op = .indexAddr t x y) (ht : P.underlying t = some (.slice e)) (hi : TI P e z 1 by_)
    (hx : Ev n l x (.slice a len cap)) (hy : Ev n l y (.int k i)) (hr : Sl kk a cap A hv) (hl : A.length = len) (hj : i = (j : Int)) (hlt : j < len) : Rn P o n l C (.pointer (some ⟨(adr a).block, (adr a).off + j, none⟩)) := by
  subst hl
  have := (hr.at_ j hlt).1
  rw [this] at hx
  exact r_ixs ho ht hi hx hy hj hlt (by omega)

/-! cuts -/
def cutA (a : Option Addr) (lo m : Nat) : Option Addr := if lo = 0 ∨ m ≤ lo then a else a.map fun x => ⟨x.block, x.off + lo, none⟩
theorem Sl.cut {k : IntKind} {a : Option Addr} {cap lo hi m : Nat} {A : List Nat} {hv : Hp} (hr : Sl k a cap A hv) (h1 : lo ≤ hi) (h2 : hi ≤ A.length) (h3 : hi ≤ m) (h4 : m ≤ cap) : Sl k (cutA a lo m) (m - lo) ((A.take hi).drop lo) hv := by
  have hl : ((A.take hi).drop lo).length = hi - lo := by rw [List.length_drop, List.length_take]; omega
  refine ⟨by omega, by have := hr.most; omega, fun x hx => hr.fit x (List.mem_of_mem_take (List.mem_of_mem_drop hx)), fun j hj => ?_⟩
  rw [hl] at hj
  obtain ⟨e, c, T, f, q1, q2⟩ := hr.at_ (lo + j) (by omega)
  have hm : ¬ m ≤ lo := by omega
  have e1 : ((A.take hi).drop lo).getD j 0 = A.getD (lo + j) 0 := by
    rw [List.getD_eq_getElem?_getD, List.getD_eq_getElem?_getD, List.getElem?_drop, List.getElem?_take_of_lt (by omega)]
  rw [e1]
  by_cases h0 : lo = 0
  · subst h0
    have : cutA a 0 m = a := by simp [cutA]
    rw [this]
    exact ⟨e, c, T, f, q1, by rw [← q2]; congr 1; omega⟩
  · have : cutA a lo m = some ⟨(adr a).block, (adr a).off + lo, none⟩ := by
      unfold cutA
      rw [if_neg (by omega)]
      conv => lhs; rw [e]
      rfl
    rw [this]
    refine ⟨rfl, c, T, f, q1, ?_⟩
    show c[(adr a).off + lo + j]? = _
    rw [← q2]; congr 1; omega
theorem Sl.drop_ {k : IntKind} {a : Option Addr} {cap lo : Nat} {A : List Nat} {hv : Hp} (hr : Sl k a cap A hv) (h1 : lo ≤ A.length) : Sl k (cutA a lo cap) (cap - lo) (A.drop lo) hv := by
  have := hr.cut (lo := lo) (hi := A.length) (m := cap) h1 (Nat.le_refl _) hr.le (Nat.le_refl _)
  rwa [List.take_length] at this
theorem Sl.take_ {k : IntKind} {a : Option Addr} {cap hi m : Nat} {A : List Nat} {hv : Hp} (hr : Sl k a cap A hv) (h1 : hi ≤ A.length) (h3 : hi ≤ m) (h4 : m ≤ cap) : Sl k a m (A.take hi) hv := by
  have := hr.cut (lo := 0) (hi := hi) (m := m) (Nat.zero_le _) h1 h3 h4
  simpa [cutA] using this
theorem r_cutl {t e : TypeId} {x : Operand} {lo hi mx : Option Operand} {a : Option Addr} {len cap lw hh m by_ : Nat} {A : List Nat} {kk : IntKind} {hv : Hp} {z : Value} (ho : o.op = .slice t x lo hi mx) (ht : P.underlying t = some (.slice e)) (hi_ : TI P e z 1 by_) (hx : Ev n l x (.slice a len cap))
    (hr : Sl kk a cap A hv) (hl : A.length = len) (hlo : Cb n l lo 0 lw) (hhi : Cb n l hi len hh) (hmx : Cb n l mx cap m) (h1 : lw ≤ hh) (h2 : hh ≤ m) (h3 : m ≤ cap) (h4 : hh ≤ len) (hmh : mx.isSome = true → hi.isSome = true := by simp) : Rn P o n l C (.slice (cutA a lw m) (hh - lw) (m - lw)) := by
  by_cases h0 : lw = 0
  · subst h0
    intro G D w _; unfold execOp; rw [ho]
    have hb := run_bounds (P := P) (G := G) (D := D) (w := w) hlo hhi hmx hmh h1 h2 h3
    simp only [hx G D]
    have e : cutA a 0 m = a := by simp [cutA]
    rw [e]
    simp [Instr.sliceAt, Instr.slice, run_underlying ht, hb, run_sizeOf hi_]
    cases a <;> simp [Addr.add]
  · by_cases hm : m ≤ lw
    · intro G D w _; unfold execOp; rw [ho]
      have hb := run_bounds (P := P) (G := G) (D := D) (w := w) hlo hhi hmx hmh h1 h2 h3
      have e : cutA a lw m = a := by simp [cutA, hm]
      have e2 : m = lw := by omega
      simp only [hx G D]
      rw [e]
      simp [Instr.sliceAt, Instr.slice, run_underlying ht, hb, run_sizeOf hi_, e2]
    · have hpl := (hr.at_ 0 (by omega)).1
      have e : cutA a lw m = some ⟨(adr a).block, (adr a).off + lw, none⟩ := by
        unfold cutA
        rw [if_neg (by omega)]
        conv => lhs; rw [hpl]
        rfl
      rw [e]
      rw [hpl] at hx
      exact r_cut ho ht hi_ hx hlo hhi hmx h1 h2 h3 (by omega) (by omega) hmh
end Go.Proofs.Ytdmiklegahdafaa.K

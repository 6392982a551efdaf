/- What an argument reads as, told by the pieces of the heap as it stands before the call. -/
import Derived.Test.YtdmiklegahdafaaKArgs
import Derived.Test.YtdmiklegahdafaaKRows
namespace Go.Proofs.Ytdmiklegahdafaa.K
open Go Go.RowKit Go.Deep Go.ChangeShapes Go.WideShapes Go.ChangeAt
set_option linter.unusedVariables false
set_option linter.unusedSimpArgs false
variable {P : Program} {w : World} {H : Type} {enc : TypeId × Value → H} {α : Type}

/-- all that stands -/
def allH (w : World) : Hp := (List.range w.heap.size).map fun i => (i, w.heap.getD i (.cells #[] 0))
theorem allH_old : Old w [] (allH w) := by
  intro p hp
  obtain ⟨i, hi, rfl⟩ := List.mem_map.1 hp
  have hi' := List.mem_range.1 hi
  refine ⟨?_, by simp⟩
  simp only [Array.getD, hi', dif_pos]
  simp [hi']
theorem allH_mem {b : Nat} {ob : Obj} (h : w.heap[b]? = some ob) : (b, ob) ∈ allH w := by
  have hlt : b < w.heap.size := by
    rcases Nat.lt_or_ge b w.heap.size with q | q
    · exact q
    · rw [Array.getElem?_eq_none q] at h; cases h
  refine List.mem_map.2 ⟨b, List.mem_range.2 hlt, ?_⟩
  rw [Array.getElem?_eq_getElem hlt] at h
  simp only [Array.getD, hlt, dif_pos]
  cases h; rfl
theorem cell_in {b q : Nat} {v : Value} (h : w.cell? ⟨b, q, none⟩ = some v) : ∃ c T f, (b, Obj.cells c T f) ∈ allH w ∧ c[q]? = some v := by
  unfold World.cell? at h
  cases hb : w.heap[b]? with
  | none => rw [hb] at h; cases h
  | some ob =>
    rw [hb] at h
    cases ob with
    | cells c e f => exact ⟨c, e, f, allH_mem hb, by simpa using h⟩
    | _ => cases h
theorem Rd.sl {k : IntKind} {a : Option Addr} {cap : Nat} {L : List Nat} (h : Rd w k a cap L) : Sl k a cap L (allH w) :=
  ⟨h.le, h.most, h.fit, fun j hj => ⟨(h.at_ j hj).1, cell_in (h.at_ j hj).2.2⟩⟩
def AllB (B : DataW H → α → Prop) : List (DataW H) → List α → Prop
  | [], [] => True
  | d :: ds, y :: ys => B d y ∧ AllB B ds ys
  | _, _ => False
theorem AllB.map_range {B : DataW H → α → Prop} {D : Nat → DataW H} {F : Nat → α} : ∀ (n m : Nat), (∀ i, m ≤ i → i < m + n → B (D i) (F i)) → AllB B ((List.range' m n).map D) ((List.range' m n).map F)
  | 0, _, _ => trivial
  | n + 1, m, h => by
    simp only [List.range'_succ, List.map_cons]
    exact ⟨h m (Nat.le_refl _) (by omega), AllB.map_range n (m + 1) fun i h1 h2 => h i (by omega) (by omega)⟩
/-- a slice whose elements are one cell each -/
theorem rwv_of_trod {t e : TypeId} {fuel : Nat} {v : Value} {x : DataW H × List MemPlace} {R : α → Value → Hp → Prop} {B : DataW H → α → Prop} [Inhabited α] (ht : P.underlying t = some (.slice e)) (hce : P.cellsOf e = 1)
    (hel : ∀ (fuel : Nat) (v : Value) (x : DataW H × List MemPlace), DataW.trod enc P w 0 (fun _ => true) true fuel e [v] = some x → ∃ y, R y v (allH w) ∧ B x.1 y)
    (h : DataW.trod enc P w 0 (fun _ => true) true fuel t [v] = some x) : ∃ a cap us LL, v = .slice a (List.length LL) cap ∧ RwV R a cap us LL (allH w) ∧ ((x.1 = .nil ∧ LL = []) ∨ ∃ es sp, x.1 = .slice es sp ∧ AllB B es LL) := by
  rcases open_slice1 ht hce h with ⟨hcs, hx0⟩ | ⟨a, len, cap, m, n, V, D, Pl, hcs, _, hl, hm, hmm, hx1, hx⟩
  · simp at hcs
    exact ⟨none, 0, [], [], hcs, ⟨SlV.nil, trivial⟩, .inl ⟨by rw [hx0], rfl⟩⟩
  · simp at hcs hmm
    obtain rfl : cap = m := hmm.symm
    have hex : ∀ i, ∃ y : α, i < len → R y (V i) (allH w) ∧ B (D i) y := by
      intro i
      by_cases hi : i < len
      · obtain ⟨y, h1, h2⟩ := hel _ _ _ (hx i (by omega)).2
        exact ⟨y, fun _ => ⟨h1, h2⟩⟩
      · exact ⟨default, fun h => absurd h hi⟩
    obtain ⟨F, hF⟩ := Classical.skolem.1 hex
    have hall : ∀ (n m : Nat), m + n ≤ len → All2 R (allH w) ((List.range' m n).map F) ((List.range' m n).map V) := by
      intro n
      induction n with
      | zero => intro m _; exact trivial
      | succ n ih => intro m hm; simp only [List.range'_succ, List.map_cons]; exact ⟨(hF m (by omega)).1, ih (m + 1) (by omega)⟩
    refine ⟨some a, cap, (List.range len).map V, (List.range len).map F, by rw [hcs]; simp, ⟨⟨by simpa using hl, by simp; unfold maxLen at hm; omega, fun j hj => ?_⟩, ?_⟩, .inr ⟨_, _, by rw [hx1], ?_⟩⟩
    · have hj' : j < len := by simpa using hj
      have hp := cell_plain (hx 0 (by omega)).1
      have ha : a.add 0 = a := rfl
      rw [ha] at hp
      have haj : a.add j = ⟨a.block, a.off + j, none⟩ := by
        rw [hp.1]
        exact add_none _ _ _
      have hc := (hx j (by omega)).1
      rw [haj] at hc
      obtain ⟨c, T, f, h1, h2⟩ := cell_in hc
      exact ⟨by rw [show adr (some a) = a from rfl, ← hp.1], c, T, f, h1, by simpa [adr] using h2⟩
    · have := hall len 0 (by omega)
      rwa [← List.range_eq_range'] at this
    · have := AllB.map_range (B := B) (D := D) (F := F) len 0 (fun i _ hi => (hF i (by omega)).2)
      rwa [← List.range_eq_range'] at this
/-- a row of bytes -/
theorem r1_of_trod {t e : TypeId} (ht : P.underlying t = some (.slice e)) (he : P.underlying e = some (.int .u8)) (hc : P.cellsOf e = 1) (fuel : Nat) (v : Value) (x : DataW H × List MemPlace)
    (h : DataW.trod enc P w 0 (fun _ => true) true fuel t [v] = some x) : ∃ y, R1 y v (allH w) ∧ ((x.1 = .nil ∧ y = []) ∨ ∃ es sp, x.1 = .slice es sp ∧ es.length = y.length) := by
  rcases open_ints ht he hc h with ⟨hcs, hx0⟩ | ⟨a, len, cap, zs, hcs, _, hl, hm, hz, hx1, hcell, hwz⟩
  · simp at hcs
    exact ⟨[], ⟨none, 0, hcs, Sl.nil⟩, .inl ⟨by rw [hx0], rfl⟩⟩
  · obtain ⟨a', cap', L, hv, hR⟩ := row_of_trod ht he hc wf_u8 h
    refine ⟨L, ⟨a', cap', hv, hR.sl⟩, .inr ⟨_, _, by rw [hx1], ?_⟩⟩
    simp at hcs
    rw [hcs] at hv
    simp only [Value.slice.injEq] at hv
    have : (zs.take len).length = len := by simp at hz; simp; omega
    simp [lits] at *
    omega
theorem R2.of {y : List (List Nat)} {v : Value} {a : Option Addr} {cap : Nat} {us : List Value} (hv : v = .slice a y.length cap) (h : RwV R1 a cap us y (allH w)) : R2 y v (allH w) := ⟨a, cap, hv, us, h⟩
end Go.Proofs.Ytdmiklegahdafaa.K

/- What an argument reads as: rows of numbers, rows of rows, structs of rows. -/
import Derived.Test.YtdmiklegahdafaaKFits
import Derived.ProofKit
import Derived.Deep.Slices
import Derived.Lib.SmallJoins
import Derived.OpenShut
namespace Go.Proofs.Ytdmiklegahdafaa.K
open Go Go.RowKit Go.Deep Go.ChangeShapes Go.WideShapes Go.ChangeAt
set_option linter.unusedVariables false
set_option linter.unusedSimpArgs false

variable {P : Program} {w : World} {H : Type} {enc : TypeId × Value → H}

theorem cell_plain {a : Addr} {v : Value} (h : w.cell? a = some v) : a = ⟨a.block, a.off, none⟩ ∧ a.block < w.heap.size := by
  unfold World.cell? at h
  cases hb : w.heap[a.block]? with
  | none => rw [hb] at h; cases h
  | some ob =>
    have hlt : a.block < w.heap.size := by
      rcases Nat.lt_or_ge a.block w.heap.size with q | q
      · exact q
      · rw [Array.getElem?_eq_none q] at hb; cases hb
    rw [hb] at h
    cases ob with
    | cells c e f =>
      simp only at h
      by_cases hs : a.spot.isSome = true
      · simp [hs] at h
      · refine ⟨?_, hlt⟩
        have : a.spot = none := by cases hq : a.spot <;> simp [hq] at hs ⊢
        cases a
        simp at this
        rw [this]
    | _ => cases h
theorem row_of_trod {t e : TypeId} {fuel : Nat} {v : Value} {x : DataW H × List MemPlace} {k : IntKind} (ht : P.underlying t = some (.slice e)) (he : P.underlying e = some (.int k)) (hc : P.cellsOf e = 1)
    (hk : ∀ n : Int, (Lit.int k n).wf = true → 0 ≤ n ∧ n.toNat ≤ maxK k) (h : DataW.trod enc P w 0 (fun _ => true) true fuel t [v] = some x) : ∃ a cap L, v = .slice a (List.length L) cap ∧ Rd w k a cap L := by
  rcases open_ints ht he hc h with ⟨hcs, _⟩ | ⟨a, len, cap, zs, hcs, _, hl, hm, hz, _, hcell, hwz⟩
  · simp at hcs
    exact ⟨none, 0, [], hcs, Rd.nil⟩
  · simp at hcs hz
    refine ⟨some a, cap, (zs.take len).map Int.toNat, by rw [hcs]; simp [hz]; omega, ?_⟩
    have hL : ((zs.take len).map Int.toNat).length = len := by simp [hz]; omega
    refine ⟨by omega, by rw [hL]; unfold maxLen at hm; omega, fun j hj => ?_, fun y hy => ?_⟩
    · rw [hL] at hj
      have h0 := hcell 0 (by omega)
      have hp := cell_plain h0
      have ha : a.add 0 = a := rfl
      rw [ha] at hp
      have hcj := hcell j (by omega)
      have haj : a.add j = ⟨a.block, a.off + j, none⟩ := by
        rw [hp.1]
        exact add_none _ _ _
      rw [haj] at hcj
      have hadr : adr (some a) = a := rfl
      rw [hadr]
      refine ⟨by rw [← hp.1], hp.2, ?_⟩
      rw [hcj]
      have hzj : zs.getD j 0 ∈ zs := by
        rw [List.getD_eq_getElem?_getD, List.getElem?_eq_getElem (by omega)]
        exact List.getElem_mem _
      have hw := (hk _ (hwz _ hzj)).1
      have e1 : ((zs.take len).map Int.toNat).getD j 0 = (zs.getD j 0).toNat := by
        rw [List.getD_eq_getElem?_getD, List.getD_eq_getElem?_getD, List.getElem?_map, List.getElem?_take_of_lt hj, List.getElem?_eq_getElem (by omega)]
        rfl
      rw [e1, Int.toNat_of_nonneg hw]
    · obtain ⟨z, hz1, rfl⟩ := List.mem_map.1 hy
      exact (hk z (hwz z (List.mem_of_mem_take hz1))).2
theorem wf_u32 (n : Int) (h : (Lit.int .u32 n).wf = true) : 0 ≤ n ∧ n.toNat ≤ maxK .u32 := by
  have := bounds_u32 h
  simp only [maxK]
  omega
theorem wf_u8 (n : Int) (h : (Lit.int .u8 n).wf = true) : 0 ≤ n ∧ n.toNat ≤ maxK .u8 := by
  have := bounds_u8 h
  simp only [maxK]
  omega
theorem rows_of_trod {t e u : TypeId} {fuel : Nat} {v : Value} {x : DataW H × List MemPlace} (ht : P.underlying t = some (.slice e)) (he : P.underlying e = some (.slice u)) (hu : P.underlying u = some (.int .u32)) (hce : P.cellsOf e = 1) (hcu : P.cellsOf u = 1)
    (h : DataW.trod enc P w 0 (fun _ => true) true fuel t [v] = some x) : ∃ a cap LL, v = .slice a (List.length LL) cap ∧ RdS w a LL := by
  rcases open_slice1 ht hce h with ⟨hcs, _⟩ | ⟨a, len, cap, m, n, V, D, Pl, hcs, _, hl, hm, hmm, _, hx⟩
  · simp at hcs
    exact ⟨none, 0, [], hcs, ⟨by simp, fun j hj => by simp at hj⟩⟩
  · simp at hcs hmm
    obtain rfl : cap = m := hmm.symm
    have hex : ∀ i, ∃ s : Option Addr × Nat × List Nat, i < len → V i = .slice s.1 s.2.2.length s.2.1 ∧ Rd w .u32 s.1 s.2.1 s.2.2 := by
      intro i
      by_cases hi : i < len
      · obtain ⟨a', c', L, e1, e2⟩ := row_of_trod he hu hcu wf_u32 (hx i (by omega)).2
        exact ⟨(a', c', L), fun _ => ⟨e1, e2⟩⟩
      · exact ⟨(none, 0, []), fun h => absurd h hi⟩
    obtain ⟨F, hF⟩ := Classical.skolem.1 hex
    refine ⟨some a, cap, (List.range len).map F, by rw [hcs]; simp, by simp; unfold maxLen at hm; omega, fun j hj => ?_⟩
    simp at hj
    have eF : ((List.range len).map F).getD j (none, 0, []) = F j := by
      rw [List.getD_eq_getElem?_getD, List.getElem?_map, List.getElem?_range hj]
      rfl
    rw [eF]
    have hp := cell_plain (hx 0 (by omega)).1
    have ha : a.add 0 = a := rfl
    rw [ha] at hp
    have haj : a.add j = ⟨a.block, a.off + j, none⟩ := by
      rw [hp.1]
      exact add_none _ _ _
    have hadr : adr (some a) = a := rfl
    rw [hadr]
    refine ⟨by rw [← hp.1], hp.2, ?_, (hF j hj).2⟩
    rw [← haj, (hx j (by omega)).1, (hF j hj).1]
end Go.Proofs.Ytdmiklegahdafaa.K

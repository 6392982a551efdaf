/- The engine: a table in a package variable, out of the row's premise that it is laid. -/
import Derived.Test.YtnbklceenfjojaaDoorKArgs
import Derived.OpenShut
import Derived.ChangeArms
namespace Go.Proofs.YtnbklceenfjojaaDoor.K
open Go Go.RowKit Go.ChangeShapes Go.ChangeAt Go.WideShapes

set_option linter.unusedSimpArgs false
set_option linter.unusedVariables false
theorem lt_of_cell {w : World} {b q : Nat} {v : Value} (h : w.cell? ⟨b, q, none⟩ = some v) : b < w.heap.size := by
  rcases Nat.lt_or_ge b w.heap.size with h1 | h1
  · exact h1
  · simp [World.cell?, Array.getElem?_eq_none h1] at h
theorem tab_of_laid {P : Program} {W : World} {t e g N : Nat} {k : IntKind} {cs : Array Value} {fuel : Nat} {p : List MemPlace} {L : List Nat} {name : String} (ht : P.underlying t = some (.array N e)) (he : P.underlying e = some (.int k)) (hce : P.cellsOf e = 1)
    (hg : P.globalNamed name = some g) (hv : W.var? P name = some cs) (hd : DataW.trod (fun _ => ()) P W 0 (fun _ => true) false fuel t cs.toList = some (.agg (L.map fun (x : Nat) => .lit (.int k (x : Int))), p)) (hl : L.length = N) (hm : N ≤ 9223372036854775807) (hmax : ∀ x ∈ L, x ≤ maxK k) :
    Rd W k (some ⟨g, 0, none⟩) N L := by
  obtain ⟨xs, m, rfl, hx, hlen, hn, hel⟩ := DataW.trod_array ht hd
  have hx1 : L.map (fun (x : Nat) => DataW.lit (H := Unit) (.int k (x : Int))) = xs.map (·.1) := by
    have := congrArg Prod.fst hx; simpa using this
  have cell : ∀ j, j < L.length → W.cell? ⟨g, j, none⟩ = some (.int k (L.getD j 0 : Nat)) := by
    intro j hj
    have h0 := hel j (by omega)
    rw [hce, Nat.mul_one, List.getElem?_eq_getElem (by omega)] at h0
    obtain ⟨r, e1, e2, _⟩ := DataW.trod_int he h0
    have e3 := congrArg (fun l => l[j]?) hx1
    simp only [List.getElem?_map, List.getElem?_eq_getElem hj, List.getElem?_eq_getElem (show j < xs.length by omega), Option.map_some, e2] at e3
    have hr : ((L[j] : Nat) : Int) = r := by simpa using e3
    have h2 : cs.toList[j]? = some (.int k r) := by
      have e4 := congrArg (fun l => l[0]?) e1
      rw [List.getElem?_take_of_lt (by omega), List.getElem?_drop] at e4
      simpa using e4
    rw [World.var?_cell hg hv j, List.getD_eq_getElem?_getD, List.getElem?_eq_getElem hj]
    simp only [Option.getD_some]
    rw [hr, ← h2]; simp
  refine ⟨by omega, by omega, fun j hj => ⟨rfl, ?_, ?_⟩, hmax⟩
  · exact lt_of_cell (cell j hj)
  · simpa [adr] using cell j hj
end Go.Proofs.YtnbklceenfjojaaDoor.K

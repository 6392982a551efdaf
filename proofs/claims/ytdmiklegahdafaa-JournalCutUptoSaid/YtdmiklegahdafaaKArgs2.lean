/- What an argument reads as: rows of structs. -/
import Derived.Test.YtdmiklegahdafaaKArgs
import Derived.Test.YtdmiklegahdafaaKTab
import Derived.Deep.Strs
namespace Go.Proofs.Ytdmiklegahdafaa.K
open Go Go.RowKit Go.Deep Go.ChangeShapes Go.WideShapes Go.ChangeAt
set_option linter.unusedVariables false
set_option linter.unusedSimpArgs false

variable {P : Program} {w : World} {H : Type} {enc : TypeId × Value → H}

theorem RdT.congr {a : Option Addr} {len sz : Nat} {F F' : Nat → Nat → Value} (h : RdT w a len sz F) (e : ∀ j, j < len → ∀ f, f < sz → F j f = F' j f) : RdT w a len sz F' :=
  ⟨h.most, fun j hj f hf => by rw [← e j hj f hf]; exact h.at_ j hj f hf⟩
theorem tab_of_trod {t e : TypeId} {fuel sz : Nat} {v : Value} {x : DataW H × List MemPlace} (ht : P.underlying t = some (.slice e)) (hc : P.cellsOf e = sz) (hsz : 0 < sz)
    (h : DataW.trod enc P w 0 (fun _ => true) true fuel t [v] = some x) : ∃ a cap len n, ∃ cs : Nat → List Value, v = .slice a len cap ∧ RdT w a len sz (fun j f => (cs j).getD f undef) ∧
      ∀ j, j < len → (cs j).length = sz ∧ ∃ y, DataW.trod enc P w 0 (fun _ => true) true n e (cs j) = some y := by
  rcases open_slice ht h with ⟨hcs, _⟩ | ⟨a, len, cap, m, n, D, Pl, hcs, _, hl, hm, hmm, _, hx⟩
  · simp at hcs
    exact ⟨none, 0, 0, 0, fun _ => [], hcs, ⟨by omega, fun j hj => by omega⟩, fun j hj => by omega⟩
  · simp at hcs hmm
    subst hmm
    rw [hc] at hx
    have hex : ∀ i, ∃ c : List Value, i < len → w.cells? 0 (a.add (i * sz)) sz = some c ∧ DataW.trod enc P w 0 (fun _ => true) true n e c = some (D i, Pl i) := by
      intro i
      by_cases hi : i < len
      · obtain ⟨c, h1, h2⟩ := hx i (by omega)
        exact ⟨c, fun _ => ⟨h1, h2⟩⟩
      · exact ⟨[], fun h => absurd h hi⟩
    obtain ⟨cs, hcs2⟩ := Classical.skolem.1 hex
    refine ⟨some a, _, len, n, cs, hcs, ⟨by unfold maxLen at hm; omega, fun j hj f hf => ?_⟩, fun j hj => ?_⟩
    · obtain ⟨_, hlen0, hcell0⟩ := World.cells?_some (hcs2 0 (by omega)).1
      have h0 := hcell0 0 hsz
      rw [List.getElem?_eq_getElem (by omega)] at h0
      have hz : (a.add (0 * sz)).add 0 = a := by rw [Nat.zero_mul]; rfl
      rw [hz] at h0
      have hp := cell_plain h0
      obtain ⟨_, hlen, hcell⟩ := World.cells?_some (hcs2 j hj).1
      have h1 := hcell f hf
      have haj : (a.add (j * sz)).add f = ⟨a.block, a.off + j * sz + f, none⟩ := by
        have e1 : a.add (j * sz) = ⟨a.block, a.off + j * sz, none⟩ := by
          rw [hp.1]; exact add_none _ _ _
        rw [e1]
        exact add_none _ _ _
      rw [haj, List.getElem?_eq_getElem (by omega)] at h1
      have hadr : adr (some a) = a := rfl
      rw [hadr]
      refine ⟨by rw [← hp.1], hp.2, ?_⟩
      rw [h1, List.getD_eq_getElem?_getD, List.getElem?_eq_getElem (by omega)]
      rfl
    · obtain ⟨_, hlen, _⟩ := World.cells?_some (hcs2 j hj).1
      exact ⟨hlen, _, (hcs2 j hj).2⟩
theorem powers_of_trod {t e : TypeId} {fuel : Nat} {v : Value} {x : DataW H × List MemPlace} {f0 f1 f2 : Field} (ht : P.underlying t = some (.slice e)) (hs : P.underlying e = some (.struct #[f0, f1, f2])) (hc : P.cellsOf e = 3)
    (h0 : P.underlying f0.type = some (.int .u32)) (h1 : P.underlying f1.type = some (.int .i64)) (h2 : P.underlying f2.type = some (.int .i64)) (c0 : P.cellsOf f0.type = 1) (c1 : P.cellsOf f1.type = 1) (c2 : P.cellsOf f2.type = 1)
    (o0 : f0.offset = 0) (o1 : f1.offset = 1) (o2 : f2.offset = 2) (h : DataW.trod enc P w 0 (fun _ => true) true fuel t [v] = some x) :
    ∃ a cap len, ∃ (bs : Nat → Nat) (ms ns : Nat → Int), v = .slice a len cap ∧ RdT w a len 3 (fun j f => match f with | 0 => .int .u32 ((bs j : Nat) : Int) | 1 => .int .i64 (ms j) | _ => .int .i64 (ns j)) ∧
      (∀ j, j < len → bs j ≤ 4294967295) ∧ (∀ j, j < len → -9223372036854775808 ≤ ms j ∧ ms j ≤ 9223372036854775807) ∧ (∀ j, j < len → -9223372036854775808 ≤ ns j ∧ ns j ≤ 9223372036854775807) := by
  obtain ⟨a, cap, len, n, cs, e1, hr, hx⟩ := tab_of_trod ht hc (by omega) h
  have hex : ∀ j, ∃ q : Nat × Int × Int, j < len → cs j = [.int .u32 ((q.1 : Nat) : Int), .int .i64 q.2.1, .int .i64 q.2.2] ∧ q.1 ≤ 4294967295 ∧ (-9223372036854775808 ≤ q.2.1 ∧ q.2.1 ≤ 9223372036854775807) ∧ (-9223372036854775808 ≤ q.2.2 ∧ q.2.2 ≤ 9223372036854775807) := by
    intro j
    by_cases hj : j < len
    · obtain ⟨hl, y, hy⟩ := hx j hj
      obtain ⟨y0, y1, y2, m, _, _, q0, q1, q2⟩ := trod_struct3 hs hy
      rw [c0, o0] at q0
      rw [c1, o1] at q1
      rw [c2, o2] at q2
      obtain ⟨c, d, f, hcs⟩ : ∃ c d f, cs j = [c, d, f] := by
        match hq : cs j, hl with
        | [c, d, f], _ => exact ⟨c, d, f, rfl⟩
      rw [hcs] at q0 q1 q2
      simp at q0 q1 q2
      obtain ⟨b, r0, _, w0⟩ := DataW.trod_int h0 q0
      obtain ⟨m', r1, _, w1⟩ := DataW.trod_int h1 q1
      obtain ⟨n', r2, _, w2⟩ := DataW.trod_int h2 q2
      simp at r0 r1 r2
      have b0 := bounds_u32 w0
      refine ⟨(b.toNat, m', n'), fun _ => ⟨?_, ?_, ?_, ?_⟩⟩
      · rw [hcs, r0, r1, r2]
        simp [Int.toNat_of_nonneg b0.1]
      · simp; omega
      · exact bounds_i64 w1
      · exact bounds_i64 w2
    · exact ⟨(0, 0, 0), fun h => absurd h hj⟩
  obtain ⟨F, hF⟩ := Classical.skolem.1 hex
  refine ⟨a, cap, len, fun j => (F j).1, fun j => (F j).2.1, fun j => (F j).2.2, e1, hr.congr fun j hj f hf => ?_, fun j hj => (hF j hj).2.1, fun j hj => (hF j hj).2.2.1, fun j hj => (hF j hj).2.2.2⟩
  rw [(hF j hj).1]
  match f, hf with
  | 0, _ => rfl
  | 1, _ => rfl
  | 2, _ => rfl
theorem ints_of_trod {t e : TypeId} {fuel : Nat} {v : Value} {x : DataW H × List MemPlace} (ht : P.underlying t = some (.slice e)) (he : P.underlying e = some (.int .i64)) (hc : P.cellsOf e = 1)
    (h : DataW.trod enc P w 0 (fun _ => true) true fuel t [v] = some x) :
    ∃ a cap len, ∃ ns : Nat → Int, v = .slice a len cap ∧ RdT w a len 1 (fun j _ => .int .i64 (ns j)) ∧ ∀ j, j < len → -9223372036854775808 ≤ ns j ∧ ns j ≤ 9223372036854775807 := by
  obtain ⟨a, cap, len, n, cs, e1, hr, hx⟩ := tab_of_trod ht hc (by omega) h
  have hex : ∀ j, ∃ q : Int, j < len → cs j = [.int .i64 q] ∧ -9223372036854775808 ≤ q ∧ q ≤ 9223372036854775807 := by
    intro j
    by_cases hj : j < len
    · obtain ⟨hl, y, hy⟩ := hx j hj
      obtain ⟨q, h1, _, h3⟩ := DataW.trod_int he hy
      simp only [Lit.wf, Bool.and_eq_true, decide_eq_true_eq] at h3
      have hmin : IntKind.i64.min = -9223372036854775808 := rfl
      have hmax : IntKind.i64.max = 9223372036854775807 := rfl
      exact ⟨q, fun _ => ⟨h1, by omega, by omega⟩⟩
    · exact ⟨0, fun h => absurd h hj⟩
  obtain ⟨ns, hns⟩ := Classical.skolem.1 hex
  refine ⟨a, cap, len, ns, e1, hr.congr fun j hj f hf => ?_, fun j hj => (hns j hj).2⟩
  obtain rfl : f = 0 := by omega
  rw [(hns j hj).1]; rfl
end Go.Proofs.Ytdmiklegahdafaa.K

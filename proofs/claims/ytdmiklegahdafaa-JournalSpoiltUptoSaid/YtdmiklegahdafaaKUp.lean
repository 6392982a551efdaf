/- What an argument reads as where it is of bounded bulk: records, rows, whole numbers. -/
import Derived.Test.YtdmiklegahdafaaKOpen
import Derived.Test.YtdmiklegahdafaaRows
namespace Go.Proofs.Ytdmiklegahdafaa.K
open Go Go.RowKit Go.Deep Go.ChangeShapes Go.WideShapes Go.ChangeAt
set_option linter.unusedVariables false
set_option linter.unusedSimpArgs false
variable {P : Program} {w : World} {H : Type} {enc : TypeId × Value → H} {α : Type}

theorem bulk_one (d : DataW H) : 1 ≤ Rows.uptoBulk d := by
  cases d with
  | lit l => cases l <;> simp [Rows.uptoBulk]
  | _ => simp [Rows.uptoBulk]
theorem bulk_len : ∀ (l : List (DataW H)), l.length ≤ Rows.uptoBulkAll l
  | [] => by simp [Rows.uptoBulkAll]
  | d :: l => by
    have := bulk_len l
    have := bulk_one d
    simp only [Rows.uptoBulkAll, List.length_cons]; omega
theorem bulk_mem {d : DataW H} : ∀ {l : List (DataW H)}, d ∈ l → Rows.uptoBulk d ≤ Rows.uptoBulkAll l
  | x :: l, h => by
    simp only [Rows.uptoBulkAll]
    rcases List.mem_cons.1 h with rfl | h
    · omega
    · have := bulk_mem h; omega
theorem AllB.mem {B : DataW H → α → Prop} {y : α} : ∀ {es : List (DataW H)} {LL : List α}, AllB B es LL → y ∈ LL → ∃ d ∈ es, B d y
  | [], [], _, h => by cases h
  | d :: es, z :: LL, hb, h => by
    rcases List.mem_cons.1 h with rfl | h
    · exact ⟨d, by simp, hb.1⟩
    · obtain ⟨d', h1, h2⟩ := AllB.mem hb.2 h
      exact ⟨d', by simp [h1], h2⟩
  | [], _ :: _, hb, _ => hb.elim
  | _ :: _, [], hb, _ => hb.elim
theorem AllB.len {B : DataW H → α → Prop} : ∀ {es : List (DataW H)} {LL : List α}, AllB B es LL → LL.length = es.length
  | [], [], _ => rfl
  | d :: es, z :: LL, hb => by simp [AllB.len hb.2]
  | [], _ :: _, hb => hb.elim
  | _ :: _, [], hb => hb.elim
theorem b1_of_trod {t e : TypeId} (ht : P.underlying t = some (.slice e)) (he : P.underlying e = some (.int .u8)) (hc : P.cellsOf e = 1) (fuel : Nat) (v : Value) (x : DataW H × List MemPlace)
    (h : DataW.trod enc P w 0 (fun _ => true) true fuel t [v] = some x) : ∃ y, R1 y v (allH w) ∧ y.length ≤ Rows.uptoBulk x.1 := by
  obtain ⟨y, h1, h2⟩ := r1_of_trod ht he hc fuel v x h
  refine ⟨y, h1, ?_⟩
  rcases h2 with ⟨-, rfl⟩ | ⟨es, sp, hx, hl⟩
  · simp
  · rw [hx]; have := bulk_len es; simp only [Rows.uptoBulk]; omega
theorem b2_of_trod {t e u : TypeId} (ht : P.underlying t = some (.slice e)) (he : P.underlying e = some (.slice u)) (hu : P.underlying u = some (.int .u8)) (hce : P.cellsOf e = 1) (hcu : P.cellsOf u = 1) (fuel : Nat) (v : Value) (x : DataW H × List MemPlace)
    (h : DataW.trod enc P w 0 (fun _ => true) true fuel t [v] = some x) : ∃ y, R2 y v (allH w) ∧ ∀ r ∈ y, r.length ≤ Rows.uptoBulk x.1 := by
  obtain ⟨a, cap, us, LL, hv, hR, hb⟩ := rwv_of_trod ht hce (B := fun d (y : List Nat) => y.length ≤ Rows.uptoBulk d) (b1_of_trod he hu hcu) h
  refine ⟨LL, R2.of hv hR, fun r hr => ?_⟩
  rcases hb with ⟨-, rfl⟩ | ⟨es, sp, hx, hA⟩
  · cases hr
  · obtain ⟨d, h1, h2⟩ := hA.mem hr
    have := bulk_mem h1
    rw [hx]; simp only [Rows.uptoBulk]; omega
/-- records -/
theorem b3_of_trod {t e u k : TypeId} (ht : P.underlying t = some (.slice e)) (he : P.underlying e = some (.slice u)) (hu : P.underlying u = some (.slice k)) (hk : P.underlying k = some (.int .u8)) (hce : P.cellsOf e = 1) (hcu : P.cellsOf u = 1) (hck : P.cellsOf k = 1) {fuel : Nat} {v : Value} {x : DataW H × List MemPlace}
    (h : DataW.trod enc P w 0 (fun _ => true) true fuel t [v] = some x) : ∃ a cap us LL, v = .slice a (List.length LL) cap ∧ RwV R2 a cap us LL (allH w) ∧ (∀ L ∈ LL, ∀ r ∈ L, r.length ≤ Rows.uptoBulk x.1) ∧ LL.length ≤ Rows.uptoBulk x.1 := by
  obtain ⟨a, cap, us, LL, hv, hR, hb⟩ := rwv_of_trod ht hce (B := fun d (y : List (List Nat)) => ∀ r ∈ y, r.length ≤ Rows.uptoBulk d) (b2_of_trod he hu hk hcu hck) h
  refine ⟨a, cap, us, LL, hv, hR, fun L hL r hr => ?_, ?_⟩
  rotate_left
  · rcases hb with ⟨-, rfl⟩ | ⟨es, sp, hx, hA⟩
    · simp
    · have := hA.len; have := bulk_len es; rw [hx]; simp only [Rows.uptoBulk]; omega
  rcases hb with ⟨-, rfl⟩ | ⟨es, sp, hx, hA⟩
  · cases hL
  · obtain ⟨d, h1, h2⟩ := hA.mem hL
    have := bulk_mem h1
    have := h2 r hr
    rw [hx]; simp only [Rows.uptoBulk]; omega
/-- whole numbers -/
theorem ri_of_trod {t e : TypeId} (ht : P.underlying t = some (.slice e)) (he : P.underlying e = some (.int .i64)) (hc : P.cellsOf e = 1) {fuel : Nat} {v : Value} {x : DataW H × List MemPlace}
    (h : DataW.trod enc P w 0 (fun _ => true) true fuel t [v] = some x) : ∃ a cap us xs, v = .slice a (List.length xs) cap ∧ RwV RI a cap us xs (allH w) := by
  rcases open_ints ht he hc h with ⟨hcs, hx0⟩ | ⟨a, len, cap, zs, hcs, _, hl, hm, hz, hx1, hcell, hwz⟩
  · simp at hcs
    exact ⟨none, 0, [], [], hcs, ⟨SlV.nil, trivial⟩⟩
  · simp at hcs hz
    have hall : ∀ L : List Int, (∀ n ∈ L, (Lit.int .i64 n).wf = true) → All2 RI (allH w) L (L.map (.int .i64 ·)) := by
      intro L
      induction L with
      | nil => intro _; exact trivial
      | cons z L ih => intro hL; exact ⟨⟨rfl, bounds_i64 (hL z (by simp))⟩, ih fun n hn => hL n (by simp [hn])⟩
    have hlen : (zs.take len).length = len := by simp; omega
    refine ⟨some a, cap, (zs.take len).map (.int .i64 ·), zs.take len, by rw [hcs, hlen], ⟨⟨by rw [List.length_map, hlen]; exact hl, by rw [List.length_map, hlen]; unfold maxLen at hm; omega, fun j hj => ?_⟩, hall _ fun n hn => hwz n (List.mem_of_mem_take hn)⟩⟩
    rw [List.length_map, hlen] at hj
    have hp := cell_plain (hcell 0 (by omega))
    have ha : a.add 0 = a := rfl
    rw [ha] at hp
    have haj : a.add j = ⟨a.block, a.off + j, none⟩ := by
      rw [hp.1]
      exact add_none _ _ _
    have hc' := hcell j (by omega)
    rw [haj] at hc'
    obtain ⟨c, T, f, h1, h2⟩ := cell_in hc'
    refine ⟨by rw [show adr (some a) = a from rfl, ← hp.1], c, T, f, h1, ?_⟩
    have e1 : zs.getD j 0 = zs[j]'(by omega) := by rw [List.getD_eq_getElem?_getD, List.getElem?_eq_getElem (by omega)]; rfl
    rw [e1] at h2
    simpa [adr] using h2
end Go.Proofs.Ytdmiklegahdafaa.K

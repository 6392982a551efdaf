/- What each call leaves of a disk: it is fine again. -/
import Derived.Test.YtdmiklegahdafaaKJou
namespace Go.Proofs.Ytdmiklegahdafaa.K
open Go Go.RowKit
set_option linter.unusedSimpArgs false
set_option linter.unusedVariables false

structure Stp (e : Nat) (D1 : Dk) (r : Nat × Dk) (D : Dk) : Prop where
  eq : r = (e, D1)
  ok : D1.ok
  le : e ≤ 200
  wr : D1.writes ≤ D.writes + 1
theorem Stp.same {D : Dk} {e : Nat} {r : Nat × Dk} (h : D.ok) (hr : r = (e, D)) (he : e ≤ 200) : Stp r.1 r.2 r D := by subst hr; exact ⟨rfl, h, he, by show D.writes ≤ _; omega⟩
theorem Stp.wr_ {D : Dk} {F2 : List FileM} {r : Nat × Dk} (h : D.ok) (hf : Fits D.room F2) (hr : r = D.wr F2) : Stp r.1 r.2 r D := by
  subst hr
  obtain ⟨h1, h2, h3⟩ := hf
  refine ⟨rfl, ok_wr h h1 h2 h3, ?_, ?_⟩
  · unfold Dk.wr; split <;> split <;> simp
  · unfold Dk.wr; split <;> split <;> simp
theorem Stp.cut {D : Dk} (h : D.ok) (hn : (D.F.map (·.name)).Nodup) (s : ByteArray) (x : Int) : Stp (D.cut s x).1 (D.cut s x).2 (D.cut s x) D := by
  cases ho : D.off
  case true => exact .same h (cut_off ho) (by omega)
  case false =>
  cases hs : okName s
  case false => exact .same h (cut_name ho hs) (by omega)
  case true =>
  cases hl : lookF D.F s with
  | none => exact .same h (cut_none ho hs hl) (by omega)
  | some f =>
    by_cases hx : x < 0 ∨ (f.bytes.length : Int) < x
    · exact .same h (cut_bad ho hs hl hx) (by omega)
    · obtain ⟨n, rfl⟩ : ∃ n : Nat, x = n := ⟨x.toNat, by omega⟩
      obtain ⟨h1, h2, h3, h4⟩ := h.file hl
      exact .wr_ h (fits_put h hn hl (by rw [List.length_take]; omega) (by rw [List.length_take]; omega) (fun y hy => h3 y (List.mem_of_mem_take hy))) (cut_fine ho hs hl (by omega))
theorem Stp.sync {D : Dk} (h : D.ok) (hn : (D.F.map (·.name)).Nodup) (s : ByteArray) : Stp (D.sync s).1 (D.sync s).2 (D.sync s) D := by
  cases ho : D.off
  case true => exact .same h (sync_off ho) (by omega)
  case false =>
  cases hs : okName s
  case false => exact .same h (sync_name ho hs) (by omega)
  case true =>
  cases hl : lookF D.F s with
  | none => exact .same h (sync_none ho hs hl) (by omega)
  | some f =>
    obtain ⟨h1, h2, h3, h4⟩ := h.file hl
    exact .wr_ h (fits_put h hn hl (by omega) (by omega) h3) (sync_fine ho hs hl)
theorem fits_gone {room : Nat} {lose : Int} {F : List FileM} (h : Fits room F) : Fits room (goneF lose F) := by
  obtain ⟨h1, h2, h3⟩ := h
  refine ⟨Nat.le_trans (tot_gone lose F) h1, by simpa [goneF] using h2, fun f hf => ?_⟩
  obtain ⟨g, hg, rfl⟩ := List.mem_map.1 hf
  exact okF_gone (h3 g hg)
theorem Stp.append {D : Dk} (h : D.ok) (hn : (D.F.map (·.name)).Nodup) (s : ByteArray) {B : List Nat} (hB : ∀ x ∈ B, x ≤ 255) : Stp (D.append s B).1 (D.append s B).2 (D.append s B) D := by
  cases ho : D.off
  case true => exact .same h (append_off ho) (by omega)
  case false =>
  cases hs : okName s
  case false => exact .same h (append_name ho hs) (by omega)
  case true =>
  by_cases h3 : ((lookF D.F s).isNone = true ∧ 256 ≤ D.F.length) ∨ D.room - tot D.F < B.length
  · exact .same h (append_full ho hs h3) (by omega)
  have hlen : lookF D.F s = none → D.F.length < 256 := fun q => by
    rcases Nat.lt_or_ge D.F.length 256 with q2 | q2
    · exact q2
    · exact absurd (.inl ⟨by rw [q]; rfl, q2⟩) h3
  have ha := h.armed
  by_cases hT : D.armed = 1
  · have hf := (fits_append (B := B.take (min D.keep.toNat B.length)) h hn hs hlen (by rw [List.length_take]; omega) (fun y hy => hB y (List.mem_of_mem_take hy))).1
    by_cases hk : (lookF D.F s).isSome = true ∨ 0 < D.keep
    · rw [append_torn ho hs h3 hT hk]; exact ⟨rfl, h.put (fits_gone hf) (by omega), by simp, Nat.le_refl _⟩
    · have hk2 : lookF D.F s = none := by
        cases q : lookF D.F s with
        | none => rfl
        | some f => exact absurd (.inl (by rw [q]; rfl)) hk
      rw [append_lost ho hs h3 hT hk2 (fun q => hk (.inr q))]; exact ⟨rfl, h.put (fits_gone h.fit) (by omega), by simp, Nat.le_refl _⟩
  · rw [append_on ho hs h3 hT]
    exact ⟨rfl, h.put (fits_append h hn hs hlen (by omega) hB).1 (by omega), by simp, Nat.le_refl _⟩
structure StpN (n : Nat) (e : Nat) (D1 : Dk) (r : Nat × Dk) (D : Dk) : Prop where
  eq : r = (e, D1)
  ok : D1.ok
  le : e ≤ 200
  wr : D1.writes ≤ D.writes + n
def headL : List Nat := [70, 65, 84, 72, 79, 77, 74, 49]
theorem headL_fit : ∀ x ∈ headL, x ≤ 255 := by decide
def Dk.begin (D : Dk) (s : ByteArray) (k : Nat) : Nat × Dk :=
  let r := if 0 < k then D.cut s 0 else (0, D)
  if r.1 ≠ 0 then r else
  let q := r.2.append s headL
  if q.1 ≠ 0 then q else q.2.sync s
theorem begin_1 {D D1 : Dk} {s : ByteArray} {k e : Nat} (hk : k > 0) (h : Stp e D1 (D.cut s 0) D) (he : ¬ e = 0) : StpN 3 e D1 (D.begin s k) D :=
  ⟨by simp [Dk.begin, hk, h.eq, he], h.ok, h.le, by have := h.wr; omega⟩
theorem begin_2 {D D1 D2 : Dk} {s : ByteArray} {k e e2 : Nat} (hk : k > 0) (h : Stp e D1 (D.cut s 0) D) (he : e = 0) (h2 : Stp e2 D2 (D1.append s headL) D1) (he2 : ¬ e2 = 0) : StpN 3 e2 D2 (D.begin s k) D :=
  ⟨by simp [Dk.begin, hk, h.eq, he, h2.eq, he2], h2.ok, h2.le, by have := h.wr; have := h2.wr; omega⟩
theorem begin_3 {D D1 D2 D3 : Dk} {s : ByteArray} {k e e2 e3 : Nat} (hk : k > 0) (h : Stp e D1 (D.cut s 0) D) (he : e = 0) (h2 : Stp e2 D2 (D1.append s headL) D1) (he2 : e2 = 0) (h3 : Stp e3 D3 (D2.sync s) D2) : StpN 3 e3 D3 (D.begin s k) D :=
  ⟨by simp [Dk.begin, hk, h.eq, he, h2.eq, he2, h3.eq], h3.ok, h3.le, by have := h.wr; have := h2.wr; have := h3.wr; omega⟩
theorem begin_02 {D D2 : Dk} {s : ByteArray} {k e2 : Nat} (hk : ¬ k > 0) (h2 : Stp e2 D2 (D.append s headL) D) (he2 : ¬ e2 = 0) : StpN 3 e2 D2 (D.begin s k) D :=
  ⟨by simp [Dk.begin, hk, h2.eq, he2], h2.ok, h2.le, by have := h2.wr; omega⟩
theorem begin_03 {D D2 D3 : Dk} {s : ByteArray} {k e2 e3 : Nat} (hk : ¬ k > 0) (h2 : Stp e2 D2 (D.append s headL) D) (he2 : e2 = 0) (h3 : Stp e3 D3 (D2.sync s) D2) : StpN 3 e3 D3 (D.begin s k) D :=
  ⟨by simp [Dk.begin, hk, h2.eq, he2, h3.eq], h3.ok, h3.le, by have := h2.wr; have := h3.wr; omega⟩
end Go.Proofs.Ytdmiklegahdafaa.K

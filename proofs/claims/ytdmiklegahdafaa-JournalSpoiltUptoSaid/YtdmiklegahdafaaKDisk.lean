/- A disk of files, plain: what each call does to it. -/
import Derived.Test.YtdmiklegahdafaaKMore
namespace Go.Proofs.Ytdmiklegahdafaa.K
open Go Go.RowKit
set_option linter.unusedSimpArgs false
set_option linter.unusedVariables false
variable {T : TypeId}

structure Dk where
  room : Nat
  F : List FileM
  off : Bool
  writes : Nat
  armed : Nat
  keep : Int
  lose : Int
def tot (F : List FileM) : Nat := (F.map (·.bytes.length)).sum
def Dk.new (room : Nat) : Dk := ⟨room, [], false, 0, 0, 0, 0⟩
def dkC (lk : Int) (m : Nat) (D : Dk) : Array Value := #[.int .i32 lk, .int .u32 0, .int .i64 (D.room : Nat), .int .i64 (tot D.F : Nat), .map (some m), .bool D.off, .int .i64 (D.writes : Nat), .int .i64 (D.armed : Nat), .int .i64 D.keep, .int .i64 D.lose]
def lostN (lose : Int) (f : FileM) : Nat := min lose.toNat (f.bytes.length - f.sure)
def goneX (lose : Int) (f : FileM) : FileM := ⟨f.name, f.bytes.take (f.bytes.length - lostN lose f), f.sure⟩
def goneF (lose : Int) (F : List FileM) : List FileM := F.map (goneX lose)
def okF (f : FileM) : Prop := okName f.name = true ∧ f.sure ≤ f.bytes.length ∧ ∀ x ∈ f.bytes, x ≤ 255
structure Dk.ok (D : Dk) : Prop where
  room : D.room ≤ 268435456
  fits : tot D.F ≤ D.room
  len : D.F.length ≤ 256
  files : ∀ f ∈ D.F, okF f
  armed : D.armed ≤ 9223372036854775807
  keep : -9223372036854775808 ≤ D.keep ∧ D.keep ≤ 9223372036854775807
  lose : -9223372036854775808 ≤ D.lose ∧ D.lose ≤ 9223372036854775807
def Dk.wr (D : Dk) (F2 : List FileM) : Nat × Dk :=
  let F' := if D.armed ≠ 1 ∨ 0 < D.keep then F2 else D.F
  if D.armed = 1 then (104, { D with writes := D.writes + 1, armed := D.armed - 1, off := true, F := goneF D.lose F' })
  else (0, { D with writes := D.writes + 1, armed := D.armed - 1, F := F' })
def Dk.cut (D : Dk) (s : ByteArray) (n : Int) : Nat × Dk :=
  if D.off then (104, D) else if okName s then match lookF D.F s with
    | none => (102, D)
    | some f => if n < 0 ∨ (f.bytes.length : Int) < n then (105, D) else D.wr (putF D.F s (f.bytes.take n.toNat) (min f.sure n.toNat))
  else (101, D)
def Dk.sync (D : Dk) (s : ByteArray) : Nat × Dk :=
  if D.off then (104, D) else if okName s then match lookF D.F s with
    | none => (102, D)
    | some f => D.wr (putF D.F s f.bytes f.bytes.length)
  else (101, D)
def Dk.read (D : Dk) (s : ByteArray) : List Nat × Nat :=
  if D.off then ([], 104) else if okName s then match lookF D.F s with
    | none => ([], 102)
    | some f => (f.bytes, 0)
  else ([], 101)
def Dk.sure (D : Dk) (s : ByteArray) : Nat × Nat :=
  if D.off then (0, 104) else if okName s then match lookF D.F s with
    | none => (0, 102)
    | some f => (f.sure, 0)
  else (0, 101)
def bytesOf (F : List FileM) (s : ByteArray) : List Nat := match lookF F s with | some f => f.bytes | none => []
def sureOf (F : List FileM) (s : ByteArray) : Nat := match lookF F s with | some f => f.sure | none => 0
def Dk.append (D : Dk) (s : ByteArray) (B : List Nat) : Nat × Dk :=
  if D.off then (104, D) else if okName s then
    if ((lookF D.F s).isNone = true ∧ 256 ≤ D.F.length) ∨ D.room - tot D.F < B.length then (103, D) else
    let B' := if D.armed = 1 then B.take (min D.keep.toNat B.length) else B
    let F' := if (lookF D.F s).isSome = true ∨ D.armed ≠ 1 ∨ 0 < D.keep then putF D.F s (bytesOf D.F s ++ B') (sureOf D.F s) else D.F
    if D.armed = 1 then (104, { D with writes := D.writes + 1, armed := D.armed - 1, off := true, F := goneF D.lose F' })
    else (0, { D with writes := D.writes + 1, armed := D.armed - 1, F := F' })
  else (101, D)

/-! how long -/
theorem tot_mem {f : FileM} : ∀ {F : List FileM}, f ∈ F → f.bytes.length ≤ tot F
  | [], h => by cases h
  | g :: r, h => by
    unfold tot
    rw [List.map_cons, List.sum_cons]
    rcases List.mem_cons.1 h with rfl | h
    · omega
    · have := tot_mem h; unfold tot at this; omega
theorem tot_append {F G : List FileM} : tot (F ++ G) = tot F + tot G := by simp [tot]
theorem map_same {s : ByteArray} {B : List Nat} {k : Nat} {F : List FileM} (h : ∀ g ∈ F, g.name ≠ s) : F.map (fun f => if f.name = s then (⟨s, B, k⟩ : FileM) else f) = F := by
  conv => rhs; rw [← List.map_id F]
  apply List.map_congr_left
  intro x hx
  rw [if_neg (h x hx)]; rfl
theorem tot_put {s : ByteArray} {B : List Nat} {k : Nat} {F : List FileM} (hn : (F.map (·.name)).Nodup) : tot (putF F s B k) + (bytesOf F s).length = tot F + B.length := by
  unfold putF bytesOf
  cases hl : lookF F s with
  | none => rw [tot_append]; simp [tot]
  | some f =>
    simp only
    induction F with
    | nil => cases hl
    | cons g r ih =>
      rw [List.map_cons, List.nodup_cons] at hn
      unfold lookF at hl
      by_cases hs : g.name = s
      · rw [if_pos hs] at hl
        cases hl
        have hne : ∀ x ∈ r, x.name ≠ s := fun x hx q => hn.1 (by rw [hs, ← q]; exact List.mem_map.2 ⟨x, hx, rfl⟩)
        rw [List.map_cons, if_pos hs, map_same hne]
        simp only [tot, List.map_cons, List.sum_cons]; omega
      · rw [if_neg hs] at hl
        have := ih hn.2 hl
        rw [List.map_cons, if_neg hs]
        simp only [tot, List.map_cons, List.sum_cons] at this ⊢; omega
theorem putF_len {s : ByteArray} {B : List Nat} {k : Nat} {F : List FileM} : (putF F s B k).length = F.length + (if (lookF F s).isSome then 0 else 1) := by
  unfold putF
  cases lookF F s <;> simp
theorem putF_mem {s : ByteArray} {B : List Nat} {k : Nat} {F : List FileM} {g : FileM} (h : g ∈ putF F s B k) : g = ⟨s, B, k⟩ ∨ g ∈ F := by
  unfold putF at h
  split at h
  · obtain ⟨x, hx, rfl⟩ := List.mem_map.1 h
    by_cases q : x.name = s
    · rw [if_pos q]; exact .inl rfl
    · rw [if_neg q]; exact .inr hx
  · rcases List.mem_append.1 h with h | h
    · exact .inr h
    · exact .inl (List.mem_singleton.1 h)
theorem goneX_len (lose : Int) (f : FileM) : (goneX lose f).bytes.length = f.bytes.length - lostN lose f := by
  simp only [goneX, List.length_take]; omega
theorem tot_gone (lose : Int) : ∀ (F : List FileM), tot (goneF lose F) ≤ tot F
  | [] => Nat.le_refl _
  | f :: r => by
    have := tot_gone lose r
    simp only [goneF, tot, List.map_cons, List.sum_cons] at this ⊢
    have := goneX_len lose f
    omega
theorem okF_gone {lose : Int} {f : FileM} (h : okF f) : okF (goneX lose f) := by
  refine ⟨h.1, ?_, fun x hx => h.2.2 x (List.mem_of_mem_take hx)⟩
  rw [goneX_len]
  have := h.2.1
  show f.sure ≤ _
  unfold lostN; omega
theorem Dk.names_of {m : Nat} {out : Option ByteArray} {F : List FileM} {hp : Hp} (h : MapH T m out F hp) : (F.map (·.name)).Nodup := by
  obtain ⟨es, clk, ps, _, hF, _, _⟩ := h
  exact hF.names
theorem Dk.ok.file {D : Dk} (h : D.ok) {s : ByteArray} {f : FileM} (hl : lookF D.F s = some f) : f.bytes.length ≤ tot D.F ∧ f.sure ≤ f.bytes.length ∧ (∀ x ∈ f.bytes, x ≤ 255) ∧ f.name = s :=
  ⟨tot_mem (lookF_mem hl).1, (h.files f (lookF_mem hl).1).2.1, (h.files f (lookF_mem hl).1).2.2, (lookF_mem hl).2⟩
/-- the power is gone, or not -/
theorem ok_wr {D : Dk} {F2 : List FileM} (h : D.ok) (h1 : tot F2 ≤ D.room) (h2 : F2.length ≤ 256) (h3 : ∀ f ∈ F2, okF f) : (D.wr F2).2.ok := by
  have hF : ∀ F', F' = (if D.armed ≠ 1 ∨ 0 < D.keep then F2 else D.F) → tot F' ≤ D.room ∧ F'.length ≤ 256 ∧ ∀ f ∈ F', okF f := by
    intro F' e
    subst e
    by_cases q : D.armed ≠ 1 ∨ 0 < D.keep
    · rw [if_pos q]; exact ⟨h1, h2, h3⟩
    · rw [if_neg q]; exact ⟨h.fits, h.len, h.files⟩
  obtain ⟨q1, q2, q3⟩ := hF _ rfl
  unfold Dk.wr
  by_cases q : D.armed = 1
  · simp only [q, if_true]
    rw [q] at q1 q2 q3
    refine ⟨h.room, Nat.le_trans (tot_gone _ _) q1, ?_, ?_, by simp, h.keep, h.lose⟩
    · simpa [goneF] using q2
    · intro f hf
      obtain ⟨g, hg, rfl⟩ := List.mem_map.1 hf
      exact okF_gone (q3 g hg)
  · simp only [q, if_false]
    exact ⟨h.room, by simpa [q] using q1, by simpa [q] using q2, by simpa [q] using q3, by have := h.armed; show D.armed - 1 ≤ _; omega, h.keep, h.lose⟩
/-- files that fit a disk -/
structure Fits (room : Nat) (F : List FileM) : Prop where
  tot : tot F ≤ room
  len : F.length ≤ 256
  files : ∀ f ∈ F, okF f
theorem Dk.ok.fit {D : Dk} (h : D.ok) : Fits D.room D.F := ⟨h.fits, h.len, h.files⟩
theorem Dk.ok.put {D : Dk} (h : D.ok) {F : List FileM} {w a : Nat} {b : Bool} (hf : Fits D.room F) (ha : a ≤ 9223372036854775807) : Dk.ok { D with writes := w, armed := a, off := b, F := F } :=
  ⟨h.room, hf.tot, hf.len, hf.files, ha, h.keep, h.lose⟩
theorem okF_new {s : ByteArray} {B : List Nat} {k : Nat} (h1 : okName s = true) (h2 : k ≤ B.length) (h3 : ∀ x ∈ B, x ≤ 255) : okF ⟨s, B, k⟩ := ⟨h1, h2, h3⟩
/-- one file is another one, not longer -/
theorem fits_put {D : Dk} (h : D.ok) (hn : (D.F.map (·.name)).Nodup) {s : ByteArray} {f : FileM} {B : List Nat} {k : Nat} (hl : lookF D.F s = some f) (hB : B.length ≤ f.bytes.length) (h2 : k ≤ B.length) (h3 : ∀ x ∈ B, x ≤ 255) : Fits D.room (putF D.F s B k) := by
  have e := tot_put (s := s) (B := B) (k := k) hn
  unfold bytesOf at e
  rw [hl] at e
  simp only at e
  refine ⟨by have := h.fits; omega, ?_, ?_⟩
  · rw [putF_len, hl]; simpa using h.len
  · intro g hg
    rcases putF_mem hg with rfl | hg
    · exact okF_new (by rw [← (lookF_mem hl).2]; exact (h.files f (lookF_mem hl).1).1) h2 h3
    · exact h.files g hg
theorem tot_put_at {F : List FileM} (hn : (F.map (·.name)).Nodup) {s : ByteArray} {f : FileM} {B : List Nat} {k : Nat} (hl : lookF F s = some f) : tot (putF F s B k) + f.bytes.length = tot F + B.length := by
  have e := tot_put (s := s) (B := B) (k := k) hn
  unfold bytesOf at e
  rw [hl] at e
  exact e
theorem At.names {T : TypeId} {m cap : Nat} {F : List FileM} {s : ByteArray} {f : FileM} {ad : Option Addr} {hp : Hp} (hA : At T m F s f ad cap hp) : (F.map (·.name)).Nodup := by
  obtain ⟨_, _, es, clk, ps, i, e, hv, _, hF, _⟩ := hA
  exact hF.names
theorem MapH.names {T : TypeId} {m : Nat} {out : Option ByteArray} {F : List FileM} {hp : Hp} (h : MapH T m out F hp) : (F.map (·.name)).Nodup := Dk.names_of h
theorem wr_on {D : Dk} {F2 : List FileM} (h : ¬ D.armed = 1) : D.wr F2 = (0, { D with writes := D.writes + 1, armed := D.armed - 1, F := F2 }) := by simp [Dk.wr, h]
theorem wr_torn {D : Dk} {F2 : List FileM} (h : D.armed = 1) (hk : 0 < D.keep) : D.wr F2 = (104, { D with writes := D.writes + 1, armed := D.armed - 1, off := true, F := goneF D.lose F2 }) := by simp [Dk.wr, h, hk]
theorem wr_lost {D : Dk} {F2 : List FileM} (h : D.armed = 1) (hk : ¬ 0 < D.keep) : D.wr F2 = (104, { D with writes := D.writes + 1, armed := D.armed - 1, off := true, F := goneF D.lose D.F }) := by simp [Dk.wr, h, hk]
theorem cut_off {D : Dk} {s : ByteArray} {x : Int} (h : D.off = true) : D.cut s x = (104, D) := by simp [Dk.cut, h]
theorem cut_name {D : Dk} {s : ByteArray} {x : Int} (h : D.off = false) (h2 : okName s = false) : D.cut s x = (101, D) := by simp [Dk.cut, h, h2]
theorem cut_none {D : Dk} {s : ByteArray} {x : Int} (h : D.off = false) (h2 : okName s = true) (h3 : lookF D.F s = none) : D.cut s x = (102, D) := by simp [Dk.cut, h, h2, h3]
theorem cut_bad {D : Dk} {s : ByteArray} {x : Int} {f : FileM} (h : D.off = false) (h2 : okName s = true) (h3 : lookF D.F s = some f) (h4 : x < 0 ∨ (f.bytes.length : Int) < x) : D.cut s x = (105, D) := by simp [Dk.cut, h, h2, h3, h4]
theorem cut_fine {D : Dk} {s : ByteArray} {n : Nat} {f : FileM} (h : D.off = false) (h2 : okName s = true) (h3 : lookF D.F s = some f) (h4 : n ≤ f.bytes.length) : D.cut s (n : Int) = D.wr (putF D.F s (f.bytes.take n) (min f.sure n)) := by
  have : ¬ ((n : Int) < 0 ∨ (f.bytes.length : Int) < (n : Int)) := by omega
  simp only [Dk.cut, h, h2, h3, if_neg this]; simp
theorem sync_off {D : Dk} {s : ByteArray} (h : D.off = true) : D.sync s = (104, D) := by simp [Dk.sync, h]
theorem sync_name {D : Dk} {s : ByteArray} (h : D.off = false) (h2 : okName s = false) : D.sync s = (101, D) := by simp [Dk.sync, h, h2]
theorem sync_none {D : Dk} {s : ByteArray} (h : D.off = false) (h2 : okName s = true) (h3 : lookF D.F s = none) : D.sync s = (102, D) := by simp [Dk.sync, h, h2, h3]
theorem sync_fine {D : Dk} {s : ByteArray} {f : FileM} (h : D.off = false) (h2 : okName s = true) (h3 : lookF D.F s = some f) : D.sync s = D.wr (putF D.F s f.bytes f.bytes.length) := by simp [Dk.sync, h, h2, h3]
theorem read_off {D : Dk} {s : ByteArray} (h : D.off = true) : D.read s = ([], 104) ∧ D.sure s = (0, 104) := by simp [Dk.read, Dk.sure, h]
theorem read_name {D : Dk} {s : ByteArray} (h : D.off = false) (h2 : okName s = false) : D.read s = ([], 101) ∧ D.sure s = (0, 101) := by simp [Dk.read, Dk.sure, h, h2]
theorem read_none {D : Dk} {s : ByteArray} (h : D.off = false) (h2 : okName s = true) (h3 : lookF D.F s = none) : D.read s = ([], 102) ∧ D.sure s = (0, 102) := by simp [Dk.read, Dk.sure, h, h2, h3]
theorem read_fine {D : Dk} {s : ByteArray} {f : FileM} (h : D.off = false) (h2 : okName s = true) (h3 : lookF D.F s = some f) : D.read s = (f.bytes, 0) ∧ D.sure s = (f.sure, 0) := by simp [Dk.read, Dk.sure, h, h2, h3]
theorem append_off {D : Dk} {s : ByteArray} {B : List Nat} (h : D.off = true) : D.append s B = (104, D) := by simp [Dk.append, h]
theorem append_name {D : Dk} {s : ByteArray} {B : List Nat} (h : D.off = false) (h2 : okName s = false) : D.append s B = (101, D) := by simp [Dk.append, h, h2]
theorem append_full {D : Dk} {s : ByteArray} {B : List Nat} (h : D.off = false) (h2 : okName s = true) (h3 : ((lookF D.F s).isNone = true ∧ 256 ≤ D.F.length) ∨ D.room - tot D.F < B.length) : D.append s B = (103, D) := by
  simp only [Dk.append, h, h2, if_pos h3]; simp
theorem append_on {D : Dk} {s : ByteArray} {B : List Nat} (h : D.off = false) (h2 : okName s = true) (h3 : ¬ (((lookF D.F s).isNone = true ∧ 256 ≤ D.F.length) ∨ D.room - tot D.F < B.length)) (hT : ¬ D.armed = 1) :
    D.append s B = (0, { D with writes := D.writes + 1, armed := D.armed - 1, F := putF D.F s (bytesOf D.F s ++ B) (sureOf D.F s) }) := by
  simp only [Dk.append, h, h2, if_neg h3, hT]; simp [hT]
theorem append_torn {D : Dk} {s : ByteArray} {B : List Nat} (h : D.off = false) (h2 : okName s = true) (h3 : ¬ (((lookF D.F s).isNone = true ∧ 256 ≤ D.F.length) ∨ D.room - tot D.F < B.length)) (hT : D.armed = 1) (hk : (lookF D.F s).isSome = true ∨ 0 < D.keep) :
    D.append s B = (104, { D with writes := D.writes + 1, armed := D.armed - 1, off := true, F := goneF D.lose (putF D.F s (bytesOf D.F s ++ B.take (min D.keep.toNat B.length)) (sureOf D.F s)) }) := by
  have hk' : (lookF D.F s).isSome = true ∨ D.armed ≠ 1 ∨ 0 < D.keep := hk.imp id .inr
  simp only [Dk.append, h, h2, if_neg h3, if_pos hT, if_pos hk']; simp
theorem append_lost {D : Dk} {s : ByteArray} {B : List Nat} (h : D.off = false) (h2 : okName s = true) (h3 : ¬ (((lookF D.F s).isNone = true ∧ 256 ≤ D.F.length) ∨ D.room - tot D.F < B.length)) (hT : D.armed = 1) (hl : lookF D.F s = none) (hk : ¬ 0 < D.keep) :
    D.append s B = (104, { D with writes := D.writes + 1, armed := D.armed - 1, off := true, F := goneF D.lose D.F }) := by
  have hk' : ¬ ((lookF D.F s).isSome = true ∨ D.armed ≠ 1 ∨ 0 < D.keep) := by rw [hl]; simp [hT, hk]
  simp only [Dk.append, h, h2, if_neg h3, if_pos hT, if_neg hk']; simp
theorem bytesOf_none {F : List FileM} {s : ByteArray} (h : lookF F s = none) : bytesOf F s = [] ∧ sureOf F s = 0 := by simp [bytesOf, sureOf, h]
theorem bytesOf_some {F : List FileM} {s : ByteArray} {f : FileM} (h : lookF F s = some f) : bytesOf F s = f.bytes ∧ sureOf F s = f.sure := by simp [bytesOf, sureOf, h]
theorem fits_append {D : Dk} (h : D.ok) (hn : (D.F.map (·.name)).Nodup) {s : ByteArray} {B : List Nat} (hs : okName s = true) (h1 : lookF D.F s = none → D.F.length < 256) (hB : B.length ≤ D.room - tot D.F) (h3 : ∀ x ∈ B, x ≤ 255) :
    Fits D.room (putF D.F s (bytesOf D.F s ++ B) (sureOf D.F s)) ∧ tot (putF D.F s (bytesOf D.F s ++ B) (sureOf D.F s)) = tot D.F + B.length := by
  have e := tot_put (s := s) (B := bytesOf D.F s ++ B) (k := sureOf D.F s) hn
  rw [List.length_append] at e
  have := h.fits
  refine ⟨⟨by omega, ?_, ?_⟩, by omega⟩
  · rw [putF_len]
    cases hl : lookF D.F s with
    | none => have := h1 hl; simp; omega
    | some f => simpa using h.len
  · intro g hg
    rcases putF_mem hg with rfl | hg
    · cases hl : lookF D.F s with
      | none => obtain ⟨q1, q2⟩ := bytesOf_none hl; rw [q1, q2]; exact okF_new hs (Nat.zero_le _) (by simpa using h3)
      | some f =>
        obtain ⟨q1, q2⟩ := bytesOf_some hl
        rw [q1, q2]
        have q3 := h.files f (lookF_mem hl).1
        refine okF_new hs (by rw [List.length_append]; have := q3.2.1; omega) ?_
        intro x hx
        rcases List.mem_append.1 hx with hx | hx
        · exact q3.2.2 x hx
        · exact h3 x hx
    · exact h.files g hg
/-- the power comes back -/
def sureX (f : FileM) : FileM := ⟨f.name, f.bytes, f.bytes.length⟩
def Dk.on (D : Dk) : Dk := if D.off then { D with off := false, F := D.F.map sureX } else D
theorem tot_sureX (F : List FileM) : tot (F.map sureX) = tot F := by simp [tot, sureX, Function.comp_def]
theorem on_off {D : Dk} (h : D.off = true) : D.on = { D with off := false, F := D.F.map sureX } := by simp [Dk.on, h]
theorem on_on {D : Dk} (h : D.off = false) : D.on = D := by simp [Dk.on, h]
end Go.Proofs.Ytdmiklegahdafaa.K

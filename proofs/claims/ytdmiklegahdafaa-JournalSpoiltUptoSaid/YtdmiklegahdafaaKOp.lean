/- What each call leaves of a disk; a log, plain; a journal's file taken apart. -/
import Derived.Test.YtdmiklegahdafaaKJou
namespace Go.Proofs.Ytdmiklegahdafaa.K
open Go Go.RowKit
set_option linter.unusedSimpArgs false
set_option linter.unusedVariables false
section

structure Stp (e : Nat) (D1 : Dk) (r : Nat × Dk) (D : Dk) : Prop where
  eq : r = (e, D1)
  ok : D1.ok
  le : e ≤ 200
  wr : D1.writes ≤ D.writes + 1
theorem Stp.same {D : Dk} {e : Nat} {r : Nat × Dk} (h : D.ok) (hr : r = (e, D)) (he : e ≤ 200) : Stp r.1 r.2 r D := by subst hr; exact ⟨rfl, h, he, by show D.writes ≤ _; omega⟩
theorem Stp.wr_ {D : Dk} {F2 : List FileM} {r : Nat × Dk} (h : D.ok) (hf : Fits D.room F2) (hr : r = D.wr F2) : Stp r.1 r.2 r D := by
  subst hr
  obtain ⟨h1, h2, h3⟩ := hf
  refine ⟨rfl, ok_wr h h1 h2 h3, ?_, ?_⟩
  · unfold Dk.wr; split <;> split <;> simp
  · unfold Dk.wr; split <;> split <;> simp
theorem Stp.cut {D : Dk} (h : D.ok) (hn : (D.F.map (·.name)).Nodup) (s : ByteArray) (x : Int) : Stp (D.cut s x).1 (D.cut s x).2 (D.cut s x) D := by
  cases ho : D.off
  case true => exact .same h (cut_off ho) (by omega)
  case false =>
  cases hs : okName s
  case false => exact .same h (cut_name ho hs) (by omega)
  case true =>
  cases hl : lookF D.F s with
  | none => exact .same h (cut_none ho hs hl) (by omega)
  | some f =>
    by_cases hx : x < 0 ∨ (f.bytes.length : Int) < x
    · exact .same h (cut_bad ho hs hl hx) (by omega)
    · obtain ⟨n, rfl⟩ : ∃ n : Nat, x = n := ⟨x.toNat, by omega⟩
      obtain ⟨h1, h2, h3, h4⟩ := h.file hl
      exact .wr_ h (fits_put h hn hl (by rw [List.length_take]; omega) (by rw [List.length_take]; omega) (fun y hy => h3 y (List.mem_of_mem_take hy))) (cut_fine ho hs hl (by omega))
theorem Stp.sync {D : Dk} (h : D.ok) (hn : (D.F.map (·.name)).Nodup) (s : ByteArray) : Stp (D.sync s).1 (D.sync s).2 (D.sync s) D := by
  cases ho : D.off
  case true => exact .same h (sync_off ho) (by omega)
  case false =>
  cases hs : okName s
  case false => exact .same h (sync_name ho hs) (by omega)
  case true =>
  cases hl : lookF D.F s with
  | none => exact .same h (sync_none ho hs hl) (by omega)
  | some f =>
    obtain ⟨h1, h2, h3, h4⟩ := h.file hl
    exact .wr_ h (fits_put h hn hl (by omega) (by omega) h3) (sync_fine ho hs hl)
theorem fits_gone {room : Nat} {lose : Int} {F : List FileM} (h : Fits room F) : Fits room (goneF lose F) := by
  obtain ⟨h1, h2, h3⟩ := h
  refine ⟨Nat.le_trans (tot_gone lose F) h1, by simpa [goneF] using h2, fun f hf => ?_⟩
  obtain ⟨g, hg, rfl⟩ := List.mem_map.1 hf
  exact okF_gone (h3 g hg)
theorem Stp.append {D : Dk} (h : D.ok) (hn : (D.F.map (·.name)).Nodup) (s : ByteArray) {B : List Nat} (hB : ∀ x ∈ B, x ≤ 255) : Stp (D.append s B).1 (D.append s B).2 (D.append s B) D := by
  cases ho : D.off
  case true => exact .same h (append_off ho) (by omega)
  case false =>
  cases hs : okName s
  case false => exact .same h (append_name ho hs) (by omega)
  case true =>
  by_cases h3 : ((lookF D.F s).isNone = true ∧ 256 ≤ D.F.length) ∨ D.room - tot D.F < B.length
  · exact .same h (append_full ho hs h3) (by omega)
  have hlen : lookF D.F s = none → D.F.length < 256 := fun q => by
    rcases Nat.lt_or_ge D.F.length 256 with q2 | q2
    · exact q2
    · exact absurd (.inl ⟨by rw [q]; rfl, q2⟩) h3
  have ha := h.armed
  by_cases hT : D.armed = 1
  · have hf := (fits_append (B := B.take (min D.keep.toNat B.length)) h hn hs hlen (by rw [List.length_take]; omega) (fun y hy => hB y (List.mem_of_mem_take hy))).1
    by_cases hk : (lookF D.F s).isSome = true ∨ 0 < D.keep
    · rw [append_torn ho hs h3 hT hk]; exact ⟨rfl, h.put (fits_gone hf) (by omega), by simp, Nat.le_refl _⟩
    · have hk2 : lookF D.F s = none := by
        cases q : lookF D.F s with
        | none => rfl
        | some f => exact absurd (.inl (by rw [q]; rfl)) hk
      rw [append_lost ho hs h3 hT hk2 (fun q => hk (.inr q))]; exact ⟨rfl, h.put (fits_gone h.fit) (by omega), by simp, Nat.le_refl _⟩
  · rw [append_on ho hs h3 hT]
    exact ⟨rfl, h.put (fits_append h hn hs hlen (by omega) hB).1 (by omega), by simp, Nat.le_refl _⟩
structure StpN (n : Nat) (e : Nat) (D1 : Dk) (r : Nat × Dk) (D : Dk) : Prop where
  eq : r = (e, D1)
  ok : D1.ok
  le : e ≤ 200
  wr : D1.writes ≤ D.writes + n
def headL : List Nat := [70, 65, 84, 72, 79, 77, 74, 49]
theorem headL_fit : ∀ x ∈ headL, x ≤ 255 := by decide
def Dk.begin (D : Dk) (s : ByteArray) (k : Nat) : Nat × Dk :=
  let r := if 0 < k then D.cut s 0 else (0, D)
  if r.1 ≠ 0 then r else
  let q := r.2.append s headL
  if q.1 ≠ 0 then q else q.2.sync s
theorem begin_1 {D D1 : Dk} {s : ByteArray} {k e : Nat} (hk : k > 0) (h : Stp e D1 (D.cut s 0) D) (he : ¬ e = 0) : StpN 3 e D1 (D.begin s k) D :=
  ⟨by simp [Dk.begin, hk, h.eq, he], h.ok, h.le, by have := h.wr; omega⟩
theorem begin_2 {D D1 D2 : Dk} {s : ByteArray} {k e e2 : Nat} (hk : k > 0) (h : Stp e D1 (D.cut s 0) D) (he : e = 0) (h2 : Stp e2 D2 (D1.append s headL) D1) (he2 : ¬ e2 = 0) : StpN 3 e2 D2 (D.begin s k) D :=
  ⟨by simp [Dk.begin, hk, h.eq, he, h2.eq, he2], h2.ok, h2.le, by have := h.wr; have := h2.wr; omega⟩
theorem begin_3 {D D1 D2 D3 : Dk} {s : ByteArray} {k e e2 e3 : Nat} (hk : k > 0) (h : Stp e D1 (D.cut s 0) D) (he : e = 0) (h2 : Stp e2 D2 (D1.append s headL) D1) (he2 : e2 = 0) (h3 : Stp e3 D3 (D2.sync s) D2) : StpN 3 e3 D3 (D.begin s k) D :=
  ⟨by simp [Dk.begin, hk, h.eq, he, h2.eq, he2, h3.eq], h3.ok, h3.le, by have := h.wr; have := h2.wr; have := h3.wr; omega⟩
theorem begin_02 {D D2 : Dk} {s : ByteArray} {k e2 : Nat} (hk : ¬ k > 0) (h2 : Stp e2 D2 (D.append s headL) D) (he2 : ¬ e2 = 0) : StpN 3 e2 D2 (D.begin s k) D :=
  ⟨by simp [Dk.begin, hk, h2.eq, he2], h2.ok, h2.le, by have := h2.wr; omega⟩
theorem begin_03 {D D2 D3 : Dk} {s : ByteArray} {k e2 e3 : Nat} (hk : ¬ k > 0) (h2 : Stp e2 D2 (D.append s headL) D) (he2 : e2 = 0) (h3 : Stp e3 D3 (D2.sync s) D2) : StpN 3 e3 D3 (D.begin s k) D :=
  ⟨by simp [Dk.begin, hk, h2.eq, he2, h3.eq], h3.ok, h3.le, by have := h2.wr; have := h3.wr; omega⟩
end
section

structure Lg where
  size : Nat
  count : Nat
  off : Bool
def Lg.append (z : Lg) (D : Dk) (s : ByteArray) (B : List (List Nat)) : Nat × Lg × Dk :=
  if z.off then (112, z, D) else
  if 4096 < B.length ∨ 4194304 < (bodyL B).length then (110, z, D) else
  let r := D.append s (recL B)
  let q := if r.1 = 0 then r.2.sync s else r
  if q.1 ≠ 0 then (q.1, { z with off := true }, q.2) else (0, { z with size := z.size + (recL B).length, count := z.count + 1 }, q.2)
def Lg.clear (z : Lg) (D : Dk) (s : ByteArray) : Nat × Lg × Dk :=
  if z.off then (112, z, D) else
  let r := D.cut s 8
  if r.1 ≠ 0 then (r.1, { z with off := true }, r.2) else (0, { z with size := 8, count := 0 }, r.2)
structure LgS (e : Nat) (z1 : Lg) (D1 : Dk) (r : Nat × Lg × Dk) (z : Lg) (D : Dk) : Prop where
  eq : r = (e, z1, D1)
  ok : D1.ok
  le : e ≤ 200
  wr : D1.writes ≤ D.writes + 2
  size : z1.size ≤ z.size + 4194312
  count : z1.count ≤ z.count + 1
variable {z : Lg} {D D1 D2 : Dk} {s : ByteArray} {B : List (List Nat)} {e e2 : Nat}
theorem lapp_off (ok : D.ok) (h : z.off = true) : LgS 112 z D (z.append D s B) z D := ⟨by simp [Lg.append, h], ok, by omega, by omega, by omega, by omega⟩
theorem lapp_long (ok : D.ok) (h : z.off = false) (h2 : 4096 < B.length ∨ 4194304 < (bodyL B).length) : LgS 110 z D (z.append D s B) z D := ⟨by simp [Lg.append, h, h2], ok, by omega, by omega, by omega, by omega⟩
theorem lapp_f1 (h : z.off = false) (h2 : ¬ (4096 < B.length ∨ 4194304 < (bodyL B).length)) (h3 : Stp e D1 (D.append s (recL B)) D) (he : ¬ e = 0) : LgS e { z with off := true } D1 (z.append D s B) z D :=
  ⟨by simp only [Lg.append, if_neg h2, h3.eq]; simp [h, he], h3.ok, h3.le, by have := h3.wr; omega, by show z.size ≤ _; omega, by show z.count ≤ _; omega⟩
theorem lapp_f2 (h : z.off = false) (h2 : ¬ (4096 < B.length ∨ 4194304 < (bodyL B).length)) (h3 : Stp e D1 (D.append s (recL B)) D) (he : e = 0) (h4 : Stp e2 D2 (D1.sync s) D1) (he2 : ¬ e2 = 0) : LgS e2 { z with off := true } D2 (z.append D s B) z D :=
  ⟨by subst he; simp only [Lg.append, if_neg h2, h3.eq]; simp [h, h4.eq, he2], h4.ok, h4.le, by have := h3.wr; have := h4.wr; omega, by show z.size ≤ _; omega, by show z.count ≤ _; omega⟩
theorem lapp_ok (h : z.off = false) (h2 : ¬ (4096 < B.length ∨ 4194304 < (bodyL B).length)) (h3 : Stp e D1 (D.append s (recL B)) D) (he : e = 0) (h4 : Stp e2 D2 (D1.sync s) D1) (he2 : e2 = 0) : LgS 0 { z with size := z.size + (recL B).length, count := z.count + 1 } D2 (z.append D s B) z D :=
  ⟨by subst he; subst he2; simp only [Lg.append, if_neg h2, h3.eq]; simp [h, h4.eq], h4.ok, by omega, by have := h3.wr; have := h4.wr; omega, by show z.size + (recL B).length ≤ _; rw [recL_len]; omega, Nat.le_refl _⟩
theorem lclr_off (ok : D.ok) (h : z.off = true) : LgS 112 z D (z.clear D s) z D := ⟨by simp [Lg.clear, h], ok, by omega, by omega, by omega, by omega⟩
theorem lclr_f (h : z.off = false) (h3 : Stp e D1 (D.cut s 8) D) (he : ¬ e = 0) : LgS e { z with off := true } D1 (z.clear D s) z D :=
  ⟨by simp [Lg.clear, h, h3.eq, he], h3.ok, h3.le, by have := h3.wr; omega, by show z.size ≤ _; omega, by show z.count ≤ _; omega⟩
theorem lclr_ok (h : z.off = false) (h3 : Stp e D1 (D.cut s 8) D) (he : e = 0) : LgS 0 { z with size := 8, count := 0 } D1 (z.clear D s) z D :=
  ⟨by subst he; simp [Lg.clear, h, h3.eq], h3.ok, by omega, by have := h3.wr; omega, by show 8 ≤ _; omega, by show 0 ≤ _; omega⟩
end
section

def recsL (RR : List (List (List Nat))) : List Nat := RR.flatMap recL
def goodR (LL : List (List Nat)) : Prop := LL.length ≤ 4096 ∧ (bodyL LL).length ≤ 4194304
/-- what is torn off at the end -/
def TornR (R : List Nat) : Prop := 0 < R.length ∧ (R.length < 8 ∨ (numL R ≤ 4194304 ∧ R.length - 8 < numL R))
/-- what is no record -/
def BadR (R : List Nat) : Prop := 8 ≤ R.length ∧ (4194304 < numL R ∨ (numL R ≤ 4194304 ∧ numL R ≤ R.length - 8 ∧ (crcM (crcM 0 (R.take 4)) ((R.drop 8).take (numL R)) ≠ numL (R.drop 4) ∨ ∀ LL, goodR LL → (R.drop 8).take (numL R) ≠ bodyL LL)))
theorem recsL_snoc (RR : List (List (List Nat))) (LL : List (List Nat)) : recsL (RR ++ [LL]) = recsL RR ++ recL LL := by simp [recsL]
theorem recsL_cons (LL : List (List Nat)) (RR : List (List (List Nat))) : recsL (LL :: RR) = recL LL ++ recsL RR := by simp [recsL]
theorem four_num {R : List Nat} (h : 4 ≤ R.length) (hf : ∀ x ∈ R, x ≤ 255) : R.take 4 = fourL (numL R) := by
  rcases R with _ | ⟨a, _ | ⟨b, _ | ⟨c, _ | ⟨d, R⟩⟩⟩⟩
  · simp at h
  · simp at h
  · simp at h
  · simp at h
  · have ha := hf a (by simp); have hb := hf b (by simp); have hc := hf c (by simp); have hd := hf d (by simp)
    simp only [List.take_succ_cons, List.take_zero, fourL, numL, List.getD_cons_zero, List.getD_cons_succ, List.cons.injEq, and_true]
    refine ⟨?_, ?_, ?_, ?_⟩ <;> omega
theorem rec_step {R : List Nat} {LL : List (List Nat)} (h8 : 8 ≤ R.length) (hf : ∀ x ∈ R, x ≤ 255) (hn : numL R ≤ R.length - 8) (hs : crcM (crcM 0 (R.take 4)) ((R.drop 8).take (numL R)) = numL (R.drop 4)) (hb : (R.drop 8).take (numL R) = bodyL LL) : R = recL LL ++ (R.drop 8).drop (numL R) := by
  have hl : (bodyL LL).length = numL R := by rw [← hb, List.length_take, List.length_drop]; omega
  have e1 : R.take 4 = fourL (numL R) := four_num (by omega) hf
  have e2 : (R.drop 4).take 4 = fourL (numL (R.drop 4)) := four_num (by rw [List.length_drop]; omega) fun x hx => hf x (List.mem_of_mem_drop hx)
  have e3 : recL LL = R.take 4 ++ ((R.drop 4).take 4 ++ bodyL LL) := by
    unfold recL
    rw [hl, e2, e1, ← hs, hb, e1]
  rw [e3, ← hb, List.append_assoc, List.append_assoc, List.take_append_drop]
  have e4 : R.drop 8 = (R.drop 4).drop 4 := by rw [List.drop_drop]
  rw [e4, List.take_append_drop, List.take_append_drop]
theorem bodyL_inj {A B : List (List Nat)} (hb : (bodyL A).length ≤ 4294967295) (h : bodyL A = bodyL B) : A = B := by
  induction A generalizing B with
  | nil =>
    cases B with
    | nil => rfl
    | cons r B => rw [bodyL_cons] at h; simp [bodyL, fourL] at h
  | cons r A ih =>
    cases B with
    | nil => rw [bodyL_cons] at h; simp [bodyL, fourL] at h
    | cons r2 B =>
      have hl := congrArg List.length h
      rw [bodyL_cons] at hb h hl
      rw [bodyL_cons] at h hl
      simp only [List.length_append, fourL_len] at hb hl
      have e1 : numL (fourL r.length ++ (r ++ bodyL A)) = r.length := numL_app (by omega) _
      rw [h, numL_app (by omega)] at e1
      rw [e1] at h
      obtain ⟨e3, e4⟩ := List.append_inj (List.append_cancel_left h) e1.symm
      rw [e3, ih (by omega) e4]
theorem not_good {R : List Nat} {LL : List (List Nat)} (hR : (R.drop 8).take (numL R) = bodyL LL) (hb : R.length ≤ 4294967295) (h : ¬ LL.length ≤ 4096) : ∀ M, goodR M → (R.drop 8).take (numL R) ≠ bodyL M := by
  intro M hM e
  rw [hR] at e
  have hl := congrArg List.length hR
  rw [List.length_take, List.length_drop] at hl
  rw [bodyL_inj (by omega) e] at h
  exact h hM.1
structure RdD (B : List Nat) (e : Nat) (r : List Nat × Nat) : Prop where
  eq : r = (B, e)
  fit : ∀ x ∈ B, x ≤ 255
  len : B.length ≤ 268435456
  le : e ≤ 200
theorem RdD.of {D : Dk} (h : D.ok) (s : ByteArray) : RdD (D.read s).1 (D.read s).2 (D.read s) := by
  have hr := h.room
  have hf0 := h.fits
  cases ho : D.off
  case true => rw [(read_off ho).1]; exact ⟨rfl, by simp, by simp, by omega⟩
  case false =>
  cases hs : okName s
  case false => rw [(read_name ho hs).1]; exact ⟨rfl, by simp, by simp, by omega⟩
  case true =>
  cases hl : lookF D.F s with
  | none => rw [(read_none ho hs hl).1]; exact ⟨rfl, by simp, by simp, by omega⟩
  | some f =>
    obtain ⟨h1, h2, h3, h4⟩ := h.file hl
    rw [(read_fine ho hs hl).1]; exact ⟨rfl, h3, by show f.bytes.length ≤ _; omega, by omega⟩
theorem RdD.same {B B2 : List Nat} {e e2 : Nat} {r : List Nat × Nat} (h : RdD B e r) (h2 : RdD B2 e2 r) : B = B2 ∧ e = e2 := by
  have := h.eq.symm.trans h2.eq
  exact ⟨congrArg Prod.fst this, congrArg Prod.snd this⟩
theorem mid_eq {R : List Nat} {q : Nat} : (R.take (8 + q)).drop 8 = (R.drop 8).take q := by rw [List.drop_take]; congr 1; omega
/-- as the walk tells it -/
theorem rec_step' {R : List Nat} {LL : List (List Nat)} {q q2 : Nat} (hq : NumIs q R) (hq2 : NumIs q2 (R.drop 4)) (h8 : 8 ≤ R.length) (hf : ∀ x ∈ R, x ≤ 255) (hn : q ≤ R.length - 8) (hs : crcM (crcM 0 (R.take 4)) ((R.take (8 + q)).drop 8) = q2) (hb : (R.take (8 + q)).drop 8 = bodyL LL) : R = recL LL ++ R.drop (8 + q) := by
  unfold NumIs at hq hq2
  subst hq hq2
  rw [mid_eq] at hs hb
  have := rec_step h8 hf hn hs hb
  rwa [List.drop_drop] at this
theorem torn_a {R : List Nat} (h0 : ¬ R.length = 0) (h : R.length < 8) : TornR R := ⟨by omega, .inl h⟩
theorem torn_b {R : List Nat} {q : Nat} (hq : NumIs q R) (h8 : ¬ R.length < 8) (h1 : ¬ q > 4194304) (h : q > R.length - 8) : TornR R := by
  unfold NumIs at hq; subst hq; exact ⟨by omega, .inr ⟨by omega, by omega⟩⟩
theorem bad_a {R : List Nat} {q : Nat} (hq : NumIs q R) (h8 : ¬ R.length < 8) (h1 : q > 4194304) : BadR R := by
  unfold NumIs at hq; subst hq; exact ⟨by omega, .inl (by omega)⟩
theorem bad_b {R : List Nat} {q q2 : Nat} (hq : NumIs q R) (hq2 : NumIs q2 (R.drop 4)) (h8 : ¬ R.length < 8) (h1 : ¬ q > 4194304) (h : q ≤ R.length - 8) (hs : ¬ crcM (crcM 0 (R.take 4)) ((R.take (8 + q)).drop 8) = q2) : BadR R := by
  unfold NumIs at hq hq2; subst hq hq2; rw [mid_eq] at hs; exact ⟨by omega, .inr ⟨by omega, by omega, .inl hs⟩⟩
theorem bad_c {R : List Nat} {q : Nat} (hq : NumIs q R) (h8 : ¬ R.length < 8) (h1 : ¬ q > 4194304) (h : q ≤ R.length - 8) (hb : ∀ M, (R.take (8 + q)).drop 8 ≠ bodyL M) : BadR R := by
  unfold NumIs at hq; subst hq; rw [mid_eq] at hb; exact ⟨by omega, .inr ⟨by omega, by omega, .inr fun M _ => hb M⟩⟩
theorem bad_d {R : List Nat} {LL : List (List Nat)} {q : Nat} (hq : NumIs q R) (hl : R.length ≤ 4294967295) (h8 : ¬ R.length < 8) (h1 : ¬ q > 4194304) (h : q ≤ R.length - 8) (hb : (R.take (8 + q)).drop 8 = bodyL LL) (hr : ¬ LL.length ≤ 4096) : BadR R := by
  unfold NumIs at hq; subst hq; rw [mid_eq] at hb; exact ⟨by omega, .inr ⟨by omega, by omega, .inr (not_good hb hl hr)⟩⟩
theorem recsL_long (RR : List (List (List Nat))) : 8 * RR.length ≤ (recsL RR).length := by
  induction RR with
  | nil => simp
  | cons LL RR ih => rw [recsL_cons, List.length_append, recL_len, List.length_cons]; omega
theorem opn_next {B R : List Nat} {RR : List (List (List Nat))} {LL : List (List Nat)} {q q2 : Nat} (hBR : B = headL ++ (recsL RR ++ R)) (hgd : ∀ L ∈ RR, goodR L) (hf : ∀ x ∈ R, x ≤ 255) (hq : NumIs q R) (hq2 : NumIs q2 (R.drop 4)) (h8 : ¬ R.length < 8) (h4 : ¬ q > 4194304) (hn : q ≤ R.length - 8) (hs : crcM (crcM 0 (R.take 4)) ((R.take (8 + q)).drop 8) = q2) (hb : (R.take (8 + q)).drop 8 = bodyL LL) (hr : LL.length ≤ 4096) :
    (recsL (RR ++ [LL])).length = (recsL RR).length + (8 + q) ∧ B = headL ++ (recsL (RR ++ [LL]) ++ R.drop (8 + q)) ∧ ∀ L ∈ RR ++ [LL], goodR L := by
  have hl : (bodyL LL).length = q := by rw [← hb, List.length_drop, List.length_take]; omega
  refine ⟨?_, ?_, ?_⟩
  · rw [recsL_snoc, List.length_append, recL_len]; omega
  · rw [recsL_snoc, List.append_assoc, ← rec_step' hq hq2 (by omega) hf hn hs hb]; exact hBR
  · intro L hL
    rcases List.mem_append.1 hL with hL | hL
    · exact hgd L hL
    · rw [List.mem_singleton.1 hL]; exact ⟨hr, by omega⟩
/-! the head, as strings tell it -/
abbrev headS : ByteArray := ⟨#[70, 65, 84, 72, 79, 77, 74, 49]⟩
theorem headS_L : strL headS = headL := by decide
theorem strB_size (B : List Nat) (hf : ∀ x ∈ B, x ≤ 255) : (strB B).size = B.length := by rw [← strL_len, strL_strB B hf]
theorem headS_size : headS.size ≤ 9223372036854775807 := by decide
theorem head_pre {B : List Nat} (hf : ∀ x ∈ B, x ≤ 255) (h : strL headS = (strL (strB B)).take headS.size) : B = headL ++ B.drop 8 := by
  rw [strL_strB B hf, headS_L] at h
  have h2 : headL = B.take 8 := h
  rw [h2, List.take_append_drop]
theorem head_long {B : List Nat} (hf : ∀ x ∈ B, x ≤ 255) (h : strL headS = (strL (strB B)).take headS.size) : 8 ≤ B.length := by
  have q := congrArg List.length (head_pre hf h)
  rw [List.length_append] at q
  have : headL.length = 8 := rfl
  omega
theorem head_not {B : List Nat} (hf : ∀ x ∈ B, x ≤ 255) (h : ¬ strL headS = (strL (strB B)).take headS.size) : ∀ R, B ≠ headL ++ R := by
  rintro R rfl
  rw [strL_strB _ hf, headS_L] at h
  exact h rfl
theorem head_short {B : List Nat} (hf : ∀ x ∈ B, x ≤ 255) (h : strL (strB B) = (strL headS).take (strB B).size) : B = headL.take B.length := by
  have hl : (strB B).size = B.length := by rw [← strL_len, strL_strB B hf]
  rw [strL_strB B hf, headS_L, hl] at h
  exact h
theorem head_short_not {B : List Nat} (hf : ∀ x ∈ B, x ≤ 255) (h : ¬ strL (strB B) = (strL headS).take (strB B).size) : ¬ (B.length < 8 ∧ B = headL.take B.length) := by
  rintro ⟨_, h2⟩
  refine h ?_
  rw [strL_strB B hf, headS_L, strB_size B hf]
  exact h2
/-- what Open tells: the code, the disk behind it, the records, the log (these two count if the code is 0) -/
inductive OpnS (D : Dk) (s : ByteArray) : Nat → Dk → List (List (List Nat)) → Lg → Prop
  | rd {B : List Nat} {e : Nat} {z : Lg} (h : RdD B e (D.read s)) (h1 : e ≠ 0) (h2 : e ≠ 102) : OpnS D s e D [] z
  | short {B : List Nat} {e0 e : Nat} {D1 : Dk} (h : RdD B e0 (D.read s)) (h1 : e0 = 0 ∨ e0 = 102) (h2 : B.length < 8) (h3 : B = headL.take B.length) (h4 : StpN 3 e D1 (D.begin s B.length) D) : OpnS D s e D1 [] ⟨8, 0, false⟩
  | head {B : List Nat} {e0 : Nat} {z : Lg} (h : RdD B e0 (D.read s)) (h1 : e0 = 0 ∨ e0 = 102) (h2 : ¬ (B.length < 8 ∧ B = headL.take B.length)) (h3 : ∀ R, B ≠ headL ++ R) : OpnS D s 111 D [] z
  | clean {B : List Nat} {e0 : Nat} {RR : List (List (List Nat))} (h : RdD B e0 (D.read s)) (h1 : e0 = 0 ∨ e0 = 102) (h2 : B = headL ++ recsL RR) (h3 : ∀ LL ∈ RR, goodR LL) : OpnS D s 0 D RR ⟨8 + (recsL RR).length, RR.length, false⟩
  | torn {B : List Nat} {e0 e : Nat} {D1 : Dk} {RR : List (List (List Nat))} {R : List Nat} (h : RdD B e0 (D.read s)) (h1 : e0 = 0 ∨ e0 = 102) (h2 : B = headL ++ (recsL RR ++ R)) (h3 : ∀ LL ∈ RR, goodR LL) (h4 : TornR R) (h5 : Stp e D1 (D.cut s ((8 + (recsL RR).length : Nat) : Int)) D) : OpnS D s e D1 RR ⟨8 + (recsL RR).length, RR.length, false⟩
  | bad {B : List Nat} {e0 : Nat} {RR : List (List (List Nat))} {R : List Nat} {z : Lg} (h : RdD B e0 (D.read s)) (h1 : e0 = 0 ∨ e0 = 102) (h2 : B = headL ++ (recsL RR ++ R)) (h3 : ∀ LL ∈ RR, goodR LL) (h4 : BadR R) : OpnS D s 111 D RR z
end
end Go.Proofs.Ytdmiklegahdafaa.K

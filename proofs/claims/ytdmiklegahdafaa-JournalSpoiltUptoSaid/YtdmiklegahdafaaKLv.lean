/- A live disk of files: what the calls of a disk and of a log do to one of them; what a whole log, opened again, tells. -/
import Derived.Test.YtdmiklegahdafaaKOp
namespace Go.Proofs.Ytdmiklegahdafaa.K
open Go Go.RowKit
set_option linter.unusedSimpArgs false
set_option linter.unusedVariables false

structure Lv (D : Dk) : Prop where
  ok : D.ok
  names : (D.F.map (·.name)).Nodup
  off : D.off = false
  armed : D.armed = 0
/-- of D one file, s, is another one, by n writes; B0 is what it was -/
structure Up (D D1 : Dk) (s : ByteArray) (B0 B : List Nat) (k n : Nat) : Prop where
  lv : Lv D1
  at_ : lookF D1.F s = some ⟨s, B, k⟩
  ne : ∀ t, t ≠ s → lookF D1.F t = lookF D.F t
  tot : tot D1.F + B0.length = tot D.F + B.length
  len : D1.F.length ≤ D.F.length + 1
  wr : D1.writes = D.writes + n
  room : D1.room = D.room
theorem look_put {F : List FileM} {s : ByteArray} {B : List Nat} {k : Nat} : lookF (putF F s B k) s = some ⟨s, B, k⟩ := by
  unfold putF
  cases hl : lookF F s with
  | none =>
    simp only
    induction F with
    | nil => simp [lookF]
    | cons g r ih =>
      unfold lookF at hl
      by_cases hs : g.name = s
      · rw [if_pos hs] at hl; cases hl
      · rw [if_neg hs] at hl
        rw [List.cons_append]; unfold lookF; rw [if_neg hs]; exact ih hl
  | some f =>
    simp only
    induction F with
    | nil => cases hl
    | cons g r ih =>
      unfold lookF at hl
      rw [List.map_cons]
      by_cases hs : g.name = s
      · unfold lookF; rw [if_pos hs, if_pos rfl]
      · rw [if_neg hs] at hl
        unfold lookF; rw [if_neg hs, if_neg hs]; exact ih hl
theorem look_put_ne {F : List FileM} {s t : ByteArray} {B : List Nat} {k : Nat} (h : t ≠ s) : lookF (putF F s B k) t = lookF F t := by
  unfold putF
  cases lookF F s with
  | none =>
    simp only
    induction F with
    | nil => simp only [List.nil_append]; unfold lookF; rw [if_neg (fun q => h q.symm)]; rfl
    | cons g r ih =>
      rw [List.cons_append]; unfold lookF
      by_cases hs : g.name = t
      · rw [if_pos hs, if_pos hs]
      · rw [if_neg hs, if_neg hs]; exact ih
  | some f =>
    simp only
    induction F with
    | nil => rfl
    | cons g r ih =>
      rw [List.map_cons]; unfold lookF
      by_cases hs : g.name = s
      · rw [if_pos hs, if_neg (fun q : s = t => h q.symm), if_neg (fun q : g.name = t => h (q.symm.trans hs))]; exact ih
      · rw [if_neg hs]
        by_cases ht : g.name = t
        · rw [if_pos ht, if_pos ht]
        · rw [if_neg ht, if_neg ht]; exact ih
theorem put_names {F : List FileM} {s : ByteArray} {B : List Nat} {k : Nat} (h : (F.map (·.name)).Nodup) : ((putF F s B k).map (·.name)).Nodup := by
  unfold putF
  cases hl : lookF F s with
  | none =>
    simp only [List.map_append, List.map_cons, List.map_nil]
    rw [List.nodup_append]
    refine ⟨h, by simp, ?_⟩
    intro a ha b hb q
    obtain ⟨f, hf, rfl⟩ := List.mem_map.1 ha
    rw [List.mem_singleton] at hb
    exact lookF_none hl f hf (q.trans hb)
  | some f =>
    simp only [List.map_map]
    have e : ((fun f : FileM => f.name) ∘ fun f : FileM => if f.name = s then (⟨s, B, k⟩ : FileM) else f) = fun f : FileM => f.name := by
      funext x
      by_cases q : x.name = s
      · simp [Function.comp, q]
      · simp [Function.comp, q]
    rw [e]; exact h
variable {D D1 : Dk} {s : ByteArray} {B B0 : List Nat} {k n e : Nat}
theorem Lv.put (h : Lv D) (hs : okName s = true) (hB0 : bytesOf D.F s = B0) (hk : k ≤ B.length) (hB : ∀ x ∈ B, x ≤ 255) (hr : tot D.F + B.length ≤ D.room + B0.length) (hl : lookF D.F s = none → D.F.length < 256) :
    Up D { D with writes := D.writes + 1, armed := D.armed - 1, F := putF D.F s B k } s B0 B k 1 := by
  have ht := tot_put (s := s) (B := B) (k := k) h.names
  rw [hB0] at ht
  have hlen : (putF D.F s B k).length ≤ D.F.length + 1 ∧ (putF D.F s B k).length ≤ 256 := by
    rw [putF_len]
    cases q : lookF D.F s with
    | none => have := hl q; simp; omega
    | some f => have := h.ok.len; simp; omega
  refine ⟨⟨h.ok.put ⟨by omega, hlen.2, ?_⟩ (by rw [h.armed]; omega), put_names h.names, h.off, by show D.armed - 1 = 0; rw [h.armed]⟩, look_put, fun t ht => look_put_ne ht, ht, hlen.1, rfl, rfl⟩
  intro f hf
  rcases putF_mem hf with rfl | hf
  · exact okF_new hs hk hB
  · exact h.ok.files f hf
/-- the file s stands there -/
theorem Lv.file (h : Lv D) (ha : lookF D.F s = some ⟨s, B, k⟩) : okName s = true ∧ bytesOf D.F s = B ∧ sureOf D.F s = k ∧ k ≤ B.length ∧ (∀ x ∈ B, x ≤ 255) ∧ B.length ≤ tot D.F := by
  obtain ⟨h1, h2, h3, -⟩ := h.ok.file ha
  obtain ⟨h5, h6⟩ := bytesOf_some ha
  exact ⟨(h.ok.files _ (lookF_mem ha).1).1, h5, h6, h2, h3, h1⟩
theorem lv_append (h : Lv D) (ha : lookF D.F s = some ⟨s, B0, k⟩) (hB : ∀ x ∈ B, x ≤ 255) (hr : tot D.F + B.length ≤ D.room) (hst : Stp e D1 (D.append s B) D) : e = 0 ∧ Up D D1 s B0 (B0 ++ B) k 1 := by
  obtain ⟨hs, hb, hk, hk2, hf, -⟩ := h.file ha
  have he := hst.eq
  rw [append_on h.off hs (by rw [ha]; rintro (⟨q, -⟩ | q) <;> first | cases q | omega) (by rw [h.armed]; decide), hb, hk] at he
  cases he
  exact ⟨rfl, h.put hs hb (by rw [List.length_append]; omega) (app_fit hf hB) (by rw [List.length_append]; omega) (fun q => by rw [ha] at q; cases q)⟩
theorem lv_append0 (h : Lv D) (hs : okName s = true) (ha : lookF D.F s = none) (hl : D.F.length < 256) (hB : ∀ x ∈ B, x ≤ 255) (hr : tot D.F + B.length ≤ D.room) (hst : Stp e D1 (D.append s B) D) : e = 0 ∧ Up D D1 s [] B 0 1 := by
  have he := hst.eq
  obtain ⟨hb, hk⟩ := bytesOf_none ha
  rw [append_on h.off hs (by rintro (⟨-, q⟩ | q) <;> omega) (by rw [h.armed]; decide), hb, hk, List.nil_append] at he
  cases he
  exact ⟨rfl, h.put hs hb (Nat.zero_le _) hB (by simp; omega) (fun _ => hl)⟩
theorem lv_sync (h : Lv D) (ha : lookF D.F s = some ⟨s, B, k⟩) (hst : Stp e D1 (D.sync s) D) : e = 0 ∧ Up D D1 s B B B.length 1 := by
  obtain ⟨hs, hb, hk, hk2, hf, -⟩ := h.file ha
  have he := hst.eq
  have := h.ok.fits
  rw [sync_fine h.off hs ha, wr_on (by rw [h.armed]; decide)] at he
  simp only at he
  cases he
  exact ⟨rfl, h.put hs hb (Nat.le_refl _) hf (by omega) (fun q => by rw [ha] at q; cases q)⟩
theorem lv_cut (h : Lv D) (ha : lookF D.F s = some ⟨s, B, k⟩) (hn : n ≤ B.length) (hst : Stp e D1 (D.cut s (n : Int)) D) : e = 0 ∧ Up D D1 s B (B.take n) (min k n) 1 := by
  obtain ⟨hs, hb, hk, hk2, hf, -⟩ := h.file ha
  have he := hst.eq
  have := h.ok.fits
  rw [cut_fine h.off hs ha hn, wr_on (by rw [h.armed]; decide)] at he
  simp only at he
  cases he
  exact ⟨rfl, h.put hs hb (by rw [List.length_take]; omega) (fun x hx => hf x (List.mem_of_mem_take hx)) (by rw [List.length_take]; omega) (fun q => by rw [ha] at q; cases q)⟩
theorem lv_read (h : Lv D) (ha : lookF D.F s = some ⟨s, B, k⟩) : D.read s = (B, 0) ∧ D.sure s = (k, 0) := read_fine h.off (h.file ha).1 ha
theorem Up.trans {D2 : Dk} {B2 : List Nat} {k2 n2 : Nat} (h : Up D D1 s B0 B k n) (h2 : Up D1 D2 s B B2 k2 n2) (hl : D2.F.length ≤ D.F.length + 1) : Up D D2 s B0 B2 k2 (n + n2) :=
  ⟨h2.lv, h2.at_, fun t ht => (h2.ne t ht).trans (h.ne t ht), by have := h.tot; have := h2.tot; omega, hl, by rw [h2.wr, h.wr]; omega, h2.room.trans h.room⟩
theorem put_len_at {F : List FileM} (ha : lookF F s = some ⟨s, B0, k⟩) {B : List Nat} {n : Nat} : (putF F s B n).length = F.length := by rw [putF_len, ha]; rfl
/-- as long as it was, where the file was there -/
structure UpA (D D1 : Dk) (s : ByteArray) (B0 B : List Nat) (k n : Nat) : Prop extends Up D D1 s B0 B k n where
  same : D1.F.length = D.F.length
theorem lv_append' (h : Lv D) (ha : lookF D.F s = some ⟨s, B0, k⟩) (hB : ∀ x ∈ B, x ≤ 255) (hr : tot D.F + B.length ≤ D.room) (hst : Stp e D1 (D.append s B) D) : e = 0 ∧ UpA D D1 s B0 (B0 ++ B) k 1 := by
  obtain ⟨h1, h2⟩ := lv_append h ha hB hr hst
  refine ⟨h1, { toUp := h2, same := ?_ }⟩
  have he := hst.eq
  rw [append_on h.off (h.file ha).1 (by rw [ha]; rintro (⟨q, -⟩ | q) <;> first | cases q | omega) (by rw [h.armed]; decide)] at he
  cases he; exact put_len_at ha
theorem lv_sync' (h : Lv D) (ha : lookF D.F s = some ⟨s, B, k⟩) (hst : Stp e D1 (D.sync s) D) : e = 0 ∧ UpA D D1 s B B B.length 1 := by
  obtain ⟨h1, h2⟩ := lv_sync h ha hst
  refine ⟨h1, { toUp := h2, same := ?_ }⟩
  have he := hst.eq
  rw [sync_fine h.off (h.file ha).1 ha, wr_on (by rw [h.armed]; decide)] at he
  cases he; exact put_len_at ha
theorem lv_cut' (h : Lv D) (ha : lookF D.F s = some ⟨s, B, k⟩) (hn : n ≤ B.length) (hst : Stp e D1 (D.cut s (n : Int)) D) : e = 0 ∧ UpA D D1 s B (B.take n) (min k n) 1 := by
  obtain ⟨h1, h2⟩ := lv_cut h ha hn hst
  refine ⟨h1, { toUp := h2, same := ?_ }⟩
  have he := hst.eq
  rw [cut_fine h.off (h.file ha).1 ha hn, wr_on (by rw [h.armed]; decide)] at he
  cases he; exact put_len_at ha
theorem UpA.trans {D2 : Dk} {B2 : List Nat} {k2 n2 : Nat} (h : UpA D D1 s B0 B k n) (h2 : UpA D1 D2 s B B2 k2 n2) : UpA D D2 s B0 B2 k2 (n + n2) :=
  { toUp := h.toUp.trans h2.toUp (by have := h.same; have := h2.same; omega), same := h2.same.trans h.same }
abbrev Recs := List (List (List Nat))
theorem UpA.refl (h : Lv D) (ha : lookF D.F s = some ⟨s, B, k⟩) : UpA D D s B B k 0 := { lv := h, at_ := ha, ne := fun _ _ => rfl, tot := rfl, len := by omega, wr := rfl, room := rfl, same := rfl }
/-! logs -/
def lg (RR : List (List (List Nat))) : Lg := ⟨8 + (recsL RR).length, RR.length, false⟩
def logL (RR : List (List (List Nat))) : List Nat := headL ++ recsL RR
theorem logL_len (RR : List (List (List Nat))) : (logL RR).length = 8 + (recsL RR).length := by rw [logL, List.length_append]; rfl
theorem logL_snoc (RR : List (List (List Nat))) (LL : List (List Nat)) : logL RR ++ recL LL = logL (RR ++ [LL]) := by rw [logL, logL, recsL_snoc, List.append_assoc]
theorem logL_len_snoc (RR : List (List (List Nat))) (LL : List (List Nat)) : (logL (RR ++ [LL])).length = (logL RR).length + (8 + (bodyL LL).length) := by rw [← logL_snoc, List.length_append, recL_len]
theorem lv_lappend {RR : List (List (List Nat))} {LL : List (List Nat)} {z1 : Lg} (h : Lv D) (ha : lookF D.F s = some ⟨s, logL RR, k⟩) (hf : ∀ r ∈ LL, ∀ x ∈ r, x ≤ 255) (hg : goodR LL) (hr : tot D.F + (8 + (bodyL LL).length) ≤ D.room) (hL : LgS e z1 D1 ((lg RR).append D s LL) (lg RR) D) :
    e = 0 ∧ z1 = lg (RR ++ [LL]) ∧ UpA D D1 s (logL RR) (logL (RR ++ [LL])) (logL (RR ++ [LL])).length 2 := by
  have he := hL.eq
  have hst := Stp.append h.ok h.names s (recL_fit hf)
  obtain ⟨q1, q2⟩ := lv_append' h ha (recL_fit hf) (by rw [recL_len]; omega) hst
  have hst2 := Stp.sync q2.lv.ok q2.lv.names s
  rw [logL_snoc] at q2
  obtain ⟨q3, q4⟩ := lv_sync' q2.lv q2.at_ hst2
  obtain ⟨h1, h2⟩ := hg
  have hng : ¬ (4096 < LL.length ∨ 4194304 < (bodyL LL).length) := by omega
  simp only [Lg.append, if_neg hng, q1, q3] at he
  simp only [lg, Bool.false_eq_true, if_false, if_true, ne_eq, not_true_eq_false] at he
  have h3 := congrArg Prod.fst he
  have h4 := congrArg (·.2.1) he
  have h5 := congrArg (·.2.2) he
  refine ⟨?_, ?_, ?_⟩
  · exact (show 0 = e by simpa [q3] using h3).symm
  · have : (⟨8 + (recsL RR).length + (recL LL).length, RR.length + 1, false⟩ : Lg) = z1 := by simpa [q3] using h4
    rw [← this, lg, recsL_snoc, List.length_append, List.length_append, Nat.add_assoc]; rfl
  · have : ((D.append s (recL LL)).2.sync s).2 = D1 := by simpa [q3] using h5
    rw [← this]; exact q2.trans q4
theorem lv_lclear {RR : List (List (List Nat))} {z1 : Lg} (h : Lv D) (ha : lookF D.F s = some ⟨s, logL RR, k⟩) (hL : LgS e z1 D1 ((lg RR).clear D s) (lg RR) D) : e = 0 ∧ z1 = lg [] ∧ UpA D D1 s (logL RR) (logL []) (min k 8) 1 := by
  have he := hL.eq
  have hst := Stp.cut h.ok h.names s (8 : Nat)
  obtain ⟨q1, q2⟩ := lv_cut' h ha (by rw [logL_len]; omega) hst
  have e8 : (logL RR).take 8 = logL [] := by unfold logL; rw [List.take_left' (by rfl)]; simp [recsL]
  rw [e8] at q2
  unfold Lg.clear at he
  rw [show ((8 : Nat) : Int) = 8 from rfl] at q1 q2
  simp only [lg, Bool.false_eq_true, if_false, q1, ne_eq, not_true_eq_false] at he
  cases he
  exact ⟨rfl, rfl, q2⟩
theorem lv_begin (h : Lv D) (hs : okName s = true) (ha : lookF D.F s = none) (hl : D.F.length < 256) (hr : tot D.F + 8 ≤ D.room) (hst : StpN n e D1 (D.begin s 0) D) : e = 0 ∧ Up D D1 s [] (logL []) 8 2 := by
  have he := hst.eq
  obtain ⟨q1, q2⟩ := lv_append0 h hs ha hl headL_fit hr (Stp.append h.ok h.names s headL_fit)
  obtain ⟨q3, q4⟩ := lv_sync' q2.lv q2.at_ (Stp.sync q2.lv.ok q2.lv.names s)
  unfold Dk.begin at he
  simp only [Nat.lt_irrefl, if_false, q1, ne_eq, not_true_eq_false] at he
  have h3 := congrArg Prod.fst he
  have h4 := congrArg Prod.snd he
  have hlg : logL [] = headL := by simp [logL, recsL]
  refine ⟨by rw [← q3]; exact h3.symm, ?_⟩
  rw [← show _ = D1 from h4, hlg]
  exact q2.trans q4.toUp (by have := q4.same; have := q2.len; omega)
theorem lv_begin' {b : Nat} (h : Lv D) (ha : lookF D.F s = some ⟨s, B0, k⟩) (hb : 0 < b) (hr : tot D.F + 8 ≤ D.room + B0.length) (hst : StpN n e D1 (D.begin s b) D) : e = 0 ∧ UpA D D1 s B0 (logL []) 8 3 := by
  have he := hst.eq
  obtain ⟨q1, q2⟩ := lv_cut' h ha (Nat.zero_le _) (Stp.cut h.ok h.names s (0 : Nat))
  rw [show ((0 : Nat) : Int) = 0 from rfl] at q1 q2
  rw [List.take_zero] at q2
  have ht := q2.tot
  have hrm := q2.room
  rw [List.length_nil] at ht
  obtain ⟨q3, q4⟩ := lv_append' q2.lv q2.at_ headL_fit (by show _ + 8 ≤ _; omega) (Stp.append q2.lv.ok q2.lv.names s headL_fit)
  obtain ⟨q5, q6⟩ := lv_sync' q4.lv q4.at_ (Stp.sync q4.lv.ok q4.lv.names s)
  unfold Dk.begin at he
  simp only [hb, if_true, q1, q3, ne_eq, not_true_eq_false, if_false] at he
  have h3 := congrArg Prod.fst he
  have h4 := congrArg Prod.snd he
  have hlg : logL [] = headL := by simp [logL, recsL]
  refine ⟨by rw [← q5]; exact h3.symm, ?_⟩
  rw [← show _ = D1 from h4, hlg]
  exact (q2.trans q4).trans q6
/-! what a file tells is told in one way alone -/
def TailR (R : List Nat) : Prop := R = [] ∨ TornR R ∨ BadR R
theorem rec_num {LL : List (List Nat)} (hg : goodR LL) (X : List Nat) : numL (recL LL ++ X) = (bodyL LL).length ∧ ((recL LL ++ X).drop 8).take (bodyL LL).length = bodyL LL ∧ (recL LL ++ X).take 4 = fourL (bodyL LL).length ∧ numL ((recL LL ++ X).drop 4) = crcM (crcM 0 (fourL (bodyL LL).length)) (bodyL LL) ∧ (recL LL ++ X).length = 8 + (bodyL LL).length + X.length := by
  have hb := hg.2
  unfold recL
  rw [List.append_assoc, List.append_assoc]
  refine ⟨numL_app (by omega) _, ?_, ?_, ?_, ?_⟩
  · rw [show ∀ A B C : List Nat, A ++ (B ++ C) = (A ++ B) ++ C from fun A B C => (List.append_assoc A B C).symm, List.drop_left' (by simp [fourL_len]), List.take_left]
  · rw [List.take_left' (fourL_len _)]
  · rw [List.drop_left' (fourL_len _)]; exact numL_app (Nat.le_of_lt_succ crcM_lt) _
  · simp only [List.length_append, fourL_len]; omega
theorem rec_notail {LL : List (List Nat)} (hg : goodR LL) (X : List Nat) : ¬ TailR (recL LL ++ X) := by
  obtain ⟨h1, h2, h3, h4, h5⟩ := rec_num hg X
  have hb := hg.2
  rintro (h | ⟨h0, h | ⟨-, h⟩⟩ | ⟨h8, h | ⟨-, -, h | h⟩⟩)
  · rw [h] at h5; simp only [List.length_nil] at h5; omega
  · omega
  · omega
  · omega
  · rw [h1, h3, h2, h4] at h; exact h rfl
  · rw [h1, h2] at h; exact h LL hg rfl
theorem rec_inj {A B : List (List Nat)} (ha : goodR A) (hb : goodR B) {X Y : List Nat} (h : recL A ++ X = recL B ++ Y) : A = B ∧ X = Y := by
  obtain ⟨a1, a2, -, -, -⟩ := rec_num ha X
  obtain ⟨b1, b2, -, -, -⟩ := rec_num hb Y
  have e : A = B := by
    have := ha.2
    rw [h, b1] at a1
    rw [h, ← a1] at a2
    exact bodyL_inj (by omega) (a2.symm.trans b2)
  subst e
  exact ⟨rfl, List.append_cancel_left h⟩
theorem recs_inj : ∀ {RR SS : List (List (List Nat))} {R S : List Nat}, (∀ LL ∈ RR, goodR LL) → (∀ LL ∈ SS, goodR LL) → TailR R → TailR S → recsL RR ++ R = recsL SS ++ S → RR = SS ∧ R = S
  | [], [], R, S, _, _, _, _, h => ⟨rfl, h⟩
  | [], B :: SS, R, S, _, hs, hR, _, h => by
    rw [recsL_cons, List.append_assoc] at h
    have h' : R = recL B ++ (recsL SS ++ S) := h
    rw [h'] at hR
    exact absurd hR (rec_notail (hs B (by simp)) _)
  | A :: RR, [], R, S, hr, _, _, hS, h => by
    rw [recsL_cons, List.append_assoc] at h
    have h' : recL A ++ (recsL RR ++ R) = S := h
    rw [← h'] at hS
    exact absurd hS (rec_notail (hr A (by simp)) _)
  | A :: RR, B :: SS, R, S, hr, hs, hR, hS, h => by
    rw [recsL_cons, recsL_cons, List.append_assoc, List.append_assoc] at h
    obtain ⟨e1, e2⟩ := rec_inj (hr A (by simp)) (hs B (by simp)) h
    obtain ⟨e3, e4⟩ := recs_inj (fun L hL => hr L (by simp [hL])) (fun L hL => hs L (by simp [hL])) hR hS e2
    exact ⟨by rw [e1, e3], e4⟩
theorem head_long_not {R : List Nat} : ¬ ((headL ++ R).length < 8 ∧ headL ++ R = headL.take (headL ++ R).length) := by
  rintro ⟨h, -⟩; rw [List.length_append] at h; have : headL.length = 8 := rfl; omega
/-- the ways that Open may go, by what the file holds -/
theorem opn_at {RR0 RR : List (List (List Nat))} {R0 : List Nat} {z : Lg} (hr : D.read s = (headL ++ (recsL RR0 ++ R0), 0)) (hg : ∀ LL ∈ RR0, goodR LL) (hT : TailR R0) (hO : OpnS D s e D1 RR z) :
    (R0 = [] → e = 0 ∧ D1 = D ∧ RR = RR0 ∧ z = lg RR0) ∧ (TornR R0 → RR = RR0 ∧ z = lg RR0 ∧ Stp e D1 (D.cut s ((8 + (recsL RR0).length : Nat) : Int)) D) ∧ (BadR R0 → e = 111 ∧ D1 = D) := by
  have tn : ∀ {R : List Nat}, TornR R → R ≠ [] := by rintro R ⟨h, -⟩ rfl; simp at h
  have bn : ∀ {R : List Nat}, BadR R → R ≠ [] := by rintro R ⟨h, -⟩ rfl; simp at h
  have tb : ∀ {R : List Nat}, TornR R → ¬ BadR R := by
    rintro R ⟨h0, h⟩ ⟨h8, hb⟩
    rcases h with h | ⟨h1, h2⟩
    · omega
    · rcases hb with hb | ⟨-, hb, -⟩ <;> omega
  cases hO with
  | rd h h1 h2 => have := h.eq.symm.trans hr; cases this; exact absurd rfl h1
  | short h h1 h2 h3 h4 => have := h.eq.symm.trans hr; cases this; exact absurd ⟨h2, h3⟩ head_long_not
  | head h h1 h2 h3 => have := h.eq.symm.trans hr; cases this; exact absurd rfl (h3 _)
  | clean h h1 h2 h3 =>
    have e0 := h.eq.symm.trans hr
    have e1 := h2.symm.trans (congrArg Prod.fst e0)
    have e2 := List.append_cancel_left e1
    obtain ⟨e3, e4⟩ := recs_inj h3 hg (.inl rfl) hT (by rw [List.append_nil]; exact e2)
    subst e3; subst e4
    exact ⟨fun _ => ⟨rfl, rfl, rfl, rfl⟩, fun q => absurd rfl (tn q), fun q => absurd rfl (bn q)⟩
  | torn h h1 h2 h3 h4 h5 =>
    have e1 := h2.symm.trans (congrArg Prod.fst (h.eq.symm.trans hr))
    obtain ⟨e3, e4⟩ := recs_inj h3 hg (.inr (.inl h4)) hT (List.append_cancel_left e1)
    subst e3; subst e4
    exact ⟨fun q => absurd q (tn h4), fun _ => ⟨rfl, rfl, h5⟩, fun q => absurd q (tb h4)⟩
  | bad h h1 h2 h3 h4 =>
    have e1 := h2.symm.trans (congrArg Prod.fst (h.eq.symm.trans hr))
    obtain ⟨e3, e4⟩ := recs_inj h3 hg (.inr (.inr h4)) hT (List.append_cancel_left e1)
    subst e3; subst e4
    exact ⟨fun q => absurd q (bn h4), fun q => absurd h4 (tb q), fun _ => ⟨rfl, rfl⟩⟩
/-- a whole log -/
theorem opn_full {RR0 RR : List (List (List Nat))} {z : Lg} (h : Lv D) (ha : lookF D.F s = some ⟨s, logL RR0, k⟩) (hg : ∀ LL ∈ RR0, goodR LL) (hO : OpnS D s e D1 RR z) : e = 0 ∧ D1 = D ∧ RR = RR0 ∧ z = lg RR0 :=
  (opn_at (R0 := []) (by rw [List.append_nil]; exact (lv_read h ha).1) hg (.inl rfl) hO).1 rfl
/-- no file yet -/
theorem opn_new {RR : List (List (List Nat))} {z : Lg} (h : Lv D) (hs : okName s = true) (ha : lookF D.F s = none) (hl : D.F.length < 256) (hr : tot D.F + 8 ≤ D.room) (hO : OpnS D s e D1 RR z) : e = 0 ∧ RR = [] ∧ z = lg [] ∧ Up D D1 s [] (logL []) 8 2 := by
  have hrd := (read_none h.off hs ha).1
  have nh : ∀ R : List Nat, ([] : List Nat) ≠ headL ++ R := fun R q => by simp [headL] at q
  cases hO with
  | rd h' h1 h2 => have := h'.eq.symm.trans hrd; cases this; exact absurd rfl h2
  | short h' h1 h2 h3 h4 =>
    have := h'.eq.symm.trans hrd; cases this
    obtain ⟨q1, q2⟩ := lv_begin h hs ha hl hr h4
    exact ⟨q1, rfl, rfl, q2⟩
  | head h' h1 h2 h3 => have := h'.eq.symm.trans hrd; cases this; exact absurd ⟨by simp, rfl⟩ h2
  | clean h' h1 h2 h3 => have e1 := h2.symm.trans (congrArg Prod.fst (h'.eq.symm.trans hrd)); exact absurd e1.symm (nh _)
  | torn h' h1 h2 h3 h4 h5 => have e1 := h2.symm.trans (congrArg Prod.fst (h'.eq.symm.trans hrd)); exact absurd e1.symm (nh _)
  | bad h' h1 h2 h3 h4 => have e1 := h2.symm.trans (congrArg Prod.fst (h'.eq.symm.trans hrd)); exact absurd e1.symm (nh _)
theorem lv_new {x : Nat} (hx : x ≤ 268435456) : Lv (Dk.new x) := ⟨⟨hx, by simp [Dk.new, tot], by simp [Dk.new], fun f hf => by simp [Dk.new] at hf, by simp [Dk.new], by simp [Dk.new], by simp [Dk.new]⟩, by simp [Dk.new], rfl, rfl⟩
theorem okName_size {s : ByteArray} (h : okName s = true) : s.size ≤ 1000000000000 := by
  unfold okName at h
  simp only [Bool.and_eq_true, decide_eq_true_eq] at h
  omega
/-! lists -/
theorem getD_mem {α : Type} {A : List (List α)} {i : Nat} (h : i < A.length) : A.getD i [] ∈ A := by
  rw [List.getD_eq_getElem?_getD, List.getElem?_eq_getElem h]; exact List.getElem_mem _
theorem take_succ_getD {α : Type} {A : List (List α)} {i : Nat} (h : i < A.length) : A.take (i + 1) = A.take i ++ [A.getD i []] := by
  rw [List.take_succ_eq_append_getElem h, List.getD_eq_getElem?_getD, List.getElem?_eq_getElem h]; rfl
theorem take_succ_eq {α : Type} {A B : List (List α)} {i : Nat} (h : i < A.length) (h2 : i < B.length) (hr : A.take i = B.take i) (he : A.getD i [] = B.getD i []) : A.take (i + 1) = B.take (i + 1) := by
  rw [take_succ_getD h, take_succ_getD h2, hr, he]
theorem eq_of_takes {α : Type} {A B : List α} {i : Nat} (h : i = A.length) (h2 : i = B.length) (hr : A.take i = B.take i) : A = B := by
  rw [h, List.take_length, ← h, h2, List.take_length] at hr; exact hr
theorem take_both {α : Type} {A : List α} {i n : Nat} (h : (i = A.length ∧ i ≤ n) ∨ i = n) : A.take i = A.take n := by
  rcases h with ⟨h, h2⟩ | h
  · rw [h, List.take_length, List.take_of_length_le (by omega)]
  · rw [h]
end Go.Proofs.Ytdmiklegahdafaa.K

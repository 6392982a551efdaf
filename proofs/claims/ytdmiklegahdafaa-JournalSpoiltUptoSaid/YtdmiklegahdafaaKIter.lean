/- The engine: a range over a map of files, in whose rounds the file at hand is put back, turned. -/
import Derived.Test.YtdmiklegahdafaaKDisk
namespace Go.Proofs.Ytdmiklegahdafaa.K
open Go Go.RowKit

set_option linter.unusedSimpArgs false
set_option linter.unusedVariables false
variable {P : Program} {ops : Array Oper} {Q Q' : Exit → Act → World → Prop} {K : Act → World → Prop} {rest : List Oper} {o : Oper} {n : Nat} {l : Asc} {G : Nat → Value} {D : List Deferred} {a : Act} {w w' w0 : World} {S : List Nat} {h : Hp} {C : World → Prop} {T : TypeId}

/-- the files whose stamps were seen are turned -/
def updS (u : FileM → FileM) : List FileM → List Nat → List Nat → List FileM
  | f :: F, b :: bs, seen => (if b ∈ seen then u f else f) :: updS u F bs seen
  | F, _, _ => F
theorem updS_none (u : FileM → FileM) : ∀ (F : List FileM) (bs : List Nat), updS u F bs [] = F
  | [], _ => by simp [updS]
  | f :: F, [] => by simp [updS]
  | f :: F, b :: bs => by simp [updS, updS_none u F bs]
theorem updS_all {u : FileM → FileM} {seen : List Nat} : ∀ {F : List FileM} {bs : List Nat}, bs.length = F.length → (∀ b ∈ bs, b ∈ seen) → updS u F bs seen = F.map u
  | [], _, _, _ => by simp [updS]
  | f :: F, [], h, _ => by simp at h
  | f :: F, b :: bs, h, q => by
    simp only [updS, List.map_cons]
    rw [if_pos (q b (by simp)), updS_all (by simpa using h) fun x hx => q x (by simp [hx])]
theorem updS_len {u : FileM → FileM} {seen : List Nat} : ∀ {F : List FileM} {bs : List Nat}, (updS u F bs seen).length = F.length
  | [], _ => by simp [updS]
  | f :: F, [] => by simp [updS]
  | f :: F, b :: bs => by simp [updS, updS_len]
theorem updS_mem {u : FileM → FileM} {seen : List Nat} {g : FileM} : ∀ {F : List FileM} {bs : List Nat}, g ∈ updS u F bs seen → ∃ f ∈ F, g = u f ∨ g = f
  | [], _, h => by simp [updS] at h
  | f :: F, [], h => ⟨g, by simpa [updS] using h, .inr rfl⟩
  | f :: F, b :: bs, h => by
    rcases List.mem_cons.1 (show g ∈ (if b ∈ seen then u f else f) :: updS u F bs seen from h) with h | h
    · by_cases q : b ∈ seen
      · rw [if_pos q] at h; exact ⟨f, by simp, .inl h⟩
      · rw [if_neg q] at h; exact ⟨f, by simp, .inr h⟩
    · obtain ⟨x, hx, e⟩ := updS_mem h; exact ⟨x, by simp [hx], e⟩
theorem map_none {s : ByteArray} {u : FileM → FileM} {F : List FileM} (h : ∀ g ∈ F, g.name ≠ s) : (F.map fun x => if x.name = s then u x else x) = F := by
  conv => rhs; rw [← List.map_id F]
  apply List.map_congr_left
  intro x hx
  rw [if_neg (h x hx)]; rfl
theorem updS_names {u : FileM → FileM} {seen : List Nat} (hu : ∀ f, (u f).name = f.name) : ∀ {F : List FileM} {bs : List Nat}, (updS u F bs seen).map (·.name) = F.map (·.name)
  | [], _ => by simp [updS]
  | f :: F, [] => by simp [updS]
  | f :: F, b :: bs => by
    simp only [updS, List.map_cons, updS_names hu]
    by_cases q : b ∈ seen <;> simp [q, hu]
/-- one more is seen: the file of that stamp is turned -/
theorem updS_push {u : FileM → FileM} {seen : List Nat} {s : ByteArray} {f : FileM} {b : Nat} (hu : ∀ f, (u f).name = f.name) (hs : f.name = s) : ∀ {F : List FileM} {bs : List Nat} {i : Nat}, (F.map (·.name)).Nodup → bs.Nodup → F[i]? = some f → bs[i]? = some b → b ∉ seen →
    updS u F bs (seen ++ [b]) = (updS u F bs seen).map fun x => if x.name = s then u f else x
  | [], _, i, _, _, h, _, _ => by simp at h
  | g :: F, [], i, _, _, _, h, _ => by simp at h
  | g :: F, c :: bs, 0, hn, hb, h1, h2, h3 => by
    simp only [List.getElem?_cons_zero, Option.some.injEq] at h1 h2
    subst h1 h2
    rw [List.map_cons, List.nodup_cons] at hn
    rw [List.nodup_cons] at hb
    have e1 : ∀ {F : List FileM} {bs : List Nat}, c ∉ bs → updS u F bs (seen ++ [c]) = updS u F bs seen := by
      intro F
      induction F with
      | nil => intro bs _; simp [updS]
      | cons x r ih =>
        intro bs hc
        cases bs with
        | nil => simp [updS]
        | cons y ys =>
          have hy : y ≠ c := fun e => hc (by simp [e])
          simp only [updS]
          rw [ih (fun q => hc (by simp [q]))]
          simp [hy]
    have e2 : ∀ x ∈ updS u F bs seen, x.name ≠ s := by
      intro x hx q
      have : x.name ∈ F.map (·.name) := by rw [← updS_names hu (seen := seen) (bs := bs)]; exact List.mem_map.2 ⟨x, hx, rfl⟩
      rw [q, ← hs] at this
      exact hn.1 this
    simp only [updS, List.map_cons]
    rw [e1 hb.1, if_pos (by simp), if_neg h3, if_pos hs]
    congr 1
    conv => lhs; rw [← List.map_id (updS u F bs seen)]
    apply List.map_congr_left
    intro x hx
    rw [if_neg (e2 x hx)]; rfl
  | g :: F, c :: bs, i + 1, hn, hb, h1, h2, h3 => by
    simp only [List.getElem?_cons_succ] at h1 h2
    rw [List.map_cons, List.nodup_cons] at hn
    rw [List.nodup_cons] at hb
    have hc : c ≠ b := fun e => hb.1 (e ▸ List.mem_of_getElem? h2)
    have hg : g.name ≠ s := fun q => hn.1 (by rw [q, ← hs]; exact List.mem_map.2 ⟨f, List.mem_of_getElem? h1, rfl⟩)
    simp only [updS, List.map_cons]
    rw [updS_push hu hs hn.2 hb.2 h1 h2 h3]
    by_cases q : c ∈ seen
    · rw [if_pos (by simp [q]), if_pos q, if_neg (by rw [hu]; exact hg)]
    · rw [if_neg (by simp [q, hc]), if_neg q, if_neg hg]
theorem updS_get {u : FileM → FileM} {seen : List Nat} {f : FileM} {b : Nat} : ∀ {F : List FileM} {bs : List Nat} {i : Nat}, F[i]? = some f → bs[i]? = some b → b ∉ seen → (updS u F bs seen)[i]? = some f
  | [], _, i, h, _, _ => by simp at h
  | g :: F, [], i, _, h, _ => by simp at h
  | g :: F, c :: bs, 0, h1, h2, h3 => by
    simp only [List.getElem?_cons_zero, Option.some.injEq] at h1 h2
    subst h1 h2
    simp [updS, h3]
  | g :: F, c :: bs, i + 1, h1, h2, h3 => by
    simp only [List.getElem?_cons_succ] at h1 h2
    simp only [updS, List.getElem?_cons_succ]
    exact updS_get h1 h2 h3
theorem lookF_get {f : FileM} : ∀ {F : List FileM} {i : Nat}, (F.map (·.name)).Nodup → F[i]? = some f → lookF F f.name = some f
  | [], i, _, h => by simp at h
  | g :: F, 0, hn, h => by simp at h; subst h; simp [lookF]
  | g :: F, i + 1, hn, h => by
    rw [List.map_cons, List.nodup_cons] at hn
    simp only [List.getElem?_cons_succ] at h
    have : g.name ≠ f.name := fun q => hn.1 (q ▸ List.mem_map.2 ⟨f, List.mem_of_getElem? h, rfl⟩)
    simp only [lookF]
    rw [if_neg this]; exact lookF_get hn.2 h
theorem putF_updS {u : FileM → FileM} {seen : List Nat} {f : FileM} {b i : Nat} {F : List FileM} {bs : List Nat} (hu : ∀ f, (u f).name = f.name) (hn : (F.map (·.name)).Nodup) (hb : bs.Nodup) (h1 : F[i]? = some f) (h2 : bs[i]? = some b) (h3 : b ∉ seen) :
    putF (updS u F bs seen) f.name (u f).bytes (u f).sure = updS u F bs (seen ++ [b]) := by
  have hl : lookF (updS u F bs seen) f.name = some f := lookF_get (by rw [updS_names hu]; exact hn) (updS_get h1 h2 h3)
  rw [updS_push hu rfl hn hb h1 h2 h3, putF, hl]
  have : (⟨f.name, (u f).bytes, (u f).sure⟩ : FileM) = u f := by
    have := hu f
    cases hq : u f; simp only [hq] at this ⊢; rw [this]
  simp only [this]

theorem nodup_inj {α : Type} {l : List α} (h : l.Nodup) {i j : Nat} (hi : i < l.length) (hj : j < l.length) (e : l[i] = l[j]) : i = j := by
  rw [List.Nodup, List.pairwise_iff_getElem] at h
  rcases Nat.lt_trichotomy i j with q | q | q
  · exact absurd e (h i j hi hj q)
  · exact q
  · exact absurd e.symm (h j i hj hi q)
/-! the iterator -/
theorem s_range {t tk tv : TypeId} {x : Operand} {m d i clk : Nat} {F : List FileM} {bs : List Nat} {hp : Hp} {L : List Hp} (hg : o.guard = none) (hd : o.dst = some d) (ho : o.op = .range t x) (ht : P.underlying t = some (.map tk tv)) (hx : Ev n l x (.map (some m))) (hM : MapB T m none F bs clk hp) (hS : St w0 S (fl L) w) (hi : L[i]? = some hp)
    (kk : ∀ b w', St w0 S (fl L ++ [(b, .mapIter (some m) clk #[] clk)]) w' → wpList P ops Q rest (fr n ((d, .pointer (some ⟨b, 0, none⟩)) :: l) G D) w') : wpList P ops Q (o :: rest) (fr n l G D) w := by
  obtain ⟨es, ps, rfl, hF, hbs, hb, hc⟩ := hM
  have hobj := (hS.has hi) (m, _) (List.mem_cons_self ..)
  simp only at hobj
  refine s_run hg hd (v := .pointer (some ⟨w.heap.size, 0, none⟩)) (w' := w.alloc (.mapIter (some m) clk #[] clk)) ?_ (kk _ _ (hS.alloc _))
  unfold execOp; rw [ho]
  simp [hx G D, Instr.range, run_underlying ht, run_getObj hobj]
theorem run_getIter {b m : Nat} {since : Nat} {seen : Array Nat} {st : Nat} (hb : w.heap[b]? = some (.mapIter (some m) since seen st)) : (getObj b).run P w = .ok (.mapIter (some m) since seen st) w := by simp [getObj, Sem.run, hb]
theorem run_setIter {b m : Nat} {since : Nat} {seen : Array Nat} {st : Nat} {ob' : Obj} (hb : w.heap[b]? = some (.mapIter (some m) since seen st)) : (setObj b ob').run P w = .ok () { w with heap := w.heap.setIfInBounds b ob' } := by
  simp [setObj, Sem.run, hb]
theorem run_choose_next {k : Nat} (hk : 0 < k) : ∃ j w', (choose (.mapNext k)).run P w = .ok j w' ∧ j < k ∧ (w' = w ∨ w' = w.drew) := by
  by_cases h : k ≤ 1
  · exact ⟨0, w, by simp [choose, Sem.run, Question.forced, h], by omega, .inl rfl⟩
  · refine ⟨(w.tape w.drawn (.mapNext k)) % k, w.drew, ?_, Nat.mod_lt _ hk, .inr rfl⟩
    simp [choose, Sem.run, Question.forced, Question.cut, h]
theorem s_next {x : Operand} {m it d i j clk : Nat} {F : List FileM} {bs seen : List Nat} {u : FileM → FileM} {hp : Hp} {L : List Hp} (hg : o.guard = none) (hd : o.dst = some d) (ho : o.op = .next x false) (hx : Ev n l x (.pointer (some ⟨it, 0, none⟩)))
    (hu : ∀ f, (u f).name = f.name) (hM : MapB T m none (updS u F bs seen) bs clk hp) (hS : St w0 S (fl L) w) (hi : L[i]? = some hp) (hj : L[j]? = some [(it, .mapIter (some m) clk seen.toArray clk)]) (hsn : ∀ b ∈ seen, b ∈ bs) (hlen : bs.length = F.length)
    (kdone : (∀ b ∈ bs, b ∈ seen) → ∀ w', St w0 S (fl L) w' → wpList P ops Q rest (fr n ((d, .tuple #[.bool false]) :: l) G D) w')
    (kmore : ∀ (q : Nat) (f : FileM) (b : Nat) (key val : Value) (w' : World), F[q]? = some f → bs[q]? = some b → b ∉ seen → St w0 S (fl (L.set j [(it, .mapIter (some m) clk (seen ++ [b]).toArray clk)])) w' → wpList P ops Q rest (fr n ((d, .tuple #[.bool true, key, val]) :: l) G D) w') : wpList P ops Q (o :: rest) (fr n l G D) w := by
  obtain ⟨es, ps, rfl, hF, hbs, hb, hc⟩ := hM
  have hobj := (hS.has hi) (m, _) (List.mem_cons_self ..)
  have hit := (hS.has hj) (it, _) (List.mem_singleton.2 rfl)
  simp only at hobj hit
  have hnot : (!seen.toArray.isEmpty && !es.toArray.isEmpty && es.toArray.all (fun e => decide (e.born ≥ clk))) = false := by
    cases es with
    | nil => simp
    | cons e r =>
      have := hc e.born (by rw [← hbs]; simp)
      have h1 : decide (clk ≤ e.born) = false := by simpa using this
      simp [h1]
  let left := es.filter fun e => !seen.contains e.born
  have hold : (es.toArray.filter (fun e => !seen.toArray.contains e.born)).filter (fun e => decide (e.born < clk)) = left.toArray := by
    rw [List.filter_toArray, List.filter_toArray]
    congr 1
    rw [List.filter_filter]
    apply List.filter_congr
    intro e he
    have := hc e.born (by rw [← hbs]; exact List.mem_map.2 ⟨e, he, rfl⟩)
    simp [this]
  have hnew : (es.toArray.filter (fun e => !seen.toArray.contains e.born)).filter (fun e => decide (e.born ≥ clk)) = #[] := by
    rw [List.filter_toArray, List.filter_toArray, List.filter_filter]
    congr 1
    apply List.filter_eq_nil_iff.2
    intro e he
    have := hc e.born (by rw [← hbs]; exact List.mem_map.2 ⟨e, he, rfl⟩)
    simp; omega
  by_cases hl : left = []
  · refine s_run hg hd (v := .tuple #[.bool false]) (w' := w) ?_ (kdone ?_ w hS)
    · unfold execOp; rw [ho]
      have hch : (choose (.mapNext 1)).run P w = .ok 0 w := by simp [choose, Sem.run, Question.forced]
      simp only [hx G D]
      have : (Instr.next (.pointer (some ⟨it, 0, none⟩)) false o.type).run P w = .ok (.tuple #[.bool false]) w := by
        simp only [Instr.next, Sem.run_bind, run_getIter hit, Result.andThen_ok, run_getObj hobj, hnot]
        simp only [hold, hnew, hl]
        simp [hch]
        intro q
        simp [Question.forced] at q
      rw [Sem.run_bind, this]; rfl
    · intro b hb'
      rw [← hbs] at hb'
      obtain ⟨e, he, rfl⟩ := List.mem_map.1 hb'
      have := List.filter_eq_nil_iff.1 hl e he
      simpa using this
  · obtain ⟨j0, w1, hch, hj0, hw1⟩ := run_choose_next (P := P) (w := w) (k := left.length) (List.length_pos_iff.2 hl)
    obtain ⟨e, he⟩ : ∃ e, left[j0]? = some e := ⟨left[j0], List.getElem?_eq_getElem hj0⟩
    have hemem : e ∈ es ∧ ¬ e.born ∈ seen := by
      have := List.mem_filter.1 (List.mem_of_getElem? he)
      exact ⟨this.1, by simpa using this.2⟩
    obtain ⟨q, hq⟩ := List.mem_iff_getElem?.1 hemem.1
    have hS1 : St w0 S (fl L) w1 := by rcases hw1 with rfl | rfl <;> first | exact hS | exact hS.drew
    have hit1 : w1.heap[it]? = some (.mapIter (some m) clk seen.toArray clk) := by rcases hw1 with rfl | rfl <;> exact hit
    have hbq : bs[q]? = some e.born := by rw [← hbs, List.getElem?_map, hq]; rfl
    obtain ⟨f, hf⟩ : ∃ f, F[q]? = some f := by
      have : q < F.length := by rw [← hlen]; exact (List.getElem?_eq_some_iff.1 hbq).1
      exact ⟨F[q], List.getElem?_eq_getElem this⟩
    have hjl : j < L.length := (List.getElem?_eq_some_iff.1 hj).1
    have hset : St w0 S (fl (L.set j [(it, .mapIter (some m) clk (seen ++ [e.born]).toArray clk)])) { w1 with heap := w1.heap.setIfInBounds it (.mapIter (some m) clk (seen ++ [e.born]).toArray clk) } := by
      have t0 := hS1.give [j] (xs := [[(it, .mapIter (some m) clk seen.toArray clk)]]) (by simp [hj]) (by simp)
      have t1 := t0.setObj (m := 0) (b := it) (ob := .mapIter (some m) clk seen.toArray clk) (ob' := .mapIter (some m) clk (seen ++ [e.born]).toArray clk) rfl
      exact hS1.callL [j] (xs := [[(it, .mapIter (some m) clk seen.toArray clk)]]) (xs' := [[(it, .mapIter (some m) clk (seen ++ [e.born]).toArray clk)]]) (zs := []) (by simp [hj]) (by simp) (by simpa using t1) rfl (by simp [setAll])
    refine s_run hg hd (v := .tuple #[.bool true, e.key, e.val]) ?_ (kmore q f e.born e.key e.val _ hf hbq hemem.2 hset)
    unfold execOp; rw [ho]
    simp only [hx G D]
    have : (Instr.next (.pointer (some ⟨it, 0, none⟩)) false o.type).run P w = .ok (.tuple #[.bool true, e.key, e.val]) { w1 with heap := w1.heap.setIfInBounds it (.mapIter (some m) clk (seen ++ [e.born]).toArray clk) } := by
      simp only [Instr.next, Sem.run_bind, run_getIter hit, Result.andThen_ok, run_getObj hobj, hnot]
      simp only [hold, hnew]
      have hne : left.toArray.isEmpty = false := by cases hq : left with
        | nil => exact absurd hq hl
        | cons a r => rfl
      have hcand : ((if left.toArray.isEmpty = true then #[(none : Option MapEntry)] else #[]) ++ (left.toArray ++ #[]).map some) = (left.map some).toArray := by
        rw [hne]; simp
      simp only [hcand]
      have hsz : (left.map some).toArray.size = left.length := by simp
      rw [hsz]
      simp only [Bool.false_eq_true, if_false, Sem.run_bind, hch, Result.andThen_ok]
      have hg : ((left.map some).toArray)[j0]? = some (some e) := by simp [he]
      simp only [hg]
      have hpush : seen.toArray.push e.born = (seen ++ [e.born]).toArray := by simp
      simp only [Sem.run_bind, hpush, run_setIter hit1, Result.andThen_ok]
      rfl
    rw [Sem.run_bind, this]; rfl
theorem FilesH.get {out : Option ByteArray} {f : FileM} : ∀ {F : List FileM} {es : List MapEntry} {ps : List Hp} {i : Nat}, FilesH T out F es ps → F[i]? = some f → ∃ e hv, es[i]? = some e ∧ ps[i]? = some hv ∧ e.key = .string f.name ∧ (some f.name ≠ out → FileH T f e hv)
  | _, _, _, i, .nil, h => by simp at h
  | _, _, _, 0, .cons (e := e) (hv := hv) h r hn, hf => by simp at hf; subst hf; exact ⟨e, hv, rfl, rfl, h.1, h.2⟩
  | _, _, _, i + 1, .cons h r hn, hf => by
    obtain ⟨e, hv, h1, h2, h3⟩ := FilesH.get r (by simpa using hf)
    exact ⟨e, hv, by simpa using h1, by simpa using h2, h3⟩
/-- the file at hand -/
theorem s_entry {x : Operand} {m it d i j clk q b : Nat} {F : List FileM} {bs seen : List Nat} {f : FileM} {hp : Hp} {L : List Hp} (hg : o.guard = none) (hd : o.dst = some d) (ho : o.op = .entry x) (hx : Ev n l x (.pointer (some ⟨it, 0, none⟩)))
    (hM : MapB T m none F bs clk hp) (hS : St w0 S (fl L) w) (hi : L[i]? = some hp) (hj : L[j]? = some [(it, .mapIter (some m) clk (seen ++ [b]).toArray clk)]) (hf : F[q]? = some f) (hb : bs[q]? = some b)
    (kk : ∀ ad cap, At T m F f.name f ad cap hp → wpList P ops Q rest (fr n ((d, .tuple #[.string f.name, .agg #[.slice ad f.bytes.length cap, .int .i64 (f.sure : Int)]]) :: l) G D) w) : wpList P ops Q (o :: rest) (fr n l G D) w := by
  have hM0 := hM
  obtain ⟨es, ps, rfl, hF, hbs, hbn, hc⟩ := hM
  have hobj := (hS.has hi) (m, _) (List.mem_cons_self ..)
  have hit := (hS.has hj) (it, _) (List.mem_singleton.2 rfl)
  simp only at hobj hit
  obtain ⟨e, hv, h1, h2, h3, h4⟩ := hF.get hf
  obtain ⟨_, ad, cap, h5, h6⟩ := h4 (by simp)
  have hnm := hF.names
  have hl : lookF F f.name = some f := lookF_get hnm hf
  have hfind : es.toArray.find? (fun x => x.born == b) = some e := by
    have hborn : e.born = b := by
      have : (es.map (·.born))[q]? = some e.born := by rw [List.getElem?_map, h1]; rfl
      rw [hbs, hb] at this; exact (Option.some.inj this).symm
    rw [List.find?_toArray]
    have key : ∀ {es : List MapEntry} {q : Nat}, (es.map (·.born)).Nodup → es[q]? = some e → es.find? (fun x => x.born == b) = some e := by
      intro es
      induction es with
      | nil => intro q _ h; simp at h
      | cons x r ih =>
        intro q hn h
        rw [List.map_cons, List.nodup_cons] at hn
        cases q with
        | zero => simp at h; subst h; simp [hborn]
        | succ q =>
          simp only [List.getElem?_cons_succ] at h
          have : x.born ≠ b := fun z => hn.1 (by rw [z, ← hborn]; exact List.mem_map.2 ⟨e, List.mem_of_getElem? h, rfl⟩)
          simp only [List.find?_cons]
          rw [show (x.born == b) = false by simpa using this]
          exact ih hn.2 h
    exact key (by rw [hbs]; exact hbn) h1
  have hfn : Instr.findNow .string (.string f.name) es 0 = some (some (q, e.val)) := by
    rcases hF.find (s := f.name) 0 with ⟨z, _⟩ | ⟨f', i', e', hv', z1, z2, z3, z4, z5, z6, z7, _⟩
    · rw [hl] at z; cases z
    · rw [hl] at z1; cases z1
      have : i' = q := by
        have g1 : (F.map (·.name))[i']? = some f.name := by rw [List.getElem?_map, z3]; rfl
        have g2 : (F.map (·.name))[q]? = some f.name := by rw [List.getElem?_map, hf]; rfl
        obtain ⟨a1, b1⟩ := List.getElem?_eq_some_iff.1 g1
        obtain ⟨a2, b2⟩ := List.getElem?_eq_some_iff.1 g2
        exact nodup_inj hnm a1 a2 (b1.trans b2.symm)
      subst this
      rw [h1] at z4; cases z4
      simpa using z6
  have hA : At T m F f.name f ad cap ((m, .map es.toArray clk) :: fl ps) := by
    refine ⟨hl, rfl, es, clk, ps, q, e, hv, rfl, hF, by rw [hbs]; exact hbn, fun x hx => hc _ (hbs ▸ List.mem_map.2 ⟨x, hx, rfl⟩), hf, h1, h2, hfn, h3, h5, h6⟩
  refine s_run hg hd (v := .tuple #[.string f.name, .agg #[.slice ad f.bytes.length cap, .int .i64 (f.sure : Int)]]) (w' := w) ?_ (kk ad cap hA)
  unfold execOp; rw [ho]
  simp only [hx G D]
  have hback : ((seen ++ [b]).toArray).back? = some b := by simp
  have : (Instr.entry (.pointer (some ⟨it, 0, none⟩))).run P w = .ok (.tuple #[e.key, e.val]) w := by
    simp only [Instr.entry, Sem.run_bind, run_getIter hit, Result.andThen_ok, hback, run_getObj hobj, hfind]
    simp
  rw [Sem.run_bind, this, h3, h5]; rfl
/-- the row of the file at hand is taken out, the stamps are told -/
theorem At.openB {m cap i clk : Nat} {F : List FileM} {bs : List Nat} {s : ByteArray} {f : FileM} {ad : Option Addr} {hp : Hp} {L : List Hp} (hA : At T m F s f ad cap hp) (hM : MapB T m none F bs clk hp) (hS : St w0 S (fl L) w) (hi : L[i]? = some hp) :
    ∃ hp' hv, MapB T m (some s) F bs clk hp' ∧ Gr .u8 T ad cap f.bytes hv ∧ St w0 S (fl (L.set i hp' ++ [hv])) w := by
  obtain ⟨_, hs, es, clk', ps, j, e, hv, rfl, hF, hb, hc, h3, _, h5, _, _, _, hG⟩ := hA
  obtain ⟨es2, ps2, e2, _, hbs, hbn, hcl⟩ := hM
  simp only [List.cons.injEq, Prod.mk.injEq, Obj.map.injEq, true_and] at e2
  obtain ⟨⟨e3, rfl⟩, e4⟩ := e2
  have e5 : es = es2 := by simpa using e3
  subst e5
  refine ⟨(m, .map es.toArray clk') :: fl (ps.set j []), hv, ⟨es, ps.set j [], rfl, hF.hole h3 hs, hbs, hbn, hcl⟩, hG, ?_⟩
  refine hS.perm2 ?_
  have hlt : i < L.length := (List.getElem?_eq_some_iff.1 hi).1
  have hjl : j < ps.length := (List.getElem?_eq_some_iff.1 h5).1
  have f1 : L = L.set i ((m, .map es.toArray clk') :: fl ps) := by
    apply List.ext_getElem?
    intro k
    rw [List.getElem?_set]
    by_cases q : i = k
    · subst q; rw [if_pos rfl, if_pos hlt, hi]
    · rw [if_neg q]
  have f2 : ps = ps.set j hv := by
    apply List.ext_getElem?
    intro k
    rw [List.getElem?_set]
    by_cases q : j = k
    · subst q; rw [if_pos rfl, if_pos hjl, h5]
    · rw [if_neg q]
  have p1 := fl_set (L := L) (y := (m, Obj.map es.toArray clk') :: fl ps) hlt
  rw [← f1] at p1
  have p2 := fl_set (L := L) (y := (m, Obj.map es.toArray clk') :: fl (ps.set j [])) hlt
  have p3 := fl_set (L := ps) (y := hv) hjl
  rw [← f2] at p3
  refine p1.trans ?_
  rw [fl_append]
  refine List.Perm.trans ?_ (p2.symm.append_right _)
  have p4 : ((m, Obj.map es.toArray clk') :: fl ps).Perm (((m, Obj.map es.toArray clk') :: fl (ps.set j [])) ++ hv) := by
    refine (List.Perm.cons _ p3).trans ?_
    rw [List.cons_append]
    exact (List.perm_append_comm).cons _
  refine (p4.append_right _).trans ?_
  have g3 : fl [hv] = hv := by simp
  rw [g3, List.append_assoc, List.append_assoc]
  exact (List.perm_append_comm (l₁ := hv) (l₂ := fl (L.set i []))).append_left _
theorem Gr.take {k : IntKind} {ad : Option Addr} {cap q : Nat} {A : List Nat} {hv : Hp} (g : Gr k T ad cap A hv) (h : q ≤ A.length) : Gr k T ad cap (A.take q) hv := by
  rcases g with ⟨rfl, rfl, rfl, rfl⟩ | ⟨b, X, rfl, rfl, h1, h2⟩
  · exact .inl ⟨rfl, rfl, by simp, rfl⟩
  · refine .inr ⟨b, A.drop q ++ X, rfl, ?_, ?_, ?_⟩
    · rw [← List.append_assoc, List.take_append_drop]
    · rw [List.length_append, List.length_take, List.length_drop]; omega
    · rw [List.length_take]; omega
theorem nodup_sub_len : ∀ {l r : List Nat}, l.Nodup → (∀ x ∈ l, x ∈ r) → l.length ≤ r.length
  | [], r, _, _ => Nat.zero_le _
  | x :: l, r, hn, hs => by
    rw [List.nodup_cons] at hn
    have hx := hs x (by simp)
    have := nodup_sub_len (l := l) (r := r.erase x) hn.2 fun y hy => by
      have hne : y ≠ x := fun e => hn.1 (e ▸ hy)
      exact (List.mem_erase_of_ne hne).2 (hs y (by simp [hy]))
    rw [List.length_erase_of_mem hx] at this
    have : 0 < r.length := List.length_pos_of_mem hx
    simp only [List.length_cons]; omega
theorem seen_push {bs seen : List Nat} {q b : Nat} (hs : ∀ x ∈ seen, x ∈ bs) (hn : seen.Nodup) (hq : bs[q]? = some b) (hb : b ∉ seen) : (∀ x ∈ seen ++ [b], x ∈ bs) ∧ (seen ++ [b]).Nodup ∧ seen.length < bs.length := by
  have h1 : ∀ x ∈ seen ++ [b], x ∈ bs := by
    intro x hx
    rcases List.mem_append.1 hx with hx | hx
    · exact hs x hx
    · rw [List.mem_singleton.1 hx]; exact List.mem_of_getElem? hq
  have h2 : (seen ++ [b]).Nodup := by
    rw [List.nodup_append]
    refine ⟨hn, by simp, ?_⟩
    intro x hx y hy e
    rw [List.mem_singleton.1 hy] at e
    exact hb (e ▸ hx)
  have h3 := nodup_sub_len h2 h1
  rw [List.length_append] at h3
  exact ⟨h1, h2, by simp at h3; omega⟩
theorem MapB.len {T : TypeId} {m clk : Nat} {out : Option ByteArray} {F : List FileM} {bs : List Nat} {hp : Hp} (h : MapB T m out F bs clk hp) : bs.length = F.length ∧ bs.Nodup ∧ (F.map (·.name)).Nodup := by
  obtain ⟨es, ps, _, hF, hb, hn, _⟩ := h
  refine ⟨by rw [← hb, List.length_map]; exact hF.len.1, hn, hF.names⟩
theorem tot_upd {u : FileM → FileM} {seen bs : List Nat} {F : List FileM} {f : FileM} {b i : Nat} (hu : ∀ f, (u f).name = f.name) (hn : (F.map (·.name)).Nodup) (hb : bs.Nodup) (h1 : F[i]? = some f) (h2 : bs[i]? = some b) (h3 : b ∉ seen) :
    tot (updS u F bs (seen ++ [b])) + f.bytes.length = tot (updS u F bs seen) + (u f).bytes.length := by
  have hn2 : ((updS u F bs seen).map (·.name)).Nodup := by rw [updS_names hu]; exact hn
  have := tot_put (s := f.name) (B := (u f).bytes) (k := (u f).sure) hn2
  rw [putF_updS hu hn hb h1 h2 h3] at this
  have hl : lookF (updS u F bs seen) f.name = some f := lookF_get hn2 (updS_get h1 h2 h3)
  unfold bytesOf at this
  rw [hl] at this
  exact this
theorem tot_updS_le {u : FileM → FileM} {seen : List Nat} (hu : ∀ f, (u f).bytes.length ≤ f.bytes.length) : ∀ (F : List FileM) (bs : List Nat), tot (updS u F bs seen) ≤ tot F
  | [], _ => by simp [updS]
  | f :: F, [] => by simp [updS]
  | f :: F, b :: bs => by
    have := tot_updS_le (seen := seen) hu F bs
    have := hu f
    simp only [updS, tot, List.map_cons, List.sum_cons] at *
    by_cases q : b ∈ seen
    · rw [if_pos q]; omega
    · rw [if_neg q]; omega
theorem goneX_le (lose : Int) (f : FileM) : (goneX lose f).bytes.length ≤ f.bytes.length := by rw [goneX_len]; omega
end Go.Proofs.Ytdmiklegahdafaa.K

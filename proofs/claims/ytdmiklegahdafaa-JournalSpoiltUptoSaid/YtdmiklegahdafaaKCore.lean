/- The engine's core: frames as association lists, worlds by owned blocks, one lemma an operation. -/
import Derived.WalkKit
import Derived.KernelRfl
import Derived.Deep.Quiet
import Derived.Deep.LoopGhost
namespace Go.Proofs.Ytdmiklegahdafaa.K
open Go Go.RowKit

/-! frames -/
abbrev Asc := List (Nat × Value)
def look : Asc → Nat → Option Value
  | [], _ => none
  | (k, v) :: r, t => match Nat.beq t k with
    | true => some v
    | false => look r t
def fr (n : Nat) (l : Asc) (G : Nat → Value) (D : List Deferred := []) : Act := ⟨Array.ofFn (n := n) fun i => (look l i).getD (G i), D⟩

theorem fr_get {n : Nat} {l : Asc} {G : Nat → Value} {D : List Deferred} {t : Nat} (h : Nat.blt t n = true) : (fr n l G D).tmps[t]? = some ((look l t).getD (G t)) := by
  have h' : t < n := by simpa [Nat.blt_eq] using h
  simp [fr, h']
theorem fr_getD {n : Nat} {l : Asc} {G : Nat → Value} {D : List Deferred} {t : Nat} {v : Value} (h : Nat.blt t n = true) (hl : look l t = some v) : (fr n l G D).tmps.getD t undef = v := by
  rw [Array.getD_eq_getD_getElem?, fr_get h, hl]; rfl

theorem look_cons (d : Nat) (v : Value) (l : Asc) (t : Nat) : look ((d, v) :: l) t = if t = d then some v else look l t := by
  show (match Nat.beq t d with | true => some v | false => look l t) = _
  by_cases h : t = d
  · subst h; rw [if_pos rfl, show Nat.beq t t = true from Nat.beq_refl t]
  · rw [if_neg h, show Nat.beq t d = false from by rw [← Bool.not_eq_true]; intro hb; exact h (Nat.eq_of_beq_eq_true hb)]

theorem fr_put {n : Nat} {l : Asc} {G : Nat → Value} {D : List Deferred} {d : Nat} {v : Value} : (fr n l G D).put (some d) v = fr n ((d, v) :: l) G D := by
  show (⟨(Array.ofFn (n := n) fun i => (look l i).getD (G i)).setIfInBounds d v, D⟩ : Act) = ⟨Array.ofFn (n := n) fun i => (look ((d, v) :: l) i).getD (G i), D⟩
  congr 1
  apply Array.ext_getElem?
  intro i
  simp only [Array.getElem?_setIfInBounds, Array.size_ofFn, Array.getElem?_ofFn, look_cons]
  by_cases hi : d = i
  · subst hi
    by_cases hd : d < n <;> simp [hd]
  · simp [hi, Ne.symm hi]

theorem fr_put_none {n : Nat} {l : Asc} {G : Nat → Value} {D : List Deferred} {v : Value} : (fr n l G D).put none v = fr n l G D := rfl

def agree (l : Asc) (G : Nat → Value) : Asc → Prop
  | [] => True
  | (k, v) :: r => (look l k).getD (G k) = v ∧ agree l G r
theorem agree_look {l : Asc} {G : Nat → Value} : ∀ {l' : Asc} {k : Nat} {v : Value}, agree l G l' → look l' k = some v → (look l k).getD (G k) = v
  | [], _, _, _, h => by cases h
  | (k', v') :: r, k, v, ⟨h1, h2⟩, h => by
    rw [look_cons] at h
    by_cases e : k = k'
    · subst e; rw [if_pos rfl] at h; cases h; exact h1
    · rw [if_neg e] at h; exact agree_look h2 h
theorem fr_reb {n : Nat} {l : Asc} {G : Nat → Value} {D : List Deferred} (l' : Asc) (h : agree l G l') : fr n l G D = fr n l' (fun i => (look l i).getD (G i)) D := by
  unfold fr
  congr 1
  apply Array.ext_getElem?
  intro i
  simp only [Array.getElem?_ofFn]
  split
  · congr 1
    cases hl : look l' i with
    | none => rfl
    | some v => exact agree_look h hl
  · rfl

/-- an operand's value -/
def Ev (n : Nat) (l : Asc) (x : Operand) (v : Value) : Prop := ∀ G D, (fr n l G D).eval x = v
theorem Ev.t {n : Nat} {l : Asc} {t : Nat} {v : Value} (hl : look l t = some v) (h : Nat.blt t n = true) : Ev n l (.tmp t) v := fun _ _ => fr_getD h hl
theorem Ev.c {n : Nat} {l : Asc} {v : Value} : Ev n l (.const v) v := fun _ _ => rfl
theorem Ev.f {n : Nat} {l : Asc} {f : FuncId} : Ev n l (.func f) (.func (.func f) #[] #[]) := fun _ _ => rfl
theorem Ev.g {n : Nat} {l : Asc} {g : Nat} : Ev n l (.global g) (.pointer (some ⟨g, 0, none⟩)) := fun _ _ => rfl
def Evs (n : Nat) (l : Asc) : List Operand → List Value → Prop
  | [], [] => True
  | x :: xs, v :: vs => Ev n l x v ∧ Evs n l xs vs
  | _, _ => False
theorem Evs.map {n : Nat} {l : Asc} {G : Nat → Value} {D : List Deferred} : ∀ {xs : List Operand} {vs : List Value}, Evs n l xs vs → xs.map (fr n l G D).eval = vs
  | [], [], _ => rfl
  | x :: xs, v :: vs, ⟨h, hs⟩ => by rw [List.map_cons, h G D, Evs.map hs]
theorem Evs.arr {n : Nat} {l : Asc} {G : Nat → Value} {D : List Deferred} {xs : List Operand} {vs : List Value} (h : Evs n l xs vs) : xs.toArray.map (fr n l G D).eval = vs.toArray := by
  rw [List.map_toArray, h.map]

/-! worlds -/
abbrev Hp := List (Nat × Obj)
structure St (w0 : World) (S : List Nat) (h : Hp) (w : World) : Prop where
  os : w.os = w0.os
  tape : w.tape = w0.tape
  output : w.output = w0.output
  size : w0.heap.size ≤ w.heap.size
  own : ∀ p ∈ h, w.heap[p.1]? = some p.2
  nodup : (h.map (·.1)).Nodup
  place : ∀ p ∈ h, p.1 ∈ S ∨ w0.heap.size ≤ p.1
  old : ∀ k, k < w0.heap.size → k ∉ S → w.heap[k]? = w0.heap[k]?

theorem St.init (w0 : World) : St w0 [] [] w0 := ⟨rfl, rfl, rfl, Nat.le_refl _, by simp, by simp, by simp, fun _ _ _ => rfl⟩
theorem St.drew {w0 : World} {S : List Nat} {h : Hp} {w : World} (s : St w0 S h w) : St w0 S h w.drew := ⟨s.os, s.tape, s.output, s.size, s.own, s.nodup, s.place, s.old⟩
theorem St.lt {w0 : World} {S : List Nat} {h : Hp} {w : World} (s : St w0 S h w) {p : Nat × Obj} (hp : p ∈ h) : p.1 < w.heap.size := by
  have := s.own p hp
  rcases Nat.lt_or_ge p.1 w.heap.size with h | h
  · exact h
  · rw [Array.getElem?_eq_none h] at this; cases this
theorem St.alloc {w0 : World} {S : List Nat} {h : Hp} {w : World} (s : St w0 S h w) (o : Obj) : St w0 S (h ++ [(w.heap.size, o)]) (w.alloc o) := by
  refine ⟨s.os, s.tape, s.output, by have := s.size; simp; omega, ?_, ?_, ?_, ?_⟩
  · intro p hp
    rcases List.mem_append.1 hp with hp | hp
    · rw [Below.heap_alloc _ _ _ (s.lt hp)]; exact s.own p hp
    · obtain rfl := List.mem_singleton.1 hp
      show (w.heap.push o)[w.heap.size]? = some o
      simp
  · rw [List.map_append, List.nodup_append]
    refine ⟨s.nodup, by simp, ?_⟩
    intro a ha b hb
    obtain ⟨p, hp, rfl⟩ := List.mem_map.1 ha
    simp at hb; subst hb
    have := s.lt hp; omega
  · intro p hp
    rcases List.mem_append.1 hp with hp | hp
    · exact s.place p hp
    · obtain rfl := List.mem_singleton.1 hp; exact .inr s.size
  · intro k hk hS
    rw [Below.heap_alloc _ _ _ (by have := s.size; omega)]; exact s.old k hk hS
/-- a block of one's own becomes another object -/
theorem St.set {w0 : World} {S : List Nat} {h : Hp} {w w' : World} (s : St w0 S h w) {m b : Nat} {o o' : Obj} (hm : h[m]? = some (b, o))
    (hos : w'.os = w.os) (ht : w'.tape = w.tape) (hou : w'.output = w.output) (hsz : w'.heap.size = w.heap.size) (hb : w'.heap[b]? = some o') (hne : ∀ k, k ≠ b → w'.heap[k]? = w.heap[k]?) :
    St w0 S (h.set m (b, o')) w' := by
  have hmem : (b, o) ∈ h := List.mem_of_getElem? hm
  have hmlt : m < h.length := (List.getElem?_eq_some_iff.1 hm).1
  have hkeys : (h.set m (b, o')).map (·.1) = h.map (·.1) := by
    apply List.ext_getElem?
    intro i
    rw [List.getElem?_map, List.getElem?_map, List.getElem?_set]
    by_cases e : m = i
    · subst e; rw [if_pos rfl, if_pos hmlt, hm]; rfl
    · rw [if_neg e]
  have huniq : ∀ i, h[i]?.map (·.1) = some b → m = i := by
    intro i hi
    have hn := s.nodup
    rw [List.Nodup, List.pairwise_iff_getElem] at hn
    have hilt : i < h.length := by
      rcases Nat.lt_or_ge i h.length with q | q
      · exact q
      · rw [List.getElem?_eq_none q] at hi; cases hi
    have e1 : h[m].1 = b := by have := (List.getElem?_eq_some_iff.1 hm).2; rw [this]
    have e2 : h[i].1 = b := by rw [List.getElem?_eq_getElem hilt] at hi; simpa using hi
    rcases Nat.lt_trichotomy m i with q | q | q
    · have := hn m i (by simpa using hmlt) (by simpa using hilt) q; simp [e1, e2] at this
    · exact q
    · have := hn i m (by simpa using hilt) (by simpa using hmlt) q; simp [e1, e2] at this
  refine ⟨hos.trans s.os, ht.trans s.tape, hou.trans s.output, by rw [hsz]; exact s.size, ?_, by rw [hkeys]; exact s.nodup, ?_, ?_⟩
  · intro p hp
    rw [List.mem_iff_getElem?] at hp
    obtain ⟨i, hi⟩ := hp
    rw [List.getElem?_set] at hi
    by_cases e : m = i
    · subst e; simp [hmlt] at hi; subst hi; exact hb
    · simp [e] at hi
      have hpm : p ∈ h := List.mem_of_getElem? hi
      rw [hne, s.own p hpm]
      intro hpb
      exact e (huniq i (by rw [hi]; simp [hpb]))
  · intro p hp
    have : p.1 ∈ (h.set m (b, o')).map (·.1) := List.mem_map.2 ⟨p, hp, rfl⟩
    rw [hkeys] at this
    obtain ⟨q, hq, e⟩ := List.mem_map.1 this
    rw [← e]; exact s.place q hq
  · intro k hk hS
    rcases s.place _ hmem with hp | hp
    · rw [hne k (fun e => hS (e ▸ hp))]; exact s.old k hk hS
    · rw [hne k (by have : w0.heap.size ≤ b := hp; omega)]; exact s.old k hk hS
theorem St.setCell {w0 : World} {S : List Nat} {h : Hp} {w : World} (s : St w0 S h w) {m b i : Nat} {c : Array Value} {T : TypeId} {f : Nat × Nat} (v : Value) (hm : h[m]? = some (b, .cells c T f)) :
    St w0 S (h.set m (b, .cells (c.setIfInBounds i v) T f)) (w.setCell ⟨b, i, none⟩ v) := by
  have hb := s.own _ (List.mem_of_getElem? hm)
  refine s.set hm rfl rfl rfl (by simp [World.setCell]) ?_ ?_
  · simp only at hb
    simp [World.setCell, Array.getElem?_modify, hb]
  · intro k hk
    exact Below.heap_setCell _ _ _ _ hk
/-- what a callee that keeps old blocks leaves -/
theorem St.below {w0 : World} {S : List Nat} {h : Hp} {w w' : World} (s : St w0 S h w) (b : Below w.heap.size w w') : St w0 S h w' := by
  refine ⟨b.os.trans s.os, b.tape.trans s.tape, b.output.trans s.output, Nat.le_trans s.size b.size, ?_, s.nodup, s.place, ?_⟩
  · intro p hp; rw [b.block _ (s.lt hp)]; exact s.own p hp
  · intro k hk hS; rw [b.block _ (by have := s.size; omega)]; exact s.old k hk hS
/-- one more block of one's own -/
theorem St.more {w0 : World} {S : List Nat} {h : Hp} {w w' : World} (s : St w0 S h w) (b : Below w.heap.size w w') {k : Nat} {o : Obj} (hk : w.heap.size ≤ k) (ho : w'.heap[k]? = some o) : St w0 S (h ++ [(k, o)]) w' := by
  have s' := s.below b
  refine ⟨s'.os, s'.tape, s'.output, s'.size, ?_, ?_, ?_, s'.old⟩
  · intro p hp
    rcases List.mem_append.1 hp with hp | hp
    · exact s'.own p hp
    · obtain rfl := List.mem_singleton.1 hp; exact ho
  · rw [List.map_append, List.nodup_append]
    refine ⟨s.nodup, by simp, ?_⟩
    intro a ha b' hb
    obtain ⟨p, hp, rfl⟩ := List.mem_map.1 ha
    simp at hb; subst hb
    have := s.lt hp; omega
  · intro p hp
    rcases List.mem_append.1 hp with hp | hp
    · exact s'.place p hp
    · obtain rfl := List.mem_singleton.1 hp; right; have := s.size; exact Nat.le_trans this hk
theorem St.toBelow {w0 : World} {h : Hp} {w : World} (s : St w0 [] h w) : Below w0.heap.size w0 w := ⟨s.os, s.tape, s.output, s.size, fun k hk => s.old k hk (by simp)⟩
theorem St.weaken {w0 : World} {S : List Nat} {h : Hp} {w : World} (s : St w0 S h w) (h' : Hp) (hs : h'.Sublist h) : St w0 S h' w :=
  ⟨s.os, s.tape, s.output, s.size, fun p hp => s.own p (hs.subset hp), s.nodup.sublist (hs.map _), fun p hp => s.place p (hs.subset hp), s.old⟩

/-- what a call hands back -/
def Ret (Φ : Value → World → Prop) : Ending → World → Prop := fun e w' => ∃ v, e = .returned v ∧ Φ v w'

/-! operations -/
variable {P : Program} {ops : Array Oper} {Q : Exit → Act → World → Prop} {rest : List Oper} {o : Oper} {n : Nat} {l : Asc} {G : Nat → Value} {D : List Deferred} {w w0 : World} {S : List Nat} {h : Hp}

/-- in each world of the class the operation yields v and leaves the world -/
def Rn (P : Program) (o : Oper) (n : Nat) (l : Asc) (C : World → Prop) (v : Value) : Prop :=
  ∀ G D w, C w → (execOp (fr n l G D).eval o).run P w = .ok (.value v) w

theorem s_val {C : World → Prop} {d : Nat} {v : Value} (hC : C w) (hg : o.guard = none) (hd : o.dst = some d) (R : Rn P o n l C v)
    (k : wpList P ops Q rest (fr n ((d, v) :: l) G D) w) : wpList P ops Q (o :: rest) (fr n l G D) w := by
  refine wpList_plain hg fun K hK => ?_
  unfold Oper.wp
  rw [R G D w hC, Oper.upon_value, hd, fr_put]
  exact hK _ _ k
def nth : List Oper → Nat → Option Tmp
  | [], _ => none
  | o :: _, 0 => o.dst
  | _ :: r, i + 1 => nth r i
theorem nth_eq : ∀ (ol : List Oper) (j : Nat), ((ol.toArray)[j]?).bind (·.dst) = nth ol j
  | [], j => by simp [nth]
  | o :: r, 0 => by simp [nth]
  | o :: r, j + 1 => by have := nth_eq r j; simp [nth] at this ⊢; exact this
theorem wanted_of {ol : List Oper} {j : Nat} {b : Bool} {d : Nat} (hg : o.guard = some (j, b)) (hj : nth ol j = some d) (hl : look l d = some (.bool b)) (hn : Nat.blt d n = true) :
    Region.wanted o (yielded ol.toArray (fr n l G D).tmps) = true := by
  unfold Region.wanted
  rw [hg]
  simp only [yielded, nth_eq, hj, Option.bind_some, fr_get hn, hl, Option.getD_some]
  simp
theorem unwanted_of {ol : List Oper} {j : Nat} {b b' : Bool} {d : Nat} (hg : o.guard = some (j, b)) (hj : nth ol j = some d) (hl : look l d = some (.bool b')) (hb : (b' == b) = false) (hn : Nat.blt d n = true) :
    Region.wanted o (yielded ol.toArray (fr n l G D).tmps) = false := by
  unfold Region.wanted
  rw [hg]
  simp only [yielded, nth_eq, hj, Option.bind_some, fr_get hn, hl, Option.getD_some]
  simpa using hb
/-- an operation whose guard was itself passed over -/
theorem unwanted_undef {ol : List Oper} {j : Nat} {b : Bool} {d : Nat} (hg : o.guard = some (j, b)) (hj : nth ol j = some d) (hl : look l d = some undef) (hn : Nat.blt d n = true) :
    Region.wanted o (yielded ol.toArray (fr n l G D).tmps) = false := by
  unfold Region.wanted
  rw [hg]
  simp only [yielded, nth_eq, hj, Option.bind_some, fr_get hn, hl, Option.getD_some]
  rfl
theorem s_valg {C : World → Prop} {d : Nat} {v : Value} (hC : C w) (hw : Region.wanted o (yielded ops (fr n l G D).tmps) = true) (hd : o.dst = some d) (R : Rn P o n l C v)
    (k : wpList P ops Q rest (fr n ((d, v) :: l) G D) w) : wpList P ops Q (o :: rest) (fr n l G D) w := by
  refine wpList_step fun K hK => ?_
  rw [if_pos hw]
  unfold Oper.wp
  rw [R G D w hC, Oper.upon_value, hd, fr_put]
  exact hK _ _ k
theorem s_skip {d : Nat} (hw : Region.wanted o (yielded ops (fr n l G D).tmps) = false) (hd : o.dst = some d)
    (k : wpList P ops Q rest (fr n ((d, undef) :: l) G D) w) : wpList P ops Q (o :: rest) (fr n l G D) w := by
  refine wpList_step fun K hK => ?_
  rw [if_neg (by rw [hw]; simp), hd, fr_put]
  exact hK _ _ k
theorem s_skip0 (hw : Region.wanted o (yielded ops (fr n l G D).tmps) = false) (hd : o.dst = none)
    (k : wpList P ops Q rest (fr n l G D) w) : wpList P ops Q (o :: rest) (fr n l G D) w := by
  refine wpList_step fun K hK => ?_
  rw [if_neg (by rw [hw]; simp), hd, fr_put_none]
  exact hK _ _ k
theorem s_nil {K : Act → World → Prop} {Q' : Exit → Act → World → Prop} {a : Act} (k : K a w) : wpList P ops (Exit.then K Q') [] a w := k

/-- an operation that changes the world -/
theorem s_run {d : Nat} {v : Value} {w' : World} (hg : o.guard = none) (hd : o.dst = some d) (hr : (execOp (fr n l G D).eval o).run P w = .ok (.value v) w')
    (k : wpList P ops Q rest (fr n ((d, v) :: l) G D) w') : wpList P ops Q (o :: rest) (fr n l G D) w := by
  refine wpList_plain hg fun K hK => ?_
  unfold Oper.wp
  rw [hr, Oper.upon_value, hd, fr_put]
  exact hK _ _ k
theorem s_run0 {w' : World} (hg : o.guard = none) (hd : o.dst = none) (hr : (execOp (fr n l G D).eval o).run P w = .ok .skip w')
    (k : wpList P ops Q rest (fr n l G D) w') : wpList P ops Q (o :: rest) (fr n l G D) w := by
  refine wpList_plain hg fun K hK => ?_
  unfold Oper.wp
  rw [hr, Oper.upon_skip, hd, fr_put_none]
  exact hK _ _ k
def callable (P : Program) (f : FuncId) : Bool := match P.funcs[f]? with | some fn => fn.body.isSome && !(fn.name == "runtime.NumGoroutine") | none => false
theorem run_callf {f : FuncId} {xs : List Operand} {vs : List Value} {ts : Array TypeId} (ho : o.op = .call { callee := .value (.func f), args := xs.toArray, argTypes := ts }) (hx : Evs n l xs vs) (hf : callable P f = true) :
    (execOp (fr n l G D).eval o).run P w = .ok (.enter f vs.toArray) w := by
  unfold callable at hf
  cases hfn : P.funcs[f]? with
  | none => rw [hfn] at hf; cases hf
  | some fn =>
    rw [hfn] at hf
    simp only [Bool.and_eq_true, Bool.not_eq_true', beq_eq_false_iff_ne] at hf
    obtain ⟨h1, h2⟩ := hf
    have h3 : ¬ fn.body = none := by intro e; rw [e] at h1; cases h1
    unfold execOp
    rw [ho]
    simp [resolve, Deferred.ofValue, invoke, callFunc, Act.eval, hfn, h2, h3]
    simpa [Act.eval] using hx.map (G := G) (D := D)
/-- a call of a Go function -/
theorem s_call {f : FuncId} {xs : List Operand} {vs : List Value} {ts : Array TypeId} {d : Nat} {Φ : Value → World → Prop} (hg : o.guard = none) (hd : o.dst = some d)
    (ho : o.op = .call { callee := .value (.func f), args := xs.toArray, argTypes := ts }) (hx : Evs n l xs vs) (hf : callable P f = true)
    (c : Calls P f vs.toArray w (Ret Φ)) (k : ∀ v w', Φ v w' → wpList P ops Q rest (fr n ((d, v) :: l) G D) w') : wpList P ops Q (o :: rest) (fr n l G D) w := by
  refine wpList_plain hg fun K hK => ?_
  unfold Oper.wp
  have hr := run_callf (G := G) (D := D) (w := w) ho hx hf
  rw [hr, Oper.upon_enter]
  refine c.mono ?_
  rintro e w' ⟨v, rfl, hv⟩
  dsimp only
  rw [hd, fr_put]
  exact hK _ _ (k v w' hv)
theorem s_callg {f : FuncId} {xs : List Operand} {vs : List Value} {ts : Array TypeId} {d : Nat} {Φ : Value → World → Prop} (hw : Region.wanted o (yielded ops (fr n l G D).tmps) = true) (hd : o.dst = some d)
    (ho : o.op = .call { callee := .value (.func f), args := xs.toArray, argTypes := ts }) (hx : Evs n l xs vs) (hf : callable P f = true)
    (c : Calls P f vs.toArray w (Ret Φ)) (k : ∀ v w', Φ v w' → wpList P ops Q rest (fr n ((d, v) :: l) G D) w') : wpList P ops Q (o :: rest) (fr n l G D) w := by
  refine wpList_step fun K hK => ?_
  rw [if_pos hw]
  unfold Oper.wp
  have hr := run_callf (G := G) (D := D) (w := w) ho hx hf
  rw [hr, Oper.upon_enter]
  refine c.mono ?_
  rintro e w' ⟨v, rfl, hv⟩
  dsimp only
  rw [hd, fr_put]
  exact hK _ _ (k v w' hv)

/-! a region whose order is drawn -/
theorem q_val {C : World → Prop} {Q : Act → Prop} {d : Nat} {v : Value} (hg : o.guard = none) (hd : o.dst = some d) (R : Rn P o n l C v)
    (k : wpQuiet P ops C Q rest (fr n ((d, v) :: l) G D)) : wpQuiet P ops C Q (o :: rest) (fr n l G D) := by
  unfold wpQuiet
  have : Region.wanted o (yielded ops (fr n l G D).tmps) = true := by simp [Region.wanted, hg]
  rw [if_pos this]
  refine ⟨v, fun w hw => ?_, by rw [hd, fr_put]; exact k⟩
  unfold Oper.quietAt
  rw [R G D w hw]
  exact ⟨rfl, rfl⟩
theorem q_valg {C : World → Prop} {Q : Act → Prop} {d : Nat} {v : Value} (hw : Region.wanted o (yielded ops (fr n l G D).tmps) = true) (hd : o.dst = some d) (R : Rn P o n l C v)
    (k : wpQuiet P ops C Q rest (fr n ((d, v) :: l) G D)) : wpQuiet P ops C Q (o :: rest) (fr n l G D) := by
  unfold wpQuiet
  rw [if_pos hw]
  refine ⟨v, fun w hw => ?_, by rw [hd, fr_put]; exact k⟩
  unfold Oper.quietAt
  rw [R G D w hw]
  exact ⟨rfl, rfl⟩
theorem q_skip {C : World → Prop} {Q : Act → Prop} {d : Nat} (hw : Region.wanted o (yielded ops (fr n l G D).tmps) = false) (hd : o.dst = some d)
    (k : wpQuiet P ops C Q rest (fr n ((d, undef) :: l) G D)) : wpQuiet P ops C Q (o :: rest) (fr n l G D) := by
  unfold wpQuiet
  rw [if_neg (by rw [hw]; simp), hd, fr_put]
  exact k
theorem q_call {C : World → Prop} {Q : Act → Prop} {f : FuncId} {xs : List Operand} {vs : List Value} {ts : Array TypeId} {d : Nat} {v : Value} (hg : o.guard = none) (hd : o.dst = some d)
    (ho : o.op = .call { callee := .value (.func f), args := xs.toArray, argTypes := ts }) (hx : Evs n l xs vs) (hf : callable P f = true)
    (c : ∀ w, C w → Calls P f vs.toArray w (Ret fun v' w' => v' = v ∧ C w')) (k : wpQuiet P ops C Q rest (fr n ((d, v) :: l) G D)) : wpQuiet P ops C Q (o :: rest) (fr n l G D) := by
  unfold wpQuiet
  have : Region.wanted o (yielded ops (fr n l G D).tmps) = true := by simp [Region.wanted, hg]
  rw [if_pos this]
  refine ⟨v, fun w hw => ?_, by rw [hd, fr_put]; exact k⟩
  unfold Oper.quietAt
  have hr := run_callf (G := G) (D := D) (w := w) ho hx hf
  rw [hr]
  refine ⟨rfl, (c w hw).mono ?_⟩
  rintro e w' ⟨v', rfl, rfl, hC⟩
  exact ⟨rfl, hC⟩
end Go.Proofs.Ytdmiklegahdafaa.K

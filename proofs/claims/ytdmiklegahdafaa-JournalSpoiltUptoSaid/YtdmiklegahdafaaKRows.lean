/- Rows of rows: a slice whose values are slices that read lists, to any depth; such rows of one's own that grow. -/
import Derived.Test.YtdmiklegahdafaaKMore
namespace Go.Proofs.Ytdmiklegahdafaa.K
open Go Go.RowKit
set_option linter.unusedSimpArgs false
set_option linter.unusedVariables false
variable {P : Program} {ops : Array Oper} {Q Q' : Exit → Act → World → Prop} {K : Act → World → Prop} {rest : List Oper} {o : Oper} {n : Nat} {l : Asc} {G : Nat → Value} {D : List Deferred} {a : Act} {w w' w0 : World} {S : List Nat} {h : Hp} {C : World → Prop} {fn : Func} {α : Type}

/-- a relation of values to what they tell, in a heap that may grow -/
def MonoR (R : α → Value → Hp → Prop) : Prop := ∀ x v hv hv', R x v hv → (∀ p ∈ hv, p ∈ hv') → R x v hv'
def All2 (R : α → Value → Hp → Prop) (hv : Hp) : List α → List Value → Prop
  | [], [] => True
  | x :: l, v :: vs => R x v hv ∧ All2 R hv l vs
  | _, _ => False
/-- the slice reads the values vs, and these the list xs -/
structure RwV (R : α → Value → Hp → Prop) (ad : Option Addr) (cap : Nat) (vs : List Value) (xs : List α) (hv : Hp) : Prop where
  sl : SlV ad cap vs hv
  all : All2 R hv xs vs
def SlP (R : α → Value → Hp → Prop) (ad : Option Addr) (cap : Nat) (xs : List α) (hv : Hp) : Prop := ∃ vs, RwV R ad cap vs xs hv
def R1 (L : List Nat) (v : Value) (hv : Hp) : Prop := ∃ b c, v = .slice b L.length c ∧ Sl .u8 b c L hv
def R2 (LL : List (List Nat)) (v : Value) (hv : Hp) : Prop := ∃ b c, v = .slice b LL.length c ∧ SlP R1 b c LL hv

/-- whole numbers with a sign -/
def RI (x : Int) (v : Value) (hv : Hp) : Prop := v = .int .i64 x ∧ -9223372036854775808 ≤ x ∧ x ≤ 9223372036854775807
theorem RI.mono : MonoR RI := fun _ _ _ _ h _ => h
theorem All2.len {R : α → Value → Hp → Prop} {hv : Hp} : ∀ {xs : List α} {vs : List Value}, All2 R hv xs vs → vs.length = xs.length
  | [], [], _ => rfl
  | x :: xs, v :: vs, hh => by simp [All2.len hh.2]
theorem All2.mono {R : α → Value → Hp → Prop} (hR : MonoR R) {hv hv' : Hp} (hs : ∀ p ∈ hv, p ∈ hv') : ∀ {xs : List α} {vs : List Value}, All2 R hv xs vs → All2 R hv' xs vs
  | [], [], _ => trivial
  | x :: xs, v :: vs, hh => ⟨hR _ _ _ _ hh.1 hs, All2.mono hR hs hh.2⟩
theorem All2.app {R : α → Value → Hp → Prop} {hv : Hp} : ∀ {xs : List α} {vs : List Value} {ys : List α} {us : List Value}, All2 R hv xs vs → All2 R hv ys us → All2 R hv (xs ++ ys) (vs ++ us)
  | [], [], _, _, _, h2 => h2
  | x :: xs, v :: vs, _, _, hh, h2 => ⟨hh.1, All2.app hh.2 h2⟩
theorem All2.get {R : α → Value → Hp → Prop} {hv : Hp} : ∀ {xs : List α} {vs : List Value} {j : Nat} {x : α}, All2 R hv xs vs → xs[j]? = some x → ∃ v, vs[j]? = some v ∧ R x v hv
  | x :: xs, v :: vs, 0, y, hh, hj => by
    simp only [List.getElem?_cons_zero, Option.some.injEq] at hj; subst hj
    exact ⟨v, by simp, hh.1⟩
  | x :: xs, v :: vs, j + 1, y, hh, hj => by
    simp only [List.getElem?_cons_succ] at hj
    obtain ⟨u, h1, h2⟩ := All2.get hh.2 hj
    exact ⟨u, by simpa using h1, h2⟩
theorem SlP.mono {R : α → Value → Hp → Prop} (hR : MonoR R) {ad : Option Addr} {cap : Nat} {xs : List α} {hv hv' : Hp} (hp : SlP R ad cap xs hv) (hs : ∀ p ∈ hv, p ∈ hv') : SlP R ad cap xs hv' := by
  obtain ⟨vs, h1, h2⟩ := hp
  exact ⟨vs, h1.mono hs, h2.mono hR hs⟩
theorem R1.mono : MonoR R1 := fun L v hv hv' hh hs => by obtain ⟨b, c, h1, h2⟩ := hh; exact ⟨b, c, h1, h2.mono hs⟩
theorem R2.mono : MonoR R2 := fun L v hv hv' hh hs => by obtain ⟨b, c, h1, h2⟩ := hh; exact ⟨b, c, h1, h2.mono R1.mono hs⟩
theorem SlP.nil {R : α → Value → Hp → Prop} {hv : Hp} : SlP R none 0 [] hv := ⟨[], SlV.nil, trivial⟩
theorem SlP.most {R : α → Value → Hp → Prop} {ad : Option Addr} {cap : Nat} {xs : List α} {hv : Hp} (hp : SlP R ad cap xs hv) : xs.length ≤ 9223372036854775807 := by
  obtain ⟨vs, h1, h2⟩ := hp
  rw [← h2.len]; exact h1.most
theorem SlP.le {R : α → Value → Hp → Prop} {ad : Option Addr} {cap : Nat} {xs : List α} {hv : Hp} (hp : SlP R ad cap xs hv) : xs.length ≤ cap := by
  obtain ⟨vs, h1, h2⟩ := hp
  rw [← h2.len]; exact h1.le
theorem RwV.len {R : α → Value → Hp → Prop} {ad : Option Addr} {cap : Nat} {vs : List Value} {xs : List α} {hv : Hp} (h : RwV R ad cap vs xs hv) : vs.length = xs.length := h.all.len
theorem RwV.most {R : α → Value → Hp → Prop} {ad : Option Addr} {cap : Nat} {vs : List Value} {xs : List α} {hv : Hp} (h : RwV R ad cap vs xs hv) : xs.length ≤ 9223372036854775807 := by rw [← h.len]; exact h.sl.most
theorem RwV.le {R : α → Value → Hp → Prop} {ad : Option Addr} {cap : Nat} {vs : List Value} {xs : List α} {hv : Hp} (h : RwV R ad cap vs xs hv) : xs.length ≤ cap := by rw [← h.len]; exact h.sl.le
theorem RwV.mono {R : α → Value → Hp → Prop} (hR : MonoR R) {ad : Option Addr} {cap : Nat} {vs : List Value} {xs : List α} {hv hv' : Hp} (h : RwV R ad cap vs xs hv) (hs : ∀ p ∈ hv, p ∈ hv') : RwV R ad cap vs xs hv' := ⟨h.sl.mono hs, h.all.mono hR hs⟩
theorem All2.take {R : α → Value → Hp → Prop} {hv : Hp} : ∀ {xs : List α} {vs : List Value} (n : Nat), All2 R hv xs vs → All2 R hv (xs.take n) (vs.take n)
  | _, _, 0, _ => by simp only [List.take_zero]; trivial
  | [], [], n + 1, _ => trivial
  | x :: xs, v :: vs, n + 1, h => ⟨h.1, All2.take n h.2⟩
theorem RwV.take {R : α → Value → Hp → Prop} {ad : Option Addr} {cap n : Nat} {vs : List Value} {xs : List α} {hv : Hp} (h : RwV R ad cap vs xs hv) : RwV R ad cap (vs.take n) (xs.take n) hv := by
  refine ⟨⟨by have := h.sl.le; rw [List.length_take]; omega, by have := h.sl.most; rw [List.length_take]; omega, fun j hj => ?_⟩, h.all.take n⟩
  rw [List.length_take] at hj
  obtain ⟨h1, c, T, f, h2, h3⟩ := h.sl.at_ j (by omega)
  exact ⟨h1, c, T, f, h2, by rw [h3]; simp⟩
/-- the row at a place -/
theorem RwV.get {ad : Option Addr} {cap : Nat} {vs : List Value} {xs : List (List Nat)} {hv : Hp} (h : RwV R1 ad cap vs xs hv) (j : Nat) (hj : j < xs.length) : ∃ b c, vs[j]? = some (.slice b (xs.getD j []).length c) ∧ Sl .u8 b c (xs.getD j []) hv := by
  obtain ⟨v, q1, b, c, rfl, q3⟩ := h.all.get (j := j) (List.getElem?_eq_getElem hj)
  refine ⟨b, c, ?_, ?_⟩ <;> simp only [List.getD_eq_getElem?_getD, List.getElem?_eq_getElem hj, Option.getD_some]
  · exact q1
  · exact q3
theorem RwV.get2 {ad : Option Addr} {cap : Nat} {vs : List Value} {xs : List (List (List Nat))} {hv : Hp} (h : RwV R2 ad cap vs xs hv) (j : Nat) (hj : j < xs.length) : ∃ b c us, vs[j]? = some (.slice b (xs.getD j []).length c) ∧ RwV R1 b c us (xs.getD j []) hv := by
  obtain ⟨v, q1, b, c, rfl, us, q3⟩ := h.all.get (j := j) (List.getElem?_eq_getElem hj)
  refine ⟨b, c, us, ?_, ?_⟩ <;> simp only [List.getD_eq_getElem?_getD, List.getElem?_eq_getElem hj, Option.getD_some]
  · exact q1
  · exact q3
theorem RwV.geti {ad : Option Addr} {cap : Nat} {vs : List Value} {xs : List Int} {hv : Hp} (h : RwV RI ad cap vs xs hv) (j : Nat) (hj : j < xs.length) : vs[j]? = some (.int .i64 (xs.getD j 0)) ∧ -9223372036854775808 ≤ xs.getD j 0 ∧ xs.getD j 0 ≤ 9223372036854775807 := by
  obtain ⟨v, q1, rfl, q2, q3⟩ := h.all.get (j := j) (List.getElem?_eq_getElem hj)
  simp only [List.getD_eq_getElem?_getD, List.getElem?_eq_getElem hj, Option.getD_some]
  exact ⟨q1, q2, q3⟩
/-- rows of one's own that grow: the row of the values, and what they tell -/
def GrP (R : α → Value → Hp → Prop) (T : TypeId) (ad : Option Addr) (cap : Nat) (xs : List α) (hv : Hp) : Prop := ∃ vs hg hr, hv = hg ++ hr ∧ GrV T ad cap vs hg ∧ All2 R hr xs vs
theorem GrP.nil {R : α → Value → Hp → Prop} {T : TypeId} : GrP R T none 0 [] [] := ⟨[], [], [], rfl, GrV.nil, trivial⟩
theorem GrP.sl {R : α → Value → Hp → Prop} (hR : MonoR R) {T : TypeId} {ad : Option Addr} {cap : Nat} {xs : List α} {hv : Hp} (g : GrP R T ad cap xs hv) (hm : xs.length ≤ 9223372036854775807) : SlP R ad cap xs hv := by
  obtain ⟨vs, hg, hr, rfl, h1, h2⟩ := g
  exact ⟨vs, (h1.sl (by rw [h2.len]; exact hm)).mono fun p hp => List.mem_append_left _ hp, h2.mono hR fun p hp => List.mem_append_right _ hp⟩
/-- taken apart to grow, and put together -/
theorem St.apart {L : List Hp} {x y : Hp} (i : Nat) (s : St w0 S (fl L) w) (hi : L[i]? = some (x ++ y)) : St w0 S (fl (L.set i x ++ [y])) w := by
  obtain ⟨R, h1, h2⟩ := split_all (L := L) (is := [i]) (xs := [x ++ y]) (by simp [hi]) (by simp)
  have := h2 [x] rfl
  refine s.perm2 (h1.trans ?_)
  rw [fl_append]
  refine List.Perm.trans ?_ (this.symm.append_right _)
  simp only [fl, List.flatten_cons, List.flatten_nil, List.append_nil, List.append_assoc]
  exact List.perm_append_comm.append_left _
theorem GrP.open_ {R : α → Value → Hp → Prop} {T : TypeId} {ad : Option Addr} {cap : Nat} {xs : List α} {hv : Hp} {Lp : List Hp} (i : Nat) (g : GrP R T ad cap xs hv) (hS : St w0 S (fl Lp) w) (hi : Lp[i]? = some hv) :
    ∃ vs hg hr, GrV T ad cap vs hg ∧ All2 R hr xs vs ∧ vs.length = xs.length ∧ St w0 S (fl (Lp.set i hg ++ [hr])) w := by
  obtain ⟨vs, hg, hr, rfl, h1, h2⟩ := g
  exact ⟨vs, hg, hr, h1, h2, h2.len, hS.apart i hi⟩
theorem GrP.snoc {R : α → Value → Hp → Prop} (hR : MonoR R) {T : TypeId} {ad : Option Addr} {cap : Nat} {xs : List α} {x : α} {v : Value} {vs : List Value} {hg hr hx : Hp} (g : GrV T ad cap (vs ++ [v]) hg) (h : All2 R hr xs vs) (h2 : R x v hx) : GrP R T ad cap (xs ++ [x]) (hg ++ (hr ++ hx)) :=
  ⟨vs ++ [v], hg, hr ++ hx, rfl, g, (h.mono hR fun p hp => List.mem_append_left _ hp).app ⟨hR _ _ _ _ h2 (fun p hp => List.mem_append_right _ hp), trivial⟩⟩
theorem R1.of_gr {T : TypeId} {b : Option Addr} {c ln : Nat} {L : List Nat} {hv : Hp} (g : Gr .u8 T b c L hv) (hm : L.length ≤ 9223372036854775807) (hf : ∀ x ∈ L, x ≤ 255) (e : ln = L.length) : R1 L (.slice b ln c) hv := ⟨b, c, by rw [e], g.sl hm hf⟩
theorem R2.of_gr {T : TypeId} {b : Option Addr} {c ln : Nat} {L : List (List Nat)} {hv : Hp} (g : GrP R1 T b c L hv) (hm : L.length ≤ 9223372036854775807) (e : ln = L.length) : R2 L (.slice b ln c) hv := ⟨b, c, by rw [e], g.sl R1.mono hm⟩
theorem SlV.lit {T : TypeId} {f : Nat × Nat} {b cap : Nat} {vs : List Value} (h1 : vs.length ≤ cap) (h2 : vs.length ≤ 9223372036854775807) : SlV (some ⟨b, 0, none⟩) cap vs [(b, .cells vs.toArray T f)] :=
  ⟨h1, h2, fun j hj => ⟨rfl, _, T, f, List.mem_singleton.2 rfl, by simp [adr, hj]⟩⟩
end Go.Proofs.Ytdmiklegahdafaa.K

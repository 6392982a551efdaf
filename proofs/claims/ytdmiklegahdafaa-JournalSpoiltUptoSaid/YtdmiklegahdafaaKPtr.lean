/- The engine: functions that defer, closures, locks, pointers. -/
import Derived.Test.YtdmiklegahdafaaKSep
import Derived.Test.YtdmiklegahdafaaKAny
import Derived.Defers
import Derived.ScopeJumps
import Derived.Conc.MuLone
namespace Go.Proofs.Ytdmiklegahdafaa.K
open Go Go.RowKit

set_option linter.unusedSimpArgs false
set_option linter.unusedVariables false
variable {P : Program} {ops : Array Oper} {Q Q' : Exit → Act → World → Prop} {K : Act → World → Prop} {rest : List Oper} {o : Oper} {n : Nat} {l : Asc} {G : Nat → Value} {D : List Deferred} {a : Act} {w w' w0 : World} {S : List Nat} {h : Hp} {C : World → Prop} {R : Ending → World → Prop} {fn : Func}

theorem k_enterd {f : FuncId} {c : Code} {N : Nat} {vs : List Value} (hf : P.funcs[f]? = some fn) (hb : fn.body = some c) (hN : fn.ntmps = N) (hl : Nat.ble vs.length N = true)
    (hh : c.wp P (bodyPostD P fn R) (fr N (asc 0 vs) fun _ => undef) w) : Calls P f vs.toArray w R := by
  refine calls_of_wp_defers hf hb ?_
  have hl' : vs.length ≤ N := by simpa using hl
  have e : (⟨vs.toArray ++ Array.replicate (fn.ntmps - vs.toArray.size) undef, []⟩ : Act) = fr N (asc 0 vs) fun _ => undef := by
    unfold fr
    congr 1
    apply Array.ext_getElem?
    intro i
    rw [Array.getElem?_append, Array.getElem?_ofFn]
    simp only [look_asc, List.size_toArray, hN, Array.getElem?_replicate]
    by_cases h1 : i < vs.length
    · have h2 : i < N := by omega
      simp [h1, h2]
    · by_cases h2 : i < N
      · have h3 : i - vs.length < N - vs.length := by omega
        simp [h1, h2, h3]
      · have h3 : ¬ i - vs.length < N - vs.length := by omega
        simp [h1, h2, h3]
  rw [e]
  exact hh
/-- results that are told behind the deferred calls -/
def Tells (P : Program) (fn : Func) (tmps : Array Value) (v : Value) (w : World) : Prop := (results fn tmps).run P w = .ok v w
theorem tells0 (hres : fn.results = #[]) : Tells P fn (fr n l G D).tmps (.tuple #[]) w := results_none hres _ P w
theorem tells1 {r : Nat} {v : Value} (hres : fn.results = #[.tmp r]) (hl : look l r = some v) (hn : Nat.blt r n = true) : Tells P fn (fr n l G D).tmps v w := by
  unfold Tells; rw [results_tmp hres, fr_getD hn hl]
theorem tells2 {r s : Nat} {v u : Value} (hres : fn.results = #[.tmp r, .tmp s]) (hl : look l r = some v) (hn : Nat.blt r n = true) (hl2 : look l s = some u) (hn2 : Nat.blt s n = true) : Tells P fn (fr n l G D).tmps (.tuple #[v, u]) w := by
  unfold Tells; rw [results_tmp2 hres, fr_getD hn hl, fr_getD hn2 hl2]
/-- leaving with one deferred Unlock -/
theorem l_unlock {L : Go.Conc.Locks.MuLink} (H : Go.Conc.Locks.MuLib P L) {m d q : Nat} {c c' : Array Value} {T : TypeId} {v : Value} {h' : Hp} (hc : callable P L.unlock = true) (hS : St w0 S h w) (hm : h[m]? = some (d, .cells c T (0, 0))) (hq : c[q]? = some (.int .i32 1)) (hc' : c.setIfInBounds q (.int .i32 0) = c') (hh : h.set m (d, .cells c' T (0, 0)) = h')
    (ht : ∀ w, Tells P fn (fr n l G [⟨.fn (.func L.unlock) #[], #[.pointer (some ⟨d, q, none⟩)]⟩]).tmps v w) (hR : ∀ w', St w0 S h' w' → R (.returned v) w') : bodyPostD P fn R .ret (fr n l G [⟨.fn (.func L.unlock) #[], #[.pointer (some ⟨d, q, none⟩)]⟩]) w := by
  have hcell := St.cell_own hm hq w hS
  have hb := hS.own _ (List.mem_of_getElem? hm)
  have hfz : w.frozen? ⟨d, q, none⟩ = false := by simp only at hb; simp [World.frozen?, hb]
  show Leaves P fn _ R [⟨.fn (.func L.unlock) #[], #[.pointer (some ⟨d, q, none⟩)]⟩] .returning w
  have hi : (invoke (.fn (.func L.unlock) #[]) #[.pointer (some ⟨d, q, none⟩)]).run P w = .ok (.enter L.unlock #[.pointer (some ⟨d, q, none⟩)]) w := by
    unfold callable at hc
    cases hfn : P.funcs[L.unlock]? with
    | none => rw [hfn] at hc; cases hc
    | some f =>
      rw [hfn] at hc
      simp only [Bool.and_eq_true, Bool.not_eq_true', beq_eq_false_iff_ne] at hc
      obtain ⟨h1, h2⟩ := hc
      have h3 : ¬ f.body = none := by intro e; rw [e] at h1; cases h1
      simp [invoke, callFunc, hfn, h2, h3]
  refine leaves_cons (by simp) hi ?_
  intro c0 cs hu
  obtain ⟨e, u', w2, fr2, ⟨rfl, rfl, rfl⟩, h2⟩ := Go.MuLone.unlock_deferred H ⟨d, q, none⟩ .returning w hcell hfz c0 cs hu
  refine ⟨_, _, _, fr2, ?_, h2⟩
  have hS' := hS.setCell (i := q) (.int .i32 0) hm
  rw [hc'] at hS'
  rw [hh] at hS'
  exact ⟨v, ht _, hR _ hS'⟩
theorem l_n (k : bodyPostD P fn R .ret a w) : bodyPostD P fn R .normal a w := k
/-- Lock -/
theorem lock_ok {L : Go.Conc.Locks.MuLink} (H : Go.Conc.Locks.MuLib P L) {d q : Nat} {c c' : Array Value} {T : TypeId} (hb : w.heap[d]? = some (.cells c T (0, 0))) (hq : c[q]? = some (.int .i32 0)) (hc' : c.setIfInBounds q (.int .i32 1) = c') :
    Calls P L.lock #[.pointer (some ⟨d, q, none⟩)] w (Ret fun v w' => v = .tuple #[] ∧ St w [d] [(d, .cells c' T (0, 0))] w') := by
  have hcell : w.cell? ⟨d, q, none⟩ = some (.int .i32 0) := by simp [World.cell?, hb, hq]
  have hfz : w.frozen? ⟨d, q, none⟩ = false := by simp [World.frozen?, hb]
  refine (Go.MuLone.lock_free H ⟨d, q, none⟩ w hcell hfz).mono ?_
  rintro e w' ⟨rfl, rfl⟩
  have h0 := (St.init1 (w0 := w) hb).setCell (m := 0) (i := q) (.int .i32 1) rfl
  rw [hc'] at h0
  exact ⟨_, rfl, rfl, h0⟩
theorem s_defer {f : FuncId} {xs : List Operand} {vs : List Value} {ts : Array TypeId} (hg : o.guard = none) (hd : o.dst = none)
    (ho : o.op = .defer { callee := .value (.func f), args := xs.toArray, argTypes := ts }) (hx : Evs n l xs vs)
    (k : wpList P ops Q rest (fr n l G (⟨.fn (.func f) #[], vs.toArray⟩ :: D)) w) : wpList P ops Q (o :: rest) (fr n l G D) w := by
  refine wpList_plain hg fun K hK => ?_
  unfold Oper.wp
  have hr : (execOp (fr n l G D).eval o).run P w = .ok (.defer ⟨.fn (.func f) #[], vs.toArray⟩) w := by
    unfold execOp
    rw [ho]
    simp [resolve, Deferred.ofValue, Act.eval]
    simpa [Act.eval] using hx.map (G := G) (D := D)
  rw [hr, Oper.upon_defer, hd]
  exact hK _ _ k
/-- a deferred closure without arguments -/
theorem s_deferv {f : FuncId} {x : Operand} {cap : Array Value} {ts : Array TypeId} (hg : o.guard = none) (hd : o.dst = none)
    (ho : o.op = .defer { callee := .value x, args := #[], argTypes := ts }) (hx : Ev n l x (.func (.func f) #[] cap))
    (k : wpList P ops Q rest (fr n l G (⟨.fn (.func f) cap, #[]⟩ :: D)) w) : wpList P ops Q (o :: rest) (fr n l G D) w := by
  refine wpList_plain hg fun K hK => ?_
  unfold Oper.wp
  have hr : (execOp (fr n l G D).eval o).run P w = .ok (.defer ⟨.fn (.func f) cap, #[]⟩) w := by
    unfold execOp
    rw [ho]
    simp [resolve, Deferred.ofValue, hx G D]
  rw [hr, Oper.upon_defer, hd]
  exact hK _ _ k
theorem r_makeFunc {f : FuncId} {cs : List Operand} {vs : List Value} (ho : o.op = .makeFunc (.func f) #[] cs.toArray) (hx : Evs n l cs vs) : Rn P o n l C (.func (.func f) #[] vs.toArray) := by
  intro G D w _; unfold execOp; rw [ho]
  have := hx.arr (G := G) (D := D)
  simp only [List.map_toArray] at this
  simp [Instr.makeFunc]
  simpa using hx.map (G := G) (D := D)
theorem run_callv {f : FuncId} {x : Operand} {xs : List Operand} {vs cap : List Value} {ts : Array TypeId} (ho : o.op = .call { callee := .value x, args := xs.toArray, argTypes := ts }) (hf0 : Ev n l x (.func (.func f) #[] cap.toArray)) (hx : Evs n l xs vs) (hf : callable P f = true) :
    (execOp (fr n l G D).eval o).run P w = .ok (.enter f (vs ++ cap).toArray) w := by
  unfold callable at hf
  cases hfn : P.funcs[f]? with
  | none => rw [hfn] at hf; cases hf
  | some fn =>
    rw [hfn] at hf
    simp only [Bool.and_eq_true, Bool.not_eq_true', beq_eq_false_iff_ne] at hf
    obtain ⟨h1, h2⟩ := hf
    have h3 : ¬ fn.body = none := by intro e; rw [e] at h1; cases h1
    unfold execOp
    rw [ho]
    simp [resolve, Deferred.ofValue, invoke, callFunc, hf0 G D, hfn, h2, h3]
    simpa using hx.map (G := G) (D := D)
theorem s_callv {f : FuncId} {x : Operand} {xs : List Operand} {vs cap : List Value} {ts : Array TypeId} {d : Nat} {Φ : Value → World → Prop} (hg : o.guard = none) (hd : o.dst = some d)
    (ho : o.op = .call { callee := .value x, args := xs.toArray, argTypes := ts }) (hf0 : Ev n l x (.func (.func f) #[] cap.toArray)) (hx : Evs n l xs vs) (hf : callable P f = true)
    (c : Calls P f (vs ++ cap).toArray w (Ret Φ)) (k : ∀ v w', Φ v w' → wpList P ops Q rest (fr n ((d, v) :: l) G D) w') : wpList P ops Q (o :: rest) (fr n l G D) w := by
  refine wpList_plain hg fun K hK => ?_
  unfold Oper.wp
  rw [run_callv (w := w) ho hf0 hx hf, Oper.upon_enter]
  refine c.mono ?_
  rintro e w' ⟨v, rfl, hv⟩
  dsimp only
  rw [hd, fr_put]
  exact hK _ _ (k v w' hv)
theorem r_nilCheck {x : Operand} {ad : Addr} (ho : o.op = .nilCheck x) (hx : Ev n l x (.pointer (some ad))) : Rn P o n l C (.pointer (some ad)) := by
  intro G D w _; unfold execOp; rw [ho]; simp [hx G D]
theorem eq_nil_ptr {t e : TypeId} (ht : P.underlying t = some (.pointer e)) (a : Option Addr) (w : World) : (Op.equal t (.pointer a) (.pointer none)).run P w = .ok a.isNone w :=
  equal_of (fun d w => by cases a <;> simp [Op.equalIn, run_underlying ht, samePointer]) w
theorem r_eqnilp {t u e : TypeId} {x y : Operand} {a : Option Addr} {b : Bool} (ho : o.op = .binOp .eql t x y u) (ht : P.underlying t = some (.pointer e)) (hx : Ev n l x (.pointer a)) (hy : Ev n l y (.pointer none)) (hb : a.isNone = b) : Rn P o n l C (.bool b) :=
  hb ▸ run_eql ho hx hy (fun w => by cases a <;> simp [binOp, eq_nil_ptr ht]) (fun w => by simp [eqGuard])
theorem r_nenilp {t u e : TypeId} {x y : Operand} {a : Option Addr} {b : Bool} (ho : o.op = .binOp .neq t x y u) (ht : P.underlying t = some (.pointer e)) (hx : Ev n l x (.pointer a)) (hy : Ev n l y (.pointer none)) (hb : (!a.isNone) = b) : Rn P o n l C (.bool b) :=
  hb ▸ run_neq ho hx hy (fun w => by cases a <;> simp [binOp, eq_nil_ptr ht]) (fun w => by simp [eqGuard])
/-- only where a region's end is looked at -/
def only (Q : Exit → Act → World → Prop) : Exit → Act → World → Prop | .normal, a, w => Q .normal a w | _, _, _ => False
theorem NoP.only : NoP (only Q) := fun c a w h => h
theorem k_only {c : Code} (k : c.wp P (only Q) a w) : c.wp P Q a w := wp_mono k fun e a w q => by cases e <;> first | exact q | exact q.elim
theorem only_n (k : Q .normal a w) : only Q .normal a w := k

/-! labels -/
def Exit.jumps (J : Nat → Act → World → Prop) (Q : Exit → Act → World → Prop) : Exit → Act → World → Prop
  | .goto l, a, w => J l a w
  | e, a, w => Q e a w
theorem k_scope {c : Code} (J : Nat → Act → World → Prop) (μ : Nat → Act → World → Nat) (first : c.wp P (Exit.jumps J Q) a w)
    (pass : ∀ l a w, J l a w → ∃ rest, findLabel c l = some rest ∧ rest.wp P (Exit.jumps (fun l' a' w' => J l' a' w' ∧ μ l' a' w' < μ l a w) Q) a w) : (Code.scope c).wp P Q a w := by
  intro b k cs
  have key : ∀ n l a w, μ l a w = n → J l a w → ∃ rest, gotoIn l (.inScope c :: k) = some (.code rest :: .inScope c :: k) ∧ ∃ e a' w', Q e a' w' ∧ Arrives P (lone (b.at a (.code rest :: .inScope c :: k)) cs w) b k cs e a' w' := by
    intro n
    induction n using Nat.strongRecOn with
    | _ n ih =>
      intro l a w hn hJ
      obtain ⟨rest, hf, hp⟩ := pass l a w hJ
      have hg : gotoIn l (.inScope c :: k) = some (.code rest :: .inScope c :: k) := by simp [gotoIn, hf]
      refine ⟨rest, hg, ?_⟩
      obtain ⟨e, a₁, w₁, hq, harr⟩ := hp b (.inScope c :: k) cs
      cases e with
      | normal => exact ⟨.normal, a₁, w₁, hq, Steps.trans harr (.one step_inScope)⟩
      | exit id => exact ⟨.exit id, a₁, w₁, hq, fun k' hk => harr k' (by simp [exitTo, hk])⟩
      | goto l' =>
        obtain ⟨hJ', hlt⟩ := hq
        obtain ⟨r2, hg2, e₂, a₂, w₂, hq₂, harr₂⟩ := ih _ (by omega) l' a₁ w₁ rfl hJ'
        exact ⟨e₂, a₂, w₂, hq₂, .of_steps (harr _ hg2) harr₂⟩
      | ret => exact ⟨_, a₁, w₁, hq, harr⟩
      | panic ch => exact ⟨_, a₁, w₁, hq, harr⟩
      | outgrown => exact ⟨_, a₁, w₁, hq, harr⟩
  obtain ⟨e, a₁, w₁, hq, harr⟩ := first b (.inScope c :: k) cs
  cases e with
  | normal => exact ⟨.normal, a₁, w₁, hq, .head step_scope (Steps.trans harr (.one step_inScope))⟩
  | exit id => exact ⟨.exit id, a₁, w₁, hq, fun k' hk => .head step_scope (harr k' (by simp [exitTo, hk]))⟩
  | goto l' =>
    obtain ⟨r2, hg2, e₂, a₂, w₂, hq₂, harr₂⟩ := key _ l' a₁ w₁ rfl hq
    exact ⟨e₂, a₂, w₂, hq₂, .of_steps (.head step_scope (harr _ hg2)) harr₂⟩
  | ret => exact ⟨_, a₁, w₁, hq, .of_steps (.one step_scope) harr⟩
  | panic ch => exact ⟨_, a₁, w₁, hq, .of_steps (.one step_scope) harr⟩
  | outgrown => exact ⟨_, a₁, w₁, hq, .of_steps (.one step_scope) harr⟩
theorem j_n {J : Nat → Act → World → Prop} (k : Q .normal a w) : Exit.jumps J Q .normal a w := k
theorem j_r {J : Nat → Act → World → Prop} (k : Q .ret a w) : Exit.jumps J Q .ret a w := k
theorem j_g {J : Nat → Act → World → Prop} {i : Nat} (k : J i a w) : Exit.jumps J Q (.goto i) a w := k
theorem x_bg {id i : Nat} (k : Q (.goto i) a w) : Exit.inBlock id Q (.goto i) a w := k
end Go.Proofs.Ytdmiklegahdafaa.K

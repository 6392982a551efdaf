/- Labels: jumps with a measure that lies in what is told at the label. -/
import Derived.Test.YtdmiklegahdafaaKMore
namespace Go.Proofs.Ytdmiklegahdafaa.K
open Go Go.RowKit
variable {P : Program} {Q : Exit → Act → World → Prop} {a : Act} {w : World}
theorem k_scopeG {c : Code} (J : Nat → Nat → Act → World → Prop) (first : c.wp P (Exit.jumps (fun l a w => ∃ m, J l m a w) Q) a w)
    (pass : ∀ l m a w, J l m a w → ∃ rest, findLabel c l = some rest ∧ rest.wp P (Exit.jumps (fun l' a' w' => ∃ m', m' < m ∧ J l' m' a' w') Q) a w) : (Code.scope c).wp P Q a w := by
  intro b k cs
  have key : ∀ n l a w, J l n a w → ∃ rest, gotoIn l (.inScope c :: k) = some (.code rest :: .inScope c :: k) ∧ ∃ e a' w', Q e a' w' ∧ Arrives P (lone (b.at a (.code rest :: .inScope c :: k)) cs w) b k cs e a' w' := by
    intro n
    induction n using Nat.strongRecOn with
    | _ n ih =>
      intro l a w hJ
      obtain ⟨rest, hf, hp⟩ := pass l n a w hJ
      have hg : gotoIn l (.inScope c :: k) = some (.code rest :: .inScope c :: k) := by simp [gotoIn, hf]
      refine ⟨rest, hg, ?_⟩
      obtain ⟨e, a₁, w₁, hq, harr⟩ := hp b (.inScope c :: k) cs
      cases e with
      | normal => exact ⟨.normal, a₁, w₁, hq, Steps.trans harr (.one step_inScope)⟩
      | exit id => exact ⟨.exit id, a₁, w₁, hq, fun k' hk => harr k' (by simp [exitTo, hk])⟩
      | goto l' =>
        obtain ⟨m', hlt, hJ'⟩ := hq
        obtain ⟨r2, hg2, e₂, a₂, w₂, hq₂, harr₂⟩ := ih m' hlt l' a₁ w₁ hJ'
        exact ⟨e₂, a₂, w₂, hq₂, .of_steps (harr _ hg2) harr₂⟩
      | ret => exact ⟨_, a₁, w₁, hq, harr⟩
      | panic ch => exact ⟨_, a₁, w₁, hq, harr⟩
      | outgrown => exact ⟨_, a₁, w₁, hq, harr⟩
  obtain ⟨e, a₁, w₁, hq, harr⟩ := first b (.inScope c :: k) cs
  cases e with
  | normal => exact ⟨.normal, a₁, w₁, hq, .head step_scope (Steps.trans harr (.one step_inScope))⟩
  | exit id => exact ⟨.exit id, a₁, w₁, hq, fun k' hk => .head step_scope (harr k' (by simp [exitTo, hk]))⟩
  | goto l' =>
    obtain ⟨m', hJ'⟩ := hq
    obtain ⟨r2, hg2, e₂, a₂, w₂, hq₂, harr₂⟩ := key m' l' a₁ w₁ hJ'
    exact ⟨e₂, a₂, w₂, hq₂, .of_steps (.head step_scope (harr _ hg2)) harr₂⟩
  | ret => exact ⟨_, a₁, w₁, hq, .of_steps (.one step_scope) harr⟩
  | panic ch => exact ⟨_, a₁, w₁, hq, .of_steps (.one step_scope) harr⟩
  | outgrown => exact ⟨_, a₁, w₁, hq, .of_steps (.one step_scope) harr⟩
theorem Ev.asb {n : Nat} {l : Asc} {x : Operand} {b c : Bool} (h : Ev n l x (.bool b)) (e : b = c) : Ev n l x (.bool c) := e ▸ h
/-- what is wanted runs as what has no guard -/
theorem s_unguard {ops : Array Oper} {o : Oper} {rest : List Oper} {n : Nat} {l : Asc} {G : Nat → Value} {D : List Deferred} (hw : Region.wanted o (yielded ops (fr n l G D).tmps) = true) (k : wpList P ops Q ({ o with guard := none } :: rest) (fr n l G D) w) : wpList P ops Q (o :: rest) (fr n l G D) w := by
  unfold wpList at k ⊢
  rw [if_pos hw]
  rw [if_pos (by simp [Region.wanted])] at k
  exact k
/-! a deferred closure, and results that lie in memory -/
variable {n : Nat} {l : Asc} {G : Nat → Value} {D : List Deferred} {w' w0 : World} {S : List Nat} {h : Hp} {R : Ending → World → Prop} {fn : Func} {u : FrameMode}
theorem k_enterDD {f : FuncId} {c : Code} {N : Nat} {vs : List Value} (hf : P.funcs[f]? = some fn) (hb : fn.body = some c) (hN : fn.ntmps = N) (hl : Nat.ble vs.length N = true)
    (hh : c.wp P (bodyPost P fn R) (fr N (asc 0 vs) fun _ => undef) w) : CallsD P f vs.toArray u w fun e u' w' => u' = u ∧ R e w' := by
  refine callsD_of_wp hf hb ?_
  have hl' : vs.length ≤ N := by simpa using hl
  have e : (⟨vs.toArray ++ Array.replicate (fn.ntmps - vs.toArray.size) undef, []⟩ : Act) = fr N (asc 0 vs) fun _ => undef := by
    unfold fr
    congr 1
    apply Array.ext_getElem?
    intro i
    rw [Array.getElem?_append, Array.getElem?_ofFn]
    simp only [look_asc, List.size_toArray, hN, Array.getElem?_replicate]
    by_cases h1 : i < vs.length
    · have h2 : i < N := by omega
      simp [h1, h2]
    · by_cases h2 : i < N
      · have h3 : i - vs.length < N - vs.length := by omega
        simp [h1, h2, h3]
      · have h3 : ¬ i - vs.length < N - vs.length := by omega
        simp [h1, h2, h3]
  rw [e]
  exact hh
theorem l_defer {f : FuncId} {cap : List Value} {Φ : Value → World → Prop} (hc : callable P f = true) (hD : CallsD P f cap.toArray .returning w fun e u' w' => u' = .returning ∧ Ret Φ e w')
    (hk : ∀ x w', Φ x w' → ∃ v, Tells P fn (fr n l G [⟨.fn (.func f) cap.toArray, #[]⟩]).tmps v w' ∧ R (.returned v) w') : bodyPostD P fn R .ret (fr n l G [⟨.fn (.func f) cap.toArray, #[]⟩]) w := by
  show Leaves P fn _ R [⟨.fn (.func f) cap.toArray, #[]⟩] .returning w
  have hi : (invoke (.fn (.func f) cap.toArray) #[]).run P w = .ok (.enter f cap.toArray) w := by
    unfold callable at hc
    cases hfn : P.funcs[f]? with
    | none => rw [hfn] at hc; cases hc
    | some fn =>
      rw [hfn] at hc
      simp only [Bool.and_eq_true, Bool.not_eq_true', beq_eq_false_iff_ne] at hc
      obtain ⟨h1, h2⟩ := hc
      have h3 : ¬ fn.body = none := by intro e; rw [e] at h1; cases h1
      simp [invoke, callFunc, hfn, h2, h3]
  refine leaves_cons (by simp) hi ?_
  intro c0 cs hu
  obtain ⟨e, u', w2, fr2, ⟨rfl, x, rfl, hx⟩, h2⟩ := hD c0 cs hu
  obtain ⟨v, hv, hr⟩ := hk x w2 hx
  refine ⟨_, _, _, fr2, ?_, h2⟩
  exact ⟨v, hv, hr⟩
theorem tells_cells3 {r s q b1 b2 b3 : Nat} {t1 t2 t3 : TypeId} {v1 v2 v3 : Value} (hres : fn.results = #[.cell r t1, .cell s t2, .cell q t3]) (hl1 : look l r = some (.pointer (some ⟨b1, 0, none⟩))) (hn1 : Nat.blt r n = true) (hl2 : look l s = some (.pointer (some ⟨b2, 0, none⟩))) (hn2 : Nat.blt s n = true)
    (hl3 : look l q = some (.pointer (some ⟨b3, 0, none⟩))) (hn3 : Nat.blt q n = true) (h1 : One P t1 = true) (h2 : One P t2 = true) (h3 : One P t3 = true) (c1 : w.cell? ⟨b1, 0, none⟩ = some v1) (c2 : w.cell? ⟨b2, 0, none⟩ = some v2) (c3 : w.cell? ⟨b3, 0, none⟩ = some v3) :
    Tells P fn (fr n l G D).tmps (.tuple #[v1, v2, v3]) w := by
  unfold Tells results
  have e1 : (fr n l G D).tmps.getD r undef = .pointer (some ⟨b1, 0, none⟩) := fr_getD hn1 hl1
  have e2 : (fr n l G D).tmps.getD s undef = .pointer (some ⟨b2, 0, none⟩) := fr_getD hn2 hl2
  have e3 : (fr n l G D).tmps.getD q undef = .pointer (some ⟨b3, 0, none⟩) := fr_getD hn3 hl3
  simp only [Array.getD_eq_getD_getElem?] at e1 e2 e3
  rw [hres]
  simp [Array.mapM_eq_mapM_toList, List.mapM_cons, List.mapM_nil, e1, e2, e3, asAddr, loadVar, run_isAgg_one h1, run_isAgg_one h2, run_isAgg_one h3, c1, c2, c3]
end Go.Proofs.Ytdmiklegahdafaa.K

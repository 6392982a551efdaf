/- The engine: a region whose order is drawn, where what is read stays as it is through the region. -/
import Derived.Test.YtdmiklegahdafaaKMore
import Derived.OrdersHeld
namespace Go.Proofs.Ytdmiklegahdafaa.K
open Go Go.RowKit

set_option linter.unusedSimpArgs false
set_option linter.unusedVariables false
variable {P : Program} {ops : Array Oper} {Q Q' : Exit → Act → World → Prop} {K : Act → World → Prop} {rest : List Oper} {o : Oper} {n : Nat} {l : Asc} {G : Nat → Value} {D : List Deferred} {a : Act} {w w' w0 : World} {S : List Nat} {h : Hp} {C : World → Prop} {fuel : Nat} {L L' : List Bool}

theorem St.hasL {Lp ys : List Hp} (is : List Nat) (s : St w0 S (fl Lp) w) (hi : is.map (fun i => Lp[i]?) = ys.map some) : Has w (fl ys) := by
  intro p hp
  obtain ⟨y, hy, hp⟩ := List.mem_flatten.1 hp
  have : some y ∈ is.map (fun i => Lp[i]?) := by rw [hi]; exact List.mem_map.2 ⟨y, hy, rfl⟩
  obtain ⟨i, _, e⟩ := List.mem_map.1 this
  exact s.own p (mem_fl e hp)
theorem Has.sub {Lp : List Hp} {i : Nat} {hv : Hp} (hh : Has w (fl Lp)) (hi : Lp[i]? = some hv) : Has w hv := fun p hp => hh p (mem_fl hi hp)
theorem Has.block {Lp : List Hp} {i b : Nat} {ob : Obj} (hi : Lp[i]? = some [(b, ob)]) : ∀ w, Has w (fl Lp) → w.heap[b]? = some ob := fun w hh => hh.sub hi (b, ob) (List.mem_singleton.2 rfl)
theorem Has.cell_own {Lp : List Hp} {i b q : Nat} {c : Array Value} {T : TypeId} {f : Nat × Nat} {v : Value} (hi : Lp[i]? = some [(b, .cells c T f)]) (hq : c[q]? = some v) : ∀ w, Has w (fl Lp) → w.cell? ⟨b, q, none⟩ = some v := fun w hh => by
  have := Has.block hi w hh
  simp [World.cell?, this, hq]
theorem Sl.cell_h {k : IntKind} {a : Option Addr} {cap i : Nat} {A : List Nat} {hv : Hp} {Lp : List Hp} (hr : Sl k a cap A hv) (hi : Lp[i]? = some hv) {j : Nat} (hj : j < A.length) : ∀ w, Has w (fl Lp) → w.cell? ⟨(adr a).block, (adr a).off + j, none⟩ = some (.int k (A.getD j 0 : Nat)) :=
  fun w s => hr.cell_has (s.sub hi) hj
theorem SlV.cell_h {a : Option Addr} {cap i : Nat} {vs : List Value} {hv : Hp} {Lp : List Hp} (hr : SlV a cap vs hv) (hi : Lp[i]? = some hv) {j : Nat} {v : Value} (hj : vs[j]? = some v) : ∀ w, Has w (fl Lp) → w.cell? ⟨(adr a).block, (adr a).off + j, none⟩ = some v :=
  fun w s => by
    obtain ⟨h1, rfl⟩ := List.getElem?_eq_some_iff.1 hj
    exact hr.cell_has (s.sub hi) h1
theorem Has.nil_ : Has w (fl []) := fun p hp => by cases hp
theorem Has.cons_ {x : Hp} {Lp : List Hp} (h1 : Has w x) (h2 : Has w (fl Lp)) : Has w (fl (x :: Lp)) := fun p hp => by
  rcases List.mem_append.1 (show p ∈ x ++ fl Lp from hp) with hp | hp
  · exact h1 p hp
  · exact h2 p hp
theorem h_start {id : Nat} {l : List Oper} (hm : P.follows .mixedOrders = true) (hS : St w0 S h w) (hL : List.replicate l.length false = L)
    (k : ∀ w1, St w0 S h w1 → wpAnyH P .any l.toArray Q C l.length L.toArray a w1) : (Code.region id l.toArray true).wp P Q a w := by
  refine wp_region_held (S := C) hm ?_
  have := k _ hS.drew
  rw [← hL] at this
  simpa [List.size_toArray] using this
theorem h_take {i d : Nat} {v : Value} (hp : NoP Q) (hi : ops[i]? = some o) (hg : o.guard = none) (hd : o.dst = some d) (hb : takeB ops L i = true) (hL : L.set i true = L') (R : Rn P o n l C v) (hC : C w)
    (k : wpAnyH P .any ops Q C fuel L'.toArray (fr n ((d, v) :: l) G D) w) : wpAnyH P .any ops Q C (fuel + 1) L.toArray (fr n l G D) w := by
  unfold takeB at hb
  simp only [Bool.and_eq_true] at hb
  refine wpAnyH_take (v := v) hi hb.1.1 hb.1.2 hb.2 (fun c a w q => (hp _ _ _ q).elim) (.inl ⟨by simp [Region.wanted, hg], fun w hw => R G D w hw⟩) hC ?_
  rw [hd, fr_put, List.setIfInBounds_toArray, hL]
  exact k
theorem h_takeg {i d : Nat} {v : Value} (hp : NoP Q) (hi : ops[i]? = some o) (hw : Region.wanted o (yielded ops (fr n l G D).tmps) = true) (hd : o.dst = some d) (hb : takeB ops L i = true) (hL : L.set i true = L') (R : Rn P o n l C v) (hC : C w)
    (k : wpAnyH P .any ops Q C fuel L'.toArray (fr n ((d, v) :: l) G D) w) : wpAnyH P .any ops Q C (fuel + 1) L.toArray (fr n l G D) w := by
  unfold takeB at hb
  simp only [Bool.and_eq_true] at hb
  refine wpAnyH_take (v := v) hi hb.1.1 hb.1.2 hb.2 (fun c a w q => (hp _ _ _ q).elim) (.inl ⟨hw, fun w hw => R G D w hw⟩) hC ?_
  rw [hd, fr_put, List.setIfInBounds_toArray, hL]
  exact k
theorem h_skip {i d : Nat} (hp : NoP Q) (hi : ops[i]? = some o) (hw : Region.wanted o (yielded ops (fr n l G D).tmps) = false) (hd : o.dst = some d) (hb : takeB ops L i = true) (hL : L.set i true = L') (hC : C w)
    (k : wpAnyH P .any ops Q C fuel L'.toArray (fr n ((d, undef) :: l) G D) w) : wpAnyH P .any ops Q C (fuel + 1) L.toArray (fr n l G D) w := by
  unfold takeB at hb
  simp only [Bool.and_eq_true] at hb
  refine wpAnyH_take (v := undef) hi hb.1.1 hb.1.2 hb.2 (fun c a w q => (hp _ _ _ q).elim) (.inr ⟨hw, rfl⟩) hC ?_
  rw [hd, fr_put, List.setIfInBounds_toArray, hL]
  exact k
/-- one of those that may come up now -/
theorem h_op {i : Nat} {K : Act → World → Prop} (hi : ops[i]? = some o) (hw : Region.wanted o (yielded ops (fr n l G D).tmps) = true)
    (k : wpList P ops (Exit.then K Q) [o] (fr n l G D) w) : wpOp P ops Q i K (fr n l G D) w := by
  unfold wpOp
  simp only [hi]
  unfold wpList at k
  rw [if_pos hw] at k
  rw [if_pos hw]
  rcases k with k | k
  · left
    have e : wpList P ops (Exit.then K Q) [] = K := by
      funext a w
      rw [wpList]
      rfl
    rw [e] at k
    exact upon_mono k
  · exact .inr k
theorem wanted_none (hg : o.guard = none) : Region.wanted o (yielded ops (fr n l G D).tmps) = true := by simp [Region.wanted, hg]
theorem h_all {rs : List Nat} (hr : Region.ready .any ops L.toArray = rs) (hne : rs ≠ [])
    (hh : ∀ i ∈ rs, wpOp P ops Q i (fun a' w' => C w' ∧ wpAnyH P .any ops Q C fuel (L.set i true).toArray a' w') (fr n l G D) w) : wpAnyH P .any ops Q C (fuel + 1) L.toArray (fr n l G D) w := by
  refine wpAnyH_all hr hne fun i hi => ?_
  rw [List.setIfInBounds_toArray]
  exact hh i hi
theorem h_done (hr : Region.ready .any ops L.toArray = []) (k : Q .normal a w) : wpAnyH P .any ops Q C fuel L.toArray a w := wpAnyH_done hr k _
end Go.Proofs.Ytdmiklegahdafaa.K

/- The engine: a region whose order is drawn, walked by hand: what hangs on no world is taken first, what is alone ready is carried out, two reads that are ready are taken together. -/
import Derived.Test.YtdmiklegahdafaaKCtl
namespace Go.Proofs.Ytdmiklegahdafaa.K
open Go Go.RowKit

set_option linter.unusedSimpArgs false
set_option linter.unusedVariables false
variable {P : Program} {ops : Array Oper} {Q : Exit → Act → World → Prop} {K : Act → World → Prop} {n : Nat} {l : Asc} {G : Nat → Value} {D : List Deferred} {a : Act} {w w0 : World} {S : List Nat} {h : Hp} {C : World → Prop} {o o1 o2 : Oper} {fuel : Nat} {L L' : List Bool}

def NoP (Q : Exit → Act → World → Prop) : Prop := ∀ c a w, ¬ Q (.panic c) a w
theorem NoP.body {fn : Func} {Φ : Value → World → Prop} : NoP (bodyPost P fn (Ret Φ)) := fun c a w h => by
  obtain ⟨_, v, e, _⟩ := h
  cases e
theorem NoP.then (h : NoP Q) : NoP (Exit.then K Q) := h
theorem NoP.block {id : Nat} (h : NoP Q) : NoP (Exit.inBlock id Q) := h

theorem a_start {id : Nat} {l : List Oper} (hm : P.follows .mixedOrders = true) (hS : St w0 S h w) (hL : List.replicate l.length false = L)
    (k : ∀ w1, St w0 S h w1 → Below w.heap.size w w1 → wpAny P .any l.toArray Q l.length L.toArray a w1) : (Code.region id l.toArray true).wp P Q a w := by
  refine wp_region_any hm ?_
  have := k _ hS.drew (Below.drew (Below.refl _ w))
  rw [← hL] at this
  simpa [List.size_toArray] using this
def takeB (ops : Array Oper) (L : List Bool) (i : Nat) : Bool :=
  Region.noSelect ops && Region.free .any ops L.toArray i && (Region.ready .any ops L.toArray).contains i
theorem a_take {i d : Nat} {v : Value} (hp : NoP Q) (hi : ops[i]? = some o) (hg : o.guard = none) (hd : o.dst = some d) (hb : takeB ops L i = true) (hL : L.set i true = L')
    (R : Rn P o n l (fun _ => True) v) (k : wpAny P .any ops Q fuel L'.toArray (fr n ((d, v) :: l) G D) w) : wpAny P .any ops Q (fuel + 1) L.toArray (fr n l G D) w := by
  unfold takeB at hb
  simp only [Bool.and_eq_true] at hb
  refine wpAny_take (v := v) hi hb.1.1 hb.1.2 hb.2 (fun c a w q => (hp _ _ _ q).elim) (.inl ⟨by simp [Region.wanted, hg], fun w => R G D w trivial⟩) ?_
  rw [hd, fr_put, List.setIfInBounds_toArray, hL]
  exact k
/-- with a guard that is met; with one that is not -/
theorem a_takeg {i d : Nat} {v : Value} (hp : NoP Q) (hi : ops[i]? = some o) (hw : Region.wanted o (yielded ops (fr n l G D).tmps) = true) (hd : o.dst = some d) (hb : takeB ops L i = true) (hL : L.set i true = L')
    (R : Rn P o n l (fun _ => True) v) (k : wpAny P .any ops Q fuel L'.toArray (fr n ((d, v) :: l) G D) w) : wpAny P .any ops Q (fuel + 1) L.toArray (fr n l G D) w := by
  unfold takeB at hb
  simp only [Bool.and_eq_true] at hb
  refine wpAny_take (v := v) hi hb.1.1 hb.1.2 hb.2 (fun c a w q => (hp _ _ _ q).elim) (.inl ⟨hw, fun w => R G D w trivial⟩) ?_
  rw [hd, fr_put, List.setIfInBounds_toArray, hL]
  exact k
theorem a_skip {i d : Nat} (hp : NoP Q) (hi : ops[i]? = some o) (hw : Region.wanted o (yielded ops (fr n l G D).tmps) = false) (hd : o.dst = some d) (hb : takeB ops L i = true) (hL : L.set i true = L')
    (k : wpAny P .any ops Q fuel L'.toArray (fr n ((d, undef) :: l) G D) w) : wpAny P .any ops Q (fuel + 1) L.toArray (fr n l G D) w := by
  unfold takeB at hb
  simp only [Bool.and_eq_true] at hb
  refine wpAny_take (v := undef) hi hb.1.1 hb.1.2 hb.2 (fun c a w q => (hp _ _ _ q).elim) (.inr ⟨hw, rfl⟩) ?_
  rw [hd, fr_put, List.setIfInBounds_toArray, hL]
  exact k
theorem wpAny_ready {i : Nat} (hr : Region.ready .any ops L.toArray = [i]) (k : wpOp P ops Q i (wpAny P .any ops Q fuel (L.set i true).toArray) a w) : wpAny P .any ops Q (fuel + 1) L.toArray a w := by
  refine wpAny_all hr (by simp) fun j hj => ?_
  simp at hj
  subst hj
  rw [List.setIfInBounds_toArray]
  exact k
theorem upon_mono {o : Oper} {a : Act} {w : World} {K : Act → World → Prop} {J : Act → World → Prop} (h : o.wp P a w K (Exit.then J Q)) : o.wp P a w K Q := by
  unfold Oper.wp at *
  generalize (execOp a.eval o).run P w = r at *
  cases r with
  | ok x w' =>
    cases x <;> simp only [Oper.upon] at h ⊢ <;> first
      | exact h
      | exact Calls.mono h (fun e w'' he => by cases e <;> exact he)
  | halt x w' => cases x <;> simp only [Oper.upon] at h ⊢ <;> exact h
theorem a_one {i : Nat} (hr : Region.ready .any ops L.toArray = [i]) (hi : ops[i]? = some o) (hno : o.guard = none) (hL : L.set i true = L')
    (k : wpList P ops (Exit.then (wpAny P .any ops Q fuel L'.toArray) Q) [o] a w) : wpAny P .any ops Q (fuel + 1) L.toArray a w := by
  refine wpAny_ready hr ?_
  unfold wpOp
  simp only [hi]
  unfold wpList at k
  have hw : Region.wanted o (yielded ops a.tmps) = true := by simp [Region.wanted, hno]
  rw [if_pos hw] at k
  rw [if_pos hw, hL]
  rcases k with k | k
  · left
    have e : wpList P ops (Exit.then (wpAny P .any ops Q fuel L'.toArray) Q) [] = wpAny P .any ops Q fuel L'.toArray := by
      funext a w
      rw [wpList]
      rfl
    rw [e] at k
    exact upon_mono k
  · exact .inr k
theorem a_oneg {i : Nat} (hr : Region.ready .any ops L.toArray = [i]) (hi : ops[i]? = some o) (hw : Region.wanted o (yielded ops (fr n l G D).tmps) = true) (hL : L.set i true = L')
    (k : wpList P ops (Exit.then (wpAny P .any ops Q fuel L'.toArray) Q) [o] (fr n l G D) w) : wpAny P .any ops Q (fuel + 1) L.toArray (fr n l G D) w := by
  refine wpAny_ready hr ?_
  unfold wpOp
  simp only [hi]
  unfold wpList at k
  rw [if_pos hw] at k
  rw [if_pos hw, hL]
  rcases k with k | k
  · left
    have e : wpList P ops (Exit.then (wpAny P .any ops Q fuel L'.toArray) Q) [] = wpAny P .any ops Q fuel L'.toArray := by
      funext a w
      rw [wpList]
      rfl
    rw [e] at k
    exact upon_mono k
  · exact .inr k
theorem fr_swap {d1 d2 : Nat} {v1 v2 : Value} (hd : d1 ≠ d2) : fr n ((d1, v1) :: (d2, v2) :: l) G D = fr n ((d2, v2) :: (d1, v1) :: l) G D := by
  unfold fr
  congr 1
  congr 1
  funext i
  simp only [look_cons]
  by_cases h1 : (i : Nat) = d1
  · have h2 : ¬ (i : Nat) = d2 := by omega
    simp [h1, h2, hd]
  · by_cases h2 : (i : Nat) = d2
    · simp [h1, h2, Ne.symm hd]
    · simp [h1, h2]
theorem a_two {i j d1 d2 : Nat} {v1 v2 : Value} (hr : Region.ready .any ops L.toArray = [i, j]) (hr1 : Region.ready .any ops (L.set i true).toArray = [j]) (hr2 : Region.ready .any ops (L.set j true).toArray = [i])
    (hi : ops[i]? = some o1) (hj : ops[j]? = some o2) (hg1 : o1.guard = none) (hg2 : o2.guard = none) (hd1 : o1.dst = some d1) (hd2 : o2.dst = some d2) (hd : Nat.beq d1 d2 = false) (hL : (L.set i true).set j true = L') (hij : Nat.beq i j = false)
    (hC : C w) (R1 : Rn P o1 n l C v1) (R2 : Rn P o2 n ((d1, v1) :: l) C v2) (R2' : Rn P o2 n l C v2) (R1' : Rn P o1 n ((d2, v2) :: l) C v1)
    (k : wpAny P .any ops Q fuel L'.toArray (fr n ((d2, v2) :: (d1, v1) :: l) G D) w) : wpAny P .any ops Q (fuel + 1 + 1) L.toArray (fr n l G D) w := by
  have one : ∀ {o : Oper} {i d : Nat} {v : Value} {K : Act → World → Prop} {l : Asc}, ops[i]? = some o → o.guard = none → o.dst = some d → Rn P o n l C v → K (fr n ((d, v) :: l) G D) w → wpOp P ops Q i K (fr n l G D) w := by
    intro o i d v K l hi hg hd R k
    unfold wpOp
    simp only [hi]
    have hw : Region.wanted o (yielded ops (fr n l G D).tmps) = true := by simp [Region.wanted, hg]
    rw [if_pos hw]
    left
    unfold Oper.wp
    rw [R G D w hC, Oper.upon_value, hd, fr_put]
    exact k
  have hd' : d1 ≠ d2 := fun e => by subst e; rw [Nat.beq_refl] at hd; cases hd
  have hij' : i ≠ j := fun e => by subst e; rw [Nat.beq_refl] at hij; cases hij
  refine wpAny_all hr (by simp) fun x hx => ?_
  rw [List.setIfInBounds_toArray]
  simp at hx
  rcases hx with rfl | rfl
  · refine one hi hg1 hd1 R1 (wpAny_ready hr1 (one hj hg2 hd2 R2 ?_))
    rw [hL]
    exact k
  · refine one hj hg2 hd2 R2' (wpAny_ready hr2 (one hi hg1 hd1 R1' ?_))
    rw [List.set_comm _ _ hij'.symm, hL, fr_swap hd']
    exact k
theorem a_done (hr : Region.ready .any ops L.toArray = []) (k : Q .normal a w) : wpAny P .any ops Q fuel L.toArray a w := wpAny_done hr k _
end Go.Proofs.Ytdmiklegahdafaa.K

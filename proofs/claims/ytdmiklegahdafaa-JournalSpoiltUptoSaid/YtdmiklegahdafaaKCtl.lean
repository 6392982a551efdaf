/- The engine's control: how a body is entered and left, tests, loops, regions whose order is drawn. -/
import Derived.Test.YtdmiklegahdafaaKOps
import Derived.StillTail
namespace Go.Proofs.Ytdmiklegahdafaa.K
open Go Go.RowKit

set_option linter.unusedSimpArgs false
set_option linter.unusedVariables false
variable {P : Program} {ops : Array Oper} {Q Q' : Exit → Act → World → Prop} {K : Act → World → Prop} {rest : List Oper} {o : Oper} {n : Nat} {l : Asc} {G : Nat → Value} {D : List Deferred} {a : Act} {w w0 : World} {S : List Nat} {h : Hp} {C : World → Prop} {R : Ending → World → Prop} {fn : Func}

def asc : Nat → List Value → Asc
  | _, [] => []
  | i, v :: r => (i, v) :: asc (i + 1) r
theorem look_asc : ∀ (vs : List Value) (i t : Nat), look (asc i vs) t = if t < i then none else vs[t - i]?
  | [], i, t => by simp [asc, look]
  | v :: r, i, t => by
    rw [asc, look_cons, look_asc r (i + 1) t]
    by_cases h1 : t = i
    · subst h1; simp
    · rw [if_neg h1]
      by_cases h2 : t < i
      · simp [h2]; omega
      · have h3 : t - i = (t - (i + 1)) + 1 := by omega
        have h4 : ¬ t < i + 1 := by omega
        simp only [h2, h4, if_false]
        rw [h3, List.getElem?_cons_succ]
theorem k_enter {f : FuncId} {c : Code} {N : Nat} {vs : List Value} (hf : P.funcs[f]? = some fn) (hb : fn.body = some c) (hN : fn.ntmps = N) (hl : Nat.ble vs.length N = true)
    (hh : c.wp P (bodyPost P fn R) (fr N (asc 0 vs) fun _ => undef) w) : Calls P f vs.toArray w R := by
  refine calls_of_wp hf hb ?_
  have hl' : vs.length ≤ N := by simpa using hl
  have e : (⟨vs.toArray ++ Array.replicate (fn.ntmps - vs.toArray.size) undef, []⟩ : Act) = fr N (asc 0 vs) fun _ => undef := by
    unfold fr
    congr 1
    apply Array.ext_getElem?
    intro i
    rw [Array.getElem?_append, Array.getElem?_ofFn]
    simp only [look_asc, List.size_toArray, hN, Array.getElem?_replicate]
    by_cases h1 : i < vs.length
    · have h2 : i < N := by omega
      simp [h1, h2]
    · by_cases h2 : i < N
      · have h3 : i - vs.length < N - vs.length := by omega
        simp [h1, h2, h3]
      · have h3 : ¬ i - vs.length < N - vs.length := by omega
        simp [h1, h2, h3]
  rw [e]
  exact hh

theorem k_ret0 (hres : fn.results = #[]) (hR : R (.returned (.tuple #[])) w) : bodyPost P fn R .ret (fr n l G) w :=
  ⟨rfl, _, results_none hres _ P w, hR⟩
theorem k_end0 (hres : fn.results = #[]) (hR : R (.returned (.tuple #[])) w) : bodyPost P fn R .normal (fr n l G) w :=
  ⟨rfl, _, results_none hres _ P w, hR⟩
theorem k_ret1 {r : Nat} {v : Value} (hres : fn.results = #[.tmp r]) (hl : look l r = some v) (hn : Nat.blt r n = true) (hR : R (.returned v) w) : bodyPost P fn R .ret (fr n l G) w :=
  ⟨rfl, v, by rw [results_tmp hres, fr_getD hn hl], hR⟩
theorem k_ret2 {r s : Nat} {v u : Value} (hres : fn.results = #[.tmp r, .tmp s]) (hl : look l r = some v) (hn : Nat.blt r n = true) (hl2 : look l s = some u) (hn2 : Nat.blt s n = true) (hR : R (.returned (.tuple #[v, u])) w) : bodyPost P fn R .ret (fr n l G) w :=
  ⟨rfl, .tuple #[v, u], by rw [results_tmp2 hres, fr_getD hn hl, fr_getD hn2 hl2], hR⟩
theorem k_ret3 {r s t : Nat} {v u x : Value} (hres : fn.results = #[.tmp r, .tmp s, .tmp t]) (hl : look l r = some v) (hn : Nat.blt r n = true) (hl2 : look l s = some u) (hn2 : Nat.blt s n = true) (hl3 : look l t = some x) (hn3 : Nat.blt t n = true) (hR : R (.returned (.tuple #[v, u, x])) w) : bodyPost P fn R .ret (fr n l G) w :=
  ⟨rfl, .tuple #[v, u, x], by
    have e1 := fr_getD (G := G) (D := []) hn hl
    have e2 := fr_getD (G := G) (D := []) hn2 hl2
    have e3 := fr_getD (G := G) (D := []) hn3 hl3
    rw [results_tmp3 hres, e1, e2, e3], hR⟩

theorem x_tn (k : K a w) : Exit.then K Q .normal a w := k
theorem x_te {i : Nat} (k : Q (.exit i) a w) : Exit.then K Q (.exit i) a w := k
theorem x_tr (k : Q .ret a w) : Exit.then K Q .ret a w := k
theorem x_tg {i : Nat} (k : Q (.goto i) a w) : Exit.then K Q (.goto i) a w := k
theorem x_bn {id : Nat} (k : Q .normal a w) : Exit.inBlock id Q .normal a w := k
theorem x_br {id : Nat} (k : Q .ret a w) : Exit.inBlock id Q .ret a w := k
theorem x_be {id : Nat} (k : Q .normal a w) : Exit.inBlock id Q (.exit id) a w := by simpa [Exit.inBlock] using k
theorem x_bne {id i : Nat} (hi : Nat.beq i id = false) (k : Q (.exit i) a w) : Exit.inBlock id Q (.exit i) a w := by
  have : ¬ i = id := fun e => by subst e; rw [Nat.beq_refl] at hi; cases hi
  simpa [Exit.inBlock, this] using k

theorem k_t {c : Operand} {x y : Code} (hc : Ev n l c (.bool true)) (k : x.wp P Q (fr n l G D) w) : (Code.cond c x y).wp P Q (fr n l G D) w := wp_cond_true (hc G D) k
theorem k_f {c : Operand} {x y : Code} (hc : Ev n l c (.bool false)) (k : y.wp P Q (fr n l G D) w) : (Code.cond c x y).wp P Q (fr n l G D) w := wp_cond_false (hc G D) k
theorem k_reb {c : Code} (l' : Asc) (ha : agree l G l') (k : ∀ G', c.wp P Q (fr n l' G' D) w) : c.wp P Q (fr n l G D) w := by
  rw [fr_reb l' ha]; exact k _
theorem k_reg {id : Nat} {l : List Oper} (k : wpList P l.toArray Q l a w) : (Code.region id l.toArray false).wp P Q a w := wp_region_lit k
theorem k_regq {id : Nat} {l : List Oper} (hm : P.follows .mixedOrders = true) (hB : Region.lexB .any l.toArray = true) (hS : St w0 S h w)
    (k : wpQuiet P l.toArray (St w0 S h) (fun a' => ∀ w', St w0 S h w' → Q .normal a' w') l a) : (Code.region id l.toArray true).wp P Q a w :=
  wp_region_quiet hm hB hS.drew (by simpa using k)
theorem q_nil {Q : Act → Prop} (k : Q a) : wpQuiet P ops C Q [] a := k
/-- reads first, then a tail in one order -/
theorem k_regt {id : Nat} {l : List Oper} (m : Nat) (hm : P.follows .mixedOrders = true) (hB : Region.lexTailB .any l.toArray m = true) (hS : St w0 S h w)
    (k : ∀ w1, St w0 S h w1 → Below w.heap.size w w1 → wpStill P l.toArray w1 (fun a' => wpList P l.toArray Q (l.drop m) a' w1) (l.take m) a) : (Code.region id l.toArray true).wp P Q a w :=
  wp_region_still_tail m hm hB (k _ hS.drew (Below.drew (Below.refl _ w)))
theorem t_val {Q : Act → Prop} {d : Nat} {v : Value} (hC : C w) (hg : o.guard = none) (hd : o.dst = some d) (R : Rn P o n l C v)
    (k : wpStill P ops w Q rest (fr n ((d, v) :: l) G D)) : wpStill P ops w Q (o :: rest) (fr n l G D) := by
  refine wpStill_step fun K hK => ?_
  have : Region.wanted o (yielded ops (fr n l G D).tmps) = true := by simp [Region.wanted, hg]
  rw [if_pos this]
  unfold Oper.still
  rw [R G D w hC, Oper.stillUpon_value, hd, fr_put]
  exact hK _ k
theorem t_call {Q : Act → Prop} {f : FuncId} {xs : List Operand} {vs : List Value} {ts : Array TypeId} {d : Nat} {v : Value} (hg : o.guard = none) (hd : o.dst = some d)
    (ho : o.op = .call { callee := .value (.func f), args := xs.toArray, argTypes := ts }) (hx : Evs n l xs vs) (hf : callable P f = true)
    (c : Calls P f vs.toArray w (Ret fun v' w' => v' = v ∧ w' = w)) (k : wpStill P ops w Q rest (fr n ((d, v) :: l) G D)) : wpStill P ops w Q (o :: rest) (fr n l G D) := by
  refine wpStill_step fun K hK => ?_
  have : Region.wanted o (yielded ops (fr n l G D).tmps) = true := by simp [Region.wanted, hg]
  rw [if_pos this]
  unfold Oper.still
  rw [run_callf (G := G) (D := D) (w := w) ho hx hf]
  unfold Oper.stillUpon
  refine ⟨rfl, v, c.mono ?_, by rw [hd, fr_put]; exact hK _ k⟩
  rintro e w' ⟨v', rfl, rfl, rfl⟩
  exact ⟨rfl, rfl⟩
theorem t_nil {Q : Act → Prop} (k : Q a) : wpStill P ops w Q [] a := k

/-! reading what is one's own; a callee's arguments -/
theorem rd_own {k : IntKind} {m b cap : Nat} {A X : List Nat} {T : TypeId} {f : Nat × Nat} (hS : St w0 S h w) (hm : h[m]? = some (b, .cells (encN k (A ++ X)) T f)) (hle : A.length ≤ cap) (hmost : A.length ≤ 9223372036854775807) (hfit : ∀ x ∈ A, x ≤ maxK k) : Rd w k (some ⟨b, 0, none⟩) cap A := by
  refine ⟨hle, hmost, fun j hj => ⟨rfl, hS.lt (List.mem_of_getElem? hm), ?_⟩, hfit⟩
  have e : (encN k (A ++ X))[j]? = some (.int k (A.getD j 0 : Nat)) := by
    rw [encN_get (by rw [List.length_append]; omega)]
    simp [List.getElem?_append, hj]
  have := hS.cell_own (q := j) hm e
  simpa [adr] using this
theorem rd_own0 {k : IntKind} {m b cap : Nat} {A : List Nat} {T : TypeId} {f : Nat × Nat} (hS : St w0 S h w) (hm : h[m]? = some (b, .cells (encN k A) T f)) (hle : A.length ≤ cap) (hmost : A.length ≤ 9223372036854775807) (hfit : ∀ x ∈ A, x ≤ maxK k) : Rd w k (some ⟨b, 0, none⟩) cap A :=
  rd_own (X := []) hS (by rw [List.append_nil]; exact hm) hle hmost hfit
theorem rd_st {k : IntKind} {a : Option Addr} {cap : Nat} {A : List Nat} (hS : St w0 S h w) (hr : Rd w0 k a cap A) (hno : (adr a).block ∉ S) : Rd w k a cap A :=
  ⟨hr.le, hr.most, fun j hj => by
    obtain ⟨h1, h2, _⟩ := hr.at_ j hj
    exact ⟨h1, Nat.lt_of_lt_of_le h2 hS.size, St.cell_rd hr hj hno w hS⟩, hr.fit⟩
theorem Rd.take {k : IntKind} {a : Option Addr} {cap cap' m : Nat} {A : List Nat} (hr : Rd w k a cap A) (hm : m ≤ A.length) (hc : m ≤ cap') : Rd w k a cap' (A.take m) := by
  refine ⟨by rw [List.length_take]; omega, by rw [List.length_take]; have := hr.most; omega, fun j hj => ?_, fun x hx => hr.fit x (List.mem_of_mem_take hx)⟩
  rw [List.length_take] at hj
  obtain ⟨h1, h2, h3⟩ := hr.at_ j (by omega)
  refine ⟨h1, h2, ?_⟩
  rw [h3, List.getD_eq_getElem?_getD, List.getD_eq_getElem?_getD, List.getElem?_take_of_lt (by omega)]
/-- what is handed back new: a row of one's own, or nothing -/
def Own (w0 w : World) (k : IntKind) (T : TypeId) (v : Value) (L : List Nat) : Prop :=
  ∃ b cap X, v = .slice (some ⟨b, 0, none⟩) L.length cap ∧ w0.heap.size ≤ b ∧ w.heap[b]? = some (.cells (encN k (L ++ X)) T (0, 0)) ∧ L.length ≤ cap ∧ cap ≤ (L ++ X).length ∧ L.length ≤ 9223372036854775807 ∧ ∀ x ∈ L, x ≤ maxK k
theorem Own.rd {k : IntKind} {T : TypeId} {v : Value} {L : List Nat} (ho : Own w0 w k T v L) : ∃ a cap, v = .slice a L.length cap ∧ Rd w k a cap L := by
  obtain ⟨b, cap, X, rfl, _, h2, h3, _, h5, h6⟩ := ho
  refine ⟨_, cap, rfl, h3, h5, fun j hj => ⟨rfl, ?_, ?_⟩, h6⟩
  · rcases Nat.lt_or_ge b w.heap.size with q | q
    · exact q
    · rw [Array.getElem?_eq_none q] at h2; cases h2
  · have e : (encN k (L ++ X))[j]? = some (.int k (L.getD j 0 : Nat)) := by
      rw [encN_get (by rw [List.length_append]; omega)]
      simp [List.getElem?_append, hj]
    simp [World.cell?, adr, h2, e]

/-- a row of one's own, whole -/
def Row (w0 w : World) (k : IntKind) (T : TypeId) (v : Value) (L : List Nat) : Prop :=
  ∃ b, v = .slice (some ⟨b, 0, none⟩) L.length L.length ∧ w0.heap.size ≤ b ∧ St w0 [] [(b, .cells (encN k L) T (0, 0))] w
theorem St.join {w' : World} {b : Nat} {o : Obj} (s : St w0 S h w) (t : St w [] [(b, o)] w') (hb : w.heap.size ≤ b) : St w0 S (h ++ [(b, o)]) w' :=
  s.more t.toBelow hb (t.own (b, o) (by simp))
theorem St.keep {w' : World} (s : St w0 S h w) (t : St w [] [] w') : St w0 S h w' := s.below t.toBelow
theorem St.front {h1 : Hp} {p : Nat × Obj} (s : St w0 S (h1 ++ [p]) w) : St w0 S [p] w := s.weaken _ (List.sublist_append_right ..)
theorem St.none (s : St w0 S h w) : St w0 S [] w := s.weaken _ (List.nil_sublist _)
theorem k_join {c : Code} (J : Act → World → Prop) (h1 : c.wp P (Exit.then J Q) a w) (h2 : ∀ a w, J a w → Q .normal a w) : c.wp P Q a w :=
  wp_mono h1 fun e a w q => by cases e <;> first | exact h2 _ _ q | exact q
end Go.Proofs.Ytdmiklegahdafaa.K

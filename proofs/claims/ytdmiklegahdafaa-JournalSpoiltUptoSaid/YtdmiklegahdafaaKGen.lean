/- The engine: rows of whatever one-cell values, of one's own; literals, appends, copies, parts of variables of several cells. -/
import Derived.Test.YtdmiklegahdafaaKSep
import Derived.Test.YtdmiklegahdafaaKDec
namespace Go.Proofs.Ytdmiklegahdafaa.K
open Go Go.RowKit

set_option linter.unusedSimpArgs false
set_option linter.unusedVariables false
variable {P : Program} {ops : Array Oper} {Q Q' : Exit → Act → World → Prop} {K : Act → World → Prop} {rest : List Oper} {o : Oper} {n : Nat} {l : Asc} {G : Nat → Value} {D : List Deferred} {a : Act} {w w' w0 : World} {S : List Nat} {h : Hp} {C : World → Prop} {R : Ending → World → Prop} {fn : Func}

/-- the slice reads the values vs out of hv -/
structure SlV (a : Option Addr) (cap : Nat) (vs : List Value) (hv : Hp) : Prop where
  le : vs.length ≤ cap
  most : vs.length ≤ 9223372036854775807
  at_ : ∀ j (hj : j < vs.length), a = some ⟨(adr a).block, (adr a).off, none⟩ ∧ ∃ c T f, ((adr a).block, Obj.cells c T f) ∈ hv ∧ c[(adr a).off + j]? = some vs[j]
theorem SlV.nil {hv : Hp} : SlV none 0 [] hv := ⟨Nat.le_refl _, by simp, fun j hj => by simp at hj⟩
theorem SlV.mono {a : Option Addr} {cap : Nat} {vs : List Value} {hv hv' : Hp} (hr : SlV a cap vs hv) (hs : ∀ p ∈ hv, p ∈ hv') : SlV a cap vs hv' :=
  ⟨hr.le, hr.most, fun j hj => by obtain ⟨h1, c, T, f, h2, h3⟩ := hr.at_ j hj; exact ⟨h1, c, T, f, hs _ h2, h3⟩⟩
theorem SlV.cell_has {a : Option Addr} {cap : Nat} {vs : List Value} {hv : Hp} (hr : SlV a cap vs hv) (hh : Has w hv) {j : Nat} (hj : j < vs.length) : w.cell? ⟨(adr a).block, (adr a).off + j, none⟩ = some vs[j] := by
  obtain ⟨_, c, T, f, h2, h3⟩ := hr.at_ j hj
  have := hh _ h2
  simp only at this
  simp [World.cell?, this, h3]
theorem SlV.cell_p {a : Option Addr} {cap i : Nat} {vs : List Value} {hv : Hp} {L : List Hp} (hr : SlV a cap vs hv) (hi : L[i]? = some hv) {j : Nat} {v : Value} (hj : vs[j]? = some v) : ∀ w, St w0 S (fl L) w → w.cell? ⟨(adr a).block, (adr a).off + j, none⟩ = some v :=
  fun w s => by
    obtain ⟨h1, rfl⟩ := List.getElem?_eq_some_iff.1 hj
    exact hr.cell_has (s.has hi) h1
theorem SlV.cell_o {a : Option Addr} {cap : Nat} {vs : List Value} {hv : Hp} (hr : SlV a cap vs hv) (ho : Old w0 S hv) {j : Nat} {v : Value} (hj : vs[j]? = some v) : ∀ w, St w0 S h w → w.cell? ⟨(adr a).block, (adr a).off + j, none⟩ = some v :=
  fun w s => by
    obtain ⟨h1, rfl⟩ := List.getElem?_eq_some_iff.1 hj
    exact hr.cell_has (ho.has s) h1
theorem r_ixv {t e : TypeId} {x y : Operand} {a : Option Addr} {cap len : Nat} {vs : List Value} {k : IntKind} {i : Int} {j by_ : Nat} {z : Value} {hv : Hp} (ho : o.op = .indexAddr t x y) (ht : P.underlying t = some (.slice e)) (hi : TI P e z 1 by_)
    (hx : Ev n l x (.slice a len cap)) (hy : Ev n l y (.int k i)) (hr : SlV a cap vs hv) (hl : vs.length = len) (hj : i = (j : Int)) (hlt : j < len) : Rn P o n l C (.pointer (some ⟨(adr a).block, (adr a).off + j, none⟩)) := by
  subst hl
  have := (hr.at_ j hlt).1
  rw [this] at hx
  exact r_ixs ho ht hi hx hy hj hlt (by omega)
/-- whole numbers as values -/
theorem Sl.toV {k : IntKind} {a : Option Addr} {cap : Nat} {A : List Nat} {hv : Hp} (hr : Sl k a cap A hv) : SlV a cap (ints k A) hv := by
  have hl : (ints k A).length = A.length := by simp [ints]
  refine ⟨by rw [hl]; exact hr.le, by rw [hl]; exact hr.most, fun j hj => ?_⟩
  rw [hl] at hj
  obtain ⟨h1, c, T, f, h2, h3⟩ := hr.at_ j hj
  refine ⟨h1, c, T, f, h2, ?_⟩
  rw [h3]
  simp [ints, List.getD_eq_getElem?_getD, hj]
theorem run_loadsV {b q : Nat} : ∀ (vs : List Value) (i : Nat) (acc : Array Value), (∀ j (hj : j < vs.length), w.cell? ⟨b, q + i + j, none⟩ = some vs[j]) →
    (loadCellsFrom ⟨b, q, none⟩ i vs.length acc).run P w = .ok (acc ++ vs.toArray) w
  | [], i, acc, _ => by simp [loadCellsFrom]
  | x :: r, i, acc, hh => by
    have h0 := hh 0 (by simp)
    simp only [Nat.add_zero, List.getElem_cons_zero] at h0
    have ih := run_loadsV r (i + 1) (acc.push x) (fun j hj => by
      have := hh (j + 1) (by simp; omega)
      rw [show q + (i + 1) + j = q + i + (j + 1) by omega]; simpa using this)
    simp only [List.length_cons, loadCellsFrom, add_none, Sem.run_bind, run_load, h0, Result.andThen_ok]
    rw [ih]
    simp
theorem put_vals : ∀ (A L X : List Value), A.length ≤ X.length → put (L ++ X).toArray L.length A = (L ++ A ++ X.drop A.length).toArray
  | [], L, X, _ => by simp [put]
  | x :: r, L, X, hx => by
    cases X with
    | nil => simp at hx
    | cons y Y =>
      have ih := put_vals r (L ++ [x]) Y (by simpa using hx)
      simp only [put]
      have e : ((L ++ y :: Y).toArray).setIfInBounds L.length x = ((L ++ [x]) ++ Y).toArray := by simp [List.set_append]
      rw [e]
      simp only [List.length_append, List.length_cons, List.length_nil, Nat.zero_add] at ih
      rw [ih]; simp
/-- what an append leaves: within the room that there is, or in a new row -/
theorem run_appendV {t e : TypeId} {by_ : Nat} {z : Value} {ts : Array TypeId} {ty : TypeId} {a ax : Option Addr} {cap capx : Nat} {L A X : List Value} {b : Nat} {hv : Hp} (hts : ts[0]? = some t) (hts2 : ∃ t2 e2, ts[1]? = some t2 ∧ P.underlying t2 = some (.slice e2)) (ht : P.underlying t = some (.slice e)) (hi : TI P e z 1 by_)
    (hby : by_ ≤ 32) (hby0 : 1 ≤ by_) (hz1 : oneC z = true) (h1A : ∀ v ∈ A, oneC v = true)
    (hd : (a = none ∧ cap = 0 ∧ L = []) ∨ (a = some ⟨b, 0, none⟩ ∧ w.heap[b]? = some (.cells (L ++ X).toArray e (0, 0)) ∧ cap ≤ L.length + X.length ∧ L.length ≤ cap)) (hr : SlV ax capx A hv) (hh : Has w hv) (hlen : L.length + A.length ≤ 1000000000000) :
    (∃ w', (Builtin.append_ ts ty #[.slice a L.length cap, .slice ax A.length capx]).run P w = .ok (.slice a (L.length + A.length) cap) w' ∧ L.length + A.length ≤ cap ∧ (A = [] ∧ w' = w ∨ ∃ b', a = some ⟨b', 0, none⟩ ∧ b' = b ∧ w'.heap[b]? = some (.cells (L ++ A ++ X.drop A.length).toArray e (0, 0)) ∧ w'.os = w.os ∧ w'.tape = w.tape ∧ w'.output = w.output ∧ w'.heap.size = w.heap.size ∧ (∀ k, k ≠ b → w'.heap[k]? = w.heap[k]?))) ∨
    (∃ m d, (Builtin.append_ ts ty #[.slice a L.length cap, .slice ax A.length capx]).run P w = .ok (.slice (some ⟨w.heap.size, 0, none⟩) (L.length + A.length) (L.length + A.length + m)) ({ w with drawn := w.drawn + d }.alloc (.cells (L ++ A ++ List.replicate m z).toArray e))) := by
  obtain ⟨t2, e2, ht2, hu2⟩ := hts2
  obtain ⟨i, hi1, hi2, hi3, hi4⟩ := info_parts hi
  have hsz := run_sizeOf hi
  have hzc : z.cells = #[z] := by cases z <;> simp [oneC] at hz1 <;> rfl
  have hload : ∀ w', (∀ j (hj : j < A.length), w'.cell? ⟨(adr ax).block, (adr ax).off + j, none⟩ = some A[j]) → (Builtin.firstCells 1 A.length (.slice ax A.length capx)).run P w' = .ok A.toArray w' := by
    intro w' hw'
    cases hA : A with
    | nil => cases ax <;> simp [Builtin.firstCells, loadCells, loadCellsFrom]
    | cons x r =>
      have h1 := (hr.at_ 0 (by rw [hA]; simp)).1
      rw [h1]
      have := run_loadsV (P := P) (w := w') (b := (adr ax).block) (q := (adr ax).off) A 0 #[] (by simpa using hw')
      simp only [Builtin.firstCells, loadCells, Nat.mul_one]
      rw [← hA, this]; simp
  have hrd : ∀ j (hj : j < A.length), w.cell? ⟨(adr ax).block, (adr ax).off + j, none⟩ = some A[j] := fun j hj => hr.cell_has hh hj
  by_cases hfit : L.length + A.length ≤ cap
  · left
    rcases hd with ⟨rfl, rfl, rfl⟩ | ⟨rfl, hb, hcap, hLc⟩
    · have hA : A = [] := List.length_eq_zero_iff.1 (by simp only [List.length_nil] at hfit; omega)
      subst hA
      refine ⟨w, ?_, hfit, .inl ⟨rfl, rfl⟩⟩
      have h0 := hload w hrd
      simp only [List.length_nil] at h0
      simp [Builtin.append_, hts, ht2, run_underlying ht, run_underlying hu2, hsz, Builtin.lenOf, h0]
    · obtain ⟨w', h2, h3, h4, h5, h6, h7, h8⟩ := run_puts (P := P) (b := b) (T := e) A L.length 0 w _ hb h1A (by simp only [List.size_toArray, List.length_append]; omega)
      refine ⟨w', ?_, hfit, .inr ⟨b, rfl, rfl, by rw [Nat.add_zero, put_vals A L X (by omega)] at h3; exact h3, h4, h5, h6, h7, h8⟩⟩
      have h0 := hload w hrd
      simp [Builtin.append_, hts, ht2, run_underlying ht, run_underlying hu2, hsz, Builtin.lenOf, h0, hfit, add_none, h2]
  · right
    have hold : (Builtin.firstCells 1 L.length (.slice a L.length cap)).run P { w with drawn := w.drawn + 1 } = .ok L.toArray { w with drawn := w.drawn + 1 } := by
      rcases hd with ⟨rfl, rfl, rfl⟩ | ⟨rfl, hb, hcap, hLc⟩
      · simp [Builtin.firstCells]
      · have := run_loadsV (P := P) (w := { w with drawn := w.drawn + 1 }) (b := b) (q := 0) L 0 #[] (by
          intro j hj
          simp only [Nat.zero_add]
          simp [World.cell?, hb, hj, List.getElem?_append])
        simp only [Builtin.firstCells, loadCells, Nat.mul_one]
        rw [this]; simp
    have hcapL : cap < L.length + A.length := by omega
    have hn := next_le _ _ hcapL
    have hlim : ¬ (281474976710656 < Builtin.nextslicecap (L.length + A.length) cap * by_) := by
      have : Builtin.nextslicecap (L.length + A.length) cap * by_ ≤ (2 * (L.length + A.length) + 256) * 32 := Nat.mul_le_mul hn hby
      omega
    have h0 := hload { w with drawn := w.drawn + 1 } hrd
    have hby1 : ¬ by_ = 0 := by omega
    refine ⟨(w.tape w.drawn (.appendCap (L.length + A.length) cap e)) % (9223372036854775808 - (L.length + A.length)), 1, ?_⟩
    have hroom : ∀ (x : Nat) (w : World), (askRoom x).run P w = .ok () w := by
      intro x w; unfold askRoom; split <;> simp [mark, Sem.run]
    have hz : (zeroValue e).run P { w with drawn := w.drawn + 1 } = .ok z { w with drawn := w.drawn + 1 } := by simp [zeroValue, typeInfo, hi1, hi2]
    have hcells : L.toArray ++ A.toArray ++ Builtin.zeroCells z.cells ((w.tape w.drawn (.appendCap (L.length + A.length) cap e)) % (9223372036854775808 - (L.length + A.length))) = (L ++ A ++ List.replicate ((w.tape w.drawn (.appendCap (L.length + A.length) cap e)) % (9223372036854775808 - (L.length + A.length))) z).toArray := by
      generalize (w.tape w.drawn (.appendCap (L.length + A.length) cap e)) % (9223372036854775808 - (L.length + A.length)) = m
      rw [hzc]
      have e2 : Builtin.zeroCells #[z] m = (List.replicate m z).toArray := by
        apply Array.ext_getElem?
        intro j
        simp only [Builtin.zeroCells]
        rcases Nat.lt_or_ge j m with hj | hj
        · simp [hj, Nat.mod_one]
        · simp [Nat.not_lt.2 hj]
      rw [e2]; simp
    have hold' : (Builtin.firstCells 1 L.length (.slice a L.length cap)).run P w.drew = .ok L.toArray w.drew := hold
    have h0' : (Builtin.firstCells 1 A.length (.slice ax A.length capx)).run P w.drew = .ok A.toArray w.drew := h0
    have hz' : (zeroValue e).run P w.drew = .ok z w.drew := hz
    have hsz' : w.drew.heap.size = w.heap.size := rfl
    simp [Builtin.append_, hts, ht2, run_underlying ht, run_underlying hu2, hsz, Builtin.lenOf, hfit, typeInfo, hi1, hi4, hby1, hlim, choose, Sem.run, Question.forced, Question.cut, hroom, hold', h0', hz', hsz', newRow]
    rw [← Array.append_assoc, hcells, List.append_assoc]
/-- a row of one's own that grows -/
def GrV (T : TypeId) (a : Option Addr) (cap : Nat) (vs : List Value) (hv : Hp) : Prop :=
  (a = none ∧ cap = 0 ∧ vs = [] ∧ hv = []) ∨ ∃ b X, a = some ⟨b, 0, none⟩ ∧ hv = [(b, .cells (vs ++ X).toArray T (0, 0))] ∧ cap ≤ vs.length + X.length ∧ vs.length ≤ cap
theorem GrV.nil {T : TypeId} : GrV T none 0 [] [] := .inl ⟨rfl, rfl, rfl, rfl⟩
theorem GrV.sl {T : TypeId} {a : Option Addr} {cap : Nat} {vs : List Value} {hv : Hp} (g : GrV T a cap vs hv) (hm : vs.length ≤ 9223372036854775807) : SlV a cap vs hv := by
  rcases g with ⟨rfl, rfl, rfl, rfl⟩ | ⟨b, X, rfl, rfl, h1, h2⟩
  · exact SlV.nil
  · refine ⟨h2, hm, fun j hj => ⟨rfl, _, T, (0, 0), List.mem_singleton.2 rfl, ?_⟩⟩
    simp [adr, List.getElem?_append, hj]
theorem Gr.toV {k : IntKind} {T : TypeId} {a : Option Addr} {cap : Nat} {L : List Nat} {hv : Hp} (g : Gr k T a cap L hv) : GrV T a cap (ints k L) hv := by
  rcases g with ⟨rfl, rfl, rfl, rfl⟩ | ⟨b, X, rfl, rfl, h1, h2⟩
  · exact GrV.nil
  · exact .inr ⟨b, ints k X, rfl, by rw [encN_append]; simp [encN, ints], by simpa [ints] using h1, by simpa [ints] using h2⟩
theorem Gr.sl {k : IntKind} {T : TypeId} {a : Option Addr} {cap : Nat} {L : List Nat} {hv : Hp} (g : Gr k T a cap L hv) (hm : L.length ≤ 9223372036854775807) (hf : ∀ x ∈ L, x ≤ maxK k) : Sl k a cap L hv := by
  rcases g with ⟨rfl, rfl, rfl, rfl⟩ | ⟨b, X, rfl, rfl, h1, h2⟩
  · exact Sl.nil
  · refine ⟨h2, hm, hf, fun j hj => ⟨rfl, _, T, (0, 0), List.mem_singleton.2 rfl, ?_⟩⟩
    show (encN k (L ++ X))[0 + j]? = _
    rw [Nat.zero_add, encN_get (by rw [List.length_append]; omega)]
    simp [List.getElem?_append, hj]
theorem s_appendV {t e : TypeId} {by_ d : Nat} {z : Value} {ts : Array TypeId} {x y : Operand} {a ax : Option Addr} {len cap lenx capx : Nat} {L A : List Value} {hv hx_ : Hp} {Lp : List Hp} (i : Nat) (hg : o.guard = none) (hd : o.dst = some d)
    (ho : o.op = .call { callee := .builtin .append, args := #[x, y], argTypes := ts }) (hts : ts[0]? = some t) (hts2 : ∃ t2 e2, ts[1]? = some t2 ∧ P.underlying t2 = some (.slice e2)) (ht : P.underlying t = some (.slice e)) (hi : TI P e z 1 by_) (hby : by_ ≤ 32) (hby0 : 1 ≤ by_) (hz1 : oneC z = true) (h1A : ∀ v ∈ A, oneC v = true)
    (hx : Ev n l x (.slice a len cap)) (hy : Ev n l y (.slice ax lenx capx)) (hlx : A.length = lenx) (hll : L.length = len) (hG : GrV e a cap L hv) (hS : St w0 S (fl Lp) w) (hp : Lp[i]? = some hv) (hr : SlV ax capx A hx_) (hh : Has w hx_) (hlen : L.length + A.length ≤ 1000000000000)
    (kk : ∀ a' cap' hv' w', GrV e a' cap' (L ++ A) hv' → St w0 S (fl (Lp.set i hv')) w' → wpList P ops Q rest (fr n ((d, .slice a' (len + lenx) cap') :: l) G D) w') : wpList P ops Q (o :: rest) (fr n l G D) w := by
  subst hlx hll
  have hrun : ∀ r w', (Builtin.append_ ts o.type #[.slice a L.length cap, .slice ax A.length capx]).run P w = .ok r w' → (execOp (fr n l G D).eval o).run P w = .ok (.value r) w' := by
    intro r w' hh
    unfold execOp; rw [ho]
    simp [resolve, invoke, builtin, hx G D, hy G D, hh]
  have hself := hS.give [i] (xs := [hv]) (by simp [hp]) (by simp)
  have fin : ∀ {hv' w'}, St w (keys (fl [hv])) (fl ([hv'] ++ [])) w' → St w0 S (fl (Lp.set i hv')) w' := fun t => hS.callL [i] (xs := [hv]) (by simp [hp]) (by simp) t rfl (by simp [setAll])
  have hnew : ∀ m dd, (Builtin.append_ ts o.type #[.slice a L.length cap, .slice ax A.length capx]).run P w = .ok (.slice (some ⟨w.heap.size, 0, none⟩) (L.length + A.length) (L.length + A.length + m)) ({ w with drawn := w.drawn + dd }.alloc (.cells (L ++ A ++ List.replicate m z).toArray e)) →
      wpList P ops Q (o :: rest) (fr n l G D) w := by
    intro m dd hh
    have hF : St w (keys (fl [hv])) (fl ([[(w.heap.size, .cells (L ++ A ++ List.replicate m z).toArray e (0, 0))]] ++ [])) ({ w with drawn := w.drawn + dd }.alloc (.cells (L ++ A ++ List.replicate m z).toArray e)) := by
      have h0 : St w [] [] { w with drawn := w.drawn + dd } := ⟨rfl, rfl, rfl, Nat.le_refl _, by simp, by simp, by simp, fun _ _ _ => rfl⟩
      exact (h0.alloc _).wide (by simp)
    refine s_run hg hd (hrun _ _ hh) (kk _ _ _ _ (.inr ⟨w.heap.size, List.replicate m z, rfl, rfl, ?_, ?_⟩) (fin hF))
    · rw [List.length_append, List.length_replicate]; omega
    · rw [List.length_append]; omega
  rcases hG with ⟨rfl, rfl, rfl, rfl⟩ | ⟨b, X, rfl, rfl, hc1, hc2⟩
  · rcases run_appendV (b := 0) (X := []) (ty := o.type) hts hts2 ht hi hby hby0 hz1 h1A (.inl ⟨rfl, rfl, rfl⟩) hr hh hlen with ⟨w', hh, hle, hw⟩ | ⟨m, dd, hh⟩
    · have hA : A = [] := List.length_eq_zero_iff.1 (by simp only [List.length_nil] at hle; omega)
      subst hA
      rcases hw with ⟨_, rfl⟩ | ⟨b', hb', _⟩
      · exact s_run hg hd (hrun _ _ hh) (kk _ _ _ _ .nil (fin (by simpa using hself)))
      · cases hb'
    · exact hnew m dd hh
  · have hown := hS.own (b, _) (mem_fl hp (List.mem_singleton.2 rfl))
    rcases run_appendV (b := b) (X := X) (ty := o.type) hts hts2 ht hi hby hby0 hz1 h1A (.inr ⟨rfl, hown, hc1, hc2⟩) hr hh hlen with ⟨w', hh, hle, hw⟩ | ⟨m, dd, hh⟩
    · rcases hw with ⟨rfl, rfl⟩ | ⟨b', _, rfl, h2, h3, h4, h5, h6, h7⟩
      · refine s_run hg hd (hrun _ _ hh) (kk _ _ _ _ (.inr ⟨b, X, rfl, rfl, by simpa using hc1, by simpa using hc2⟩) (fin (by simpa using hself)))
      · have hF := hself.set (m := 0) (b := b') (o := .cells (L ++ X).toArray e (0, 0)) rfl h3 h4 h5 h6 h2 h7
        refine s_run hg hd (hrun _ _ hh) (kk _ _ _ _ (.inr ⟨b', X.drop A.length, rfl, rfl, ?_, ?_⟩) (fin (by simpa using hF)))
        · simp only [List.length_append, List.length_drop]; omega
        · simp only [List.length_append]; omega
    · exact hnew m dd hh
/-- a literal row -/
theorem s_litV {t e : TypeId} {len by_ d : Nat} {z : Value} {xs : List (Nat × Operand)} {vs : List (Nat × Value)} {L : List Value} (hg : o.guard = none) (hd : o.dst = some d) (ho : o.op = .buildSlice t len xs.toArray) (ht : P.underlying t = some (.slice e)) (hi : TI P e z 1 by_) (hz1 : oneC z = true)
    (hx : Evp n l xs vs) (hlen : L.length = len) (hsm : len ≤ 1000) (hfill : Instr.fill (fun i => some (i * 1, 1)) (List.replicate len z).toArray vs = some L.toArray) (hS : St w0 S h w)
    (kk : ∀ b w', w.heap.size ≤ b → Below w.heap.size w w' → St w0 S (h ++ [(b, .cells L.toArray e (0, 0))]) w' → wpList P ops Q rest (fr n ((d, .slice (some ⟨b, 0, none⟩) len len) :: l) G D) w') : wpList P ops Q (o :: rest) (fr n l G D) w := by
  obtain ⟨i, hi1, hi2, hi3, hi4⟩ := info_parts hi
  have hz : (zeroValue e).run P w = .ok z w := by simp [zeroValue, typeInfo, hi1, hi2]
  have hzc : z.cells = #[z] := by cases z <;> simp [oneC] at hz1 <;> rfl
  have hmap := hx.map (G := G) (D := D)
  have hzero : (Array.range len).map (fun j => (#[z] : Array Value)[j % 1]!) = (List.replicate len z).toArray := by
    apply Array.ext_getElem?
    intro j
    rcases Nat.lt_or_ge j len with hj | hj
    · simp [hj, Nat.mod_one]
    · simp [Nat.not_lt.2 hj]
  refine s_run hg hd (v := .slice (some ⟨w.heap.size, 0, none⟩) len len) (w' := w.alloc (.cells L.toArray e)) ?_ (kk _ _ (Nat.le_refl _) ((Below.refl _ w).alloc (Nat.le_refl _) _) (hS.alloc _))
  unfold execOp; rw [ho]
  have hsm' : ¬ 16777216 < len := by omega
  simp only [List.map_toArray, hmap]
  by_cases h0 : len = 0
  · subst h0
    have hfill0 : Instr.fill (fun i => some (i * 1, 1)) #[] vs = some L.toArray := by simpa using hfill
    simp [Instr.buildSlice, run_underlying ht, run_sizeOf hi, newRow]
    simp only [Nat.mul_one] at hfill0
    simp [Array.range_zero', hfill0]
  · simp [Instr.buildSlice, run_underlying ht, run_sizeOf hi, newRow, hsm', h0, hz, hzc]
    simp only [Nat.mul_one] at hfill
    have e2 : Array.map (fun x => [z][x % 1]?.getD default) (Array.range len) = (List.replicate len z).toArray := by
      apply Array.ext_getElem?
      intro j
      rcases Nat.lt_or_ge j len with hj | hj
      · simp [hj, Nat.mod_one]
      · simp [Nat.not_lt.2 hj]
    rw [e2, hfill]
    simp
end Go.Proofs.Ytdmiklegahdafaa.K

/- The engine: append, copies. -/
import Derived.Test.YtdmiklegahdafaaKCtl
namespace Go.Proofs.Ytdmiklegahdafaa.K
open Go Go.RowKit

set_option linter.unusedSimpArgs false
set_option linter.unusedVariables false
variable {P : Program} {ops : Array Oper} {Q Q' : Exit → Act → World → Prop} {K : Act → World → Prop} {rest : List Oper} {o : Oper} {n : Nat} {l : Asc} {G : Nat → Value} {D : List Deferred} {a : Act} {w w0 : World} {S : List Nat} {h : Hp} {C : World → Prop} {R : Ending → World → Prop} {fn : Func}

def ints (k : IntKind) (A : List Nat) : List Value := A.map fun (x : Nat) => Value.int k (x : Int)
theorem encN_ints {k : IntKind} {A : List Nat} : encN k A = (ints k A).toArray := rfl
theorem run_loads {k : IntKind} {b q : Nat} : ∀ (A : List Nat) (i : Nat) (acc : Array Value), (∀ j, j < A.length → w.cell? ⟨b, q + i + j, none⟩ = some (.int k (A.getD j 0 : Nat))) →
    (loadCellsFrom ⟨b, q, none⟩ i A.length acc).run P w = .ok (acc ++ (ints k A).toArray) w
  | [], i, acc, _ => by simp [loadCellsFrom, ints]
  | x :: r, i, acc, hh => by
    have h0 := hh 0 (by simp)
    simp only [Nat.add_zero] at h0
    have ih := run_loads r (i + 1) (acc.push (.int k (x : Int))) (fun j hj => by
      have := hh (j + 1) (by simp; omega)
      rw [show q + (i + 1) + j = q + i + (j + 1) by omega]; simpa using this)
    simp only [List.length_cons, loadCellsFrom, add_none, Sem.run_bind, run_load, h0, Result.andThen_ok]
    simp only [List.getD_cons_zero]
    rw [ih]
    simp [ints]
def put (c : Array Value) (q : Nat) : List Value → Array Value
  | [] => c
  | v :: r => put (c.setIfInBounds q v) (q + 1) r
theorem put_size : ∀ (vs : List Value) (c : Array Value) (q : Nat), (put c q vs).size = c.size
  | [], _, _ => rfl
  | v :: r, c, q => by rw [put, put_size r]; simp
theorem put_ints {k : IntKind} : ∀ (A L X : List Nat), A.length ≤ X.length → put (encN k (L ++ X)) L.length (ints k A) = encN k (L ++ A ++ X.drop A.length)
  | [], L, X, _ => by simp [put, ints]
  | x :: r, L, X, hx => by
    cases X with
    | nil => simp at hx
    | cons y Y =>
      have ih := put_ints (k := k) r (L ++ [x]) Y (by simpa using hx)
      simp only [ints, List.map_cons, put]
      rw [encN_set]
      have e : (L ++ y :: Y).set L.length x = (L ++ [x]) ++ Y := by simp [List.set_append]
      rw [e]
      simp only [List.length_append, List.length_cons, List.length_nil, Nat.zero_add, ints] at ih
      rw [ih]; simp
theorem run_puts {b : Nat} {T : TypeId} : ∀ (vs : List Value) (q i : Nat) (w : World) (c : Array Value), w.heap[b]? = some (.cells c T (0, 0)) → (∀ v ∈ vs, oneC v = true) → q + i + vs.length ≤ c.size →
    ∃ w', (storeCells ⟨b, q, none⟩ vs i).run P w = .ok () w' ∧ w'.heap[b]? = some (.cells (put c (q + i) vs) T (0, 0)) ∧ w'.os = w.os ∧ w'.tape = w.tape ∧ w'.output = w.output ∧ w'.heap.size = w.heap.size ∧ (∀ k, k ≠ b → w'.heap[k]? = w.heap[k]?)
  | [], q, i, w, c, hb, _, _ => ⟨w, by simp [storeCells], hb, rfl, rfl, rfl, rfl, fun _ _ => rfl⟩
  | v :: r, q, i, w, c, hb, h1, hs => by
    have hc : w.cell? ⟨b, q + i, none⟩ = some (c[q + i]'(by simp at hs; omega)) := by
      have : q + i < c.size := by simp at hs; omega
      simp [World.cell?, hb, this]
    have hf : w.frozen? ⟨b, q + i, none⟩ = false := by simp [World.frozen?, hb]
    have hb' : (w.setCell ⟨b, q + i, none⟩ v).heap[b]? = some (.cells (c.setIfInBounds (q + i) v) T (0, 0)) := by simp [World.setCell, Array.getElem?_modify, hb]
    obtain ⟨w', h2, h3, h4, h5, h6, h7, h8⟩ := run_puts r q (i + 1) (w.setCell ⟨b, q + i, none⟩ v) _ hb' (fun u hu => h1 u (List.mem_cons_of_mem _ hu)) (by simp at hs ⊢; omega)
    have hst : (store ⟨b, q + i, none⟩ v).run P w = .ok () (w.setCell ⟨b, q + i, none⟩ v) := by
      have := h1 v (List.mem_cons_self ..)
      cases v <;> simp [oneC] at this <;> simp [store, Sem.run, hc, hf]
    refine ⟨w', ?_, by rw [put, show q + i + 1 = q + (i + 1) by omega]; exact h3, h4, h5, h6, by rw [h7]; simp [World.setCell], fun k hk => by rw [h8 k hk]; exact Below.heap_setCell _ _ _ _ hk⟩
    simp only [storeCells, add_none, Sem.run_bind, hst, Result.andThen_ok]
    exact h2
theorem growBy_le : ∀ (r m c : Nat), c ≤ 2 * m + 256 → Builtin.growBy m r c ≤ 2 * m + 256
  | 0, m, c, h => h
  | r + 1, m, c, h => by
    unfold Builtin.growBy; split
    · exact h
    · exact growBy_le r m _ (by omega)
theorem next_le (m c : Nat) (h : c < m) : Builtin.nextslicecap m c ≤ 2 * m + 256 := by
  unfold Builtin.nextslicecap
  split
  · omega
  · split
    · omega
    · exact growBy_le _ _ _ (by omega)
/-- what an append leaves: within the room that there is, or in a new row -/
theorem run_append {t e : TypeId} {k : IntKind} {by_ : Nat} {ts : Array TypeId} {ty : TypeId} {a ax : Option Addr} {cap capx : Nat} {L A X : List Nat} {b : Nat} (hts : ts[0]? = some t) (hts2 : ∃ t2 e2, ts[1]? = some t2 ∧ P.underlying t2 = some (.slice e2)) (ht : P.underlying t = some (.slice e)) (hi : TI P e (.int k 0) 1 by_)
    (hby : by_ ≤ 8) (hby0 : 1 ≤ by_)
    (hd : (a = none ∧ cap = 0 ∧ L = []) ∨ (a = some ⟨b, 0, none⟩ ∧ w.heap[b]? = some (.cells (encN k (L ++ X)) e (0, 0)) ∧ cap ≤ L.length + X.length ∧ L.length ≤ cap)) (hr : Rd w k ax capx A) (hlen : L.length + A.length ≤ 1000000000000) :
    (∃ w', (Builtin.append_ ts ty #[.slice a L.length cap, .slice ax A.length capx]).run P w = .ok (.slice a (L.length + A.length) cap) w' ∧ L.length + A.length ≤ cap ∧ (A = [] ∧ w' = w ∨ ∃ b', a = some ⟨b', 0, none⟩ ∧ b' = b ∧ w'.heap[b]? = some (.cells (encN k (L ++ A ++ X.drop A.length)) e (0, 0)) ∧ w'.os = w.os ∧ w'.tape = w.tape ∧ w'.output = w.output ∧ w'.heap.size = w.heap.size ∧ (∀ k, k ≠ b → w'.heap[k]? = w.heap[k]?))) ∨
    (∃ m d, (Builtin.append_ ts ty #[.slice a L.length cap, .slice ax A.length capx]).run P w = .ok (.slice (some ⟨w.heap.size, 0, none⟩) (L.length + A.length) (L.length + A.length + m)) ({ w with drawn := w.drawn + d }.alloc (.cells (encN k (L ++ A ++ List.replicate m 0)) e))) := by
  obtain ⟨t2, e2, ht2, hu2⟩ := hts2
  obtain ⟨i, hi1, hi2, hi3, hi4⟩ := info_parts hi
  have hsz := run_sizeOf hi
  have hload : ∀ w', (∀ j, j < A.length → w'.cell? ⟨(adr ax).block, (adr ax).off + j, none⟩ = some (.int k (A.getD j 0 : Nat))) → (Builtin.firstCells 1 A.length (.slice ax A.length capx)).run P w' = .ok (ints k A).toArray w' := by
    intro w' hw'
    cases hA : A with
    | nil => cases ax <;> simp [Builtin.firstCells, loadCells, loadCellsFrom, ints]
    | cons x r =>
      have h1 := (hr.at_ 0 (by rw [hA]; simp)).1
      rw [h1]
      have := run_loads (P := P) (w := w') (k := k) (b := (adr ax).block) (q := (adr ax).off) A 0 #[] (by simpa using hw')
      simp only [Builtin.firstCells, loadCells, Nat.mul_one]
      rw [← hA, this]; simp
  have hrd : ∀ j, j < A.length → w.cell? ⟨(adr ax).block, (adr ax).off + j, none⟩ = some (.int k (A.getD j 0 : Nat)) := fun j hj => (hr.at_ j hj).2.2
  by_cases hfit : L.length + A.length ≤ cap
  · left
    rcases hd with ⟨rfl, rfl, rfl⟩ | ⟨rfl, hb, hcap, hLc⟩
    · have hA : A = [] := List.length_eq_zero_iff.1 (by simp only [List.length_nil] at hfit; omega)
      subst hA
      refine ⟨w, ?_, hfit, .inl ⟨rfl, rfl⟩⟩
      have h0 := hload w hrd
      simp only [List.length_nil] at h0
      simp [Builtin.append_, hts, ht2, run_underlying ht, run_underlying hu2, hsz, Builtin.lenOf, h0]
    · obtain ⟨w', h2, h3, h4, h5, h6, h7, h8⟩ := run_puts (P := P) (b := b) (T := e) (ints k A) L.length 0 w _ hb (by intro v hv; simp only [ints, List.mem_map] at hv; obtain ⟨_, _, rfl⟩ := hv; rfl) (by rw [encN_size]; simp only [ints, List.length_append, List.length_map]; omega)
      refine ⟨w', ?_, hfit, .inr ⟨b, rfl, rfl, by rw [Nat.add_zero, put_ints A L X (by omega)] at h3; exact h3, h4, h5, h6, h7, h8⟩⟩
      have h0 := hload w hrd
      simp [Builtin.append_, hts, ht2, run_underlying ht, run_underlying hu2, hsz, Builtin.lenOf, h0, hfit, add_none, h2]
  · right
    have hold : (Builtin.firstCells 1 L.length (.slice a L.length cap)).run P { w with drawn := w.drawn + 1 } = .ok (ints k L).toArray { w with drawn := w.drawn + 1 } := by
      rcases hd with ⟨rfl, rfl, rfl⟩ | ⟨rfl, hb, hcap, hLc⟩
      · simp [Builtin.firstCells, ints]
      · have := run_loads (P := P) (w := { w with drawn := w.drawn + 1 }) (k := k) (b := b) (q := 0) L 0 #[] (by
          intro j hj
          simp only [Nat.zero_add]
          have e : (encN k (L ++ X))[j]? = some (.int k (L.getD j 0 : Nat)) := by
            rw [encN_get (by rw [List.length_append]; omega)]
            simp [List.getElem?_append, hj]
          simp [World.cell?, hb, e])
        simp only [Builtin.firstCells, loadCells, Nat.mul_one]
        rw [this]; simp
    have hcapL : cap < L.length + A.length := by omega
    have hn := next_le _ _ hcapL
    have hlim : ¬ (281474976710656 < Builtin.nextslicecap (L.length + A.length) cap * by_) := by
      have : Builtin.nextslicecap (L.length + A.length) cap * by_ ≤ (2 * (L.length + A.length) + 256) * 8 := Nat.mul_le_mul hn hby
      omega
    have h0 := hload { w with drawn := w.drawn + 1 } hrd
    have hby1 : ¬ by_ = 0 := by omega
    refine ⟨(w.tape w.drawn (.appendCap (L.length + A.length) cap e)) % (9223372036854775808 - (L.length + A.length)), 1, ?_⟩
    have hroom : ∀ (x : Nat) (w : World), (askRoom x).run P w = .ok () w := by
      intro x w; unfold askRoom; split <;> simp [mark, Sem.run]
    have hz : (zeroValue e).run P { w with drawn := w.drawn + 1 } = .ok (.int k 0) { w with drawn := w.drawn + 1 } := by simp [zeroValue, typeInfo, hi1, hi2]
    have hcells : (ints k L).toArray ++ (ints k A).toArray ++ Builtin.zeroCells (Value.int k 0).cells ((w.tape w.drawn (.appendCap (L.length + A.length) cap e)) % (9223372036854775808 - (L.length + A.length))) = encN k (L ++ A ++ List.replicate ((w.tape w.drawn (.appendCap (L.length + A.length) cap e)) % (9223372036854775808 - (L.length + A.length))) 0) := by
      generalize (w.tape w.drawn (.appendCap (L.length + A.length) cap e)) % (9223372036854775808 - (L.length + A.length)) = m
      rw [encN_append, encN_append]
      congr 1
      apply Array.ext_getElem?
      intro j
      simp only [Builtin.zeroCells, Value.cells, encN]
      rcases Nat.lt_or_ge j m with hj | hj
      · simp [hj, Nat.mod_one]
      · simp [Nat.not_lt.2 hj]
    have hold' : (Builtin.firstCells 1 L.length (.slice a L.length cap)).run P w.drew = .ok (ints k L).toArray w.drew := hold
    have h0' : (Builtin.firstCells 1 A.length (.slice ax A.length capx)).run P w.drew = .ok (ints k A).toArray w.drew := h0
    have hz' : (zeroValue e).run P w.drew = .ok (.int k 0) w.drew := hz
    have hsz' : w.drew.heap.size = w.heap.size := rfl
    simp [Builtin.append_, hts, ht2, run_underlying ht, run_underlying hu2, hsz, Builtin.lenOf, hfit, typeInfo, hi1, hi4, hby1, hlim, choose, Sem.run, Question.forced, Question.cut, hroom, hold', h0', hz', hsz', newRow]
    rw [← Array.append_assoc, hcells, List.append_assoc]
/-- a row of one's own that grows: nothing, or a block -/
def Gr (k : IntKind) (T : TypeId) (a : Option Addr) (cap : Nat) (L : List Nat) (hv : Hp) : Prop :=
  (a = none ∧ cap = 0 ∧ L = [] ∧ hv = []) ∨ ∃ b X, a = some ⟨b, 0, none⟩ ∧ hv = [(b, .cells (encN k (L ++ X)) T (0, 0))] ∧ cap ≤ L.length + X.length ∧ L.length ≤ cap
theorem Gr.nil {k : IntKind} {T : TypeId} : Gr k T none 0 [] [] := .inl ⟨rfl, rfl, rfl, rfl⟩
theorem St.dropLast {h1 : Hp} {p : Nat × Obj} (s : St w0 S (h1 ++ [p]) w) : St w0 S h1 w := s.weaken _ (List.sublist_append_left ..)
theorem Gr.own {k : IntKind} {T : TypeId} {a : Option Addr} {cap : Nat} {L : List Nat} {hv h1 : Hp} (g : Gr k T a cap L hv) (s : St w0 S (h1 ++ hv) w) (hS : S = []) (hl : L.length ≤ 9223372036854775807) (hf : ∀ x ∈ L, x ≤ maxK k) : L = [] ∧ a = none ∧ cap = 0 ∨ Own w0 w k T (.slice a L.length cap) L := by
  rcases g with ⟨rfl, rfl, rfl, rfl⟩ | ⟨b, X, rfl, rfl, h1, h2⟩
  · exact .inl ⟨rfl, rfl, rfl⟩
  · refine .inr ⟨b, cap, X, rfl, ?_, ?_, h2, by rw [List.length_append]; exact h1, hl, hf⟩
    · have := s.place _ (List.mem_append_right _ (List.mem_singleton.2 rfl))
      rw [hS] at this
      simpa using this
    · exact s.own _ (List.mem_append_right _ (List.mem_singleton.2 rfl))
theorem Gr.rd {k : IntKind} {T : TypeId} {a : Option Addr} {cap : Nat} {L : List Nat} {hv h1 : Hp} (g : Gr k T a cap L hv) (s : St w0 S (h1 ++ hv) w) (hl : L.length ≤ 9223372036854775807) (hf : ∀ x ∈ L, x ≤ maxK k) : Rd w k a cap L := by
  rcases g with ⟨rfl, rfl, rfl, rfl⟩ | ⟨b, X, rfl, rfl, h2, h3⟩
  · exact Rd.nil
  · exact rd_own (m := h1.length) (b := b) (X := X) (T := T) (f := (0, 0)) s (by simp) h3 hl hf
/-- append to a row that grows -/
theorem St.wide {S' : List Nat} (s : St w0 S h w) (hs : ∀ x ∈ S, x ∈ S') : St w0 S' h w :=
  ⟨s.os, s.tape, s.output, s.size, s.own, s.nodup, fun p hp => (s.place p hp).imp (hs _) id, fun k hk hS => s.old k hk fun q => hS (hs _ q)⟩
theorem St.self {h1 hv : Hp} (s : St w0 S (h1 ++ hv) w) : St w (hv.map (·.1)) hv w := by
  refine ⟨rfl, rfl, rfl, Nat.le_refl _, fun p hp => s.own p (List.mem_append_right _ hp), ?_, fun p hp => .inl (List.mem_map.2 ⟨p, hp, rfl⟩), fun _ _ _ => rfl⟩
  have := s.nodup
  rw [List.map_append, List.nodup_append] at this
  exact this.2.1
theorem s_append {t e : TypeId} {k : IntKind} {by_ d : Nat} {ts : Array TypeId} {x y : Operand} {a ax : Option Addr} {len cap lenx capx : Nat} {L A : List Nat} {hv h1 : Hp} (hg : o.guard = none) (hd : o.dst = some d)
    (ho : o.op = .call { callee := .builtin .append, args := #[x, y], argTypes := ts }) (hts : ts[0]? = some t) (hts2 : ∃ t2 e2, ts[1]? = some t2 ∧ P.underlying t2 = some (.slice e2)) (ht : P.underlying t = some (.slice e)) (hi : TI P e (.int k 0) 1 by_) (hby : by_ ≤ 8) (hby0 : 1 ≤ by_)
    (hx : Ev n l x (.slice a len cap)) (hy : Ev n l y (.slice ax lenx capx)) (hlx : lenx = A.length) (hll : len = L.length) (hG : Gr k e a cap L hv) (hS : St w0 S (h1 ++ hv) w) (hr : Rd w k ax capx A) (hlen : L.length + A.length ≤ 1000000000000)
    (kk : ∀ a' cap' hv' w', Gr k e a' cap' (L ++ A) hv' → St w0 S (h1 ++ hv') w' → St w (hv.map (·.1)) hv' w' → wpList P ops Q rest (fr n ((d, .slice a' (len + lenx) cap') :: l) G D) w') : wpList P ops Q (o :: rest) (fr n l G D) w := by
  subst hlx hll
  have hrun : ∀ r w', (Builtin.append_ ts o.type #[.slice a L.length cap, .slice ax A.length capx]).run P w = .ok r w' → (execOp (fr n l G D).eval o).run P w = .ok (.value r) w' := by
    intro r w' hh
    unfold execOp; rw [ho]
    simp [resolve, invoke, builtin, hx G D, hy G D, hh]
  have hnew : ∀ m dd, (Builtin.append_ ts o.type #[.slice a L.length cap, .slice ax A.length capx]).run P w = .ok (.slice (some ⟨w.heap.size, 0, none⟩) (L.length + A.length) (L.length + A.length + m)) ({ w with drawn := w.drawn + dd }.alloc (.cells (encN k (L ++ A ++ List.replicate m 0)) e)) →
      St w0 S h1 w → wpList P ops Q (o :: rest) (fr n l G D) w := by
    intro m dd hh hS1
    have hS2 : St w0 S h1 { w with drawn := w.drawn + dd } := ⟨hS1.os, hS1.tape, hS1.output, hS1.size, hS1.own, hS1.nodup, hS1.place, hS1.old⟩
    have hS3 := hS2.alloc (.cells (encN k (L ++ A ++ List.replicate m 0)) e)
    have hF : St w (hv.map (·.1)) [(w.heap.size, .cells (encN k (L ++ A ++ List.replicate m 0)) e (0, 0))] ({ w with drawn := w.drawn + dd }.alloc (.cells (encN k (L ++ A ++ List.replicate m 0)) e)) := by
      have h0 : St w [] [] { w with drawn := w.drawn + dd } := ⟨rfl, rfl, rfl, Nat.le_refl _, by simp, by simp, by simp, fun _ _ _ => rfl⟩
      exact (h0.alloc _).wide (by simp)
    refine s_run hg hd (hrun _ _ hh) (kk _ _ _ _ (.inr ⟨w.heap.size, List.replicate m 0, rfl, rfl, ?_, ?_⟩) hS3 hF)
    · rw [List.length_append, List.length_replicate]; omega
    · rw [List.length_append]; omega
  rcases hG with ⟨rfl, rfl, rfl, rfl⟩ | ⟨b, X, rfl, rfl, hc1, hc2⟩
  · rcases run_append (b := 0) (X := []) (ty := o.type) hts hts2 ht hi hby hby0 (.inl ⟨rfl, rfl, rfl⟩) hr hlen with ⟨w', hh, hle, hw⟩ | ⟨m, dd, hh⟩
    · have hA : A = [] := List.length_eq_zero_iff.1 (by simp only [List.length_nil] at hle; omega)
      subst hA
      rcases hw with ⟨_, rfl⟩ | ⟨b', hb', _⟩
      · exact s_run hg hd (hrun _ _ hh) (kk _ _ _ _ .nil hS hS.self)
      · cases hb'
    · exact hnew m dd hh (by simpa using hS)
  · have hown := hS.own (b, _) (List.mem_append_right _ (List.mem_singleton.2 rfl))
    rcases run_append (b := b) (X := X) (ty := o.type) hts hts2 ht hi hby hby0 (.inr ⟨rfl, hown, hc1, hc2⟩) hr hlen with ⟨w', hh, hle, hw⟩ | ⟨m, dd, hh⟩
    · rcases hw with ⟨rfl, rfl⟩ | ⟨b', _, rfl, h2, h3, h4, h5, h6, h7⟩
      · refine s_run hg hd (hrun _ _ hh) (kk _ _ _ _ (.inr ⟨b, X, rfl, rfl, by simpa using hc1, by simpa using hc2⟩) (by simpa using hS) (by simpa using hS.self))
      · have hs := hS.set (m := h1.length) (b := b') (o := .cells (encN k (L ++ X)) e (0, 0)) (by simp) h3 h4 h5 h6 h2 h7
        have e1 : (h1 ++ [(b', Obj.cells (encN k (L ++ X)) e (0, 0))]).set h1.length (b', .cells (encN k (L ++ A ++ X.drop A.length)) e (0, 0)) = h1 ++ [(b', .cells (encN k (L ++ A ++ X.drop A.length)) e (0, 0))] := by simp [List.set_append]
        rw [e1] at hs
        have hF := hS.self.set (m := 0) (b := b') (o := .cells (encN k (L ++ X)) e (0, 0)) rfl h3 h4 h5 h6 h2 h7
        refine s_run hg hd (hrun _ _ hh) (kk _ _ _ _ (.inr ⟨b', X.drop A.length, rfl, rfl, ?_, ?_⟩) hs hF)
        · simp only [List.length_append, List.length_drop]; omega
        · simp only [List.length_append]; omega
    · exact hnew m dd hh hS.dropLast

/-- a byte of a text -/
theorem r_idxs {t : TypeId} {x y : Operand} {s : ByteArray} {k : IntKind} {i : Int} {j c : Nat} (ho : o.op = .index t x y) (ht : P.underlying t = some .string) (hx : Ev n l x (.string s)) (hy : Ev n l y (.int k i)) (hj : i = (j : Int)) (hc : s.data.toList[j]? = some c.toUInt8) (hc2 : c < 256) : Rn P o n l C (.int .u8 (c : Int)) := by
  intro G D w _; unfold execOp; rw [ho]; subst hj
  have h1 : (0 : Int) ≤ j := by omega
  have hs : s[j]? = some c.toUInt8 := by
    obtain ⟨hlt, he⟩ := List.getElem?_eq_some_iff.1 hc
    have hlt' : j < s.size := by have h5 := hlt; rw [Array.length_toList] at h5; exact h5
    rw [getElem?_pos s j hlt']
    congr 1
  have hm : c.toUInt8.toNat = c := Nat.mod_eq_of_lt hc2
  generalize c.toUInt8 = u at hs hm
  subst hm
  simp [hx G D, hy G D, Instr.index, asIntOf, run_underlying ht, hs]
/-- a literal row of whole numbers -/
def Evp (n : Nat) (l : Asc) : List (Nat × Operand) → List (Nat × Value) → Prop
  | [], [] => True
  | (i, x) :: xs, (j, v) :: vs => i = j ∧ Ev n l x v ∧ Evp n l xs vs
  | _, _ => False
theorem Evp.map : ∀ {xs : List (Nat × Operand)} {vs : List (Nat × Value)}, Evp n l xs vs → xs.map (fun p => (p.1, (fr n l G D).eval p.2)) = vs
  | [], [], _ => rfl
  | (i, x) :: xs, (j, v) :: vs, ⟨h, h2, hs⟩ => by rw [List.map_cons, Evp.map hs]; simp only; rw [h2 G D, h]
theorem s_lit {t e : TypeId} {k : IntKind} {len by_ d : Nat} {xs : List (Nat × Operand)} {vs : List (Nat × Value)} {L : List Nat} (hg : o.guard = none) (hd : o.dst = some d) (ho : o.op = .buildSlice t len xs.toArray) (ht : P.underlying t = some (.slice e)) (hi : TI P e (.int k 0) 1 by_)
    (hx : Evp n l xs vs) (hlen : L.length = len) (hsm : len ≤ 1000) (hfill : Instr.fill (fun i => some (i * 1, 1)) (encN k (List.replicate len 0)) vs = some (encN k L)) (hS : St w0 S h w)
    (kk : ∀ b w', w.heap.size ≤ b → Below w.heap.size w w' → St w0 S (h ++ [(b, .cells (encN k L) e (0, 0))]) w' → wpList P ops Q rest (fr n ((d, .slice (some ⟨b, 0, none⟩) len len) :: l) G D) w') : wpList P ops Q (o :: rest) (fr n l G D) w := by
  obtain ⟨i, hi1, hi2, hi3, hi4⟩ := info_parts hi
  have hz : (zeroValue e).run P w = .ok (.int k 0) w := by simp [zeroValue, typeInfo, hi1, hi2]
  have hmap := hx.map (G := G) (D := D)
  have hzero : (Array.range len).map (fun j => (Value.int k 0).cells[j % (Value.int k 0).cells.size]!) = encN k (List.replicate len 0) := by
    apply Array.ext_getElem?
    intro j
    simp only [encN, Value.cells]
    rcases Nat.lt_or_ge j len with hj | hj
    · simp [hj, Nat.mod_one]
    · simp [Nat.not_lt.2 hj]
  refine s_run hg hd (v := .slice (some ⟨w.heap.size, 0, none⟩) len len) (w' := w.alloc (.cells (encN k L) e)) ?_ (kk _ _ (Nat.le_refl _) ((Below.refl _ w).alloc (Nat.le_refl _) _) (hS.alloc _))
  unfold execOp; rw [ho]
  have hsm' : ¬ 16777216 < len := by omega
  simp only [List.map_toArray, hmap]
  by_cases h0 : len = 0
  · subst h0
    have hfill0 : Instr.fill (fun i => some (i * 1, 1)) #[] vs = some (encN k L) := by simpa [encN] using hfill
    simp [Instr.buildSlice, run_underlying ht, run_sizeOf hi, newRow]
    simp only [Nat.mul_one] at hfill0
    simp [Array.range_zero', hfill0]
  · simp [Instr.buildSlice, run_underlying ht, run_sizeOf hi, newRow, hsm', h0, hz]
    simp only [Nat.mul_one] at hfill
    rw [hzero, hfill]
    simp
theorem Gr.of_row {k : IntKind} {T : TypeId} {b cap : Nat} {L : List Nat} (h1 : cap = L.length) : Gr k T (some ⟨b, 0, none⟩) cap L [(b, .cells (encN k L) T (0, 0))] :=
  .inr ⟨b, [], rfl, by rw [List.append_nil], by simp; omega, by omega⟩
theorem Rd.none_nil {k : IntKind} {cap : Nat} {A : List Nat} (hr : Rd w k none cap A) : A = [] := by
  cases A with
  | nil => rfl
  | cons x r => have := (hr.at_ 0 (by simp)).1; cases this
theorem r_eqnil_b {t u e : TypeId} {x y : Operand} {a : Option Addr} {p q : Nat} {b : Bool} (ho : o.op = .binOp .eql t x y u) (ht : P.underlying t = some (.slice e)) (hx : Ev n l x (.slice a p q)) (hy : Ev n l y (.slice none 0 0)) (hb : a.isNone = b) : Rn P o n l C (.bool b) := by
  subst hb; exact r_eqnil ho ht hx hy
theorem r_nenil_b {t u e : TypeId} {x y : Operand} {a : Option Addr} {p q : Nat} {b : Bool} (ho : o.op = .binOp .neq t x y u) (ht : P.underlying t = some (.slice e)) (hx : Ev n l x (.slice a p q)) (hy : Ev n l y (.slice none 0 0)) (hb : (!a.isNone) = b) : Rn P o n l C (.bool b) := by
  subst hb; exact r_nenil ho ht hx hy
/-- what is handed back new, the caller's own: nothing with no room, or the front of a block -/
def Ow (w0 w : World) (k : IntKind) (T : TypeId) (v : Value) (L : List Nat) : Prop :=
  ∃ a cap, v = .slice a L.length cap ∧ Rd w k a cap L ∧ ((L = [] ∧ cap = 0) ∨ ∃ b X, a = some ⟨b, 0, none⟩ ∧ w0.heap.size ≤ b ∧ w.heap[b]? = some (.cells (encN k (L ++ X)) T (0, 0)) ∧ cap ≤ L.length + X.length) ∧ St w0 [] [] w
theorem Ow.of_chunk {k : IntKind} {T : TypeId} {b cap m : Nat} {L X : List Nat} (s : St w0 [] h w) (hm : h[m]? = some (b, .cells (encN k (L ++ X)) T (0, 0))) (h1 : L.length ≤ cap) (h2 : cap ≤ L.length + X.length) (hl : L.length ≤ 9223372036854775807) (hf : ∀ x ∈ L, x ≤ maxK k) :
    Ow w0 w k T (.slice (some ⟨b, 0, none⟩) L.length cap) L := by
  have hmem := List.mem_of_getElem? hm
  refine ⟨_, cap, rfl, rd_own s hm h1 hl hf, .inr ⟨b, X, rfl, ?_, s.own _ hmem, h2⟩, s.none⟩
  have := s.place _ hmem
  simpa using this
theorem Ow.of_chunk0 {k : IntKind} {T : TypeId} {b cap len m : Nat} {L : List Nat} (s : St w0 [] h w) (hm : h[m]? = some (b, .cells (encN k L) T (0, 0))) (h0 : len = L.length) (h1 : cap = L.length) (hl : L.length ≤ 9223372036854775807) (hf : ∀ x ∈ L, x ≤ maxK k) :
    Ow w0 w k T (.slice (some ⟨b, 0, none⟩) len cap) L := by
  subst h0
  exact Ow.of_chunk (X := []) s (by rw [List.append_nil]; exact hm) (by omega) (by simp; omega) hl hf
/-- the front of a row -/
theorem Ow.of_front {k : IntKind} {T : TypeId} {b cap len m t : Nat} {L : List Nat} (s : St w0 [] h w) (hm : h[m]? = some (b, .cells (encN k L) T (0, 0))) (ht : t ≤ L.length) (h0 : len = t) (h1 : t ≤ cap) (h2 : cap ≤ L.length) (hl : L.length ≤ 9223372036854775807) (hf : ∀ x ∈ L, x ≤ maxK k) :
    Ow w0 w k T (.slice (some ⟨b, 0, none⟩) len cap) (L.take t) := by
  have e : len = (L.take t).length := by rw [List.length_take]; omega
  rw [e]
  refine Ow.of_chunk (X := L.drop t) s (by rw [List.take_append_drop]; exact hm) (by rw [List.length_take]; omega) (by rw [List.length_take, List.length_drop]; omega) (by rw [List.length_take]; omega) (fun x hx => hf x (List.mem_of_mem_take hx))
theorem Ow.of_gr {k : IntKind} {T : TypeId} {a : Option Addr} {cap len : Nat} {L : List Nat} {hv h1 : Hp} (g : Gr k T a cap L hv) (s : St w0 [] (h1 ++ hv) w) (h0 : len = L.length) (hl : L.length ≤ 9223372036854775807) (hf : ∀ x ∈ L, x ≤ maxK k) : Ow w0 w k T (.slice a len cap) L := by
  subst h0
  have hr := g.rd s hl hf
  rcases g with ⟨rfl, rfl, rfl, rfl⟩ | ⟨b, X, rfl, rfl, h2, h3⟩
  · exact ⟨none, 0, rfl, hr, .inl ⟨rfl, rfl⟩, s.none⟩
  · have hmem : (b, Obj.cells (encN k (L ++ X)) T (0, 0)) ∈ h1 ++ [(b, Obj.cells (encN k (L ++ X)) T (0, 0))] := by simp
    refine ⟨_, cap, rfl, hr, .inr ⟨b, X, rfl, ?_, s.own _ hmem, h2⟩, s.none⟩
    have := s.place _ hmem
    simpa using this
theorem Ow.empty {k : IntKind} {T : TypeId} {a : Option Addr} (s : St w0 [] h w) : Ow w0 w k T (.slice a 0 0) [] :=
  ⟨a, 0, rfl, ⟨Nat.le_refl _, Nat.zero_le _, fun j hj => by simp at hj, by simp⟩, .inl ⟨rfl, rfl⟩, s.none⟩
/-- a new slice of a callee's, seen from the caller's own beginning -/
theorem Ow.from_ {k : IntKind} {T : TypeId} {v : Value} {L : List Nat} {w1 : World} (s : St w0 [] h w1) (o : Ow w1 w k T v L) : Ow w0 w k T v L := by
  obtain ⟨a, cap, rfl, hr, hx, hs⟩ := o
  refine ⟨a, cap, rfl, hr, ?_, (s.keep hs).none⟩
  rcases hx with hx | ⟨b, X, e1, e2, e3, e4⟩
  · exact .inl hx
  · exact .inr ⟨b, X, e1, Nat.le_trans s.size e2, e3, e4⟩
theorem Ow.later {k : IntKind} {T : TypeId} {v : Value} {L : List Nat} {w1 w2 : World} (o : Ow w0 w1 k T v L) (hb : Below w1.heap.size w1 w2) : Ow w0 w2 k T v L := by
  obtain ⟨a, cap, rfl, hr, hx, hs⟩ := o
  refine ⟨a, cap, rfl, hr.below hb (Nat.le_refl _), ?_, (hs.below hb).none⟩
  rcases hx with hx | ⟨b, X, e1, e2, e3, e4⟩
  · exact .inl hx
  · refine .inr ⟨b, X, e1, e2, ?_, e4⟩
    rw [hb.block]
    · exact e3
    · rcases Nat.lt_or_ge b w1.heap.size with q | q
      · exact q
      · rw [Array.getElem?_eq_none q] at e3; cases e3
/-- a window of a row -/
theorem encW_get {k : IntKind} {L M R : List Nat} {j : Nat} (h : j < M.length) : (encN k (L ++ M ++ R))[L.length + j]? = some (.int k (M.getD j 0 : Nat)) := by
  rw [encN_get (by simp; omega), List.getD_eq_getElem?_getD, List.append_assoc, List.getElem?_append_right (by omega), Nat.add_sub_cancel_left, List.getElem?_append_left h, ← List.getD_eq_getElem?_getD]
theorem encW_set {k : IntKind} {L M R : List Nat} {j x : Nat} (h : j < M.length) : (encN k (L ++ M ++ R)).setIfInBounds (L.length + j) (.int k (x : Int)) = encN k (L ++ M.set j x ++ R) := by
  rw [encN_set, List.append_assoc, List.set_append_right _ _ (by omega), Nat.add_sub_cancel_left, List.set_append_left _ _ h, List.append_assoc]
theorem St.init1 {b : Nat} {o : Obj} (h : w0.heap[b]? = some o) : St w0 [b] [(b, o)] w0 :=
  ⟨rfl, rfl, rfl, Nat.le_refl _, by simpa using h, by simp, by simp, fun _ _ _ => rfl⟩
end Go.Proofs.Ytdmiklegahdafaa.K

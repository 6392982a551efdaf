/- The engine: variables of several cells (structs, arrays), a row of rows that is read. -/
import Derived.Test.YtdmiklegahdafaaKLaw
import Derived.LoopN
namespace Go.Proofs.Ytdmiklegahdafaa.K
open Go Go.RowKit

set_option linter.unusedSimpArgs false
set_option linter.unusedVariables false
variable {P : Program} {ops : Array Oper} {Q : Exit → Act → World → Prop} {K : Act → World → Prop} {rest : List Oper} {o : Oper} {n : Nat} {l : Asc} {G : Nat → Value} {D : List Deferred} {a : Act} {w w0 : World} {S : List Nat} {h : Hp} {C : World → Prop}

theorem k_round {c : Code} {m : Nat} (k : c.wp P (Exit.then (Code.rounds P c Q m) Q) a w) : Code.rounds P c Q (m + 1) a w := k
/-- a variable gets its block -/
theorem s_box {T : TypeId} {x : Operand} {v : Value} {cs : Array Value} {d : Nat} (hg : o.guard = none) (hd : o.dst = some d) (ho : o.op = .box T x) (hx : Ev n l x v) (hc : v.cells = cs) (hS : St w0 S h w)
    (kk : ∀ b w', w.heap.size ≤ b → Below w.heap.size w w' → St w0 S (h ++ [(b, .cells cs T (0, 0))]) w' → wpList P ops Q rest (fr n ((d, .pointer (some ⟨b, 0, none⟩)) :: l) G D) w') : wpList P ops Q (o :: rest) (fr n l G D) w := by
  refine s_run hg hd (v := .pointer (some ⟨w.heap.size, 0, none⟩)) (w' := w.alloc (.cells cs T)) ?_ (kk _ _ (Nat.le_refl _) ((Below.refl _ w).alloc (Nat.le_refl _) _) (hS.alloc _))
  unfold execOp; rw [ho]
  simp [hx G D, Instr.box, newVar, newRow, hc]
theorem s_alloc {T : TypeId} {z : Value} {sz by_ d : Nat} {cs : Array Value} (hg : o.guard = none) (hd : o.dst = some d) (ho : o.op = .alloc T) (hi : TI P T z sz by_) (hc : z.cells = cs) (hS : St w0 S h w)
    (kk : ∀ b w', w.heap.size ≤ b → Below w.heap.size w w' → St w0 S (h ++ [(b, .cells cs T (0, 0))]) w' → wpList P ops Q rest (fr n ((d, .pointer (some ⟨b, 0, none⟩)) :: l) G D) w') : wpList P ops Q (o :: rest) (fr n l G D) w := by
  obtain ⟨i, hi1, hi2, hi3, hi4⟩ := info_parts hi
  have hz : (zeroValue T).run P w = .ok z w := by simp [zeroValue, typeInfo, hi1, hi2]
  refine s_run hg hd (v := .pointer (some ⟨w.heap.size, 0, none⟩)) (w' := w.alloc (.cells cs T)) ?_ (kk _ _ (Nat.le_refl _) ((Below.refl _ w).alloc (Nat.le_refl _) _) (hS.alloc _))
  unfold execOp; rw [ho]
  simp [Instr.alloc, hz, newVar, newRow, hc]
theorem r_field {s : TypeId} {x : Operand} {i b q qq : Nat} {fs : Array Field} {f : Field} {z : Value} {by_ : Nat} (ho : o.op = .fieldAddr s x i) (hu : P.underlying s = some (.struct fs)) (hf : fs[i]? = some f) (hi : TI P f.type z 1 by_) (hx : Ev n l x (.pointer (some ⟨b, q, none⟩))) (hq : q + f.offset = qq) :
    Rn P o n l C (.pointer (some ⟨b, qq, none⟩)) := by
  intro G D w _; unfold execOp; rw [ho]; subst hq
  simp [hx G D, Instr.fieldAt, run_underlying hu, hf, Instr.sureAddr, fieldPlace, run_sizeOf hi, add_none]
theorem r_ixa {t e : TypeId} {x y : Operand} {b q qq N by_ : Nat} {k : IntKind} {i : Int} {j : Nat} {z : Value} (ho : o.op = .indexAddr t x y) (hu : P.underlying t = some (.array N e)) (hi : TI P e z 1 by_) (hx : Ev n l x (.pointer (some ⟨b, q, none⟩))) (hy : Ev n l y (.int k i)) (hj : i = (j : Int)) (hlt : j < N) (hq : q + j = qq) :
    Rn P o n l C (.pointer (some ⟨b, qq, none⟩)) := by
  intro G D w _; unfold execOp; rw [ho]; subst hq; subst hj
  have h1 : (0 : Int) ≤ (j : Int) ∧ (j : Int) < (N : Int) := by omega
  simp [hx G D, hy G D, Instr.indexAt, asIntOf, run_underlying hu, run_sizeOf hi, Instr.sureAddr, h1, add_none, hlt]
theorem run_cells {b q : Nat} {c : Array Value} {T : TypeId} (hb : w.heap[b]? = some (.cells c T (0, 0))) : ∀ (m i : Nat) (acc : Array Value), q + i + m ≤ c.size →
    (loadCellsFrom ⟨b, q, none⟩ i m acc).run P w = .ok (acc ++ (c.toList.drop (q + i)).take m) w
  | 0, i, acc, _ => by simp [loadCellsFrom]
  | m + 1, i, acc, h => by
    have hlt : q + i < c.size := by omega
    have hc : w.cell? ⟨b, q + i, none⟩ = some c[q + i] := by simp [World.cell?, hb, hlt]
    have e : (c.toList.drop (q + i)).take (m + 1) = c[q + i] :: (c.toList.drop (q + (i + 1))).take m := by
      rw [List.drop_eq_getElem_cons (by simpa using hlt), List.take_succ_cons]
      simp [Nat.add_assoc]
    simp only [loadCellsFrom, add_none, Sem.run_bind]
    have hld : (load ⟨b, q + i, none⟩).run P w = .ok c[q + i] w := by simp [load, Sem.run, hc]
    rw [hld, Result.andThen_ok, run_cells hb m (i + 1) _ (by omega), e]
    simp
/-- a variable of several cells, whole -/
theorem r_loadA {t : TypeId} {x : Operand} {b sz by_ : Nat} {z : Value} {c : Array Value} {T : TypeId} (ho : o.op = .load t x) (ha : (match P.underlying t with | some (.struct _) | some (.array ..) => true | _ => false) = true) (hi : TI P t z sz by_) (hsz : c.size = sz) (hx : Ev n l x (.pointer (some ⟨b, 0, none⟩)))
    (hc : ∀ w, C w → w.heap[b]? = some (.cells c T (0, 0))) : Rn P o n l C (.agg c) := by
  intro G D w hw; unfold execOp; rw [ho]
  have hb := hc w hw
  have hagg : (isAgg t).run P w = .ok true w := by
    cases hu : P.underlying t with
    | none => rw [hu] at ha; cases ha
    | some u =>
      rw [hu] at ha
      cases u <;> first | (simp [isAgg, run_underlying hu]; done) | cases ha
  have hr := run_cells (P := P) (q := 0) hb sz 0 #[] (by omega)
  have e : (#[] : Array Value) ++ (c.toList.drop (0 + 0)).take sz = c := by
    subst hsz
    rw [Nat.add_zero, List.drop_zero, List.take_of_length_le (by simp)]
    simp
  rw [e] at hr
  simp [hx G D, Instr.loadAt, Instr.sureAddr, loadVar, hagg, run_sizeOf hi, loadCells, hr]
theorem St.block {m b : Nat} {ob : Obj} (hm : h[m]? = some (b, ob)) : ∀ w, St w0 S h w → w.heap[b]? = some ob := fun w s => s.own _ (List.mem_of_getElem? hm)

/-- a row of rows of numbers, read only -/
structure RdS (w : World) (a : Option Addr) (LL : List (Option Addr × Nat × List Nat)) : Prop where
  most : LL.length ≤ 9223372036854775807
  at_ : ∀ j, j < LL.length → a = some ⟨(adr a).block, (adr a).off, none⟩ ∧ (adr a).block < w.heap.size ∧
    w.cell? ⟨(adr a).block, (adr a).off + j, none⟩ = some (.slice (LL.getD j (none, 0, [])).1 (LL.getD j (none, 0, [])).2.2.length (LL.getD j (none, 0, [])).2.1) ∧ Rd w .u32 (LL.getD j (none, 0, [])).1 (LL.getD j (none, 0, [])).2.1 (LL.getD j (none, 0, [])).2.2
theorem r_ixS {t e : TypeId} {x y : Operand} {ad : Option Addr} {cap len : Nat} {A : List (Option Addr × Nat × List Nat)} {k : IntKind} {i : Int} {j by_ : Nat} {z : Value} (ho : o.op = .indexAddr t x y) (ht : P.underlying t = some (.slice e)) (hi : TI P e z 1 by_)
    (hx : Ev n l x (.slice ad len cap)) (hy : Ev n l y (.int k i)) (hr : RdS w0 ad A) (hl : A.length = len) (hj : i = (j : Int)) (hlt : j < len) : Rn P o n l C (.pointer (some ⟨(adr ad).block, (adr ad).off + j, none⟩)) := by
  subst hl
  have := (hr.at_ j hlt).1
  rw [this] at hx
  exact r_ixs ho ht hi hx hy hj hlt (by omega)
theorem cell_rdS {ad : Option Addr} {A : List (Option Addr × Nat × List Nat)} (hr : RdS w0 ad A) {j : Nat} (hj : j < A.length) (hS : (adr ad).block ∉ S) : ∀ w, St w0 S h w → w.cell? ⟨(adr ad).block, (adr ad).off + j, none⟩ = some (.slice (A.getD j (none, 0, [])).1 (A.getD j (none, 0, [])).2.2.length (A.getD j (none, 0, [])).2.1) := by
  intro w s
  obtain ⟨_, h2, h3, _⟩ := hr.at_ j hj
  rw [← h3]
  exact World.cell?_of_block (w := w0) (s.old _ h2 hS)
theorem Rd.cell_now {k : IntKind} {ad : Option Addr} {cap : Nat} {A : List Nat} (hr : Rd w k ad cap A) {j : Nat} (hj : j < A.length) : ∀ w', w' = w → w'.cell? ⟨(adr ad).block, (adr ad).off + j, none⟩ = some (.int k (A.getD j 0 : Nat)) := by
  rintro w' rfl
  exact (hr.at_ j hj).2.2
theorem St.seg {hv : Hp} {q : Nat × Obj} (s : St w0 S (h ++ hv ++ [q]) w) : St w0 S ((h ++ [q]) ++ hv) w := by
  refine s.perm ?_
  rw [List.append_assoc, List.append_assoc]
  exact List.Perm.append_left _ List.perm_append_comm
theorem s_storeB {t : TypeId} {x y : Operand} {b q m : Nat} {v u : Value} {c c' : Array Value} {T : TypeId} {h' : Hp} (hg : o.guard = none) (hd : o.dst = none) (ho : o.op = .store t x y) (h1 : One P t = true)
    (hx : Ev n l x (.pointer (some ⟨b, q, none⟩))) (hy : Ev n l y v) (hv : oneC v = true) (hS : St w0 S h w) (hm : h[m]? = some (b, .cells c T (0, 0))) (hq : c[q]? = some u) (hc : c.setIfInBounds q v = c') (hh : h.set m (b, .cells c' T (0, 0)) = h')
    (k : ∀ w', St w0 S h' w' → St w [b] [(b, .cells c' T (0, 0))] w' → wpList P ops Q rest (fr n l G D) w') : wpList P ops Q (o :: rest) (fr n l G D) w := by
  have hcell := St.cell_own hm hq w hS
  have hb := hS.own _ (List.mem_of_getElem? hm)
  have hfz : w.frozen? ⟨b, q, none⟩ = false := by simp only at hb; simp [World.frozen?, hb]
  refine s_run0 (w' := w.setCell ⟨b, q, none⟩ v) hg hd ?_ (k _ ?_ ?_)
  · unfold execOp; rw [ho]
    simp [hx G D, hy G D, Instr.storeAt, Instr.sureAddr, run_store h1 hv hcell hfz]
  · subst hh hc; exact hS.setCell v hm
  · subst hc; exact (St.init1 hb).setCell (m := 0) v rfl
def Away (ad : Option Addr) (L : List Nat) (cap b : Nat) : Prop := ¬ (L = [] ∧ cap = 0) → (adr ad).block ≠ b
def Away1 (ad : Option Addr) (L : List Nat) (b : Nat) : Prop := L ≠ [] → (adr ad).block ≠ b
theorem Ow.apart {w' : World} {k : IntKind} {T : TypeId} {ad : Option Addr} {len cap m b : Nat} {ob : Obj} {L : List Nat} (ow : Ow w w' k T (.slice ad len cap) L) (s : St w0 S h w) (hm : h[m]? = some (b, ob)) : Away ad L cap b := by
  unfold Away
  intro hL
  obtain ⟨a', c', e, _, hx, _⟩ := ow
  cases e
  have hlt := s.lt (List.mem_of_getElem? hm)
  rcases hx with h1 | ⟨b', X, rfl, h2, _⟩
  · exact absurd h1 hL
  · simp only [adr, Option.getD_some]
    have : b < w.heap.size := hlt
    omega
theorem Rd.wrote' {w' : World} {k : IntKind} {ad : Option Addr} {cap b : Nat} {h2 : Hp} {L : List Nat} (hr : Rd w k ad cap L) (t : St w [b] h2 w') (hne : Away ad L cap b) : Rd w' k ad cap L :=
  hr.wrote t fun hL => hne fun q => hL q.1
theorem Ow.wrote {w' : World} {k : IntKind} {T : TypeId} {ad : Option Addr} {len cap b : Nat} {h2 h3 : Hp} {L : List Nat} (ow : Ow w0 w k T (.slice ad len cap) L) (t : St w [b] h2 w') (s : St w0 [] h3 w') (hne : Away ad L cap b) : Ow w0 w' k T (.slice ad len cap) L := by
  obtain ⟨a', c', e, hr, hx, hs⟩ := ow
  cases e
  refine ⟨_, _, rfl, hr.wrote' t hne, ?_, s.none⟩
  rcases hx with hx | ⟨b', X, rfl, e2, e3, e4⟩
  · exact .inl hx
  · by_cases hL : L = [] ∧ cap = 0
    · exact .inl hL
    · refine .inr ⟨b', X, rfl, e2, ?_, e4⟩
      have hb := hne hL
      simp only [adr, Option.getD_some] at hb
      rw [t.old b' ?_ (by simpa using hb), e3]
      rcases Nat.lt_or_ge b' w.heap.size with q | q
      · exact q
      · rw [Array.getElem?_eq_none q] at e3; cases e3
/-- what was read before a block was made lies apart from it -/
theorem Rd.apart_new {k : IntKind} {ad : Option Addr} {cap b : Nat} {L : List Nat} (hr : Rd w k ad cap L) (hb : w.heap.size ≤ b) : Away1 ad L b := by
  unfold Away1
  intro hL
  have hlen : 0 < L.length := by
    cases L with
    | nil => exact absurd rfl hL
    | cons _ _ => simp
  have := (hr.at_ 0 hlen).2.1
  omega
/-- a row that is read lies apart from a growing row's blocks -/
def Apart (ad : Option Addr) (L : List Nat) (hv : Hp) : Prop := L ≠ [] → (adr ad).block ∉ hv.map (·.1)
theorem Apart.lit {k : IntKind} {ad : Option Addr} {cap b : Nat} {ob : Obj} {L : List Nat} (hr : Rd w k ad cap L) (hb : w.heap.size ≤ b) : Apart ad L [(b, ob)] := by
  intro hL h
  simp at h
  exact hr.apart_new hb hL h
theorem Rd.grow {w' : World} {k : IntKind} {ad : Option Addr} {cap : Nat} {L : List Nat} {hv hv' : Hp} (hr : Rd w k ad cap L) (t : St w (hv.map (·.1)) hv' w') (hA : Apart ad L hv) : Rd w' k ad cap L := by
  refine ⟨hr.le, hr.most, fun j hj => ?_, hr.fit⟩
  have hL : L ≠ [] := fun e => by subst e; simp at hj
  obtain ⟨h1, h2, _⟩ := hr.at_ j hj
  exact ⟨h1, Nat.lt_of_lt_of_le h2 t.size, St.cell_rd hr hj (hA hL) w' t⟩
theorem Apart.grow {w' : World} {k : IntKind} {ad : Option Addr} {cap : Nat} {L : List Nat} {hv hv' : Hp} (hr : Rd w k ad cap L) (t : St w (hv.map (·.1)) hv' w') (hA : Apart ad L hv) : Apart ad L hv' := by
  intro hL hin
  obtain ⟨p, hp, e⟩ := List.mem_map.1 hin
  have hlen : 0 < L.length := by
    cases L with
    | nil => exact absurd rfl hL
    | cons _ _ => simp
  obtain ⟨_, h2, _⟩ := hr.at_ 0 hlen
  rcases t.place p hp with q | q
  · exact hA hL (e ▸ q)
  · omega
theorem Apart.new {w' : World} {k : IntKind} {T : TypeId} {ad : Option Addr} {len cap : Nat} {L : List Nat} {h1 hv : Hp} (ow : Ow w w' k T (.slice ad len cap) L) (s : St w0 S (h1 ++ hv) w) : Apart ad L hv := by
  intro hL hin
  obtain ⟨a', c', e, _, hx, _⟩ := ow
  cases e
  obtain ⟨p, hp, e⟩ := List.mem_map.1 hin
  have hlt := s.lt (List.mem_append_right h1 hp)
  rcases hx with ⟨h1, _⟩ | ⟨b', X, rfl, h2, _⟩
  · exact hL h1
  · simp only [adr, Option.getD_some] at e
    omega
theorem Apart.front {ad : Option Addr} {L R X : List Nat} {hv : Hp} (e : L = R ++ X) (h : Apart ad L hv) : Apart ad R hv := fun hR => h fun q => hR (by rw [q] at e; exact (List.append_eq_nil_iff.1 e.symm).1)
theorem Apart.old {k : IntKind} {ad : Option Addr} {cap : Nat} {L : List Nat} {h1 hv : Hp} (hr : Rd w0 k ad cap L) (s : St w0 [] (h1 ++ hv) w) : Apart ad L hv := by
  intro hL hin
  obtain ⟨p, hp, e⟩ := List.mem_map.1 hin
  have hlen : 0 < L.length := by
    cases L with
    | nil => exact absurd rfl hL
    | cons _ _ => simp
  obtain ⟨_, h2, _⟩ := hr.at_ 0 hlen
  have := s.place p (List.mem_append_right _ hp)
  simp at this
  omega
theorem Apart.none {ad : Option Addr} {L : List Nat} : Apart ad L [] := fun _ h => by cases h
theorem getD_take {A : List Nat} {k j : Nat} (h : j < k) : (A.take k).getD j 0 = A.getD j 0 := by
  rw [List.getD_eq_getElem?_getD, List.getElem?_take_of_lt h, ← List.getD_eq_getElem?_getD]
theorem Ow.gr_front {k : IntKind} {T : TypeId} {ad : Option Addr} {cap k' : Nat} {L : List Nat} {hv h1 : Hp} (g : Gr k T ad cap L hv) (s : St w0 [] (h1 ++ hv) w) (hk : k' ≤ L.length) (hl : L.length ≤ 9223372036854775807) (hf : ∀ x ∈ L, x ≤ maxK k) : Ow w0 w k T (.slice ad k' cap) (L.take k') := by
  have e : k' = (L.take k').length := by rw [List.length_take]; omega
  have hr := g.rd s hl hf
  rcases g with ⟨rfl, rfl, rfl, rfl⟩ | ⟨b, X, rfl, rfl, h2, h3⟩
  · have : k' = 0 := by simpa using hk
    subst this
    exact Ow.empty s
  · have hmem : (b, Obj.cells (encN k (L ++ X)) T (0, 0)) ∈ h1 ++ [(b, Obj.cells (encN k (L ++ X)) T (0, 0))] := by simp
    have hb := s.place _ hmem
    refine ⟨_, cap, by rw [← e], hr.take hk (by omega), .inr ⟨b, L.drop k' ++ X, rfl, by simpa using hb, ?_, ?_⟩, s.none⟩
    · rw [← List.append_assoc, List.take_append_drop]; exact s.own _ hmem
    · rw [List.length_append, List.length_take, List.length_drop]; omega
theorem list_eq {A B : List Nat} (h : A.length = B.length) (e : ∀ j, j < A.length → A.getD j 0 = B.getD j 0) : A = B := by
  apply List.ext_getElem h
  intro i h1 h2
  have := e i h1
  simpa [List.getD_eq_getElem?_getD, h1, h2] using this
theorem nm_trim {A : List Nat} {k m : Nat} (lA : Lim A) (hk : k ≤ A.length) (hm : A.length ≤ m) (hm2 : m ≤ 8192) (h : k = 0 ∨ A.getD (k - 1) 0 ≠ 0) : Nm (A.take k) := by
  refine ⟨lim_take lA k, ?_, by rw [List.length_take]; omega⟩
  rcases h with h | h
  · subst h; exact .inl (by simp)
  · rcases Nat.eq_zero_or_pos k with q | q
    · subst q; exact .inl (by simp)
    · refine .inr ?_
      rw [List.length_take, Nat.min_eq_left hk, List.getD_eq_getElem?_getD, List.getElem?_take_of_lt (by omega), ← List.getD_eq_getElem?_getD]
      exact h
theorem r_cmp_d {op : BinOp} {t u : TypeId} {x y : Operand} {k : IntKind} {a b : Int} {p : Prop} [Decidable p] (ho : o.op = .binOp op t x y u) (hop : cmpOp op = true) (hx : Ev n l x (.int k a)) (hy : Ev n l y (.int k b)) (hc : p ↔ cmpP op a b) : Rn P o n l C (.bool (decide p)) := by
  by_cases h : p
  · rw [decide_eq_true h]; exact r_cmp_t ho hop hx hy (hc.1 h)
  · rw [decide_eq_false h]; exact r_cmp_f ho hop hx hy (fun q => h (hc.2 q))
theorem r_eqb_k {t u : TypeId} {x y : Operand} {a b r : Bool} (ho : o.op = .binOp .eql t x y u) (ht : P.underlying t = some .bool) (hx : Ev n l x (.bool a)) (hy : Ev n l y (.bool b)) (hr : (a == b) = r) : Rn P o n l C (.bool r) := hr ▸ r_eqb ho ht hx hy
theorem r_neb_k {t u : TypeId} {x y : Operand} {a b r : Bool} (ho : o.op = .binOp .neq t x y u) (ht : P.underlying t = some .bool) (hx : Ev n l x (.bool a)) (hy : Ev n l y (.bool b)) (hr : (!(a == b)) = r) : Rn P o n l C (.bool r) := hr ▸ r_neb ho ht hx hy
end Go.Proofs.Ytdmiklegahdafaa.K

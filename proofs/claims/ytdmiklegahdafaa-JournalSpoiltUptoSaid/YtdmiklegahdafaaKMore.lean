/- The engine: appends to rows of numbers among pieces, results that lie in memory, small ends. -/
import Derived.Test.YtdmiklegahdafaaKMap
import Derived.Test.YtdmiklegahdafaaKPtr
import Derived.Test.YtdmiklegahdafaaKWin
import Derived.Laws.Rows
import Derived.Laws.ResultCell
import Derived.Laws.StructEq
namespace Go.Proofs.Ytdmiklegahdafaa.K
open Go Go.RowKit

set_option linter.unusedSimpArgs false
set_option linter.unusedVariables false
variable {P : Program} {ops : Array Oper} {Q Q' : Exit → Act → World → Prop} {K : Act → World → Prop} {rest : List Oper} {o : Oper} {n : Nat} {l : Asc} {G : Nat → Value} {D : List Deferred} {a : Act} {w w' w0 : World} {S : List Nat} {h : Hp} {C : World → Prop} {R : Ending → World → Prop} {fn : Func} {T : TypeId}

theorem Rn.asSl {ad ad' : Option Addr} {p q p' q' : Nat} (e0 : ad = ad') (e1 : p = p') (e2 : q = q') (R : Rn P o n l C (.slice ad p q)) : Rn P o n l C (.slice ad' p' q') := by subst e0 e1 e2; exact R
theorem Sl.of_enc {k : IntKind} {b cap : Nat} {A : List Nat} {f : Nat × Nat} (h1 : A.length ≤ cap) (h2 : A.length ≤ 9223372036854775807) (hf : ∀ x ∈ A, x ≤ maxK k) : Sl k (some ⟨b, 0, none⟩) cap A [(b, .cells (encN k A) T f)] :=
  ⟨h1, h2, hf, fun j hj => ⟨rfl, _, T, f, List.mem_singleton.2 rfl, by show (encN k A)[0 + j]? = _; rw [Nat.zero_add, encN_get hj]⟩⟩
theorem put_arr {k : IntKind} {L Z : List Nat} (h : Z.length = L.length) : put (encN k Z) 0 (ints k L) = encN k L := by
  have := put_ints (k := k) L [] Z (by omega)
  simpa [List.drop_of_length_le (Nat.le_of_eq h)] using this
theorem s_appendG {t e : TypeId} {k : IntKind} {by_ d : Nat} {ts : Array TypeId} {x y : Operand} {a ax : Option Addr} {len cap lenx capx : Nat} {L A : List Nat} {hv hx_ : Hp} {Lp : List Hp} (i : Nat) (hg : o.guard = none) (hd : o.dst = some d)
    (ho : o.op = .call { callee := .builtin .append, args := #[x, y], argTypes := ts }) (hts : ts[0]? = some t) (hts2 : ∃ t2 e2, ts[1]? = some t2 ∧ P.underlying t2 = some (.slice e2)) (ht : P.underlying t = some (.slice e)) (hi : TI P e (.int k 0) 1 by_) (hby : by_ ≤ 8) (hby0 : 1 ≤ by_)
    (hx : Ev n l x (.slice a len cap)) (hy : Ev n l y (.slice ax lenx capx)) (hlx : A.length = lenx) (hG : Gr k e a cap L hv) (hS : St w0 S (fl Lp) w) (hll : len = L.length) (hr : Sl k ax capx A hx_) (hh : Has w hx_) (hp : Lp[i]? = some hv) (hlen : L.length + A.length ≤ 1000000000000)
    (kk : ∀ a' cap' hv' w', Gr k e a' cap' (L ++ A) hv' → St w0 S (fl (Lp.set i hv')) w' → wpList P ops Q rest (fr n ((d, .slice a' (len + lenx) cap') :: l) G D) w') : wpList P ops Q (o :: rest) (fr n l G D) w := by
  subst hlx hll
  have hrun : ∀ r w', (Builtin.append_ ts o.type #[.slice a L.length cap, .slice ax A.length capx]).run P w = .ok r w' → (execOp (fr n l G D).eval o).run P w = .ok (.value r) w' := by
    intro r w' hh
    unfold execOp; rw [ho]
    simp [resolve, invoke, builtin, hx G D, hy G D, hh]
  have hrd := hr.rd_has hh
  have hself := hS.give [i] (xs := [hv]) (by simp [hp]) (by simp)
  have fin : ∀ {hv' w'}, St w (keys (fl [hv])) (fl ([hv'] ++ [])) w' → St w0 S (fl (Lp.set i hv')) w' := fun t => hS.callL [i] (xs := [hv]) (by simp [hp]) (by simp) t rfl (by simp [setAll])
  have hnew : ∀ m dd, (Builtin.append_ ts o.type #[.slice a L.length cap, .slice ax A.length capx]).run P w = .ok (.slice (some ⟨w.heap.size, 0, none⟩) (L.length + A.length) (L.length + A.length + m)) ({ w with drawn := w.drawn + dd }.alloc (.cells (encN k (L ++ A ++ List.replicate m 0)) e)) →
      wpList P ops Q (o :: rest) (fr n l G D) w := by
    intro m dd hh
    have hF : St w (keys (fl [hv])) (fl ([[(w.heap.size, .cells (encN k (L ++ A ++ List.replicate m 0)) e (0, 0))]] ++ [])) ({ w with drawn := w.drawn + dd }.alloc (.cells (encN k (L ++ A ++ List.replicate m 0)) e)) := by
      have h0 : St w [] [] { w with drawn := w.drawn + dd } := ⟨rfl, rfl, rfl, Nat.le_refl _, by simp, by simp, by simp, fun _ _ _ => rfl⟩
      exact (h0.alloc _).wide (by simp)
    refine s_run hg hd (hrun _ _ hh) (kk _ _ _ _ (.inr ⟨w.heap.size, List.replicate m 0, rfl, rfl, ?_, ?_⟩) (fin hF))
    · rw [List.length_append, List.length_replicate]; omega
    · rw [List.length_append]; omega
  rcases hG with ⟨rfl, rfl, rfl, rfl⟩ | ⟨b, X, rfl, rfl, hc1, hc2⟩
  · rcases run_append (b := 0) (X := []) (ty := o.type) hts hts2 ht hi hby hby0 (.inl ⟨rfl, rfl, rfl⟩) hrd hlen with ⟨w', hh, hle, hw⟩ | ⟨m, dd, hh⟩
    · have hA : A = [] := List.length_eq_zero_iff.1 (by simp only [List.length_nil] at hle; omega)
      subst hA
      rcases hw with ⟨_, rfl⟩ | ⟨b', hb', _⟩
      · exact s_run hg hd (hrun _ _ hh) (kk _ _ _ _ .nil (fin (by simpa using hself)))
      · cases hb'
    · exact hnew m dd hh
  · have hown := hS.own (b, _) (mem_fl hp (List.mem_singleton.2 rfl))
    rcases run_append (b := b) (X := X) (ty := o.type) hts hts2 ht hi hby hby0 (.inr ⟨rfl, hown, hc1, hc2⟩) hrd hlen with ⟨w', hh, hle, hw⟩ | ⟨m, dd, hh⟩
    · rcases hw with ⟨rfl, rfl⟩ | ⟨b', _, rfl, h2, h3, h4, h5, h6, h7⟩
      · refine s_run hg hd (hrun _ _ hh) (kk _ _ _ _ (.inr ⟨b, X, rfl, rfl, by simpa using hc1, by simpa using hc2⟩) (fin (by simpa using hself)))
      · have hF := hself.set (m := 0) (b := b') (o := .cells (encN k (L ++ X)) e (0, 0)) rfl h3 h4 h5 h6 h2 h7
        refine s_run hg hd (hrun _ _ hh) (kk _ _ _ _ (.inr ⟨b', X.drop A.length, rfl, rfl, ?_, ?_⟩) (fin (by simpa using hF)))
        · simp only [List.length_append, List.length_drop]; omega
        · simp only [List.length_append]; omega
    · exact hnew m dd hh
theorem agg_desc {t : TypeId} (ha : (match P.underlying t with | some (.struct _) | some (.array ..) => true | _ => false) = true) : ∃ d, P.underlying t = some d ∧ (match d with | .struct _ | .array _ _ => true | _ => false) = true := by
  cases hu : P.underlying t with
  | none => rw [hu] at ha; cases ha
  | some d => rw [hu] at ha; exact ⟨d, rfl, by cases d <;> first | rfl | exact ha⟩
theorem ti_size {t : TypeId} {z : Value} {sz by_ : Nat} (h : TI P t z sz by_) : (P.info? t).map (·.size) = some sz := by
  obtain ⟨i, hi1, _, hi3, _⟩ := info_parts h
  rw [hi1]; simp [hi3]
/-- one result, in memory -/
theorem k_retc1 {r m b sz by_ : Nat} {ty : TypeId} {z : Value} {c : Array Value} (hres : fn.results = #[.cell r ty]) (hl : look l r = some (.pointer (some ⟨b, 0, none⟩))) (hn : Nat.blt r n = true) (ha : (match P.underlying ty with | some (.struct _) | some (.array ..) => true | _ => false) = true) (hi : TI P ty z sz by_) (hsz : c.size = sz) (hS : St w0 S h w) (hm : h[m]? = some (b, .cells c T (0, 0)))
    (hR : R (.returned (.agg c)) w) : bodyPost P fn R .ret (fr n l G) w := by
  obtain ⟨d, hu, hd⟩ := agg_desc ha
  have hb := hS.own _ (List.mem_of_getElem? hm)
  exact ⟨rfl, _, results_cell_row hres _ w b T c (0, 0) d (fr_getD hn hl) hb hu (by cases d <;> first | rfl | exact hd) (by rw [ti_size hi, hsz]), hR⟩
theorem k_retc2 {r u m b sz by_ : Nat} {ty : TypeId} {z v : Value} {c : Array Value} (hres : fn.results = #[.cell r ty, .tmp u]) (hl : look l r = some (.pointer (some ⟨b, 0, none⟩))) (hn : Nat.blt r n = true) (hl2 : look l u = some v) (hn2 : Nat.blt u n = true) (ha : (match P.underlying ty with | some (.struct _) | some (.array ..) => true | _ => false) = true) (hi : TI P ty z sz by_) (hS : St w0 S h w) (hm : h[m]? = some (b, .cells c T (0, 0))) (hsz : c.size = sz)
    (hR : R (.returned (.tuple #[.agg c, v])) w) : bodyPost P fn R .ret (fr n l G) w := by
  obtain ⟨d, hu, hd⟩ := agg_desc ha
  have hb := hS.own _ (List.mem_of_getElem? hm)
  refine ⟨rfl, .tuple #[.agg c, v], ?_, hR⟩
  have h1 : (fr n l G).tmps.getD r undef = .pointer (some ⟨b, 0, none⟩) := fr_getD hn hl
  have h2 : (fr n l G).tmps.getD u undef = v := fr_getD hn2 hl2
  rw [results_cell_tmp hres, h1, h2]
  have := run_loadVar_row (P := P) w b T ty c (0, 0) d hb hu (by cases d <;> first | rfl | exact hd) (by rw [ti_size hi, hsz])
  simp [asAddr, this]
theorem getD_fit {A : List Nat} {X : Nat} (h : ∀ x ∈ A, x ≤ X) (j : Nat) : A.getD j 0 ≤ X := by
  rcases Nat.lt_or_ge j A.length with q | q
  · rw [List.getD_eq_getElem?_getD, List.getElem?_eq_getElem q]; exact h _ (List.getElem_mem q)
  · rw [List.getD_eq_getElem?_getD, List.getElem?_eq_none q]; exact Nat.zero_le _
theorem Sl.none_nil {k : IntKind} {cap : Nat} {A : List Nat} {hv : Hp} (hr : Sl k none cap A hv) : A = [] := by
  cases A with
  | nil => rfl
  | cons x r => have := (hr.at_ 0 (by simp)).1; cases this
theorem strL_inj {s t : ByteArray} (h : strL s = strL t) : s = t := by
  have e : s.data.toList = t.data.toList := by
    unfold strL at h
    exact List.map_inj_right (fun x y q => UInt8.toNat_inj.1 q) |>.1 h
  have e2 : s.data = t.data := Array.ext' e
  cases s; cases t; simp at e2; rw [e2]
theorem strL_take (s : ByteArray) (k : Nat) : strL (s.extract 0 k) = (strL s).take k := by
  unfold strL
  rw [ByteArray.data_extract, Array.toList_extract]
  simp [List.extract_eq_take_drop, List.map_take]
theorem pre_eq (s t : ByteArray) (k : Nat) : ((s.extract 0 k).toList == t.toList) = decide (strL t = (strL s).take k) := by
  rw [← strL_take]
  by_cases h : s.extract 0 k = t
  · rw [str_same h, h]; simp
  · have h1 : ¬ strL t = strL (s.extract 0 k) := fun q => h (strL_inj q).symm
    rw [decide_eq_false h1, ← Bool.not_eq_true]
    intro q
    apply h
    rw [← beq_toListBytes] at q
    exact (MapKept.bytes_beq _ _).1 q
theorem getD_get {A : List Nat} {j : Nat} (h : j < A.length) : A.getD j 0 = A[j] := by simp [List.getD_eq_getElem?_getD, h]
/-- a file's name -/
def okC (c : Nat) : Bool := (decide (97 ≤ c) && decide (c ≤ 122)) || (decide (48 ≤ c) && decide (c ≤ 57)) || decide (c = 46) || decide (c = 45) || decide (c = 95)
def okName (s : ByteArray) : Bool := decide (1 ≤ s.size) && decide (s.size ≤ 64) && (strL s).all okC
theorem okName_len {s : ByteArray} (h : s.size < 1 ∨ 64 < s.size) : okName s = false := by
  unfold okName; rcases h with h | h
  · rw [decide_eq_false (show ¬ 1 ≤ s.size by omega)]; rfl
  · rw [decide_eq_false (show ¬ s.size ≤ 64 by omega)]; simp
theorem okName_yes {s : ByteArray} (h1 : 1 ≤ s.size) (h2 : s.size ≤ 64) (h : (strL s).all okC = true) : okName s = true := by
  unfold okName; rw [decide_eq_true h1, decide_eq_true h2, h]; rfl
theorem okName_no {s : ByteArray} {j : Nat} (hj : j < (strL s).length) (h : okC ((strL s).getD j 0) = false) : okName s = false := by
  unfold okName
  have : (strL s).all okC = false := by
    rw [← Bool.not_eq_true]
    intro q
    rw [List.all_eq_true] at q
    have := q _ (List.getElem_mem hj)
    rw [← getD_get hj, h] at this; cases this
  rw [this]; simp
theorem take_eq_succ {A B : List Nat} {i : Nat} (hA : i < A.length) (hB : i < B.length) (h : A.take i = B.take i) (e : A.getD i 0 = B.getD i 0) : A.take (i + 1) = B.take (i + 1) := by
  rw [List.take_succ_eq_append_getElem hA, List.take_succ_eq_append_getElem hB, h, ← getD_get hA, ← getD_get hB, e]
theorem s_asb {b b' : Bool} {d : Nat} (h : b = b') (k : wpList P ops Q rest (fr n ((d, .bool b') :: l) G D) w) : wpList P ops Q rest (fr n ((d, .bool b) :: l) G D) w := by subst h; exact k
theorem t_asb {Q : Act → Prop} {b b' : Bool} {d : Nat} (h : b = b') (k : wpStill P ops w Q rest (fr n ((d, .bool b') :: l) G D)) : wpStill P ops w Q rest (fr n ((d, .bool b) :: l) G D) := by subst h; exact k
theorem q_asb {Q : Act → Prop} {b b' : Bool} {d : Nat} (h : b = b') (k : wpQuiet P ops C Q rest (fr n ((d, .bool b') :: l) G D)) : wpQuiet P ops C Q rest (fr n ((d, .bool b) :: l) G D) := by subst h; exact k
end Go.Proofs.Ytdmiklegahdafaa.K

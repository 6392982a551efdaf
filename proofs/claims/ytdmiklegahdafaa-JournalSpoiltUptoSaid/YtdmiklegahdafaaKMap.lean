/- The engine: a map from names to files: looked up, put, taken away, ranged over. -/
import Derived.Test.YtdmiklegahdafaaKCell
import Derived.MapKept
namespace Go.Proofs.Ytdmiklegahdafaa.K
open Go Go.RowKit

set_option linter.unusedSimpArgs false
set_option linter.unusedVariables false
variable {P : Program} {ops : Array Oper} {Q Q' : Exit → Act → World → Prop} {K : Act → World → Prop} {rest : List Oper} {o : Oper} {n : Nat} {l : Asc} {G : Nat → Value} {D : List Deferred} {a : Act} {w w' w0 : World} {S : List Nat} {h : Hp} {C : World → Prop} {R : Ending → World → Prop} {fn : Func} {T : TypeId}

structure FileM where
  name : ByteArray
  bytes : List Nat
  sure : Nat
def fileV (a : Option Addr) (len cap sure : Nat) : Value := .agg #[.slice a len cap, .int .i64 (sure : Int)]
def lookF : List FileM → ByteArray → Option FileM
  | [], _ => none
  | f :: r, s => if f.name = s then some f else lookF r s
/-- a file's entry and its row -/
def FileH (T : TypeId) (f : FileM) (e : MapEntry) (hv : Hp) : Prop := e.key = .string f.name ∧ ∃ a cap, e.val = fileV a f.bytes.length cap f.sure ∧ Gr .u8 T a cap f.bytes hv
/-- files, entries, rows; of the name `out` the row is elsewhere -/
inductive FilesH (T : TypeId) (out : Option ByteArray) : List FileM → List MapEntry → List Hp → Prop where
  | nil : FilesH T out [] [] []
  | cons {f : FileM} {e : MapEntry} {hv : Hp} {F : List FileM} {es : List MapEntry} {ps : List Hp} (h : e.key = .string f.name ∧ (some f.name ≠ out → FileH T f e hv)) (r : FilesH T out F es ps) (hn : ∀ g ∈ F, g.name ≠ f.name) : FilesH T out (f :: F) (e :: es) (hv :: ps)
/-- the map and the rows of its files -/
def MapH (T : TypeId) (m : Nat) (out : Option ByteArray) (F : List FileM) (hp : Hp) : Prop :=
  ∃ es clk ps, hp = (m, .map es.toArray clk) :: fl ps ∧ FilesH T out F es ps ∧ (es.map (·.born)).Nodup ∧ ∀ e ∈ es, e.born < clk

/-- the same, with the entries' stamps told -/
def MapB (T : TypeId) (m : Nat) (out : Option ByteArray) (F : List FileM) (bs : List Nat) (clk : Nat) (hp : Hp) : Prop :=
  ∃ es ps, hp = (m, .map es.toArray clk) :: fl ps ∧ FilesH T out F es ps ∧ es.map (·.born) = bs ∧ bs.Nodup ∧ ∀ b ∈ bs, b < clk
theorem MapH.toB {m : Nat} {out : Option ByteArray} {F : List FileM} {hp : Hp} (h : MapH T m out F hp) : ∃ bs clk, MapB T m out F bs clk hp := by
  obtain ⟨es, clk, ps, e, hF, hb, hc⟩ := h
  refine ⟨_, clk, es, ps, e, hF, rfl, hb, fun b hb => ?_⟩
  obtain ⟨x, hx, rfl⟩ := List.mem_map.1 hb
  exact hc x hx
theorem MapB.toH {m : Nat} {out : Option ByteArray} {F : List FileM} {bs : List Nat} {clk : Nat} {hp : Hp} (h : MapB T m out F bs clk hp) : MapH T m out F hp := by
  obtain ⟨es, ps, e, hF, hb, hn, hc⟩ := h
  exact ⟨es, clk, ps, e, hF, by rw [hb]; exact hn, fun x hx => hc _ (hb ▸ List.mem_map.2 ⟨x, hx, rfl⟩)⟩
theorem str_beq (a b : ByteArray) : (a == b) = decide (a = b) := by
  by_cases h : a = b
  · rw [(MapKept.bytes_beq a b).2 h]; simp [h]
  · have : ¬ (a == b) = true := fun q => h ((MapKept.bytes_beq a b).1 q)
    simp only [Bool.not_eq_true] at this
    rw [this]; simp [h]
theorem str_beq_self (a : ByteArray) : (a == a) = true := (MapKept.bytes_beq a a).2 rfl
theorem FilesH.find {out : Option ByteArray} {s : ByteArray} : ∀ {F : List FileM} {es : List MapEntry} {ps : List Hp} (i0 : Nat), FilesH T out F es ps →
    (lookF F s = none ∧ Instr.findNow .string (.string s) es i0 = some none) ∨
    ∃ f i e hv, lookF F s = some f ∧ f.name = s ∧ F[i]? = some f ∧ es[i]? = some e ∧ ps[i]? = some hv ∧ Instr.findNow .string (.string s) es i0 = some (some (i0 + i, e.val)) ∧ e.key = .string f.name ∧ (some f.name ≠ out → FileH T f e hv)
  | _, _, _, i0, .nil => .inl ⟨rfl, rfl⟩
  | _, _, _, i0, .cons (f := f) (e := e) (hv := hv) (F := F) (es := es) (ps := ps) h r hn => by
    have hk := h.1
    by_cases hs : f.name = s
    · refine .inr ⟨f, 0, e, hv, by simp [lookF, hs], hs, rfl, rfl, rfl, ?_, h.1, h.2⟩
      simp [Instr.findNow, hk, Instr.sameNow, hs, str_beq_self]
    · have hs' : ¬ s = f.name := fun q => hs q.symm
      have hb : (s == f.name) = false := by rw [str_beq]; simp [hs']
      have h0 : Instr.findNow .string (.string s) (e :: es) i0 = Instr.findNow .string (.string s) es (i0 + 1) := by
        simp only [Instr.findNow, hk, Instr.sameNow, hb]
      rcases FilesH.find (s := s) (i0 + 1) r with ⟨h1, h2⟩ | ⟨f', i, e', hv', h1, h2, h3, h4, h5, h6, h7, h8⟩
      · exact .inl ⟨by simp [lookF, hs, h1], by rw [h0, h2]⟩
      · exact .inr ⟨f', i + 1, e', hv', by simp [lookF, hs, h1], h2, by simpa using h3, by simpa using h4, by simpa using h5, by rw [h0, h6, show i0 + 1 + i = i0 + (i + 1) by omega], h7, h8⟩
/-- what stands in the map under a name -/
def At (T : TypeId) (m : Nat) (F : List FileM) (s : ByteArray) (f : FileM) (ad : Option Addr) (cap : Nat) (hp : Hp) : Prop :=
  lookF F s = some f ∧ f.name = s ∧ ∃ es clk ps i e hv, hp = (m, .map es.toArray clk) :: fl ps ∧ FilesH T none F es ps ∧ (es.map (·.born)).Nodup ∧ (∀ e ∈ es, e.born < clk) ∧ F[i]? = some f ∧ es[i]? = some e ∧ ps[i]? = some hv ∧ Instr.findNow .string (.string s) es 0 = some (some (i, e.val)) ∧ e.key = .string f.name ∧ e.val = fileV ad f.bytes.length cap f.sure ∧ Gr .u8 T ad cap f.bytes hv
theorem MapH.look {m : Nat} {F : List FileM} {hp : Hp} (hM : MapH T m none F hp) (s : ByteArray) : lookF F s = none ∨ ∃ f ad cap, At T m F s f ad cap hp := by
  obtain ⟨es, clk, ps, rfl, hF, hb, hc⟩ := hM
  rcases hF.find (s := s) 0 with ⟨h1, _⟩ | ⟨f, i, e, hv, h1, h2, h3, h4, h5, h6, h7, h8⟩
  · exact .inl h1
  · obtain ⟨_, ad, cap, h9, h10⟩ := h8 (by simp)
    exact .inr ⟨f, ad, cap, h1, h2, es, clk, ps, i, e, hv, rfl, hF, hb, hc, h3, h4, h5, by simpa using h6, h7, h9, h10⟩
theorem run_checkKey_str {t : TypeId} {s : ByteArray} (ht : P.underlying t = some .string) (e : Bool) : (Instr.checkKey e 10000 t (.string s)).run P w = .ok () w := by
  unfold Instr.checkKey; rw [Sem.run_bind, run_underlying ht]; rfl
theorem run_findKey_str {t : TypeId} {s : ByteArray} {es : List MapEntry} {r : Option (Nat × Value)} (ht : P.underlying t = some .string) (hf : Instr.findNow .string (.string s) es 0 = some r) : (Instr.findKey t (.string s) es).run P w = .ok r w := by
  simp [Instr.findKey, run_underlying ht, hf]
theorem run_getObj {b : Nat} {es : Array MapEntry} {clk : Nat} (hb : w.heap[b]? = some (.map es clk)) : (getObj b).run P w = .ok (.map es clk) w := by simp [getObj, Sem.run, hb]
theorem r_look_no {t tk tv : TypeId} {x y : Operand} {m : Nat} {s : ByteArray} {F : List FileM} {hp : Hp} {z : Value} {sz by_ : Nat} (ho : o.op = .lookup t x y true) (ht : P.underlying t = some (.map tk tv)) (htk : P.underlying tk = some .string) (hi : TI P tv z sz by_) (hx : Ev n l x (.map (some m))) (hy : Ev n l y (.string s))
    (hM : MapH T m none F hp) (hno : lookF F s = none) (hh : ∀ w, C w → Has w hp) : Rn P o n l C (.tuple #[z, .bool false]) := by
  intro G D w hw; unfold execOp; rw [ho]
  obtain ⟨es, clk, ps, rfl, hF, hb, hc⟩ := hM
  have hobj := hh w hw (m, _) (List.mem_cons_self ..)
  obtain ⟨i, hi1, hi2, hi3, hi4⟩ := info_parts hi
  have hz : (zeroValue tv).run P w = .ok z w := by simp [zeroValue, typeInfo, hi1, hi2]
  rcases hF.find (s := s) 0 with ⟨_, h2⟩ | ⟨f, _, _, _, h1, _⟩
  · have hr : (Instr.lookup t (.map (some m)) (.string s) true).run P w = .ok (.tuple #[z, .bool false]) w := by
      simp [Instr.lookup, run_underlying ht, run_getObj hobj, run_checkKey_str htk, run_findKey_str htk h2, hz]
    simp only [hx G D, hy G D]
    rw [Sem.run_bind, hr]; rfl
  · rw [hno] at h1; cases h1
theorem r_look_at {t tk tv : TypeId} {x y : Operand} {m cap : Nat} {s : ByteArray} {F : List FileM} {hp : Hp} {f : FileM} {ad : Option Addr} (ho : o.op = .lookup t x y true) (ht : P.underlying t = some (.map tk tv)) (htk : P.underlying tk = some .string) (hx : Ev n l x (.map (some m))) (hy : Ev n l y (.string s))
    (hA : At T m F s f ad cap hp) (hh : ∀ w, C w → Has w hp) : Rn P o n l C (.tuple #[.agg #[.slice ad f.bytes.length cap, .int .i64 (f.sure : Int)], .bool true]) := by
  intro G D w hw; unfold execOp; rw [ho]
  obtain ⟨_, _, es, clk, ps, i, e, hv, rfl, _, _, _, _, _, _, h6, _, h9, _⟩ := hA
  have hobj := hh w hw (m, _) (List.mem_cons_self ..)
  have hr : (Instr.lookup t (.map (some m)) (.string s) true).run P w = .ok (.tuple #[e.val, .bool true]) w := by
    simp [Instr.lookup, run_underlying ht, run_getObj hobj, run_checkKey_str htk, run_findKey_str htk h6]
  simp only [hx G D, hy G D]
  rw [Sem.run_bind, hr, h9]; rfl
theorem At.sl {m cap : Nat} {F : List FileM} {s : ByteArray} {f : FileM} {ad : Option Addr} {hp : Hp} (hA : At T m F s f ad cap hp) (hm : f.bytes.length ≤ 9223372036854775807) (hf : ∀ x ∈ f.bytes, x ≤ 255) : Sl .u8 ad cap f.bytes hp := by
  obtain ⟨_, _, es, clk, ps, i, e, hv, rfl, _, _, _, _, _, h5, _, _, _, hG⟩ := hA
  exact (hG.sl hm hf).mono fun p hp => List.mem_cons_of_mem _ (mem_fl h5 hp)

/-! put -/
def putF (F : List FileM) (s : ByteArray) (B : List Nat) (k : Nat) : List FileM := match lookF F s with
  | some _ => F.map fun f => if f.name = s then ⟨s, B, k⟩ else f
  | none => F ++ [⟨s, B, k⟩]
theorem lookF_none {s : ByteArray} : ∀ {F : List FileM}, lookF F s = none → ∀ f ∈ F, f.name ≠ s
  | [], _, f, hf => by cases hf
  | g :: r, h, f, hf => by
    unfold lookF at h
    by_cases hs : g.name = s
    · simp [hs] at h
    · rw [if_neg hs] at h
      rcases List.mem_cons.1 hf with rfl | hf
      · exact hs
      · exact lookF_none h f hf
theorem lookF_mem {s : ByteArray} {f : FileM} : ∀ {F : List FileM}, lookF F s = some f → f ∈ F ∧ f.name = s
  | [], h => by cases h
  | g :: r, h => by
    unfold lookF at h
    by_cases hs : g.name = s
    · rw [if_pos hs] at h; cases h; exact ⟨List.mem_cons_self .., hs⟩
    · rw [if_neg hs] at h; obtain ⟨h1, h2⟩ := lookF_mem h; exact ⟨List.mem_cons_of_mem _ h1, h2⟩
theorem FilesH.len {out : Option ByteArray} : ∀ {F : List FileM} {es : List MapEntry} {ps : List Hp}, FilesH T out F es ps → es.length = F.length ∧ ps.length = F.length
  | _, _, _, .nil => ⟨rfl, rfl⟩
  | _, _, _, .cons _ r _ => by obtain ⟨h1, h2⟩ := r.len; simp [h1, h2]
theorem FilesH.names {out : Option ByteArray} : ∀ {F : List FileM} {es : List MapEntry} {ps : List Hp}, FilesH T out F es ps → (F.map (·.name)).Nodup
  | _, _, _, .nil => by simp
  | _, _, _, .cons _ r hn => by
    rw [List.map_cons, List.nodup_cons]
    refine ⟨fun q => ?_, r.names⟩
    obtain ⟨g, hg, e⟩ := List.mem_map.1 q
    exact hn g hg e
theorem FilesH.hole {s : ByteArray} : ∀ {F : List FileM} {es : List MapEntry} {ps : List Hp} {i : Nat} {f : FileM} {y : Hp}, FilesH T none F es ps → F[i]? = some f → f.name = s → FilesH T (some s) F es (ps.set i y)
  | _, _, _, i, f, y, .nil, h, _ => by simp at h
  | _, _, _, 0, f, y, .cons (f := g) h r hn, h1, h2 => by
    simp only [List.getElem?_cons_zero, Option.some.injEq] at h1
    subst h1
    refine .cons ⟨h.1, fun q => (q (by rw [h2])).elim⟩ ?_ hn
    have key : ∀ {F : List FileM} {es : List MapEntry} {ps : List Hp}, FilesH T none F es ps → FilesH T (some s) F es ps := by
      intro F es ps r
      induction r with
      | nil => exact .nil
      | cons h r hn ih => exact .cons ⟨h.1, fun _ => h.2 (by simp)⟩ ih hn
    exact key r
  | _, _, _, i + 1, f, y, .cons (f := g) h r hn, h1, h2 =>
    .cons ⟨h.1, fun _ => h.2 (by simp)⟩ (FilesH.hole r (by simpa using h1) h2) hn
theorem FilesH.absent {s : ByteArray} {F : List FileM} {es : List MapEntry} {ps : List Hp} (r : FilesH T none F es ps) : FilesH T (some s) F es ps := by
  induction r with
  | nil => exact .nil
  | cons h r hn ih => exact .cons ⟨h.1, fun _ => h.2 (by simp)⟩ ih hn
/-- a file's row is taken out of the map -/
theorem At.open_ {m cap i : Nat} {F : List FileM} {s : ByteArray} {f : FileM} {ad : Option Addr} {hp : Hp} {L : List Hp} (hA : At T m F s f ad cap hp) (hS : St w0 S (fl L) w) (hi : L[i]? = some hp) :
    ∃ hp' hv, MapH T m (some s) F hp' ∧ Gr .u8 T ad cap f.bytes hv ∧ St w0 S (fl (L.set i hp' ++ [hv])) w ∧ ∀ w S h, St w S ([(m, Obj.map #[] 0)] ++ h) w → True := by
  obtain ⟨_, hs, es, clk, ps, j, e, hv, rfl, hF, hb, hc, h3, _, h5, _, _, _, hG⟩ := hA
  refine ⟨(m, .map es.toArray clk) :: fl (ps.set j []), hv, ⟨es, clk, ps.set j [], rfl, hF.hole h3 hs, hb, hc⟩, hG, ?_, fun _ _ _ _ => trivial⟩
  refine hS.perm2 ?_
  have hlt : i < L.length := (List.getElem?_eq_some_iff.1 hi).1
  have hjl : j < ps.length := (List.getElem?_eq_some_iff.1 h5).1
  have e1 : L = L.set i ((m, .map es.toArray clk) :: fl ps) := by
    apply List.ext_getElem?
    intro k
    rw [List.getElem?_set]
    by_cases q : i = k
    · subst q; rw [if_pos rfl, if_pos hlt, hi]
    · rw [if_neg q]
  have e2 : ps = ps.set j hv := by
    apply List.ext_getElem?
    intro k
    rw [List.getElem?_set]
    by_cases q : j = k
    · subst q; rw [if_pos rfl, if_pos hjl, h5]
    · rw [if_neg q]
  have p1 := fl_set (L := L) (y := (m, Obj.map es.toArray clk) :: fl ps) hlt
  rw [← e1] at p1
  have p2 := fl_set (L := L) (y := (m, Obj.map es.toArray clk) :: fl (ps.set j [])) hlt
  have p3 := fl_set (L := ps) (y := hv) hjl
  rw [← e2] at p3
  refine p1.trans ?_
  rw [fl_append]
  refine List.Perm.trans ?_ (p2.symm.append_right _)
  have p4 : ((m, Obj.map es.toArray clk) :: fl ps).Perm (((m, Obj.map es.toArray clk) :: fl (ps.set j [])) ++ hv) := by
    refine (List.Perm.cons _ p3).trans ?_
    rw [List.cons_append]
    exact (List.perm_append_comm).cons _
  refine (p4.append_right _).trans ?_
  have e3 : fl [hv] = hv := by simp
  rw [e3, List.append_assoc, List.append_assoc]
  exact (List.perm_append_comm (l₁ := hv) (l₂ := fl (L.set i []))).append_left _
theorem MapH.absent {m : Nat} {F : List FileM} {s : ByteArray} {hp : Hp} (h : MapH T m none F hp) : MapH T m (some s) F hp := by
  obtain ⟨es, clk, ps, e, hF, hb, hc⟩ := h
  exact ⟨es, clk, ps, e, hF.absent, hb, hc⟩
theorem FilesH.fill {s : ByteArray} {B : List Nat} {k cap : Nat} {ad : Option Addr} {hv : Hp} (hG : Gr .u8 T ad cap B hv) : ∀ {F : List FileM} {es : List MapEntry} {ps : List Hp} {i : Nat} {f : FileM} {e' : MapEntry}, FilesH T (some s) F es ps → F[i]? = some f → f.name = s → e'.key = .string s → e'.val = fileV ad B.length cap k →
    FilesH T none (F.map fun f => if f.name = s then ⟨s, B, k⟩ else f) (es.set i e') (ps.set i hv)
  | _, _, _, i, f, e', .nil, h, _, _, _ => by simp at h
  | _, _, _, 0, f, e', .cons (f := g) (F := F) h r hn, h1, h2, h3, h4 => by
    simp only [List.getElem?_cons_zero, Option.some.injEq] at h1
    subst h1
    have hid : F.map (fun f => if f.name = s then (⟨s, B, k⟩ : FileM) else f) = F := by
      conv => rhs; rw [← List.map_id F]
      apply List.map_congr_left
      intro x hx
      rw [if_neg (by rw [← h2]; exact hn x hx)]; rfl
    rw [List.map_cons, hid, if_pos h2]
    refine .cons ⟨h3, fun _ => ⟨h3, ad, cap, h4, hG⟩⟩ ?_ (by intro x hx; show x.name ≠ s; rw [← h2]; exact hn x hx)
    have key : ∀ {F : List FileM} {es : List MapEntry} {ps : List Hp}, FilesH T (some s) F es ps → (∀ g ∈ F, g.name ≠ s) → FilesH T none F es ps := by
      intro F es ps r
      induction r with
      | nil => intro _; exact .nil
      | cons h r hn ih => intro q; exact .cons ⟨h.1, fun _ => h.2 (fun e => q _ (List.mem_cons_self ..) (Option.some.inj e))⟩ (ih fun g hg => q g (List.mem_cons_of_mem _ hg)) hn
    exact key r (by rw [← h2]; exact hn)
  | _, _, _, i + 1, f, e', .cons (f := g) (F := F) h r hn, h1, h2, h3, h4 => by
    have hmem : f ∈ F := List.mem_of_getElem? (by simpa using h1)
    have hg : g.name ≠ s := fun q => hn f hmem (by rw [h2, q])
    rw [List.map_cons, if_neg hg]
    refine .cons ⟨h.1, fun _ => h.2 (fun e => hg (Option.some.inj e))⟩ (FilesH.fill hG r (by simpa using h1) h2 h3 h4) ?_
    intro x hx
    obtain ⟨y, hy, rfl⟩ := List.mem_map.1 hx
    by_cases q : y.name = s
    · rw [if_pos q]; exact fun e => hg e.symm
    · rw [if_neg q]; exact hn y hy
theorem FilesH.snoc {s : ByteArray} {f : FileM} {e : MapEntry} {hv : Hp} (hf : FileH T f e hv) (hs : f.name = s) : ∀ {F : List FileM} {es : List MapEntry} {ps : List Hp}, FilesH T (some s) F es ps → (∀ g ∈ F, g.name ≠ s) → FilesH T none (F ++ [f]) (es ++ [e]) (ps ++ [hv])
  | _, _, _, .nil, _ => .cons ⟨hf.1, fun _ => hf⟩ .nil (by simp)
  | _, _, _, .cons h r hn, q => .cons ⟨h.1, fun _ => h.2 (fun e => q _ (List.mem_cons_self ..) (Option.some.inj e))⟩ (FilesH.snoc hf hs r fun g hg => q g (List.mem_cons_of_mem _ hg)) (by
      intro g hg
      rcases List.mem_append.1 hg with hg | hg
      · exact hn g hg
      · rw [List.mem_singleton.1 hg, hs]; exact fun e => q _ (List.mem_cons_self ..) e.symm)
theorem run_setObj {b : Nat} {es : Array MapEntry} {clk : Nat} {ob' : Obj} (hb : w.heap[b]? = some (.map es clk)) : (setObj b ob').run P w = .ok () { w with heap := w.heap.setIfInBounds b ob' } := by
  simp [setObj, Sem.run, hb]
theorem sameBits_str (s : ByteArray) : ∀ k, Instr.sameBits k (.string s) (.string s) = true
  | 0 => by simp [Instr.sameBits, str_beq_self]
  | k + 1 => by simp [Instr.sameBits, str_beq_self]
theorem St.setObj {m b : Nat} {ob ob' : Obj} (hS : St w0 S h w) (hm : h[m]? = some (b, ob)) : St w0 S (h.set m (b, ob')) { w with heap := w.heap.setIfInBounds b ob' } := by
  have hlt := hS.lt (List.mem_of_getElem? hm)
  refine hS.set hm rfl rfl rfl (by simp) ?_ ?_
  · simp at hlt; simp [hlt]
  · intro k hk; simp [Array.getElem?_setIfInBounds, Ne.symm hk]
/-- m[s] = file -/
theorem s_putB {t tk tv : TypeId} {x y z : Operand} {m cap k i j clk : Nat} {bs : List Nat} {s : ByteArray} {F : List FileM} {hp hv : Hp} {B : List Nat} {ad : Option Addr} {L : List Hp} (hg : o.guard = none) (hd : o.dst = none) (ho : o.op = .mapUpdate t x y z) (ht : P.underlying t = some (.map tk tv)) (htk : P.underlying tk = some .string) (hx : Ev n l x (.map (some m))) (hy : Ev n l y (.string s)) (hz : Ev n l z (.agg #[.slice ad B.length cap, .int .i64 (k : Int)]))
    (hM : MapB T m (some s) F bs clk hp) (hG : Gr .u8 T ad cap B hv) (hS : St w0 S (fl L) w) (hi : L[i]? = some hp) (hj : L[j]? = some hv) (hij : Nat.beq i j = false)
    (kk : ∀ hp' w', MapB T m none (putF F s B k) (if (lookF F s).isSome then bs else bs ++ [clk]) (if (lookF F s).isSome then clk else clk + 1) hp' → St w0 S (fl ((L.set i hp').set j [])) w' → wpList P ops Q rest (fr n l G D) w') : wpList P ops Q (o :: rest) (fr n l G D) w := by
  have hne : i ≠ j := fun e => by subst e; rw [Nat.beq_refl] at hij; cases hij
  obtain ⟨es, ps, rfl, hF, hbs, hb0, hc0⟩ := hM
  have hb : (es.map (·.born)).Nodup := by rw [hbs]; exact hb0
  have hc : ∀ e ∈ es, e.born < clk := fun x hx => hc0 _ (hbs ▸ List.mem_map.2 ⟨x, hx, rfl⟩)
  have hobj := (hS.has hi) (m, _) (List.mem_cons_self ..)
  simp only at hobj
  have hgive := hS.give [i, j] (xs := [(m, .map es.toArray clk) :: fl ps, hv]) (by simp [hi, hj]) (by simp [hne])
  have hrun : ∀ ob', (Instr.mapUpdate t (.map (some m)) (.string s) (fileV ad B.length cap k)).run P w = .ok () { w with heap := w.heap.setIfInBounds m ob' } →
      (execOp (fr n l G D).eval o).run P w = .ok .skip { w with heap := w.heap.setIfInBounds m ob' } := by
    intro ob' hh
    unfold execOp; rw [ho]
    simp only [hx G D, hy G D, hz G D]
    rw [Sem.run_bind]
    have : (Value.agg #[.slice ad B.length cap, .int .i64 (k : Int)]) = fileV ad B.length cap k := rfl
    rw [this, hh]; rfl
  have hfl : fl [(m, Obj.map es.toArray clk) :: fl ps, hv] = (m, Obj.map es.toArray clk) :: (fl ps ++ hv) := by simp
  rw [hfl] at hgive
  have fin : ∀ {es' : List MapEntry} {clk' : Nat} {ps' : List Hp} , (fl ps').Perm (fl ps ++ hv) → St w0 S (fl ((L.set i ((m, .map es'.toArray clk') :: fl ps')).set j [])) { w with heap := w.heap.setIfInBounds m (.map es'.toArray clk') } := by
    intro es' clk' ps' hp
    have t1 := hgive.setObj (m := 0) (b := m) (ob := .map es.toArray clk) (ob' := .map es'.toArray clk') rfl
    have t2 := t1.perm2 (h' := fl ([(m, .map es'.toArray clk') :: fl ps', []] ++ [])) (by
      have : fl ([(m, Obj.map es'.toArray clk') :: fl ps', []] ++ []) = (m, Obj.map es'.toArray clk') :: fl ps' := by simp
      rw [this]
      exact hp.symm.cons _)
    rw [← hfl] at t2
    exact hS.callL [i, j] (xs := [(m, .map es.toArray clk) :: fl ps, hv]) (by simp [hi, hj]) (by simp [hne]) t2 rfl (by simp [setAll])
  rcases hF.find (s := s) 0 with ⟨h1, h2⟩ | ⟨f, q, e, hv0, h1, h2, h3, h4, h5, h6, h7, _⟩
  · -- a new one
    have hno := lookF_none h1
    have hup : (Instr.mapUpdate t (.map (some m)) (.string s) (fileV ad B.length cap k)).run P w = .ok () { w with heap := w.heap.setIfInBounds m (.map (es ++ [(⟨.string s, fileV ad B.length cap k, clk⟩ : MapEntry)]).toArray (clk + 1)) } := by
      simp [Instr.mapUpdate, run_underlying ht, run_getObj hobj, run_checkKey_str htk, run_findKey_str htk h2, run_setObj hobj]
    refine s_run0 hg hd (hrun _ hup) (kk _ _ ?_ (fin (ps' := ps ++ [hv]) (by rw [fl_append]; simp)))
    rw [h1]
    refine ⟨es ++ [⟨.string s, fileV ad B.length cap k, clk⟩], ps ++ [hv], rfl, ?_, by simp [hbs], ?_, ?_⟩
    · rw [putF, h1]
      exact FilesH.snoc ⟨rfl, ad, cap, rfl, hG⟩ rfl hF hno
    · show (bs ++ [clk]).Nodup
      rw [List.nodup_append]
      refine ⟨hb0, by simp, ?_⟩
      intro a ha b hb' e
      simp at hb'
      have := hc0 a ha
      omega
    · intro b hb'
      show b < clk + 1
      rcases List.mem_append.1 (show b ∈ bs ++ [clk] from hb') with he | he
      · have := hc0 b he; omega
      · rw [List.mem_singleton.1 he]; exact Nat.lt_succ_self _
  · -- one that is there
    have hql : q < es.length := (List.getElem?_eq_some_iff.1 h4).1
    have hqp : q < ps.length := (List.getElem?_eq_some_iff.1 h5).1
    have h6' : Instr.findNow .string (.string s) es 0 = some (some (q, e.val)) := by simpa using h6
    have hes : es[q] = e := (List.getElem?_eq_some_iff.1 h4).2
    have hmod : (es.toArray.modify q fun e => { e with key := .string s, val := fileV ad B.length cap k }) = (es.set q ⟨.string s, fileV ad B.length cap k, e.born⟩).toArray := by
      apply Array.ext_getElem?
      intro z
      rw [Array.getElem?_modify]
      simp only [List.getElem?_toArray, List.getElem?_set]
      by_cases hz : q = z
      · subst hz; simp [hql, hes]
      · simp [hz]
    have hkey : (Instr.keyThatStays (((es.toArray[q]?).map (·.key)).getD (.string s)) (.string s)).run P w = .ok (.string s) w := by
      have : ((es.toArray[q]?).map (·.key)).getD (.string s) = .string s := by
        rw [List.getElem?_toArray, h4]; simp [h7, h2]
      rw [this]
      simp [Instr.keyThatStays, sameBits_str]
    have hup : (Instr.mapUpdate t (.map (some m)) (.string s) (fileV ad B.length cap k)).run P w = .ok () { w with heap := w.heap.setIfInBounds m (.map (es.set q ⟨.string s, fileV ad B.length cap k, e.born⟩).toArray clk) } := by
      rw [← hmod]
      simp only [Instr.mapUpdate, Sem.run_bind, run_underlying ht, Result.andThen_ok, run_getObj hobj, run_checkKey_str htk, run_findKey_str htk h6', hkey, run_setObj hobj]
    have hperm : (fl ((ps.set q hv) ++ [hv0])).Perm (fl ps ++ hv) := by
      have p1 := fl_set (L := ps) (y := hv) hqp
      have e2 : ps = ps.set q hv0 := by
        apply List.ext_getElem?
        intro k
        rw [List.getElem?_set]
        by_cases z : q = k
        · subst z; rw [if_pos rfl, if_pos hqp, h5]
        · rw [if_neg z]
      have p2 := fl_set (L := ps) (y := hv0) hqp
      rw [← e2] at p2
      rw [fl_append]
      refine (p1.append_right _).trans ?_
      refine List.Perm.trans ?_ (p2.symm.append_right _)
      have e3 : fl [hv0] = hv0 := by simp
      rw [e3, List.append_assoc]
      refine List.perm_append_comm.trans ?_
      rw [List.append_assoc, List.append_assoc, ← List.append_assoc, ← List.append_assoc]
      exact List.perm_append_comm.append_right _
    -- what was under the name is forgotten
    have t0 : St w0 S (fl ((L.set i ((m, .map (es.set q ⟨.string s, fileV ad B.length cap k, e.born⟩).toArray clk) :: fl (ps.set q hv))).set j [])) { w with heap := w.heap.setIfInBounds m (.map (es.set q ⟨.string s, fileV ad B.length cap k, e.born⟩).toArray clk) } := by
      have t1 := fin (es' := es.set q ⟨.string s, fileV ad B.length cap k, e.born⟩) (clk' := clk) (ps' := ps.set q hv ++ [hv0]) hperm
      have hsub : ∀ {A B : Hp} {L : List Hp} {i : Nat}, A.Sublist B → (fl (L.set i A)).Sublist (fl (L.set i B)) := by
        intro A B L
        induction L with
        | nil => intro i h; simp
        | cons x r ih =>
          intro i h
          cases i with
          | zero => simpa using h
          | succ i => simpa using ih h
      have hcomm : ∀ (A : Hp), (L.set i A).set j [] = (L.set j []).set i A := fun A => List.set_comm _ _ hne
      rw [hcomm] at t1 ⊢
      refine t1.weaken _ (hsub ?_)
      rw [fl_append]
      exact List.Sublist.cons_cons _ (List.sublist_append_left ..)
    refine s_run0 hg hd (hrun _ hup) (kk _ _ ?_ t0)
    rw [h1]
    refine ⟨es.set q ⟨.string s, fileV ad B.length cap k, e.born⟩, ps.set q hv, rfl, ?_, ?_, hb0, hc0⟩
    · rw [putF, h1]
      exact FilesH.fill hG hF h3 h2 rfl rfl
    · have : (es.set q ⟨.string s, fileV ad B.length cap k, e.born⟩).map (·.born) = es.map (·.born) := by
        rw [List.map_set]
        apply List.ext_getElem?
        intro z
        rw [List.getElem?_set]
        by_cases hz : q = z
        · subst hz; simp [hql, hes]
        · simp [hz]
      rw [this]; exact hbs
theorem s_put {t tk tv : TypeId} {x y z : Operand} {m cap k i j : Nat} {s : ByteArray} {F : List FileM} {hp hv : Hp} {B : List Nat} {ad : Option Addr} {L : List Hp} (hg : o.guard = none) (hd : o.dst = none) (ho : o.op = .mapUpdate t x y z) (ht : P.underlying t = some (.map tk tv)) (htk : P.underlying tk = some .string) (hx : Ev n l x (.map (some m))) (hy : Ev n l y (.string s)) (hz : Ev n l z (.agg #[.slice ad B.length cap, .int .i64 (k : Int)]))
    (hM : MapH T m (some s) F hp) (hG : Gr .u8 T ad cap B hv) (hS : St w0 S (fl L) w) (hi : L[i]? = some hp) (hj : L[j]? = some hv) (hij : Nat.beq i j = false)
    (kk : ∀ hp' w', MapH T m none (putF F s B k) hp' → St w0 S (fl ((L.set i hp').set j [])) w' → wpList P ops Q rest (fr n l G D) w') : wpList P ops Q (o :: rest) (fr n l G D) w := by
  obtain ⟨bs, clk, hB⟩ := hM.toB
  exact s_putB hg hd ho ht htk hx hy hz hB hG hS hi hj hij fun hp' w' h1 h2 => kk hp' w' h1.toH h2
theorem s_makeMap {t : TypeId} {d : Nat} (hg : o.guard = none) (hd : o.dst = some d) (ho : o.op = .makeMap t none) (hS : St w0 S h w)
    (kk : ∀ b w', St w0 S (h ++ [(b, .map #[] 0)]) w' → wpList P ops Q rest (fr n ((d, .map (some b)) :: l) G D) w') : wpList P ops Q (o :: rest) (fr n l G D) w := by
  refine s_run hg hd (v := .map (some w.heap.size)) (w' := w.alloc (.map #[] 0)) ?_ (kk _ _ (hS.alloc _))
  unfold execOp; rw [ho]
  simp [Instr.makeMap]
theorem MapH.new {m : Nat} {out : Option ByteArray} : MapH T m out [] [(m, .map #[] 0)] := ⟨[], 0, [], rfl, .nil, by simp, by simp⟩
theorem r_lenM {x : Operand} {t tk tv : TypeId} {ts : Array TypeId} {m : Nat} {F : List FileM} {out : Option ByteArray} {hp : Hp} (ho : o.op = .call { callee := .builtin .len, args := #[x], argTypes := ts }) (hts : ts[0]? = some t) (ht : P.underlying t = some (.map tk tv)) (hx : Ev n l x (.map (some m))) (hM : MapH T m out F hp) (hh : ∀ w, C w → Has w hp) : Rn P o n l C (.int .i64 (F.length : Nat)) := by
  intro G D w hw; unfold execOp; rw [ho]
  obtain ⟨es, clk, ps, rfl, hF, hb, hc⟩ := hM
  have hobj := hh w hw (m, _) (List.mem_cons_self ..)
  simp only at hobj
  have := hF.len.1
  simp [resolve, invoke, builtin, hx G D, Builtin.len_, hts, run_underlying ht, goInt, run_getObj hobj, this]
end Go.Proofs.Ytdmiklegahdafaa.K

/- The engine: parts of variables of several cells, struct values, copies into rows of one's own, texts and bytes, the lesser and the greater. -/
import Derived.Test.YtdmiklegahdafaaKGen
import Derived.Laws.IdiomCopy
namespace Go.Proofs.Ytdmiklegahdafaa.K
open Go Go.RowKit

set_option linter.unusedSimpArgs false
set_option linter.unusedVariables false
variable {P : Program} {ops : Array Oper} {Q Q' : Exit → Act → World → Prop} {K : Act → World → Prop} {rest : List Oper} {o : Oper} {n : Nat} {l : Asc} {G : Nat → Value} {D : List Deferred} {a : Act} {w w' w0 : World} {S : List Nat} {h : Hp} {C : World → Prop} {R : Ending → World → Prop} {fn : Func}

theorem r_fieldN {s : TypeId} {x : Operand} {i b q qq sz : Nat} {fs : Array Field} {f : Field} {z : Value} {by_ : Nat} (ho : o.op = .fieldAddr s x i) (hu : P.underlying s = some (.struct fs)) (hf : fs[i]? = some f) (hi : TI P f.type z sz by_) (hsz : 0 < sz) (hx : Ev n l x (.pointer (some ⟨b, q, none⟩))) (hq : q + f.offset = qq) :
    Rn P o n l C (.pointer (some ⟨b, qq, none⟩)) := by
  intro G D w _; unfold execOp; rw [ho]; subst hq
  have h0 : ¬ sz = 0 := by omega
  simp [hx G D, Instr.fieldAt, run_underlying hu, hf, Instr.sureAddr, fieldPlace, run_sizeOf hi, add_none, h0]
/-- a value of several cells is stored -/
theorem s_storeA {t : TypeId} {x y : Operand} {b q m sz by_ : Nat} {z : Value} {vs : List Value} {c c' : Array Value} {T : TypeId} {h' : Hp} (hg : o.guard = none) (hd : o.dst = none) (ho : o.op = .store t x y) (hi : TI P t z sz by_)
    (hx : Ev n l x (.pointer (some ⟨b, q, none⟩))) (hy : Ev n l y (.agg vs.toArray)) (hvs : vs.length = sz) (h1 : (vs.all fun v => oneC v) = true) (hS : St w0 S h w) (hm : h[m]? = some (b, .cells c T (0, 0))) (hle : q + vs.length ≤ c.size) (hc : put c q vs = c') (hh : h.set m (b, .cells c' T (0, 0)) = h')
    (k : ∀ w', St w0 S h' w' → wpList P ops Q rest (fr n l G D) w') : wpList P ops Q (o :: rest) (fr n l G D) w := by
  have hb := hS.own _ (List.mem_of_getElem? hm)
  obtain ⟨w', h2, h3, h4, h5, h6, h7, h8⟩ := run_puts (P := P) (b := b) (T := T) vs q 0 w c hb (by simpa using h1) (by omega)
  refine s_run0 (w' := w') hg hd ?_ (k _ ?_)
  · unfold execOp; rw [ho]
    simp [hx G D, hy G D, Instr.storeAt, Instr.sureAddr, storeVar, run_sizeOf hi, Value.cells, hvs, h2]
  · subst hh hc
    rw [Nat.add_zero] at h3
    exact hS.set hm h4 h5 h6 h7 h3 h8
def fieldPlaces (fs : Array Field) : Sem (Array (Nat × Nat)) := fs.mapM fun f => do pure (f.offset, ← sizeOf f.type)
theorem r_build {t : TypeId} {fs : Array Field} {sz by_ : Nat} {zs cs : Array Value} {ps : Array (Nat × Nat)} {xs : List (Nat × Operand)} {vs : List (Nat × Value)} (ho : o.op = .build t xs.toArray) (hu : P.underlying t = some (.struct fs)) (hi : TI P t (.agg zs) sz by_) (hp : ∀ w, (fieldPlaces fs).run P w = .ok ps w)
    (hx : Evp n l xs vs) (hf : Instr.fill (ps[·]?) zs vs = some cs) : Rn P o n l C (.agg cs) := by
  obtain ⟨i, hi1, hi2, hi3, hi4⟩ := info_parts hi
  intro G D w _; unfold execOp; rw [ho]
  have hz : (zeroValue t).run P w = .ok (.agg zs) w := by simp [zeroValue, typeInfo, hi1, hi2]
  have hmap := hx.map (G := G) (D := D)
  have hp' := hp w
  unfold fieldPlaces at hp'
  simp only [List.map_toArray, hmap]
  have hr : (Instr.build t vs.toArray).run P w = .ok (.agg cs) w := by
    unfold Instr.build
    simp only [Sem.run_bind, hz, Result.andThen_ok, run_underlying hu, hp', Value.cells]
    rw [hf]
    rfl
  rw [Sem.run_bind, hr]
  rfl
theorem r_min {x y : Operand} {ts : Array TypeId} {k : IntKind} {a b c : Int} (ho : o.op = .call { callee := .builtin .min, args := #[x, y], argTypes := ts }) (hx : Ev n l x (.int k a)) (hy : Ev n l y (.int k b)) (hc : (if b < a then b else a) = c) : Rn P o n l C (.int k c) := by
  intro G D w _; unfold execOp; rw [ho]; subst hc
  simp [resolve, invoke, builtin, hx G D, hy G D, Builtin.min_, Builtin.min2]
theorem r_max {x y : Operand} {ts : Array TypeId} {k : IntKind} {a b c : Int} (ho : o.op = .call { callee := .builtin .max, args := #[x, y], argTypes := ts }) (hx : Ev n l x (.int k a)) (hy : Ev n l y (.int k b)) (hc : (if b > a then b else a) = c) : Rn P o n l C (.int k c) := by
  intro G D w _; unfold execOp; rw [ho]; subst hc
  simp [resolve, invoke, builtin, hx G D, hy G D, Builtin.max_, Builtin.max2]

/-! copies -/
theorem copy_list {L A : List Nat} {off : Nat} (h : off + A.length ≤ L.length) {X : List Nat} {k : IntKind} : put (encN k (L ++ X)) off (ints k A) = encN k ((L.take off ++ A ++ L.drop (off + A.length)) ++ X) := by
  have e : L ++ X = L.take off ++ (L.drop off ++ X) := by rw [← List.append_assoc, List.take_append_drop]
  have hl : (L.take off).length = off := by rw [List.length_take]; omega
  have := put_ints (k := k) A (L.take off) (L.drop off ++ X) (by rw [List.length_append, List.length_drop]; omega)
  rw [← e, hl] at this
  rw [this]
  congr 1
  have e2 : (L.drop off ++ X).drop A.length = L.drop (off + A.length) ++ X := by
    rw [List.drop_append_of_le_length (by rw [List.length_drop]; omega), List.drop_drop]
  rw [e2]
  simp
theorem s_copyG {t e : TypeId} {d i off by_ : Nat} {k : IntKind} {ts : Array TypeId} {x y : Operand} {a ax : Option Addr} {cap dlen dcap lenx capx : Nat} {L A : List Nat} {hv hx_ : Hp} {Lp : List Hp} (hg : o.guard = none) (hd : o.dst = some d)
    (ho : o.op = .call { callee := .builtin .copy, args := #[x, y], argTypes := ts }) (hts : ts[0]? = some t) (ht : P.underlying t = some (.slice e)) (hi : TI P e (.int k 0) 1 by_)
    (hx : Ev n l x (.slice (cutA a off cap) dlen dcap)) (hy : Ev n l y (.slice ax lenx capx)) (hlx : A.length = lenx) (hG : Gr k e a cap L hv) (hdl : dlen = L.length - off) (hle : off + A.length ≤ L.length) (h0 : 0 < A.length) (hS : St w0 S (fl Lp) w) (hp : Lp[i]? = some hv) (hr : Sl k ax capx A hx_) (hh : Has w hx_)
    (kk : ∀ hv' w', Gr k e a cap (L.take off ++ A ++ L.drop (off + A.length)) hv' → St w0 S (fl (Lp.set i hv')) w' → wpList P ops Q rest (fr n ((d, .int .i64 (A.length : Nat)) :: l) G D) w') : wpList P ops Q (o :: rest) (fr n l G D) w := by
  subst hlx hdl
  have hself := hS.give [i] (xs := [hv]) (by simp [hp]) (by simp)
  have fin : ∀ {hv' w'}, St w (keys (fl [hv])) (fl ([hv'] ++ [])) w' → St w0 S (fl (Lp.set i hv')) w' := fun t => hS.callL [i] (xs := [hv]) (by simp [hp]) (by simp) t rfl (by simp [setAll])
  rcases hG with ⟨rfl, rfl, rfl, rfl⟩ | ⟨b, X, rfl, rfl, hc1, hc2⟩
  · simp only [List.length_nil] at hle; omega
  · have hown := hS.own (b, _) (mem_fl hp (List.mem_singleton.2 rfl))
    have hca : cutA (some ⟨b, 0, none⟩) off cap = some ⟨b, off, none⟩ := by
      unfold cutA
      by_cases h1 : off = 0
      · subst h1; simp
      · rw [if_neg (by omega)]; simp
    rw [hca] at hx
    obtain ⟨w', h2, h3, h4, h5, h6, h7, h8⟩ := run_puts (P := P) (b := b) (T := e) (ints k A) off 0 w _ hown (by intro v hv; simp only [ints, List.mem_map] at hv; obtain ⟨_, _, rfl⟩ := hv; rfl) (by rw [encN_size]; simp only [ints, List.length_append, List.length_map]; omega)
    have hload : (Builtin.firstCells 1 A.length (.slice ax A.length capx)).run P w = .ok (ints k A).toArray w := by
      have h1 := (hr.at_ 0 h0).1
      rw [h1]
      have := run_loads (P := P) (w := w) (k := k) (b := (adr ax).block) (q := (adr ax).off) A 0 #[] (fun j hj => by simpa using hr.cell_has hh hj)
      simp only [Builtin.firstCells, loadCells, Nat.mul_one]
      rw [this]; simp
    have hmin : min A.length (L.length - off) = A.length := by omega
    refine s_run hg hd (v := .int .i64 (A.length : Nat)) (w' := w') ?_ (kk _ _ (.inr ⟨b, X, rfl, rfl, ?_, ?_⟩) (fin ?_))
    · unfold execOp; rw [ho]
      simp [resolve, invoke, builtin, hx G D, hy G D, Builtin.copy_, hts, run_underlying ht, Builtin.lenOf, run_sizeOf hi, hmin, hload, h2, goInt]
    · simp only [List.length_append, List.length_take, List.length_drop]; omega
    · simp only [List.length_append, List.length_take, List.length_drop]; omega
    · have hF := hself.set (m := 0) (b := b) (o := .cells (encN k (L ++ X)) e (0, 0)) rfl h4 h5 h6 h7 (by rw [Nat.add_zero, copy_list hle] at h3; exact h3) h8
      simpa using hF

/-! texts and bytes -/
def strL (s : ByteArray) : List Nat := s.data.toList.map (·.toNat)
theorem strL_len (s : ByteArray) : (strL s).length = s.size := by unfold strL; rw [List.length_map, Array.length_toList]; rfl
theorem strL_byte (s : ByteArray) : ∀ x ∈ strL s, x ≤ maxK .u8 := by
  intro x hx
  simp only [strL, List.mem_map] at hx
  obtain ⟨y, _, rfl⟩ := hx
  have := y.toNat_lt
  show y.toNat ≤ 255
  omega
theorem strL_strB (L : List Nat) (h : ∀ x ∈ L, x ≤ 255) : strL (strB L) = L := by
  have e := strB_nums L
  have h1 : (strB L).data.toList = (L.map fun (x : Nat) => (x : Int)).map fun n => UInt8.ofNat n.toNat := by rw [← e]; rfl
  unfold strL
  rw [h1]
  simp only [List.map_map]
  conv => rhs; rw [← List.map_id L]
  apply List.map_congr_left
  intro x hx
  have := h x hx
  simp; omega
theorem s_sbytes {src dst e : TypeId} {x : Operand} {s : ByteArray} {d : Nat} (hg : o.guard = none) (hd : o.dst = some d) (ho : o.op = .convert src dst x) (hs : P.underlying src = some .string) (hdt : P.underlying dst = some (.slice e)) (he : P.underlying e = some (.int .u8))
    (hx : Ev n l x (.string s)) (hsz : s.size ≤ 1000000000000) (hS : St w0 S h w)
    (kk : ∀ b cap ob w', Sl .u8 (some ⟨b, 0, none⟩) cap (strL s) [(b, ob)] → St w0 S (h ++ [(b, ob)]) w' → wpList P ops Q rest (fr n ((d, .slice (some ⟨b, 0, none⟩) s.size cap) :: l) G D) w') : wpList P ops Q (o :: rest) (fr n l G D) w := by
  let m := (w.tape w.drawn (.appendCap s.size 0 e)) % (9223372036854775808 - s.size)
  let c : Array Value := (s.data.map fun b => Value.int .u8 (b.toNat : Int)) ++ Array.replicate m (.int .u8 0)
  let w1 : World := { w with drawn := w.drawn + 1 }
  have hcs : c.size = s.size + m := by show (_ ++ _ : Array Value).size = _; rw [Array.size_append, Array.size_map, Array.size_replicate]; rfl
  have hr : (execOp (fr n l G D).eval o).run P w = .ok (.value (.slice (some ⟨w.heap.size, 0, none⟩) s.size (s.size + m))) (w1.alloc (.cells c e (c.size, c.size + 1))) := by
    unfold execOp; rw [ho]
    have hroom : ∀ (x : Nat) (w : World), (askRoom x).run P w = .ok () w := by
      intro x w; unfold askRoom; split <;> simp [mark, Sem.run]
    have hsz2 : 9223372036854775808 - s.size ≠ 0 := by omega
    have hconv : (Conv.stringToBytes e s).run P w = .ok (.slice (some ⟨w.heap.size, 0, none⟩) s.size (s.size + m)) (w1.alloc (.cells c e (c.size, c.size + 1))) := by
      have hch : (choose (.appendCap s.size 0 e)).run P w = .ok (s.size + m) w1 := by
        simp [choose, Sem.run, Question.forced, Question.cut, m, w1]
      unfold Conv.stringToBytes
      rw [Sem.run_bind, hch, Result.andThen_ok]
      simp only [Sem.run_bind, newRow]
      have hnew : (newObj (.cells (s.data.map (fun b => Value.int .u8 (b.toNat : Int)) ++ Array.replicate (s.size + m - s.size) (.int .u8 0)) e)).run P w1 = .ok w.heap.size (w1.alloc (.cells c e)) := by
        rw [show s.size + m - s.size = m by omega]; rfl
      have hm2 : (markStringish ⟨w.heap.size, 0, none⟩).run P (w1.alloc (.cells c e)) = .ok () (w1.alloc (.cells c e (c.size, c.size + 1))) := by
        have hsh : (shape w.heap.size).run P (w1.alloc (.cells c e)) = .ok (some (e, c.size)) (w1.alloc (.cells c e)) := by
          simp [shape, Sem.run, World.shape?, World.alloc, w1]
        unfold markStringish
        rw [Sem.run_bind]
        simp only [hsh, Result.andThen_ok]
        simp only [freeze, Sem.run, World.freeze]
        simp [World.alloc, w1]
        apply Array.ext_getElem?
        intro i
        rw [Array.getElem?_modify, Array.getElem?_push, Array.getElem?_push]
        by_cases hi : i = w.heap.size
        · subst hi; simp
        · have : ¬ w.heap.size = i := fun e => hi e.symm
          simp [hi, this]
      simp only [hnew, Result.andThen_ok, Sem.run_bind, hm2]
      simp [hm2]
    simp only [hx G D]
    have : (convert src dst (.string s)).run P w = .ok (.slice (some ⟨w.heap.size, 0, none⟩) s.size (s.size + m)) (w1.alloc (.cells c e (c.size, c.size + 1))) := by
      simp [convert, run_underlying hs, run_underlying hdt, run_underlying he, hconv]
    rw [Sem.run_bind, this]
    rfl
  have hS1 : St w0 S h w1 := ⟨hS.os, hS.tape, hS.output, hS.size, hS.own, hS.nodup, hS.place, hS.old⟩
  have hS2 := hS1.alloc (.cells c e (c.size, c.size + 1))
  refine s_run hg hd hr (kk w.heap.size _ _ _ ⟨?_, ?_, strL_byte s, fun j hj => ⟨rfl, c, e, _, List.mem_singleton.2 rfl, ?_⟩⟩ hS2)
  · rw [strL_len]; omega
  · rw [strL_len]; omega
  · rw [strL_len] at hj
    have hj' : j < s.data.size := hj
    show c[0 + j]? = _
    simp only [c, strL]
    rw [Nat.zero_add, Array.getElem?_append_left (by simpa using hj')]
    simp [List.getD_eq_getElem?_getD, hj']
    exact ⟨_, Array.getElem?_eq_getElem hj', by rw [Array.getElem?_eq_getElem hj']; rfl⟩
theorem r_strL {src dst e : TypeId} {x : Operand} {ad : Option Addr} {len cap : Nat} {L : List Nat} {hv : Hp} (ho : o.op = .convert src dst x) (hs : P.underlying src = some (.slice e)) (he : P.underlying e = some (.int .u8)) (hd : P.underlying dst = some .string)
    (hx : Ev n l x (.slice ad len cap)) (hr : Sl .u8 ad cap L hv) (hl : L.length = len) (hh : ∀ w, C w → Has w hv) (hna : ad = none → True) : Rn P o n l C (.string (strB L)) := by
  by_cases h0 : 0 < len
  · intro G D w hw
    have hrd := hr.rd_has (hh w hw)
    exact r_str ho hs he hd hx hrd hl h0 G D w rfl
  · have hL : L = [] := List.length_eq_zero_iff.1 (by omega)
    have hlen : len = 0 := by omega
    subst hL hlen
    intro G D w hw; unfold execOp; rw [ho]
    have e0 : strB [] = ByteArray.empty := rfl
    have hconv : (convert src dst (.slice ad 0 cap)).run P w = .ok (.string (strB [])) w := by
      rw [e0]
      cases ad with
      | none => simp [convert, run_underlying hs, run_underlying hd, run_underlying he, Conv.bytesToString]
      | some a =>
        simp [convert, run_underlying hs, run_underlying hd, run_underlying he, Conv.bytesToString, loadCells, loadCellsFrom]
        try rfl
    simp only [hx G D, hconv, Sem.run_bind, Result.andThen_ok]
    rfl
/-- []byte of what is one already: a mark behind its end -/
theorem s_convsame {src e : TypeId} {x : Operand} {d m b len cap q : Nat} {c : Array Value} {T : TypeId} {h' : Hp} (hg : o.guard = none) (hd : o.dst = some d) (ho : o.op = .convert src src x) (hs : P.underlying src = some (.slice e)) (he : P.underlying e = some (.int .u8))
    (hx : Ev n l x (.slice (some ⟨b, q, none⟩) len cap)) (hS : St w0 S h w) (hm : h[m]? = some (b, .cells c T (0, 0))) (hh : h.set m (b, .cells c T (c.size, c.size + 1)) = h')
    (kk : ∀ w', St w0 S h' w' → wpList P ops Q rest (fr n ((d, .slice (some ⟨b, q, none⟩) len cap) :: l) G D) w') : wpList P ops Q (o :: rest) (fr n l G D) w := by
  have hb := hS.own _ (List.mem_of_getElem? hm)
  simp only at hb
  have hfz : w.freeze ⟨b, c.size, none⟩ 1 = { w with heap := w.heap.modify b fun o => match o with | .cells c' elem (lo, hi) => .cells c' elem (if lo == hi then (c.size, c.size + 1) else (min lo c.size, max hi (c.size + 1))) | o => o } := by
    unfold World.freeze; rw [if_neg (by decide)]
    rfl
  refine s_run hg hd (v := .slice (some ⟨b, q, none⟩) len cap) (w' := w.freeze ⟨b, c.size, none⟩ 1) ?_ (kk _ ?_)
  · unfold execOp; rw [ho]
    have hsh : (shape b).run P w = .ok (some (T, c.size)) w := by simp [shape, Sem.run, World.shape?, hb]
    have hm2 : (markStringish ⟨b, q, none⟩).run P w = .ok () (w.freeze ⟨b, c.size, none⟩ 1) := by
      unfold markStringish
      rw [Sem.run_bind]
      simp only [hsh, Result.andThen_ok, freeze, Sem.run]
    simp [hx G D, convert, run_underlying hs, run_underlying he, hm2]
  · subst hh
    refine hS.set hm rfl rfl rfl (by simp [World.freeze]) ?_ ?_
    · rw [hfz]; simp [Array.getElem?_modify, hb]
    · intro k hk
      rw [hfz]
      simp [Array.getElem?_modify, Ne.symm hk]
end Go.Proofs.Ytdmiklegahdafaa.K

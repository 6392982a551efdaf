/- The engine: a callee that writes a block in place; a window of one's own row. -/
import Derived.Test.YtdmiklegahdafaaKAny
import Derived.Test.YtdmiklegahdafaaKApp
import Derived.Test.YtdmiklegahdafaaKDiv
namespace Go.Proofs.Ytdmiklegahdafaa.K
open Go Go.RowKit

set_option linter.unusedSimpArgs false
set_option linter.unusedVariables false
variable {P : Program} {ops : Array Oper} {Q : Exit → Act → World → Prop} {K : Act → World → Prop} {n : Nat} {l : Asc} {G : Nat → Value} {D : List Deferred} {a : Act} {w w0 : World} {S : List Nat} {h : Hp} {C : World → Prop} {o o1 o2 : Oper}

/-- a callee wrote one block of one's own, and made others -/
theorem St.wrote {w' : World} (s : St w0 S h w) {m b : Nat} {o o' : Obj} {h2 : Hp} (hm : h[m]? = some (b, o)) (t : St w [b] ((b, o') :: h2) w') : St w0 S (h.set m (b, o')) w' := by
  have hmem : (b, o) ∈ h := List.mem_of_getElem? hm
  have hmlt : m < h.length := (List.getElem?_eq_some_iff.1 hm).1
  have hkeys : (h.set m (b, o')).map (·.1) = h.map (·.1) := by
    apply List.ext_getElem?
    intro i
    rw [List.getElem?_map, List.getElem?_map, List.getElem?_set]
    by_cases e : m = i
    · subst e; rw [if_pos rfl, if_pos hmlt, hm]; rfl
    · rw [if_neg e]
  have huniq : ∀ i, h[i]?.map (·.1) = some b → m = i := by
    intro i hi
    have hn := s.nodup
    rw [List.Nodup, List.pairwise_iff_getElem] at hn
    have hilt : i < h.length := by
      rcases Nat.lt_or_ge i h.length with q | q
      · exact q
      · rw [List.getElem?_eq_none q] at hi; cases hi
    have e1 : h[m].1 = b := by have := (List.getElem?_eq_some_iff.1 hm).2; rw [this]
    have e2 : h[i].1 = b := by rw [List.getElem?_eq_getElem hilt] at hi; simpa using hi
    rcases Nat.lt_trichotomy m i with q | q | q
    · have := hn m i (by simpa using hmlt) (by simpa using hilt) q; simp [e1, e2] at this
    · exact q
    · have := hn i m (by simpa using hilt) (by simpa using hmlt) q; simp [e1, e2] at this
  refine ⟨t.os.trans s.os, t.tape.trans s.tape, t.output.trans s.output, Nat.le_trans s.size t.size, ?_, by rw [hkeys]; exact s.nodup, ?_, ?_⟩
  · intro p hp
    rw [List.mem_iff_getElem?] at hp
    obtain ⟨i, hi⟩ := hp
    rw [List.getElem?_set] at hi
    by_cases e : m = i
    · subst e; simp [hmlt] at hi; subst hi; exact t.own _ (by simp)
    · simp [e] at hi
      have hpm : p ∈ h := List.mem_of_getElem? hi
      rw [t.old p.1 (s.lt hpm) ?_, s.own p hpm]
      intro hpb
      simp at hpb
      exact e (huniq i (by rw [hi]; simp [hpb]))
  · intro p hp
    have : p.1 ∈ (h.set m (b, o')).map (·.1) := List.mem_map.2 ⟨p, hp, rfl⟩
    rw [hkeys] at this
    obtain ⟨q, hq, e⟩ := List.mem_map.1 this
    rw [← e]; exact s.place q hq
  · intro k hk hS
    have hkw : k < w.heap.size := Nat.lt_of_lt_of_le hk s.size
    have hkb : k ∉ [b] := by
      intro hkb
      simp at hkb
      subst hkb
      rcases s.place _ hmem with hp | hp
      · exact hS hp
      · have hp' : w0.heap.size ≤ k := hp
        omega
    rw [t.old k hkw hkb]; exact s.old k hk hS
/-- what lies in another block reads as before -/
theorem Rd.wrote {w' : World} {k : IntKind} {a : Option Addr} {cap : Nat} {A : List Nat} {b : Nat} {h2 : Hp} (hr : Rd w k a cap A) (t : St w [b] h2 w') (hne : A ≠ [] → (adr a).block ≠ b) : Rd w' k a cap A := by
  refine ⟨hr.le, hr.most, fun j hj => ?_, hr.fit⟩
  have hA : A ≠ [] := fun e => by subst e; simp at hj
  obtain ⟨h1, h2, _⟩ := hr.at_ j hj
  exact ⟨h1, Nat.lt_of_lt_of_le h2 t.size, St.cell_rd hr hj (by simpa using hne hA) w' t⟩
theorem r_cut0w {t e : TypeId} {x : Operand} {hi mx : Option Operand} {a : Option Addr} {len cap hh hh' m by_ : Nat} {z : Value} {sz : Nat} (hln : hh = hh') (ho : o.op = .slice t x none hi mx) (ht : P.underlying t = some (.slice e)) (hi_ : TI P e z sz by_) (hx : Ev n l x (.slice a len cap))
    (hhi : Cb n l hi len hh) (hmx : Cb n l mx cap m) (h2 : hh ≤ m) (h3 : m ≤ cap) (hmh : mx.isSome = true → hi.isSome = true := by simp) : Rn P o n l C (.slice a hh' m) := by
  subst hln; exact r_cut0 ho ht hi_ hx hhi hmx h2 h3 hmh
theorem r_cutw {t e : TypeId} {x : Operand} {lo hi mx : Option Operand} {b q qq : Nat} {len cap lw hh m by_ ln cp : Nat} {z : Value} {sz : Nat} (hln : hh - lw = ln) (hcp : m - lw = cp) (ho : o.op = .slice t x lo hi mx) (ht : P.underlying t = some (.slice e)) (hi_ : TI P e z sz by_) (hx : Ev n l x (.slice (some ⟨b, q, none⟩) len cap))
    (hlo : Cb n l lo 0 lw) (hhi : Cb n l hi len hh) (hmx : Cb n l mx cap m) (h1 : lw ≤ hh) (h2 : hh ≤ m) (h3 : m ≤ cap) (hlt : lw < m) (hq : q + lw * sz = qq) (hmh : mx.isSome = true → hi.isSome = true := by simp) : Rn P o n l C (.slice (some ⟨b, qq, none⟩) ln cp) := by
  subst hln; subst hcp; exact r_cut ho ht hi_ hx hlo hhi hmx h1 h2 h3 hlt hq hmh
theorem Ow.lim {k : IntKind} {T : TypeId} {v : Value} {L : List Nat} (o : Ow w0 w .u32 T v L) : Lim L := by
  obtain ⟨_, _, _, r, _⟩ := o
  exact r.fit

theorem Rn.as {k : IntKind} {i j : Int} (e : i = j) (R : Rn P o n l C (.int k i)) : Rn P o n l C (.int k j) := e ▸ R
theorem Rn.asS {x : Option Addr} {p q p' q' : Nat} (e1 : p = p') (e2 : q = q') (R : Rn P o n l C (.slice x p q)) : Rn P o n l C (.slice x p' q') := by subst e1; subst e2; exact R
theorem Rn.asV {x y : Value} (e : x = y) (R : Rn P o n l C x) : Rn P o n l C y := e ▸ R
theorem len_of_le_lv {A B : List Nat} (lA : Lim A) (nB : Nz B) (h : lv B ≤ lv A) : B.length ≤ A.length := by
  rcases Nat.lt_or_ge A.length B.length with q | q
  · have := lv_lt_of_len lA nB q; omega
  · exact q
theorem top_pos {B : List Nat} (nB : Nz B) (h : 0 < B.length) : 0 < B.getD (B.length - 1) 0 := by
  rcases nB with q | q
  · subst q; simp at h
  · exact Nat.pos_of_ne_zero q
theorem lv_pos {B : List Nat} (nB : Nz B) (h : 0 < B.length) : 0 < lv B := by
  rcases Nat.eq_zero_or_pos (lv B) with q | q
  · rw [lv_zero nB q] at h; simp at h
  · exact q
theorem Rd.front {k : IntKind} {a : Option Addr} {cap cap' : Nat} {R X : List Nat} (hr : Rd w k a cap (R ++ X)) (hc : R.length ≤ cap') : Rd w k a cap' R := by
  have := hr.take (cap' := cap') (m := R.length) (by rw [List.length_append]; omega) hc
  rwa [List.take_left] at this
theorem Ow.front {k : IntKind} {T : TypeId} {a : Option Addr} {c : Nat} {R X : List Nat} (o : Ow w0 w k T (.slice a (R ++ X).length c) (R ++ X)) : Ow w0 w k T (.slice a R.length R.length) R := by
  obtain ⟨a', c', e, hr, hx, hs⟩ := o
  cases e
  rcases hx with ⟨h1, h2⟩ | ⟨b, Y, h1, h2, h3, h4⟩
  · have : R = [] := (List.append_eq_nil_iff.1 h1).1
    subst this
    exact Ow.empty hs
  · refine ⟨_, _, rfl, hr.front (Nat.le_refl _), .inr ⟨b, X ++ Y, h1, h2, ?_, by omega⟩, hs⟩
    rw [← List.append_assoc]; exact h3
theorem Row.ow {k : IntKind} {T : TypeId} {v : Value} {O : List Nat} (r : Row w0 w k T v O) (hl : O.length ≤ 9223372036854775807) (hf : ∀ x ∈ O, x ≤ maxK k) : Ow w0 w k T v O := by
  obtain ⟨b, rfl, hb, hs⟩ := r
  exact Ow.of_chunk0 (m := 0) hs rfl rfl rfl hl hf
theorem Ow.rd {k : IntKind} {T : TypeId} {a : Option Addr} {c len : Nat} {L : List Nat} (o : Ow w0 w k T (.slice a len c) L) : Rd w k a c L := by
  obtain ⟨a', c', e, hr, _⟩ := o
  cases e
  exact hr
theorem Ow.of_front' {k : IntKind} {T : TypeId} {b m : Nat} {R X : List Nat} (s : St w0 [] h w) (hm : h[m]? = some (b, .cells (encN k (R ++ X)) T (0, 0))) (hl : R.length ≤ 9223372036854775807) (hf : ∀ x ∈ R, x ≤ maxK k) : Ow w0 w k T (.slice (some ⟨b, 0, none⟩) R.length R.length) R :=
  Ow.of_chunk s hm (Nat.le_refl _) (by omega) hl hf
theorem Rd.front_eq {k : IntKind} {a : Option Addr} {cap : Nat} {A R X : List Nat} (e : A = R ++ X) (hr : Rd w k a cap A) : Rd w k a R.length R := by
  subst e; exact hr.front (Nat.le_refl _)
theorem Ow.front_eq {k : IntKind} {T : TypeId} {a : Option Addr} {c len : Nat} {A R X : List Nat} (e : A = R ++ X) (o : Ow w0 w k T (.slice a len c) A) : Ow w0 w k T (.slice a R.length R.length) R := by
  subst e
  obtain ⟨a', c', e, _⟩ := id o
  cases e
  exact o.front
theorem Ow.of_front_eq {k : IntKind} {T : TypeId} {b m : Nat} {A R X : List Nat} (e : A = R ++ X) (s : St w0 [] h w) (hm : h[m]? = some (b, .cells (encN k A) T (0, 0))) (hl : R.length ≤ 9223372036854775807) (hf : ∀ x ∈ R, x ≤ maxK k) : Ow w0 w k T (.slice (some ⟨b, 0, none⟩) R.length R.length) R := by
  subst e; exact Ow.of_front' s hm hl hf
theorem lv_one {A : List Nat} (h : A.length = 1) : lv A = A.getD 0 0 := by
  match A, h with
  | [x], _ => simp [lv]
theorem nz_one {A : List Nat} (nA : Nz A) (h : A.length = 1) : 0 < A.getD 0 0 := by
  rcases nA with q | q
  · subst q; simp at h
  · rw [h] at q; exact Nat.pos_of_ne_zero q
theorem nm_front {A : List Nat} (lA : Lim A) (h : tlen A A.length ≤ 8192) : ∃ R X, A = R ++ X ∧ Nm R ∧ lv R = lv A ∧ R.length = tlen A A.length :=
  ⟨A.take (tlen A A.length), A.drop (tlen A A.length), (List.take_append_drop _ _).symm, ⟨lim_take lA _, nz_norm A, by rw [len_norm]; exact h⟩, lv_norm A, len_norm A⟩

theorem encP_get {k : IntKind} {M R : List Nat} {j : Nat} (h : j < M.length) : (encN k (M ++ R))[j]? = some (.int k (M.getD j 0 : Nat)) := by
  have := encW_get (k := k) (L := []) (M := M) (R := R) h
  simpa using this
theorem encP_set {k : IntKind} {M R : List Nat} {j x : Nat} (h : j < M.length) : (encN k (M ++ R)).setIfInBounds j (.int k (x : Int)) = encN k (M.set j x ++ R) := by
  have := encW_set (k := k) (L := []) (M := M) (R := R) (x := x) h
  simpa using this
theorem Gr.of_own {k : IntKind} {T : TypeId} {b cap : Nat} {L X : List Nat} (h1 : cap ≤ L.length + X.length) (h2 : L.length ≤ cap) : Gr k T (some ⟨b, 0, none⟩) cap L [(b, .cells (encN k (L ++ X)) T (0, 0))] :=
  .inr ⟨b, X, rfl, rfl, h1, h2⟩
/-- the last of one's own is handed to a callee that writes it and hands back another -/
theorem St.splice {w' : World} {h1 hv hv' : Hp} (s : St w0 S (h1 ++ hv) w) (t : St w (hv.map (·.1)) hv' w') : St w0 S (h1 ++ hv') w' := by
  have hn := s.nodup
  rw [List.map_append, List.nodup_append] at hn
  have hold : ∀ p ∈ h1, w'.heap[p.1]? = some p.2 := fun p hp => by
    rw [t.old p.1 (s.lt (List.mem_append_left _ hp)) (fun q => hn.2.2 p.1 (List.mem_map.2 ⟨p, hp, rfl⟩) p.1 q rfl)]
    exact s.own p (List.mem_append_left _ hp)
  refine ⟨t.os.trans s.os, t.tape.trans s.tape, t.output.trans s.output, Nat.le_trans s.size t.size, ?_, ?_, ?_, ?_⟩
  · intro p hp
    rcases List.mem_append.1 hp with hp | hp
    · exact hold p hp
    · exact t.own p hp
  · rw [List.map_append, List.nodup_append]
    refine ⟨hn.1, t.nodup, fun a ha b hb e => ?_⟩
    subst e
    obtain ⟨p, hp, e⟩ := List.mem_map.1 ha
    obtain ⟨q, hq, e2⟩ := List.mem_map.1 hb
    rcases t.place q hq with h | h
    · exact hn.2.2 a ha a (e2 ▸ h) rfl
    · have := s.lt (List.mem_append_left hv hp)
      omega
  · intro p hp
    rcases List.mem_append.1 hp with hp | hp
    · exact s.place p (List.mem_append_left _ hp)
    · rcases t.place p hp with h | h
      · obtain ⟨q, hq, e⟩ := List.mem_map.1 h
        rw [← e]
        exact s.place q (List.mem_append_right _ hq)
      · right
        have := s.size
        omega
  · intro k hk hS
    have hkw : k < w.heap.size := Nat.lt_of_lt_of_le hk s.size
    rw [t.old k hkw, s.old k hk hS]
    intro q
    obtain ⟨p, hp, e⟩ := List.mem_map.1 q
    rcases s.place p (List.mem_append_right _ hp) with h | h
    · exact hS (e ▸ h)
    · omega
theorem St.perm {h' : Hp} (s : St w0 S h w) (p : h'.Perm h) : St w0 S h' w :=
  ⟨s.os, s.tape, s.output, s.size, fun q hq => s.own q (p.mem_iff.1 hq), (p.map _).nodup_iff.2 s.nodup, fun q hq => s.place q (p.mem_iff.1 hq), s.old⟩
theorem St.last {m : Nat} {q : Nat × Obj} (s : St w0 S h w) (hm : h[m]? = some q) : St w0 S (h.eraseIdx m ++ [q]) w := by
  have hlt := (List.getElem?_eq_some_iff.1 hm).1
  have e := (List.getElem?_eq_some_iff.1 hm).2
  refine s.perm ?_
  have e2 : h = h.take m ++ q :: h.drop (m + 1) := by
    rw [← e, ← List.drop_eq_getElem_cons hlt, List.take_append_drop]
  have e3 : (h.eraseIdx m ++ [q]).Perm (h.take m ++ q :: h.drop (m + 1)) := by
    rw [List.eraseIdx_eq_take_drop_succ]
    refine (List.perm_append_comm).trans ?_
    rw [List.singleton_append]
    exact List.perm_middle.symm
  rw [← e2] at e3
  exact e3
theorem sub_end {A O B : List Nat} {br : Nat} (lO : Lim O) (hO : O.length = A.length) (hBA : B.length ≤ A.length) (hle : lv B ≤ lv A) (hbr : br ≤ 1)
    (e : lv (A.take A.length) + br * pw A.length = lv (O.take A.length) + lv (B.take A.length)) : lv O = lv A - lv B := by
  rw [take_all (Nat.le_refl _), take_all (by omega), take_all hBA] at e
  have := lv_lt lO
  rw [hO] at this
  rcases Nat.eq_zero_or_pos br with q | q
  · subst q; omega
  · have : br = 1 := by omega
    subst this
    omega
theorem sub_next {A O B : List Nat} {i br x d o : Nat} (hA : i < A.length) (hO : i < O.length) (e : lv (A.take i) + br * pw i = lv (O.take i) + lv (B.take i))
    (hy : lv (B.take (i + 1)) = lv (B.take i) + x * pw i) (hd : A.getD i 0 + 4294967296 * o = d + x + br) :
    lv (A.take (i + 1)) + o * pw (i + 1) = lv ((O.set i d).take (i + 1)) + lv (B.take (i + 1)) := by
  rw [lv_take_succ hA, lv_take_set hO, hy, pw_succ]
  have := congrArg (· * pw i) hd
  simp only [Nat.add_mul, Nat.mul_assoc] at this
  rw [Nat.mul_left_comm] at this
  omega
theorem times_step {A O : List Nat} {i c y c0 : Nat} (hA : i < A.length) (hO : i < O.length) (e : lv (A.take i) * y + c0 = lv (O.take i) + c * pw i) :
    lv (A.take (i + 1)) * y + c0 = lv ((O.set i ((c + A.getD i 0 * y) % 4294967296)).take (i + 1)) + (c + A.getD i 0 * y) / 4294967296 * pw (i + 1) := by
  rw [lv_take_succ hA, lv_take_set hO, pw_succ]
  have h := Nat.div_add_mod (c + A.getD i 0 * y) 4294967296
  generalize (c + A.getD i 0 * y) / 4294967296 = q at *
  generalize (c + A.getD i 0 * y) % 4294967296 = r at *
  have := congrArg (· * pw i) h
  simp only [Nat.add_mul, Nat.mul_assoc] at this ⊢
  rw [Nat.mul_left_comm] at this
  have h2 : A.getD i 0 * (pw i * y) = A.getD i 0 * (y * pw i) := by rw [Nat.mul_comm (pw i)]
  omega

/-! the quotient's rounds -/
theorem win_split (X : List Nat) (j n : Nat) : X = X.take j ++ (X.drop j).take n ++ X.drop (j + n) := by
  rw [List.append_assoc, ← List.drop_drop, List.take_append_drop, List.take_append_drop]
theorem win_len {X : List Nat} {j n : Nat} (h : j + n ≤ X.length) : ((X.drop j).take n).length = n := by
  rw [List.length_take, List.length_drop]; omega
/-- what the window holds is less than 2^32 divisors; above it is nothing -/
theorem win_lt {X Y : List Nat} {j : Nat} (lX : Lim X) (lY : Lim Y) (hj : j + 1 + Y.length ≤ X.length) (h : lv (X.drop (j + 1)) < lv Y) :
    lv ((X.drop j).take (Y.length + 1)) < 4294967296 * lv Y ∧ lv (X.drop (j + (Y.length + 1))) = 0 := by
  have hY := lv_lt lY
  have h1 : lv (X.drop (j + (Y.length + 1))) = 0 := by
    have e := lv_split (X.drop (j + 1)) (k := Y.length) (by rw [List.length_drop]; omega)
    rw [List.drop_drop] at e
    have e2 : j + 1 + Y.length = j + (Y.length + 1) := by omega
    rw [e2] at e
    rcases Nat.eq_zero_or_pos (lv (X.drop (j + (Y.length + 1)))) with q | q
    · exact q
    · have := Nat.mul_le_mul (Nat.le_refl (pw Y.length)) q
      omega
  refine ⟨?_, h1⟩
  have e := lv_split (X.drop j) (k := Y.length + 1) (by rw [List.length_drop]; omega)
  rw [List.drop_drop, h1, Nat.mul_zero, Nat.add_zero] at e
  rw [← e, lv_drop (by omega)]
  have := getD_lim lX j
  omega
/-- one round: the window becomes its rest, the digit goes to the quotient -/
theorem win_step {X Y W' Qs : List Nat} {j V N : Nat} (hV : V = lv Y) (hj : j + 1 + Y.length ≤ X.length) (hQ : j < Qs.length) (hz : lv (X.drop (j + (Y.length + 1))) = 0)
    (hW : W'.length = Y.length + 1) (hVp : 0 < V) (hv : lv W' = lv ((X.drop j).take (Y.length + 1)) % V)
    (e : lv X + V * (pw (j + 1) * lv (Qs.drop (j + 1))) = N) :
    lv (X.take j ++ W' ++ X.drop (j + (Y.length + 1))) + V * (pw j * lv ((Qs.set j (lv ((X.drop j).take (Y.length + 1)) / V)).drop j)) = N
    ∧ lv ((X.take j ++ W' ++ X.drop (j + (Y.length + 1))).drop j) < V := by
  have hl : (X.take j).length = j := by rw [List.length_take]; omega
  have e1 : lv X = lv (X.take j) + pw j * lv ((X.drop j).take (Y.length + 1)) := by
    have := lv_split X (k := j) (by omega)
    have h2 := lv_split (X.drop j) (k := Y.length + 1) (by rw [List.length_drop]; omega)
    rw [List.drop_drop, hz, Nat.mul_zero, Nat.add_zero] at h2
    rw [this, h2]
  have e2 : lv (X.take j ++ W' ++ X.drop (j + (Y.length + 1))) = lv (X.take j) + pw j * lv W' := by
    rw [List.append_assoc, lv_append, hl, lv_append, hz, Nat.mul_zero, Nat.add_zero]
  have e3 : lv ((Qs.set j (lv ((X.drop j).take (Y.length + 1)) / V)).drop j) = lv ((X.drop j).take (Y.length + 1)) / V + 4294967296 * lv (Qs.drop (j + 1)) := by
    rw [lv_drop (by simpa using hQ), getD_set_eq hQ, List.drop_set_of_lt (by omega)]
  have e4 : lv ((X.take j ++ W' ++ X.drop (j + (Y.length + 1))).drop j) = lv W' := by
    rw [List.append_assoc, List.drop_append_of_le_length (by omega), List.drop_of_length_le (by omega), List.nil_append, lv_append, hz, Nat.mul_zero, Nat.add_zero]
  rw [e2, e3, e4, hv]
  refine ⟨?_, Nat.mod_lt _ hVp⟩
  have hd := Nat.div_add_mod (lv ((X.drop j).take (Y.length + 1))) V
  rw [← e, e1, pw_succ]
  generalize lv ((X.drop j).take (Y.length + 1)) / V = q at *
  generalize lv ((X.drop j).take (Y.length + 1)) % V = r at *
  rw [← hd]
  grind
theorem win_init {x N V k : Nat} {Qs : List Nat} (e : x = N) (h : Qs.length ≤ k) : x + V * (pw k * lv (Qs.drop k)) = N := by
  rw [List.drop_of_length_le h, e]; simp [lv]
theorem win_start {A X Y : List Nat} {s : Nat} (lA : Lim A) (hX : lv X = lv A * 2 ^ s) (hXl : X.length = A.length + 1) (hY : 2147483648 ≤ Y.getD (Y.length - 1) 0) (hs : s ≤ 31) (h1 : 1 ≤ Y.length) (h2 : Y.length ≤ A.length) :
    lv (X.drop (A.length - Y.length + 1)) < lv Y := by
  have e1 := lv_split X (k := A.length - Y.length + 1) (by omega)
  have hA := lv_lt lA
  have e2 : lv Y = lv (Y.take (Y.length - 1)) + pw (Y.length - 1) * lv (Y.drop (Y.length - 1)) := lv_split Y (by omega)
  rw [lv_drop (k := Y.length - 1) (by omega)] at e2
  have e3 : pw A.length = pw (A.length - Y.length + 1) * pw (Y.length - 1) := by rw [← pw_add]; congr 1; omega
  have hp := pow31 hs
  have hpp := pw_pos (A.length - Y.length + 1)
  have hpp2 := pw_pos (Y.length - 1)
  have h3 : pw (Y.length - 1) * 2147483648 ≤ lv Y := by
    rw [e2]
    have := Nat.mul_le_mul (Nat.le_refl (pw (Y.length - 1))) (show 2147483648 ≤ Y.getD (Y.length - 1) 0 + 4294967296 * lv (Y.drop (Y.length - 1 + 1)) by omega)
    omega
  have h4 : lv A * 2 ^ s < pw A.length * 2147483648 := Nat.lt_of_lt_of_le (Nat.mul_lt_mul_of_pos_right hA (Nat.pow_pos (by omega))) (Nat.mul_le_mul_left _ hp)
  have h5 : pw (A.length - Y.length + 1) * lv (X.drop (A.length - Y.length + 1)) < pw (A.length - Y.length + 1) * (pw (Y.length - 1) * 2147483648) := by
    rw [← Nat.mul_assoc, ← e3]
    omega
  exact Nat.lt_of_lt_of_le (Nat.lt_of_mul_lt_mul_left h5) h3
/-- the shifted divisor: as long as it was, its top bit set -/
theorem shift_top {B O : List Nat} {s : Nat} (lB : Lim B) (nB : Nz B) (h1 : 0 < B.length) (hs : s = 32 - bl (B.getD (B.length - 1) 0)) (lO : Lim O) (hO : O.length = B.length + 1) (e : lv O = lv B * 2 ^ s) :
    lv (O.take B.length) = lv B * 2 ^ s ∧ 2147483648 ≤ (O.take B.length).getD (B.length - 1) 0 := by
  have hb0 : B.getD (B.length - 1) 0 ≠ 0 := by
    rcases nB with q | q
    · subst q; simp at h1
    · exact q
  have hbl := bl_pos (Nat.pos_of_ne_zero hb0)
  have hbl32 : bl (B.getD (B.length - 1) 0) ≤ 32 := bl_le (Nat.lt_of_le_of_lt (getD_lim lB _) (by decide))
  have hlt := bl_lt (B.getD (B.length - 1) 0)
  have hge := bl_ge (Nat.pos_of_ne_zero hb0)
  generalize hx : B.getD (B.length - 1) 0 = x at *
  have hB := lv_split B (k := B.length - 1) (by omega)
  rw [lv_drop (by omega), hx, List.drop_of_length_le (by omega)] at hB
  simp only [lv, Nat.mul_zero, Nat.add_zero] at hB
  have hBt := lv_lt (lim_take lB (B.length - 1))
  rw [List.length_take, Nat.min_eq_left (by omega)] at hBt
  have hxs : x * 2 ^ s + 2 ^ s ≤ 4294967296 := by
    have h3 : (x + 1) * 2 ^ s ≤ 2 ^ bl x * 2 ^ s := Nat.mul_le_mul_right _ hlt
    rw [← Nat.pow_add, hs, show bl x + (32 - bl x) = 32 by omega] at h3
    rw [hs]; rw [Nat.add_mul, Nat.one_mul] at h3; exact h3
  have hxg : 2147483648 ≤ x * 2 ^ s := by
    have h3 : 2 ^ (bl x - 1) * 2 ^ s ≤ x * 2 ^ s := Nat.mul_le_mul_right _ hge
    rw [← Nat.pow_add, hs, show bl x - 1 + (32 - bl x) = 31 by omega] at h3
    rw [hs]; exact h3
  have hBl : lv B * 2 ^ s < pw B.length := by
    have h4 : (lv (B.take (B.length - 1)) + pw (B.length - 1) * x) * 2 ^ s < pw (B.length - 1) * 4294967296 := by
      have h5 : lv (B.take (B.length - 1)) * 2 ^ s < pw (B.length - 1) * 2 ^ s := Nat.mul_lt_mul_of_pos_right hBt (Nat.pow_pos (by omega))
      have h6 := Nat.mul_le_mul_left (pw (B.length - 1)) hxs
      rw [Nat.add_mul, Nat.mul_assoc]
      rw [Nat.mul_add] at h6
      omega
    rw [hB]
    rw [show B.length = B.length - 1 + 1 by omega, pw_succ]
    rw [show B.length - 1 + 1 - 1 = B.length - 1 by omega]
    omega
  have hO2 := lv_split O (k := B.length) (by omega)
  rw [lv_drop (by omega), List.drop_of_length_le (by omega)] at hO2
  simp only [lv, Nat.mul_zero, Nat.add_zero] at hO2
  have hO0 : O.getD B.length 0 = 0 := by
    rcases Nat.eq_zero_or_pos (O.getD B.length 0) with q | q
    · exact q
    · have := Nat.mul_le_mul_left (pw B.length) q
      omega
  rw [hO0, Nat.mul_zero, Nat.add_zero] at hO2
  refine ⟨by rw [← hO2, e], ?_⟩
  have hT := lv_split (O.take B.length) (k := B.length - 1) (by rw [List.length_take]; omega)
  rw [lv_drop (by rw [List.length_take]; omega), List.drop_of_length_le (by rw [List.length_take]; omega), List.take_take, Nat.min_eq_left (by omega)] at hT
  simp only [lv, Nat.mul_zero, Nat.add_zero] at hT
  have hOt := lv_lt (lim_take lO (B.length - 1))
  rw [List.length_take, Nat.min_eq_left (by omega)] at hOt
  have h7 : pw (B.length - 1) * 2147483648 ≤ lv B * 2 ^ s := by
    rw [hB, Nat.add_mul, Nat.mul_assoc]
    have := Nat.mul_le_mul_left (pw (B.length - 1)) hxg
    omega
  rw [← e, hO2, hT] at h7
  have hp := pw_pos (B.length - 1)
  rcases Nat.lt_or_ge ((O.take B.length).getD (B.length - 1) 0) 2147483648 with q | q
  · have := Nat.mul_le_mul_left (pw (B.length - 1)) (show (O.take B.length).getD (B.length - 1) 0 + 1 ≤ 2147483648 by omega)
    rw [Nat.mul_add] at this
    omega
  · exact q
theorem div_end {N V a b s r q : Nat} (e : r + V * (pw 0 * q) = N) (hr : r < V) (hN : N = a * 2 ^ s) (hV : V = b * 2 ^ s) : q = a / b ∧ r / 2 ^ s = a % b := by
  have hp : 0 < 2 ^ s := Nat.pow_pos (by omega)
  rw [pw_zero, Nat.one_mul] at e
  have h1 : q = N / V := by rw [← e, Nat.add_comm, Nat.mul_add_div (by omega), Nat.div_eq_of_lt hr]; rfl
  have h2 : r = N % V := by rw [← e, Nat.add_comm, Nat.mul_add_mod, Nat.mod_eq_of_lt hr]
  rw [hN, hV] at h1 h2
  rw [Nat.mul_div_mul_right _ _ hp] at h1
  rw [Nat.mul_mod_mul_right] at h2
  exact ⟨h1, by rw [h2, Nat.mul_div_cancel _ hp]⟩
end Go.Proofs.Ytdmiklegahdafaa.K

/- Records at their ends: what is refused, what is damaged; a row of rows that is made. -/
import Derived.Test.YtdmiklegahdafaaKLv2
namespace Go.Proofs.Ytdmiklegahdafaa.K
open Go Go.RowKit
set_option linter.unusedSimpArgs false
set_option linter.unusedVariables false
variable {D D1 : Dk} {s : ByteArray} {B R0 : List Nat} {k e : Nat}

theorem goods_snoc {RR : Recs} {Q : List (List Nat)} (h : ∀ LL ∈ RR, goodR LL) (hq : goodR Q) : ∀ LL ∈ RR ++ [Q], goodR LL := fun LL hL => by
  rcases List.mem_append.1 hL with hL | hL
  · exact h LL hL
  · rw [List.mem_singleton.1 hL]; exact hq
theorem bodyL_one (r : List Nat) : (bodyL [r]).length = 4 + r.length := by rw [bodyL_cons, List.length_append, List.length_append, fourL_len]; rfl
theorem bodyL_nils : ∀ (n : Nat), (bodyL (List.replicate n [])).length = 4 * n
  | 0 => rfl
  | n + 1 => by rw [List.replicate_succ, bodyL_cons, List.length_append, List.length_append, fourL_len, bodyL_nils n, List.length_nil]; omega
theorem opn_name {RR : Recs} {z : Lg} (h : Lv D) (hs : okName s = false) (hO : OpnS D s e D1 RR z) : e = 101 ∧ D1 = D := by
  have hrd := (read_name h.off hs).1
  cases hO with
  | rd h' h1 h2 => have := h'.eq.symm.trans hrd; cases this; exact ⟨rfl, rfl⟩
  | short h' h1 h2 h3 h4 => have := h'.eq.symm.trans hrd; cases this; rcases h1 with h1 | h1 <;> cases h1
  | head h' h1 h2 h3 => have := h'.eq.symm.trans hrd; cases this; rcases h1 with h1 | h1 <;> cases h1
  | clean h' h1 h2 h3 => have := h'.eq.symm.trans hrd; simp only [Prod.mk.injEq] at this; omega
  | torn h' h1 h2 h3 h4 h5 => have := h'.eq.symm.trans hrd; simp only [Prod.mk.injEq] at this; omega
  | bad h' h1 h2 h3 h4 => have := h'.eq.symm.trans hrd; simp only [Prod.mk.injEq] at this; omega
theorem opn_dmg {RR : Recs} {z : Lg} (h : Lv D) (ha : lookF D.F s = some ⟨s, headL ++ R0, k⟩) (hb : BadR R0) (hO : OpnS D s e D1 RR z) : e = 111 ∧ D1 = D :=
  (opn_at (RR0 := []) (R0 := R0) (lv_read h ha).1 (fun LL hL => nomatch hL) (.inr (.inr hb)) hO).2.2 hb
theorem opn_tail {RR : Recs} {z : Lg} (h : Lv D) (ha : lookF D.F s = some ⟨s, headL ++ R0, k⟩) (ht : TornR R0) (hO : OpnS D s e D1 RR z) : e = 0 ∧ RR = [] ∧ z = lg [] ∧ UpA D D1 s (headL ++ R0) (logL []) (min k 8) 1 := by
  obtain ⟨rfl, rfl, hst⟩ := (opn_at (RR0 := []) (R0 := R0) (lv_read h ha).1 (fun LL hL => nomatch hL) (.inr (.inl ht)) hO).2.1 ht
  obtain ⟨g1, g2⟩ := lv_cut' h ha (n := 8) (by rw [List.length_append]; show 8 ≤ 8 + _; omega) hst
  have e4 : (headL ++ R0).take 8 = logL [] := by rw [List.take_left' (show headL.length = 8 from rfl)]; simp [logL, recsL]
  rw [e4] at g2
  exact ⟨g1, rfl, rfl, g2⟩
theorem lv_long {RR : Recs} {LL : List (List Nat)} {z1 : Lg} (h : Lv D) (hg : 4096 < LL.length ∨ 4194304 < (bodyL LL).length) (hL : LgS e z1 D1 ((lg RR).append D s LL) (lg RR) D) : e = 110 ∧ z1 = lg RR ∧ D1 = D := by
  have he := hL.eq
  simp only [Lg.append, if_pos hg] at he
  simp only [lg, Bool.false_eq_true, if_false, Prod.mk.injEq] at he
  exact ⟨he.1.symm, he.2.1.symm, he.2.2.symm⟩
theorem all2_nils {hv : Hp} : ∀ (n : Nat), All2 R1 hv (List.replicate n []) (List.replicate n (.slice none 0 0))
  | 0 => trivial
  | n + 1 => by simp only [List.replicate_succ]; exact ⟨⟨none, 0, rfl, Sl.nil⟩, all2_nils n⟩
variable {P : Program} {ops : Array Oper} {Q : Exit → Act → World → Prop} {rest : List Oper} {o : Oper} {n : Nat} {l : Asc} {G : Nat → Value} {Df : List Deferred} {w w0 : World} {S : List Nat} {h : Hp}
/-- make of rows, all of them nil -/
theorem s_makeV {t e : TypeId} {x y : Operand} {len cap by_ d : Nat} {a b : Int} {ka kb : IntKind} (hg : o.guard = none) (hd : o.dst = some d) (ho : o.op = .makeSlice t x y) (ht : P.underlying t = some (.slice e)) (hi : TI P e (.slice none 0 0) 1 by_)
    (hx : Ev n l x (.int ka a)) (hy : Ev n l y (.int kb b)) (ha : a = (len : Int)) (hb : b = (cap : Int)) (hlc : len ≤ cap) (hby : by_ * cap ≤ 281474976710656) (hcap : cap ≤ 281474976710656) (hS : St w0 S h w)
    (kk : ∀ b w' LL us, LL = List.replicate len [] → RwV R1 (some ⟨b, 0, none⟩) cap us LL [(b, .cells (Array.replicate cap (.slice none 0 0)) e (0, 0))] → St w0 S (h ++ [(b, .cells (Array.replicate cap (.slice none 0 0)) e (0, 0))]) w' → wpList P ops Q rest (fr n ((d, .slice (some ⟨b, 0, none⟩) (List.length LL) cap) :: l) G Df) w') : wpList P ops Q (o :: rest) (fr n l G Df) w := by
  obtain ⟨i, hi1, hi2, hi3, hi4⟩ := info_parts hi
  subst ha hb
  have hby' : ((by_ * cap : Nat) : Int) ≤ 281474976710656 := by omega
  rw [Int.natCast_mul] at hby'
  have hr := run_make (P := P) w t e i (.slice none 0 0) ht hi1 hi2 ka kb (len : Int) (cap : Int) (by omega) (by omega) (by rw [hi4]; exact hby') (by omega)
  have hmc : madeCells (Value.slice none 0 0).cells ((cap : Int).toNat * i.size) = Array.replicate cap (.slice none 0 0) := by
    rw [hi3]
    apply Array.ext_getElem?
    intro j
    simp only [madeCells, Int.toNat_natCast, Nat.mul_one, Value.cells]
    rcases Nat.lt_or_ge j cap with hj | hj
    · simp [hj, Nat.mod_one]
    · simp [Nat.not_lt.2 hj]
  rw [hmc, Int.toNat_natCast, Int.toNat_natCast] at hr
  have hR : RwV R1 (some ⟨w.heap.size, 0, none⟩) cap (List.replicate len (.slice none 0 0)) (List.replicate len []) [(w.heap.size, .cells (Array.replicate cap (.slice none 0 0)) e (0, 0))] := by
    refine ⟨⟨by simpa using hlc, by simp; omega, fun j hj => ⟨rfl, _, e, (0, 0), List.mem_singleton.2 rfl, ?_⟩⟩, all2_nils len⟩
    have hj' : j < len := by simpa using hj
    have hj2 : j < cap := by omega
    simp [adr, hj2]
  have := kk _ _ _ _ rfl hR (hS.alloc (.cells (Array.replicate cap (.slice none 0 0)) e))
  rw [List.length_replicate] at this
  refine s_run hg hd (w' := w.alloc (.cells (Array.replicate cap (.slice none 0 0)) e)) ?_ this
  unfold execOp; rw [ho]
  simp only [hx G Df, hy G Df]
  rw [Sem.run_bind, hr]; rfl
end Go.Proofs.Ytdmiklegahdafaa.K

/- A log, plain: what Append and Clear do to it and to its disk. -/
import Derived.Test.YtdmiklegahdafaaKDk2
namespace Go.Proofs.Ytdmiklegahdafaa.K
open Go Go.RowKit
set_option linter.unusedSimpArgs false
set_option linter.unusedVariables false

structure Lg where
  size : Nat
  count : Nat
  off : Bool
def Lg.append (z : Lg) (D : Dk) (s : ByteArray) (B : List (List Nat)) : Nat × Lg × Dk :=
  if z.off then (112, z, D) else
  if 4096 < B.length ∨ 4194304 < (bodyL B).length then (110, z, D) else
  let r := D.append s (recL B)
  let q := if r.1 = 0 then r.2.sync s else r
  if q.1 ≠ 0 then (q.1, { z with off := true }, q.2) else (0, { z with size := z.size + (recL B).length, count := z.count + 1 }, q.2)
def Lg.clear (z : Lg) (D : Dk) (s : ByteArray) : Nat × Lg × Dk :=
  if z.off then (112, z, D) else
  let r := D.cut s 8
  if r.1 ≠ 0 then (r.1, { z with off := true }, r.2) else (0, { z with size := 8, count := 0 }, r.2)
structure LgS (e : Nat) (z1 : Lg) (D1 : Dk) (r : Nat × Lg × Dk) (z : Lg) (D : Dk) : Prop where
  eq : r = (e, z1, D1)
  ok : D1.ok
  le : e ≤ 200
  wr : D1.writes ≤ D.writes + 2
  size : z1.size ≤ z.size + 4194312
  count : z1.count ≤ z.count + 1
variable {z : Lg} {D D1 D2 : Dk} {s : ByteArray} {B : List (List Nat)} {e e2 : Nat}
theorem lapp_off (ok : D.ok) (h : z.off = true) : LgS 112 z D (z.append D s B) z D := ⟨by simp [Lg.append, h], ok, by omega, by omega, by omega, by omega⟩
theorem lapp_long (ok : D.ok) (h : z.off = false) (h2 : 4096 < B.length ∨ 4194304 < (bodyL B).length) : LgS 110 z D (z.append D s B) z D := ⟨by simp [Lg.append, h, h2], ok, by omega, by omega, by omega, by omega⟩
theorem lapp_f1 (h : z.off = false) (h2 : ¬ (4096 < B.length ∨ 4194304 < (bodyL B).length)) (h3 : Stp e D1 (D.append s (recL B)) D) (he : ¬ e = 0) : LgS e { z with off := true } D1 (z.append D s B) z D :=
  ⟨by simp only [Lg.append, if_neg h2, h3.eq]; simp [h, he], h3.ok, h3.le, by have := h3.wr; omega, by show z.size ≤ _; omega, by show z.count ≤ _; omega⟩
theorem lapp_f2 (h : z.off = false) (h2 : ¬ (4096 < B.length ∨ 4194304 < (bodyL B).length)) (h3 : Stp e D1 (D.append s (recL B)) D) (he : e = 0) (h4 : Stp e2 D2 (D1.sync s) D1) (he2 : ¬ e2 = 0) : LgS e2 { z with off := true } D2 (z.append D s B) z D :=
  ⟨by subst he; simp only [Lg.append, if_neg h2, h3.eq]; simp [h, h4.eq, he2], h4.ok, h4.le, by have := h3.wr; have := h4.wr; omega, by show z.size ≤ _; omega, by show z.count ≤ _; omega⟩
theorem lapp_ok (h : z.off = false) (h2 : ¬ (4096 < B.length ∨ 4194304 < (bodyL B).length)) (h3 : Stp e D1 (D.append s (recL B)) D) (he : e = 0) (h4 : Stp e2 D2 (D1.sync s) D1) (he2 : e2 = 0) : LgS 0 { z with size := z.size + (recL B).length, count := z.count + 1 } D2 (z.append D s B) z D :=
  ⟨by subst he; subst he2; simp only [Lg.append, if_neg h2, h3.eq]; simp [h, h4.eq], h4.ok, by omega, by have := h3.wr; have := h4.wr; omega, by show z.size + (recL B).length ≤ _; rw [recL_len]; omega, Nat.le_refl _⟩
theorem lclr_off (ok : D.ok) (h : z.off = true) : LgS 112 z D (z.clear D s) z D := ⟨by simp [Lg.clear, h], ok, by omega, by omega, by omega, by omega⟩
theorem lclr_f (h : z.off = false) (h3 : Stp e D1 (D.cut s 8) D) (he : ¬ e = 0) : LgS e { z with off := true } D1 (z.clear D s) z D :=
  ⟨by simp [Lg.clear, h, h3.eq, he], h3.ok, h3.le, by have := h3.wr; omega, by show z.size ≤ _; omega, by show z.count ≤ _; omega⟩
theorem lclr_ok (h : z.off = false) (h3 : Stp e D1 (D.cut s 8) D) (he : e = 0) : LgS 0 { z with size := 8, count := 0 } D1 (z.clear D s) z D :=
  ⟨by subst he; simp [Lg.clear, h, h3.eq], h3.ok, by omega, by have := h3.wr; omega, by show 8 ≤ _; omega, by show 0 ≤ _; omega⟩
end Go.Proofs.Ytdmiklegahdafaa.K

/- The digit of a long quotient, guessed out of the highest limbs: plain facts. -/
import Derived.Test.YtdmiklegahdafaaKNum
namespace Go.Proofs.Ytdmiklegahdafaa
set_option linter.unusedVariables false
set_option linter.unusedSimpArgs false
/-- the three highest limbs of X and the two highest of Y -/
structure Hi3 (X Y : List Nat) (n u0 u1 u2 v1 v2 : Nat) : Prop where
  n2 : 2 ≤ n
  lx : X.length = n + 1
  ly : Y.length = n
  limX : Lim X
  limY : Lim Y
  e0 : u0 = X.getD n 0
  e1 : u1 = X.getD (n - 1) 0
  e2 : u2 = X.getD (n - 2) 0
  f1 : v1 = Y.getD (n - 1) 0
  f2 : v2 = Y.getD (n - 2) 0
theorem Hi3.x {X Y : List Nat} {n u0 u1 u2 v1 v2 : Nat} (h : Hi3 X Y n u0 u1 u2 v1 v2) : ∃ xl, xl < pw (n - 2) ∧ lv X = ((u0 * 4294967296 + u1) * 4294967296 + u2) * pw (n - 2) + xl := by
  obtain ⟨k, rfl⟩ : ∃ k, n = k + 2 := ⟨n - 2, by have := h.n2; omega⟩
  have hl := h.lx
  refine ⟨lv (X.take k), ?_, ?_⟩
  · have := lv_lt (lim_take h.limX k)
    rw [List.length_take, Nat.min_eq_left (by omega)] at this
    simpa using this
  · have h0 := lv_take_succ (l := X) (k := k + 2) (by omega)
    have h1 := lv_take_succ (l := X) (k := k + 1) (by omega)
    have h2 := lv_take_succ (l := X) (k := k) (by omega)
    rw [take_all (by omega)] at h0
    have a0 := h.e0; have a1 := h.e1; have a2 := h.e2
    simp only [Nat.add_sub_cancel, show k + 2 - 1 = k + 1 by omega] at a0 a1 a2 ⊢
    rw [← a0] at h0; rw [← a1] at h1; rw [← a2] at h2
    have p1 : pw (k + 1) = 4294967296 * pw k := pw_succ k
    have p2 : pw (k + 2) = 4294967296 * (4294967296 * pw k) := by rw [← p1]; exact pw_succ (k + 1)
    rw [h0, h1, h2, p1, p2]
    generalize lv (X.take k) = z
    generalize pw k = p
    clear h0 h1 h2 a0 a1 a2 h hl p1 p2
    grind
theorem Hi3.y {X Y : List Nat} {n u0 u1 u2 v1 v2 : Nat} (h : Hi3 X Y n u0 u1 u2 v1 v2) : ∃ yl, yl < pw (n - 2) ∧ lv Y = (v1 * 4294967296 + v2) * pw (n - 2) + yl := by
  obtain ⟨k, rfl⟩ : ∃ k, n = k + 2 := ⟨n - 2, by have := h.n2; omega⟩
  have hl := h.ly
  refine ⟨lv (Y.take k), ?_, ?_⟩
  · have := lv_lt (lim_take h.limY k)
    rw [List.length_take, Nat.min_eq_left (by omega)] at this
    simpa using this
  · have h1 := lv_take_succ (l := Y) (k := k + 1) (by omega)
    have h2 := lv_take_succ (l := Y) (k := k) (by omega)
    rw [take_all (by omega)] at h1
    have a1 := h.f1; have a2 := h.f2
    simp only [Nat.add_sub_cancel, show k + 2 - 1 = k + 1 by omega] at a1 a2 ⊢
    rw [← a1] at h1; rw [← a2] at h2
    have p1 : pw (k + 1) = 4294967296 * pw k := pw_succ k
    rw [h1, h2, p1]
    generalize lv (Y.take k) = z
    generalize pw k = p
    clear h1 h2 a1 a2 h hl p1
    grind
theorem lt_of_mul_lt {a b p : Nat} (h : a * p < b * p) : a < b := by
  rcases Nat.lt_or_ge a b with q | q
  · exact q
  · have := Nat.mul_le_mul_right p q; omega
/-- the digit's leading products -/
theorem q_le3 {X Y : List Nat} {n u0 u1 u2 v1 v2 q : Nat} (h : Hi3 X Y n u0 u1 u2 v1 v2) (hq : q * lv Y ≤ lv X) : q * (v1 * 4294967296 + v2) ≤ (u0 * 4294967296 + u1) * 4294967296 + u2 := by
  obtain ⟨xl, hx, ex⟩ := h.x
  obtain ⟨yl, hy, ey⟩ := h.y
  have h0 : q * lv Y = q * (v1 * 4294967296 + v2) * pw (n - 2) + q * yl := by rw [ey, Nat.mul_add, ← Nat.mul_assoc]
  have h1 : q * (v1 * 4294967296 + v2) * pw (n - 2) ≤ q * lv Y := by rw [h0]; exact Nat.le_add_right _ _
  have h2 : q * (v1 * 4294967296 + v2) * pw (n - 2) < ((u0 * 4294967296 + u1) * 4294967296 + u2 + 1) * pw (n - 2) := by
    rw [Nat.add_mul, Nat.one_mul]; omega
  have := lt_of_mul_lt h2
  omega
theorem q_le2 {X Y : List Nat} {n u0 u1 u2 v1 v2 q : Nat} (h : Hi3 X Y n u0 u1 u2 v1 v2) (hu2 : u2 ≤ 4294967295) (hq : q * lv Y ≤ lv X) : q * v1 ≤ u0 * 4294967296 + u1 := by
  have h1 := q_le3 h hq
  have h2 : q * (v1 * 4294967296 + v2) = (q * v1) * 4294967296 + q * v2 := by grind
  rw [h2] at h1
  omega
theorem guess_first {X Y : List Nat} {n u0 u1 u2 v1 v2 : Nat} (h : Hi3 X Y n u0 u1 u2 v1 v2) (hu2 : u2 ≤ 4294967295) (hv : 0 < v1) : lv X / lv Y ≤ (u0 * 4294967296 + u1) / v1 := by
  rw [Nat.le_div_iff_mul_le hv]
  exact q_le2 h hu2 (Nat.div_mul_le_self _ _)
theorem guess_less {X Y : List Nat} {n u0 u1 u2 v1 v2 g r : Nat} (h : Hi3 X Y n u0 u1 u2 v1 v2) (hQ : lv X / lv Y ≤ g) (hB : lv X / lv Y < 4294967296) (hg : g * v1 + r = u0 * 4294967296 + u1) (ht : 4294967296 ≤ g ∨ r * 4294967296 + u2 < g * v2) : lv X / lv Y ≤ g - 1 := by
  rcases Nat.lt_or_ge (lv X / lv Y) g with q | q
  · omega
  · have e : lv X / lv Y = g := by omega
    exfalso
    rcases ht with ht | ht
    · omega
    · have h1 := q_le3 h (q := g) (by rw [← e]; exact Nat.div_mul_le_self _ _)
      rw [← hg] at h1
      have h2 : g * (v1 * 4294967296 + v2) = (g * v1) * 4294967296 + g * v2 := by grind
      rw [h2] at h1
      omega
theorem top_aux {A T V Bp gp gY gyl X Y xl yl : Nat} (h2 : A ≤ T) (h4 : gp ≤ Bp) (h5 : Bp ≤ V) (h6 : gY = A + gyl) (h3 : gyl < gp) (ex : X = T + xl) (ey : Y = V + yl) : gY < X + Y := by omega
theorem guess_top {X Y : List Nat} {n u0 u1 u2 v1 v2 g r : Nat} (h : Hi3 X Y n u0 u1 u2 v1 v2) (hv : 0 < v1) (hg : g * v1 + r = u0 * 4294967296 + u1) (hB : g < 4294967296) (ht : g * v2 ≤ r * 4294967296 + u2) (hY : 0 < lv Y) : g ≤ lv X / lv Y + 1 := by
  obtain ⟨xl, hx, ex⟩ := h.x
  obtain ⟨yl, hy, ey⟩ := h.y
  have h1 : g * (v1 * 4294967296 + v2) ≤ (u0 * 4294967296 + u1) * 4294967296 + u2 := by
    have h2 : g * (v1 * 4294967296 + v2) = (g * v1) * 4294967296 + g * v2 := by grind
    rw [h2, ← hg]; omega
  have h2 : g * (v1 * 4294967296 + v2) * pw (n - 2) ≤ ((u0 * 4294967296 + u1) * 4294967296 + u2) * pw (n - 2) := Nat.mul_le_mul_right _ h1
  have h3 : g * yl ≤ g * pw (n - 2) := Nat.mul_le_mul_left _ (by omega)
  have h4 : g * pw (n - 2) ≤ 4294967296 * pw (n - 2) := Nat.mul_le_mul_right _ (by omega)
  have h5 : 4294967296 * pw (n - 2) ≤ (v1 * 4294967296 + v2) * pw (n - 2) := Nat.mul_le_mul_right _ (by omega)
  have h6 : g * lv Y = g * (v1 * 4294967296 + v2) * pw (n - 2) + g * yl := by rw [ey, Nat.mul_add, ← Nat.mul_assoc]
  rcases Nat.eq_zero_or_pos g with hg0 | hg0
  · rw [hg0]; exact Nat.zero_le _
  · have h3' : g * yl < g * pw (n - 2) := Nat.mul_lt_mul_of_pos_left hy hg0
    have h10 : g * lv Y < lv X + lv Y := top_aux h2 h4 h5 h6 h3' ex ey
    have h7 : (g - 1) * lv Y ≤ lv X := by rw [Nat.sub_mul, Nat.one_mul]; omega
    have := (Nat.le_div_iff_mul_le hY).2 h7
    omega
/-- the guess is soon below 2^32 -/
theorem guess_small {u0 u1 v1 g r : Nat} (hv : 2147483648 ≤ v1) (hu0 : u0 ≤ v1) (hu1 : u1 ≤ 4294967295) (hg : g * v1 + r = u0 * 4294967296 + u1) (hr : 4294967296 ≤ r) : g < 4294967296 := by
  have h1 : u0 * 4294967296 ≤ v1 * 4294967296 := Nat.mul_le_mul_right _ hu0
  have h2 : g * v1 < 4294967296 * v1 := by omega
  exact lt_of_mul_lt h2
theorem guess_begin {u0 u1 v1 : Nat} (hv : 2147483648 ≤ v1) (hu0 : u0 ≤ v1) (hu1 : u1 ≤ 4294967295) : (u0 * 4294967296 + u1) / v1 ≤ 4294967297 := by
  have h1 : u0 * 4294967296 ≤ v1 * 4294967296 := Nat.mul_le_mul_right _ hu0
  have : (u0 * 4294967296 + u1) / v1 < 4294967298 := Nat.div_lt_of_lt_mul (by omega)
  omega
theorem top_le {X Y : List Nat} {n u0 u1 u2 v1 v2 : Nat} (h : Hi3 X Y n u0 u1 u2 v1 v2) (hB : lv X < 4294967296 * lv Y) (hv2 : v2 ≤ 4294967295) : u0 ≤ v1 := by
  obtain ⟨xl, hx, ex⟩ := h.x
  obtain ⟨yl, hy, ey⟩ := h.y
  rcases Nat.lt_or_ge v1 u0 with q | q
  · exfalso
    have h1 : (v1 + 1) * (4294967296 * (4294967296 * pw (n - 2))) ≤ u0 * (4294967296 * (4294967296 * pw (n - 2))) := Nat.mul_le_mul_right _ q
    have h2 : v2 * pw (n - 2) ≤ 4294967295 * pw (n - 2) := Nat.mul_le_mul_right _ hv2
    have h3 : lv Y = v1 * (4294967296 * pw (n - 2)) + v2 * pw (n - 2) + yl := by rw [ey]; grind
    have h4 : lv X = u0 * (4294967296 * (4294967296 * pw (n - 2))) + u1 * (4294967296 * pw (n - 2)) + u2 * pw (n - 2) + xl := by rw [ex]; grind
    have h5 : v1 * (4294967296 * (4294967296 * pw (n - 2))) = 4294967296 * (v1 * (4294967296 * pw (n - 2))) := by grind
    have h6 : 0 ≤ u1 * (4294967296 * pw (n - 2)) := Nat.zero_le _
    rw [Nat.add_mul, Nat.one_mul] at h1
    omega
  · exact q

/-! the product is taken away -/
theorem sub_step {X Z Y : List Nat} {i c br g x d o : Nat} (hX : i < X.length) (hZ : i < Z.length) (hY : i < Y.length) (e : lv (X.take i) + (c + br) * pw i = lv (Z.take i) + g * lv (Y.take i)) (hx : x = X.getD i 0)
    (hd : x + 4294967296 * o = d + (c + g * Y.getD i 0) % 4294967296 + br) :
    lv (X.take (i + 1)) + ((c + g * Y.getD i 0) / 4294967296 + o) * pw (i + 1) = lv ((Z.set i d).take (i + 1)) + g * lv (Y.take (i + 1)) := by
  rw [lv_take_succ hX, lv_take_set hZ, lv_take_succ hY, pw_succ, ← hx]
  have hs := Nat.mod_add_div (c + g * Y.getD i 0) 4294967296
  generalize (c + g * Y.getD i 0) % 4294967296 = r at *
  generalize (c + g * Y.getD i 0) / 4294967296 = q at *
  generalize Y.getD i 0 = y at *
  generalize lv (X.take i) = a at *
  generalize lv (Z.take i) = b at *
  generalize lv (Y.take i) = m at *
  generalize pw i = p at *
  have hs2 : (r + 4294967296 * q) * p = (c + g * y) * p := by rw [hs]
  have hd2 : (x + 4294967296 * o) * p = (d + r + br) * p := by rw [hd]
  grind
theorem sub_top {X Z Y : List Nat} {n c br g x d o : Nat} (hX : X.length = n + 1) (hZ : Z.length = n + 1) (hY : Y.length = n) (hc : c ≤ 4294967295) (e : lv (X.take n) + (c + br) * pw n = lv (Z.take n) + g * lv (Y.take n)) (hx : x = X.getD n 0)
    (hd : x + 4294967296 * o = d + c + br) : lv X + o * pw (n + 1) = lv (Z.set n d) + g * lv Y := by
  have h1 := lv_take_succ (l := X) (k := n) (by omega)
  have h2 := lv_take_set (l := Z) (k := n) (x := d) (by omega)
  rw [take_all (by omega)] at h1
  rw [take_all (by simp; omega)] at h2
  rw [take_all (l := Y) (by omega)] at e
  rw [h1, h2, pw_succ, ← hx]
  generalize lv (X.take n) = a at *
  generalize lv (Z.take n) = b at *
  generalize lv Y = m at *
  generalize pw n = p at *
  have hd2 : (x + 4294967296 * o) * p = (d + c + br) * p := by rw [hd]
  grind
theorem digit_fits {x y g z p : Nat} (hy : 0 < y) (hQ : x / y ≤ g) (e : x + 0 * p = z + g * y) : g = x / y ∧ z = x % y := by
  have h1 : g * y ≤ x := by omega
  have h2 := (Nat.le_div_iff_mul_le hy).2 h1
  have h3 : g = x / y := by omega
  refine ⟨h3, ?_⟩
  have h4 := Nat.mod_add_div x y
  rw [← h3] at h4
  have h5 : y * g = g * y := Nat.mul_comm _ _
  omega
theorem digit_over {x y g z p : Nat} (hy : 0 < y) (hQ : g ≤ x / y + 1) (hz : z < p) (e : x + 1 * p = z + g * y) : g = x / y + 1 ∧ z + y = p + x % y := by
  have h1 : x < g * y := by omega
  have h2 : x / y < g := by rw [Nat.div_lt_iff_lt_mul hy]; exact h1
  have h3 : g = x / y + 1 := by omega
  refine ⟨h3, ?_⟩
  have h4 := Nat.mod_add_div x y
  subst h3
  rw [Nat.add_mul, Nat.one_mul] at e
  have h5 : y * (x / y) = x / y * y := Nat.mul_comm _ _
  omega
theorem back_step {Z W Y : List Nat} {i b z : Nat} (hZ : i < Z.length) (hW : i < W.length) (hY : i < Y.length) (e : lv (W.take i) + b * pw i = lv (Z.take i) + lv (Y.take i)) (hz : z = Z.getD i 0) :
    lv ((W.set i ((z + Y.getD i 0 + b) % 4294967296)).take (i + 1)) + (z + Y.getD i 0 + b) / 4294967296 * pw (i + 1) = lv (Z.take (i + 1)) + lv (Y.take (i + 1)) := by
  rw [lv_take_set hW, lv_take_succ hZ, lv_take_succ hY, pw_succ, ← hz]
  have hs := Nat.mod_add_div (z + Y.getD i 0 + b) 4294967296
  generalize (z + Y.getD i 0 + b) % 4294967296 = r at *
  generalize (z + Y.getD i 0 + b) / 4294967296 = q at *
  generalize Y.getD i 0 = y at *
  generalize lv (W.take i) = a at *
  generalize lv (Z.take i) = c at *
  generalize lv (Y.take i) = m at *
  generalize pw i = p at *
  have hs2 : (r + 4294967296 * q) * p = (z + y + b) * p := by rw [hs]
  grind
theorem back_top {Z W Y : List Nat} {n b z R : Nat} (hZ : Z.length = n + 1) (hW : W.length = n + 1) (hY : Y.length = n) (lW : Lim W) (lY : Lim Y) (hb : b ≤ 1) (lZ : Lim Z) (e : lv (W.take n) + b * pw n = lv (Z.take n) + lv (Y.take n)) (hz : z = Z.getD n 0)
    (hR : R < lv Y) (hs : lv Z + lv Y = pw (n + 1) + R) : lv (W.set n ((z + b) % 4294967296)) = R := by
  have h1 := lv_take_succ (l := Z) (k := n) (by omega)
  have h2 := lv_take_set (l := W) (k := n) (x := (z + b) % 4294967296) (by omega)
  rw [take_all (by omega), ← hz] at h1
  rw [take_all (by simp; omega)] at h2
  rw [take_all (l := Y) (by omega)] at e
  have h3 := lv_lt lY
  rw [hY] at h3
  have h4 := lv_lt (lim_take lW n)
  rw [List.length_take, Nat.min_eq_left (by omega)] at h4
  have hzl : z ≤ 4294967295 := by rw [hz]; exact getD_lim lZ n
  have h5 : lv (W.take n) + (z + b) * pw n = 4294967296 * pw n + R := by rw [← pw_succ, ← hs, h1, Nat.add_mul]; omega
  have h6 : z + b = 4294967296 := by
    rcases Nat.lt_or_ge (z + b) 4294967296 with q | q
    · have : (z + b) * pw n ≤ 4294967295 * pw n := Nat.mul_le_mul_right _ (by omega)
      omega
    · omega
  rw [h2, h6]
  rw [h6] at h5
  simp; omega
theorem guess_next {g v1 r t : Nat} (hg1 : 1 ≤ g) (hg : g * v1 + r = t) : (g - 1) * v1 + (r + v1) = t := by
  have h : v1 ≤ g * v1 := by have := Nat.mul_le_mul_right v1 hg1; rw [Nat.one_mul] at this; exact this
  rw [Nat.sub_mul, Nat.one_mul]; omega
theorem guess_break {X Y : List Nat} {n u0 u1 u2 v1 v2 g r : Nat} (h : Hi3 X Y n u0 u1 u2 v1 v2) (hu1 : u1 ≤ 4294967295) (hu2 : u2 ≤ 4294967295) (hv : 2147483648 ≤ v1) (hv2 : v2 ≤ 4294967295) (hXY : lv X < 4294967296 * lv Y) (hY : 0 < lv Y)
    (hg1 : 1 ≤ g) (hQ : lv X / lv Y ≤ g) (hg : g * v1 + r = u0 * 4294967296 + u1) (ht : 4294967296 ≤ g ∨ r * 4294967296 + u2 < g * v2) (hr : 4294967296 ≤ r + v1) :
    g - 1 < 4294967296 ∧ lv X / lv Y ≤ g - 1 ∧ g - 1 ≤ lv X / lv Y + 1 := by
  have hB : lv X / lv Y < 4294967296 := (Nat.div_lt_iff_lt_mul hY).2 hXY
  have h1 := guess_less h hQ hB hg ht
  have h2 := guess_next hg1 hg
  have h3 := guess_small hv (top_le h hXY hv2) hu1 h2 hr
  refine ⟨h3, h1, guess_top h (by omega) h2 h3 ?_ hY⟩
  have h4 : (g - 1) * v2 ≤ 4294967295 * 4294967295 := Nat.mul_le_mul (by omega) hv2
  have h5 : 4294967296 * 4294967296 ≤ (r + v1) * 4294967296 := Nat.mul_le_mul_right _ hr
  omega
theorem guess_stays {X Y : List Nat} {n u0 u1 u2 v1 v2 g r : Nat} (h : Hi3 X Y n u0 u1 u2 v1 v2) (hXY : lv X < 4294967296 * lv Y) (hY : 0 < lv Y)
    (hg1 : 1 ≤ g) (hQ : lv X / lv Y ≤ g) (hg : g * v1 + r = u0 * 4294967296 + u1) (ht : 4294967296 ≤ g ∨ r * 4294967296 + u2 < g * v2) :
    (g - 1) * v1 + (r + v1) = u0 * 4294967296 + u1 ∧ lv X / lv Y ≤ g - 1 :=
  ⟨guess_next hg1 hg, guess_less h hQ ((Nat.div_lt_iff_lt_mul hY).2 hXY) hg ht⟩
end Go.Proofs.Ytdmiklegahdafaa

/- Contracts of functions of the program, each walked once. -/
import Derived.Test.YtnbklceenfjojaaDoorFnC
import Derived.Test.YtnbklceenfjojaaDoorKWin
namespace Go.Proofs.YtnbklceenfjojaaDoor
open Go Go.RowKit K
namespace FD
theorem mixed : Tryd.prog.follows .mixedOrders = true := by kernel_rfl
theorem cb28 : callable Tryd.prog 28 = true := by kernel_rfl
theorem cb29 : callable Tryd.prog 29 = true := by kernel_rfl
theorem cb30 : callable Tryd.prog 30 = true := by kernel_rfl
theorem cb71 : callable Tryd.prog 71 = true := by kernel_rfl
theorem cb72 : callable Tryd.prog 72 = true := by kernel_rfl
theorem cb73 : callable Tryd.prog 73 = true := by kernel_rfl
theorem cb74 : callable Tryd.prog 74 = true := by kernel_rfl
theorem cb75 : callable Tryd.prog 75 = true := by kernel_rfl
theorem one38 : One Tryd.prog 38 = true := by kernel_rfl
theorem ti38 : (Tryd.prog.info? 38).map (fun i => (i.zero, i.size, i.bytes)) = some (some (.int .u32 0), 1, 4) := by kernel_rfl

end FD
open FD
attribute [local irreducible] Go.wpList Go.wpQuiet Go.wpStill Go.wpAny Go.Code.wp
set_option maxRecDepth 10000
set_option maxHeartbeats 8000000
set_option linter.unusedVariables false
set_option linter.unusedSimpArgs false
theorem normal_any (w0 : World) (aA : Option Addr) (cA : Nat) (A : List Nat) (hA : Rd w0 .u32 aA cA A) (hlA : A.length ≤ 1000000) :
    Calls Tryd.prog 28 #[.slice aA A.length cA] w0 (Ret fun v w' => ((∃ R X, A = R ++ X ∧ Nm R ∧ lv R = lv A ∧ lv A < Top ∧ v = .tuple #[.slice aA R.length R.length, .int .i64 0]) ∨ (Top ≤ lv A ∧ v = .tuple #[.slice none 0 0, .int .i64 21])) ∧ St w0 [] [] w') := by
  refine (normal_ok w0 aA cA A hA hlA).mono ?_
  rintro e w' ⟨v, rfl, h, hS⟩
  refine ⟨v, rfl, ?_, hS⟩
  rcases h with ⟨h1, rfl⟩ | ⟨h1, rfl⟩
  · obtain ⟨R, X, e, n, l, hl⟩ := nm_front hA.fit h1
    exact .inl ⟨R, X, e, n, l, (top_iff hA.fit).1 h1, by rw [hl]⟩
  · exact .inr ⟨Nat.le_of_not_lt fun q => by have := (top_iff hA.fit).2 q; omega, rfl⟩
theorem normal_fit (w0 : World) (aA : Option Addr) (cA : Nat) (A : List Nat) (hA : Rd w0 .u32 aA cA A) (hlA : A.length ≤ 1000000) (hT : lv A < Top) :
    Calls Tryd.prog 28 #[.slice aA A.length cA] w0 (Ret fun v w' => (∃ R X, A = R ++ X ∧ Nm R ∧ lv R = lv A ∧ v = .tuple #[.slice aA R.length R.length, .int .i64 0]) ∧ St w0 [] [] w') := by
  refine (normal_any w0 aA cA A hA hlA).mono ?_
  rintro e w' ⟨v, rfl, h, hS⟩
  refine ⟨v, rfl, ?_, hS⟩
  rcases h with ⟨R, X, e, n, l, _, rfl⟩ | ⟨h1, rfl⟩
  · exact ⟨R, X, e, n, l, rfl⟩
  · omega

theorem clone_ow (w0 : World) (aA : Option Addr) (cA : Nat) (A : List Nat) (hA : Rd w0 .u32 aA cA A) (hlA : A.length ≤ 1000000) :
    Calls Tryd.prog 72 #[.slice aA A.length cA] w0 (Ret fun v w' => ∃ L, Ow w0 w' .u32 38 v L ∧ L = A) := by
  refine (clone_ok w0 aA cA A hA hlA).mono ?_
  rintro e w' ⟨v, rfl, a, cap, hv, rfl, g, s⟩
  exact ⟨_, rfl, A, Ow.of_gr (h1 := []) g s rfl (by omega) hA.fit, rfl⟩

theorem cloneN_ow (w0 : World) (aA : Option Addr) (cA : Nat) (A : List Nat) (hA : Rd w0 .u32 aA cA A) (hlA : A.length ≤ 1000000) :
    Calls Tryd.prog 92 #[.slice aA A.length cA] w0 (Ret fun v w' => ∃ L, Ow w0 w' .u32 38 v L ∧ L = A) := by
  refine (cloneN_ok w0 aA cA A hA hlA).mono ?_
  rintro e w' ⟨v, rfl, a, cap, hv, rfl, g, s⟩
  exact ⟨_, rfl, A, Ow.of_gr (h1 := []) g s rfl (by omega) hA.fit, rfl⟩

theorem mul_ow (w0 : World) (aA : Option Addr) (cA : Nat) (A : List Nat) (hA : Rd w0 .u32 aA cA A) (aB : Option Addr) (cB : Nat) (B : List Nat) (hB : Rd w0 .u32 aB cB B) (hlA : A.length ≤ 1000000) (hlB : B.length ≤ 1000000) :
    Calls Tryd.prog 32 #[.slice aA A.length cA, .slice aB B.length cB] w0 (Ret fun v w' => ∃ O, Ow w0 w' .u32 38 v O ∧ O.length = A.length + B.length ∧ Lim O ∧ lv O = lv A * lv B) := by
  refine (mul_ok w0 aA cA A hA aB cB B hB hlA hlB).mono ?_
  rintro e w' ⟨v, rfl, O, r, h1, h2, h3⟩
  exact ⟨_, rfl, O, r.ow (by omega) h2, h1, h2, h3⟩

theorem add_ow (w0 : World) (aA : Option Addr) (cA : Nat) (A : List Nat) (hA : Rd w0 .u32 aA cA A) (aB : Option Addr) (cB : Nat) (B : List Nat) (hB : Rd w0 .u32 aB cB B) (hlA : A.length ≤ 1000000) (hlB : B.length ≤ 1000000) :
    Calls Tryd.prog 82 #[.slice aA A.length cA, .slice aB B.length cB] w0 (Ret fun v w' => ∃ O, Ow w0 w' .u32 38 v O ∧ O.length = max A.length B.length + 1 ∧ Lim O ∧ lv O = lv A + lv B) := by
  refine (add_ok w0 aA cA A hA aB cB B hB hlA hlB).mono ?_
  rintro e w' ⟨v, rfl, O, r, h1, h2, h3⟩
  exact ⟨_, rfl, O, r.ow (by omega) h2, h1, h2, h3⟩

theorem left_ow (w0 : World) (aA : Option Addr) (cA : Nat) (A : List Nat) (hA : Rd w0 .u32 aA cA A) (N : Nat) (hN : N ≤ 1000000) (hlA : A.length ≤ 1000000) :
    Calls Tryd.prog 29 #[.slice aA A.length cA, .int .i64 (((N : Nat) : Int))] w0 (Ret fun v w' => ∃ O, Ow w0 w' .u32 38 v O ∧ O.length = N / 32 + A.length + 1 ∧ Lim O ∧ lv O = lv A * 2 ^ N) := by
  refine (left_ok w0 aA cA A hA N hN hlA).mono ?_
  rintro e w' ⟨v, rfl, O, r, h1, h2, h3⟩
  exact ⟨_, rfl, O, r.ow (by omega) h2, h1, h2, h3⟩

theorem divide_ok (w0 : World) (aA : Option Addr) (cA : Nat) (A : List Nat) (hA : Rd w0 .u32 aA cA A) (aB : Option Addr) (cB : Nat) (B : List Nat) (hB : Rd w0 .u32 aB cB B) (nA : Nm A) (nB : Nm B) (hB0 : 0 < B.length) :
    Calls Tryd.prog 41 #[.slice aA A.length cA, .slice aB B.length cB] w0 (Ret fun v w' => ∃ Q R u v0, v = .tuple #[u, v0] ∧ Ow w0 w' .u32 38 u Q ∧ Ow w0 w' .u32 38 v0 R ∧ Lim Q ∧ Lim R ∧ lv Q = lv A / lv B ∧ lv R = lv A % lv B ∧ Q.length ≤ 10000 ∧ R.length ≤ 10000) := by
  refine k_enter (vs := [.slice aA A.length cA, .slice aB B.length cB]) Tryd.func41 rfl Tryd.ntmps41 rfl ?_
  have hS := St.init w0
  have lA := hA.le
  have lB := hB.le
  have lA2 := nA.len
  have lB2 := nB.len
  refine wp_seq ?_
  refine k_reg ?_
  refine s_val hS rfl rfl (r_assign rfl .c) ?_
  refine s_val hS rfl rfl (r_assign rfl .c) ?_
  refine wpList_nil ?_
  refine x_tn ?_
  refine wp_seq ?_
  refine wp_seq ?_
  refine k_reg ?_
  refine s_val hS rfl rfl (r_move rfl (.t rfl rfl)) ?_
  refine s_val hS rfl rfl (r_move rfl (.t rfl rfl)) ?_
  refine s_call rfl rfl rfl (vs := [.slice aA A.length cA, .slice aB B.length cB]) ⟨(.t rfl rfl), (.t rfl rfl), trivial⟩ cb71 (cmp_ok w0 aA cA A hA aB cB B hB nA.nz nB.nz) ?_
  intro v1 w1 hp1
  obtain ⟨hp1, hB1⟩ := hp1
  have hS1 := hS.keep hB1
  replace hB1 := hB1.toBelow
  rcases hp1 with ⟨hc1, rfl⟩ | ⟨hc1, rfl⟩ | ⟨hc1, rfl⟩
  · refine s_val hS1 rfl rfl (r_cmp_t rfl rfl (.t rfl rfl) .c (show (-1) < 0 from by omega)) ?_
    refine wpList_nil ?_
    refine x_tn ?_
    refine k_reb [(0, .slice aA A.length cA), (1, .slice aB B.length cB), (4, .slice none 0 0), (5, .slice none 0 0), (15, .bool true)] ⟨rfl, rfl, rfl, rfl, rfl, trivial⟩ fun G1 => ?_
    refine k_t (.t rfl rfl) ?_
    refine wp_seq ?_
    refine k_reg ?_
    refine s_val hS1 rfl rfl (r_move rfl (.t rfl rfl)) ?_
    refine s_call rfl rfl rfl (vs := [.slice aA A.length cA]) ⟨(.t rfl rfl), trivial⟩ cb72 (clone_ow w1 aA cA A (rd_st hS1 hA (by simp)) (by omega)) ?_
    intro v2 w2 hp2
    obtain ⟨L1, hp2, hL1⟩ := hp2
    obtain ⟨a1, c1, rfl, hR1, -, hT1⟩ := id hp2
    have hW1 := Ow.from_ hS1 hp2
    have hS2 := hS1.keep hT1
    refine s_val hS2 rfl rfl (r_assign rfl .c) ?_
    refine s_val hS2 rfl rfl (r_assign rfl (.t rfl rfl)) ?_
    refine wpList_nil ?_
    refine x_tn ?_
    refine k_reb [(0, .slice aA A.length cA), (1, .slice aB B.length cB), (4, .slice none 0 0), (5, .slice a1 L1.length c1)] ⟨rfl, rfl, rfl, rfl, trivial⟩ fun G2 => ?_
    refine wp_ret ?_
    refine x_tr ?_
    refine k_ret2 Tryd.results41 rfl rfl rfl rfl ?_
    refine ⟨_, rfl, ?_⟩
    exact ⟨[], _, _, _, rfl, Ow.empty hS2, hW1, lim_nil, by rw [hL1]; exact hA.fit, by rw [Nat.div_eq_of_lt hc1]; rfl, by rw [hL1, Nat.mod_eq_of_lt hc1], by simp, by rw [hL1]; omega⟩
  · refine s_val hS1 rfl rfl (r_cmp_f rfl rfl (.t rfl rfl) .c (show ¬ (0 < 0) from by omega)) ?_
    refine wpList_nil ?_
    refine x_tn ?_
    refine k_reb [(0, .slice aA A.length cA), (1, .slice aB B.length cB), (4, .slice none 0 0), (5, .slice none 0 0), (15, .bool false)] ⟨rfl, rfl, rfl, rfl, rfl, trivial⟩ fun G3 => ?_
    refine k_f (.t rfl rfl) ?_
    refine wp_skip ?_
    refine x_tn ?_
    refine k_reb [(0, .slice aA A.length cA), (1, .slice aB B.length cB), (4, .slice none 0 0), (5, .slice none 0 0)] ⟨rfl, rfl, rfl, rfl, trivial⟩ fun G4 => ?_
    refine wp_seq ?_
    refine wp_seq ?_
    refine k_reg ?_
    refine s_val hS1 rfl rfl (r_move rfl (.t rfl rfl)) ?_
    refine s_val hS1 rfl rfl (r_len rfl rfl Tryd.underlying26 (.t rfl rfl)) ?_
    by_cases b1e : B.length = 1
    · have hb0 := nz_one nB.nz b1e
      refine s_val hS1 rfl rfl (r_cmp_t rfl rfl (.t rfl rfl) .c (show ((B.length : Nat) : Int) = 1 from by omega)) ?_
      refine wpList_nil ?_
      refine x_tn ?_
      refine k_reb [(0, .slice aA A.length cA), (1, .slice aB B.length cB), (4, .slice none 0 0), (5, .slice none 0 0), (20, .bool true)] ⟨rfl, rfl, rfl, rfl, rfl, trivial⟩ fun G5 => ?_
      refine k_t (.t rfl rfl) ?_
      refine wp_seq ?_
      refine k_reg ?_
      refine s_val hS1 rfl rfl (r_move rfl (.t rfl rfl)) ?_
      refine s_val hS1 rfl rfl (r_move rfl (.t rfl rfl)) ?_
      refine s_val hS1 rfl rfl (r_ixr (j := 0) rfl Tryd.underlying26 ti38 (.t rfl rfl) .c hB rfl rfl (by omega)) ?_
      have b1 : B.getD 0 0 ≤ 4294967295 := hB.lt _
      refine s_val hS1 rfl rfl (r_load rfl one38 (.t rfl rfl) (St.cell_rd hB (by omega) (by simp))) ?_
      refine s_call rfl rfl rfl (vs := [.slice aA A.length cA, .int .u32 (((B.getD 0 0 : Nat) : Int))]) ⟨(.t rfl rfl), (.t rfl rfl), trivial⟩ cb73 (by_ok w1 aA cA A (rd_st hS1 hA (by simp)) (B.getD 0 0) (by omega) (by omega) (by omega)) ?_
      intro v3 w3 hp3
      obtain ⟨Q, r, _, rfl, ⟨blk1, rfl, hb1, hT2⟩, hQl, hQlim, hQv, hre⟩ := hp3
      have hS3 := hS1.join hT2 hb1
      refine s_val hS3 rfl rfl (r_move rfl (.t rfl rfl)) ?_
      refine s_val hS3 rfl rfl (r_extract rfl (.t rfl rfl) rfl) ?_
      refine s_val hS3 rfl rfl (r_extract rfl (.t rfl rfl) rfl) ?_
      refine s_val hS3 rfl rfl (r_assign rfl (.t rfl rfl)) ?_
      refine s_val hS3 rfl rfl (r_assign rfl (.t rfl rfl)) ?_
      refine wpList_nil ?_
      refine x_tn ?_
      refine k_reb [(0, .slice aA A.length cA), (1, .slice aB B.length cB), (4, .slice none 0 0), (5, .slice none 0 0), (6, .slice (some ⟨blk1, 0, none⟩) Q.length Q.length), (7, .int .u32 (((r : Nat) : Int)))] ⟨rfl, rfl, rfl, rfl, rfl, rfl, trivial⟩ fun G6 => ?_
      refine wp_seq ?_
      refine k_reg ?_
      refine s_val hS3 rfl rfl (r_move rfl (.t rfl rfl)) ?_
      refine s_val hS3 rfl rfl (r_move rfl (.t rfl rfl)) ?_
      refine s_lit rfl rfl rfl Tryd.underlying26 ti38 (vs := [(0, .int .u32 (((r : Nat) : Int)))]) ⟨rfl, (.t rfl rfl), trivial⟩ (L := [r]) rfl (by omega) rfl hS3 fun blk2 w4 hb2 hB2 hS4 => ?_
      refine s_val hS4 rfl rfl (r_assign rfl (.t rfl rfl)) ?_
      refine s_val hS4 rfl rfl (r_assign rfl (.t rfl rfl)) ?_
      refine wpList_nil ?_
      refine x_tn ?_
      refine k_reb [(0, .slice aA A.length cA), (1, .slice aB B.length cB), (4, .slice (some ⟨blk1, 0, none⟩) Q.length Q.length), (5, .slice (some ⟨blk2, 0, none⟩) 1 1)] ⟨rfl, rfl, rfl, rfl, trivial⟩ fun G7 => ?_
      refine wp_ret ?_
      refine x_tr ?_
      refine k_ret2 Tryd.results41 rfl rfl rfl rfl ?_
      refine ⟨_, rfl, ?_⟩
      have hrl : r < B.getD 0 0 := by rw [hre]; exact Nat.mod_lt _ hb0
      exact ⟨Q, [r], _, _, rfl, Ow.of_chunk0 (m := 0) hS4 rfl rfl rfl (by omega) hQlim, Ow.of_chunk0 (m := 1) hS4 rfl rfl rfl (by simp) (by simp [maxK]; omega), hQlim, by intro x hx; simp at hx; omega, by rw [hQv, lv_one b1e], by rw [← lv_one b1e] at hre; simp [lv, hre], by omega, by simp⟩
    · have hge : lv B ≤ lv A := by first | exact Nat.le_of_eq hc1.symm | exact Nat.le_of_lt hc1
      have hBA : B.length ≤ A.length := len_of_le_lv hA.fit nB.nz hge
      refine s_val hS1 rfl rfl (r_cmp_f rfl rfl (.t rfl rfl) .c (show ¬ (((B.length : Nat) : Int) = 1) from by omega)) ?_
      refine wpList_nil ?_
      refine x_tn ?_
      refine k_reb [(0, .slice aA A.length cA), (1, .slice aB B.length cB), (4, .slice none 0 0), (5, .slice none 0 0), (20, .bool false)] ⟨rfl, rfl, rfl, rfl, rfl, trivial⟩ fun G8 => ?_
      refine k_f (.t rfl rfl) ?_
      refine wp_skip ?_
      refine x_tn ?_
      refine k_reb [(0, .slice aA A.length cA), (1, .slice aB B.length cB), (4, .slice none 0 0), (5, .slice none 0 0)] ⟨rfl, rfl, rfl, rfl, trivial⟩ fun G9 => ?_
      refine wp_seq ?_
      refine k_reg ?_
      refine s_val hS1 rfl rfl (r_move rfl (.t rfl rfl)) ?_
      refine s_val hS1 rfl rfl (r_move rfl (.t rfl rfl)) ?_
      refine s_val hS1 rfl rfl (r_len rfl rfl Tryd.underlying26 (.t rfl rfl)) ?_
      refine s_val hS1 rfl rfl (r_arith rfl rfl (.t rfl rfl) .c (c := ((B.length - 1 : Nat) : Int)) (wn_i64 (by show (((B.length : Nat) : Int) : Int) - 1 = _; omega) (by omega))) ?_
      refine s_val hS1 rfl rfl (r_ixr (j := B.length - 1) rfl Tryd.underlying26 ti38 (.t rfl rfl) (.t rfl rfl) hB rfl rfl (by omega)) ?_
      have b2 : B.getD (B.length - 1) 0 ≤ 4294967295 := hB.lt _
      refine s_val hS1 rfl rfl (r_load rfl one38 (.t rfl rfl) (St.cell_rd hB (by omega) (by simp))) ?_
      refine s_call rfl rfl rfl (vs := [.int .u32 (((B.getD (B.length - 1) 0 : Nat) : Int))]) ⟨(.t rfl rfl), trivial⟩ cb74 (lz32_ok w1 (B.getD (B.length - 1) 0) (by omega)) ?_
      rintro _ w1 ⟨rfl, rfl⟩
      refine s_val hS1 rfl rfl (r_assign rfl (.t rfl rfl)) ?_
      refine wpList_nil ?_
      refine x_tn ?_
      refine k_reb [(0, .slice aA A.length cA), (1, .slice aB B.length cB), (4, .slice none 0 0), (5, .slice none 0 0), (8, .int .i64 (((32 - bl (B.getD (B.length - 1) 0) : Nat) : Int)))] ⟨rfl, rfl, rfl, rfl, rfl, trivial⟩ fun G10 => ?_
      refine wp_seq ?_
      refine k_reg ?_
      refine s_val hS1 rfl rfl (r_move rfl (.t rfl rfl)) ?_
      refine s_val hS1 rfl rfl (r_move rfl (.t rfl rfl)) ?_
      have hbl1 : 0 < bl (B.getD (B.length - 1) 0) := bl_pos (top_pos nB.nz hB0)
      refine s_call rfl rfl rfl (vs := [.slice aB B.length cB, .int .i64 (((32 - bl (B.getD (B.length - 1) 0) : Nat) : Int))]) ⟨(.t rfl rfl), (.t rfl rfl), trivial⟩ cb29 (left_ok w1 aB cB B (rd_st hS1 hB (by simp)) (32 - bl (B.getD (B.length - 1) 0)) (by omega) (by omega)) ?_
      intro v4 w5 hp4
      obtain ⟨YY, ⟨blk3, rfl, hb3, hT3⟩, ⟨hYYl, hYYlim, hYYv⟩⟩ := hp4
      have hS5 := hS1.join hT3 hb3
      refine s_val hS5 rfl rfl (r_move rfl (.t rfl rfl)) ?_
      refine s_val hS5 rfl rfl (r_len rfl rfl Tryd.underlying26 (.t rfl rfl)) ?_
      obtain ⟨hYv, hY1⟩ := shift_top nB.lim nB.nz hB0 rfl hYYlim (by omega) hYYv
      obtain ⟨Y, hYe⟩ : ∃ Y, Y = YY.take B.length := ⟨_, rfl⟩
      rw [← hYe] at hYv hY1
      have hYl : Y.length = B.length := by rw [hYe, List.length_take]; omega
      rw [← hYl] at hY1
      have hYlim : Lim Y := by rw [hYe]; exact lim_take hYYlim _
      have hYp : 0 < lv Y := by rw [hYv]; exact Nat.mul_pos (lv_pos nB.nz hB0) (Nat.pow_pos (by omega))
      refine s_val hS5 rfl rfl (r_cut0w (hh' := Y.length) hYl.symm rfl Tryd.underlying26 ti38 (.t rfl rfl) (.s (.t rfl rfl)) .n (hh := B.length) (m := YY.length) (by omega) (by omega)) ?_
      refine s_val hS5 rfl rfl (r_assign rfl (.t rfl rfl)) ?_
      refine wpList_nil ?_
      refine x_tn ?_
      refine k_reb [(0, .slice aA A.length cA), (1, .slice aB B.length cB), (4, .slice none 0 0), (5, .slice none 0 0), (8, .int .i64 (((32 - bl (B.getD (B.length - 1) 0) : Nat) : Int))), (9, .slice (some ⟨blk3, 0, none⟩) Y.length YY.length)] ⟨rfl, rfl, rfl, rfl, rfl, rfl, trivial⟩ fun G11 => ?_
      refine wp_seq ?_
      refine k_reg ?_
      refine s_val hS5 rfl rfl (r_move rfl (.t rfl rfl)) ?_
      refine s_val hS5 rfl rfl (r_move rfl (.t rfl rfl)) ?_
      refine s_call rfl rfl rfl (vs := [.slice aA A.length cA, .int .i64 (((32 - bl (B.getD (B.length - 1) 0) : Nat) : Int))]) ⟨(.t rfl rfl), (.t rfl rfl), trivial⟩ cb29 (left_ok w5 aA cA A (rd_st hS5 hA (by simp)) (32 - bl (B.getD (B.length - 1) 0)) (by omega) (by omega)) ?_
      intro v5 w6 hp5
      obtain ⟨XX, ⟨blk4, rfl, hb4, hT4⟩, ⟨hXXl, hXXlim, hXXv⟩⟩ := hp5
      have hS6 := hS5.join hT4 hb4
      refine s_val hS6 rfl rfl (r_assign rfl (.t rfl rfl)) ?_
      refine wpList_nil ?_
      refine x_tn ?_
      refine k_reb [(0, .slice aA A.length cA), (1, .slice aB B.length cB), (4, .slice none 0 0), (5, .slice none 0 0), (8, .int .i64 (((32 - bl (B.getD (B.length - 1) 0) : Nat) : Int))), (9, .slice (some ⟨blk3, 0, none⟩) Y.length YY.length), (10, .slice (some ⟨blk4, 0, none⟩) XX.length XX.length)] ⟨rfl, rfl, rfl, rfl, rfl, rfl, rfl, trivial⟩ fun G12 => ?_
      refine wp_seq ?_
      refine k_reg ?_
      refine s_val hS6 rfl rfl (r_move rfl (.t rfl rfl)) ?_
      refine s_val hS6 rfl rfl (r_len rfl rfl Tryd.underlying26 (.t rfl rfl)) ?_
      refine s_val hS6 rfl rfl (r_move rfl (.t rfl rfl)) ?_
      refine s_val hS6 rfl rfl (r_len rfl rfl Tryd.underlying26 (.t rfl rfl)) ?_
      refine s_val hS6 rfl rfl (r_arith rfl rfl (.t rfl rfl) (.t rfl rfl) (c := ((A.length - B.length : Nat) : Int)) (wn_i64 (by show (((A.length : Nat) : Int) : Int) - ((B.length : Nat) : Int) = _; omega) (by omega))) ?_
      refine s_val hS6 rfl rfl (r_arith rfl rfl (.t rfl rfl) .c (c := (((A.length - B.length) + 1 : Nat) : Int)) (wn_i64 (by show (((A.length - B.length : Nat) : Int) : Int) + 1 = _; omega) (by omega))) ?_
      refine s_make rfl rfl rfl Tryd.underlying26 ti38 (.t rfl rfl) (.t rfl rfl) (len := (A.length - B.length) + 1) (cap := (A.length - B.length) + 1) rfl rfl (by omega) (by omega) (by omega) hS6 fun blk5 w7 hb5 hB3 hS7 => ?_
      refine s_val hS7 rfl rfl (r_assign rfl (.t rfl rfl)) ?_
      refine wpList_nil ?_
      refine x_tn ?_
      refine k_reb [(0, .slice aA A.length cA), (1, .slice aB B.length cB), (4, .slice (some ⟨blk5, 0, none⟩) ((A.length - B.length) + 1) ((A.length - B.length) + 1)), (5, .slice none 0 0), (8, .int .i64 (((32 - bl (B.getD (B.length - 1) 0) : Nat) : Int))), (9, .slice (some ⟨blk3, 0, none⟩) Y.length YY.length), (10, .slice (some ⟨blk4, 0, none⟩) XX.length XX.length)] ⟨rfl, rfl, rfl, rfl, rfl, rfl, rfl, trivial⟩ fun G13 => ?_
      refine wp_seq ?_
      refine wp_seq ?_
      refine k_reg ?_
      refine s_val hS7 rfl rfl (r_move rfl (.t rfl rfl)) ?_
      refine s_val hS7 rfl rfl (r_len rfl rfl Tryd.underlying26 (.t rfl rfl)) ?_
      refine s_val hS7 rfl rfl (r_move rfl (.t rfl rfl)) ?_
      refine s_val hS7 rfl rfl (r_len rfl rfl Tryd.underlying26 (.t rfl rfl)) ?_
      refine s_val hS7 rfl rfl (r_arith rfl rfl (.t rfl rfl) (.t rfl rfl) (c := ((A.length - B.length + 1 : Nat) : Int) - 1) (w_i64 (by show (((A.length : Nat) : Int) : Int) - ((B.length : Nat) : Int) = _; omega) (by omega) (by omega))) ?_
      refine s_val hS7 rfl rfl (r_assign rfl (.t rfl rfl)) ?_
      refine wpList_nil ?_
      refine x_tn ?_
      refine k_reb [(1, .slice aB B.length cB), (4, .slice (some ⟨blk5, 0, none⟩) ((A.length - B.length) + 1) ((A.length - B.length) + 1)), (5, .slice none 0 0), (8, .int .i64 (((32 - bl (B.getD (B.length - 1) 0) : Nat) : Int))), (9, .slice (some ⟨blk3, 0, none⟩) Y.length YY.length), (10, .slice (some ⟨blk4, 0, none⟩) XX.length XX.length), (11, .int .i64 (((A.length - B.length + 1 : Nat) : Int) - 1))] ⟨rfl, rfl, rfl, rfl, rfl, rfl, rfl, trivial⟩ fun G14 => ?_
      refine wp_block ?_
      refine wp_loop_ghost (fun (m1 : Nat) a w => ∃ (G : Nat → Value) (k : Nat) (X : List Nat) (Qs : List Nat), a = fr 86 [(1, .slice aB B.length cB), (4, .slice (some ⟨blk5, 0, none⟩) ((A.length - B.length) + 1) ((A.length - B.length) + 1)), (5, .slice none 0 0), (8, .int .i64 (((32 - bl (B.getD (B.length - 1) 0) : Nat) : Int))), (9, .slice (some ⟨blk3, 0, none⟩) Y.length YY.length), (10, .slice (some ⟨blk4, 0, none⟩) XX.length XX.length), (11, .int .i64 (((k : Nat) : Int) - 1))] G ∧ St w0 [] [(blk3, .cells (encN .u32 YY) 38 (0, 0)), (blk4, .cells (encN .u32 X) 38 (0, 0)), (blk5, .cells (encN .u32 Qs) 38 (0, 0))] w ∧ (m1 = k ∧ k ≤ A.length - B.length + 1 ∧ X.length = A.length + 1 ∧ Lim X ∧ Qs.length = A.length - B.length + 1 ∧ Lim Qs ∧ lv (X.drop k) < lv Y ∧ lv X + lv Y * (pw k * lv (Qs.drop k)) = lv A * 2 ^ (32 - bl (B.getD (B.length - 1) 0)))) (A.length - B.length + 1) ⟨_, A.length - B.length + 1, XX, List.replicate (A.length - B.length + 1) 0, fr_reb _ ⟨rfl, rfl, rfl, rfl, rfl, rfl, rfl, trivial⟩, hS7, ?_⟩ ?_
      · exact ⟨rfl, Nat.le_refl _, by rw [hXXl]; omega, hXXlim, by simp, lim_rep _, by rw [← hYl]; exact win_start (s := (32 - bl (B.getD (B.length - 1) 0))) hA.fit hXXv (by rw [hXXl]; omega) hY1 (by omega) (by omega) (by omega), win_init hXXv (by simp)⟩
      · intro m1 _ w8 hI1
        obtain ⟨G15, k, X, Qs, rfl, hS8, ⟨hmk, hk, hXl, hXlim, hQl, hQlim, hlt, hv⟩⟩ := hI1
        refine wp_seq ?_
        refine wp_seq ?_
        refine k_reg ?_
        refine s_val hS8 rfl rfl (r_move rfl (.t rfl rfl)) ?_
        by_cases c2 : ((k : Nat) : Int) - 1 ≥ 0
        · refine s_val hS8 rfl rfl (r_cmp_t rfl rfl (.t rfl rfl) .c (show ((k : Nat) : Int) - 1 ≥ 0 from by omega)) ?_
          refine wpList_nil ?_
          refine x_tn ?_
          refine k_reb [(1, .slice aB B.length cB), (4, .slice (some ⟨blk5, 0, none⟩) ((A.length - B.length) + 1) ((A.length - B.length) + 1)), (5, .slice none 0 0), (8, .int .i64 (((32 - bl (B.getD (B.length - 1) 0) : Nat) : Int))), (9, .slice (some ⟨blk3, 0, none⟩) Y.length YY.length), (10, .slice (some ⟨blk4, 0, none⟩) XX.length XX.length), (11, .int .i64 (((k : Nat) : Int) - 1)), (61, .bool true)] ⟨rfl, rfl, rfl, rfl, rfl, rfl, rfl, rfl, trivial⟩ fun G16 => ?_
          refine k_t (.t rfl rfl) ?_
          refine wp_skip ?_
          refine x_tn ?_
          refine k_reb [(1, .slice aB B.length cB), (4, .slice (some ⟨blk5, 0, none⟩) ((A.length - B.length) + 1) ((A.length - B.length) + 1)), (5, .slice none 0 0), (8, .int .i64 (((32 - bl (B.getD (B.length - 1) 0) : Nat) : Int))), (9, .slice (some ⟨blk3, 0, none⟩) Y.length YY.length), (10, .slice (some ⟨blk4, 0, none⟩) XX.length XX.length), (11, .int .i64 (((k : Nat) : Int) - 1))] ⟨rfl, rfl, rfl, rfl, rfl, rfl, rfl, trivial⟩ fun G17 => ?_
          refine wp_seq ?_
          refine wp_block ?_
          refine k_reg ?_
          refine s_val hS8 rfl rfl (r_move rfl (.t rfl rfl)) ?_
          refine s_val hS8 rfl rfl (Rn.as (j := ((k - 1 : Nat) : Int)) (by omega) (r_move rfl (.t rfl rfl))) ?_
          refine s_val hS8 rfl rfl (r_move rfl (.t rfl rfl)) ?_
          refine s_val hS8 rfl rfl (Rn.as (j := ((k - 1 : Nat) : Int)) (by omega) (r_move rfl (.t rfl rfl))) ?_
          refine s_val hS8 rfl rfl (Rn.as (j := ((k - 1 : Nat) : Int)) (by omega) (r_move rfl (.t rfl rfl))) ?_
          refine s_val hS8 rfl rfl (r_move rfl (.t rfl rfl)) ?_
          refine s_val hS8 rfl rfl (r_len rfl rfl Tryd.underlying26 (.t rfl rfl)) ?_
          refine s_val hS8 rfl rfl (r_arith rfl rfl (.t rfl rfl) (.t rfl rfl) (c := (((k - 1) + B.length : Nat) : Int)) (wn_i64 (by show (((k - 1 : Nat) : Int) : Int) + ((B.length : Nat) : Int) = _; omega) (by omega))) ?_
          refine s_val hS8 rfl rfl (r_arith rfl rfl (.t rfl rfl) .c (c := ((((k - 1) + B.length) + 1 : Nat) : Int)) (wn_i64 (by show ((((k - 1) + B.length : Nat) : Int) : Int) + 1 = _; omega) (by omega))) ?_
          refine s_val hS8 rfl rfl (r_cutw (ln := Y.length + 1) (cp := XX.length - (k - 1)) (lw := k - 1) (hh := ((k - 1) + B.length) + 1) (m := XX.length) (qq := (X.take (k - 1)).length) (by omega) (by omega) rfl Tryd.underlying26 ti38 (.t rfl rfl) (.s (.t rfl rfl)) (.s (.t rfl rfl)) .n (by omega) (by omega) (by omega) (by omega) (by rw [List.length_take, Nat.min_eq_left (by omega)]; omega)) ?_
          refine s_val hS8 rfl rfl (r_move rfl (.t rfl rfl)) ?_
          have hwl : ((X.drop (k - 1)).take (Y.length + 1)).length = Y.length + 1 := win_len (by omega)
          obtain ⟨hw1, hw2⟩ := win_lt (j := k - 1) hXlim hYlim (by omega) (by rw [show k - 1 + 1 = k by omega]; exact hlt)
          refine s_call rfl rfl rfl (vs := [.slice (some ⟨blk4, (X.take (k - 1)).length, none⟩) (Y.length + 1) (XX.length - (k - 1)), .slice (some ⟨blk3, 0, none⟩) Y.length YY.length]) ⟨(.t rfl rfl), (.t rfl rfl), trivial⟩ cb75 (step_ok w8 blk4 _ (X.take (k - 1)) ((X.drop (k - 1)).take (Y.length + 1)) (X.drop (k - 1 + (Y.length + 1))) (by rw [← win_split]; exact hS8.own (blk4, .cells (encN .u32 X) 38 (0, 0)) (by simp)) (lim_take (lim_drop hXlim _) _) (some ⟨blk3, 0, none⟩) YY.length Y (by rw [hYe]; exact Rd.take (rd_own0 (m := 0) (cap := YY.length) hS8 rfl (Nat.le_refl _) (by omega) hYYlim) (by omega) (by omega)) hwl (by omega) hY1 hw1 (by have := hS8.nodup; simp at this; simp [adr]; omega) (by omega)) ?_
          rintro _ w9 ⟨X', rfl, hT5, hX'l, hX'lim, hX'v⟩
          have hS9 := hS8.wrote (m := 1) rfl hT5
          have hdig : lv ((X.drop (k - 1)).take (Y.length + 1)) / lv Y ≤ 4294967295 := by
            have hlt2 : lv ((X.drop (k - 1)).take (Y.length + 1)) / lv Y < 4294967296 := Nat.div_lt_of_lt_mul (by rw [Nat.mul_comm]; exact hw1)
            omega
          refine s_val hS9 rfl rfl (r_ixs (j := k - 1) rfl Tryd.underlying26 ti38 (.t rfl rfl) (.t rfl rfl) rfl (by omega) (qq := k - 1) (by omega)) ?_
          refine s_store (m := 2) rfl rfl rfl one38 (.t rfl rfl) (.t rfl rfl) rfl hS9 rfl (encN_get (by first | omega | (simp only [List.length_set, List.length_append, List.length_replicate]; omega))) (encN_set) rfl fun w10 hS10 => ?_
          refine wpList_nil ?_
          refine x_bn ?_
          refine x_tn ?_
          refine k_reb [(1, .slice aB B.length cB), (4, .slice (some ⟨blk5, 0, none⟩) ((A.length - B.length) + 1) ((A.length - B.length) + 1)), (5, .slice none 0 0), (8, .int .i64 (((32 - bl (B.getD (B.length - 1) 0) : Nat) : Int))), (9, .slice (some ⟨blk3, 0, none⟩) Y.length YY.length), (10, .slice (some ⟨blk4, 0, none⟩) XX.length XX.length), (11, .int .i64 (((k : Nat) : Int) - 1))] ⟨rfl, rfl, rfl, rfl, rfl, rfl, rfl, trivial⟩ fun G18 => ?_
          refine k_reg ?_
          refine s_val hS10 rfl rfl (r_move rfl (.t rfl rfl)) ?_
          refine s_val hS10 rfl rfl (r_arith rfl rfl (.t rfl rfl) .c (c := ((k - 1 : Nat) : Int) - 1) (w_i64 (by show (((k : Nat) : Int) - 1 : Int) - 1 = _; omega) (by omega) (by omega))) ?_
          refine s_val hS10 rfl rfl (r_assign rfl (.t rfl rfl)) ?_
          refine wpList_nil ?_
          refine x_tn ?_
          refine ⟨k - 1, by omega, _, k - 1, X.take (k - 1) ++ X' ++ X.drop (k - 1 + (Y.length + 1)), Qs.set (k - 1) (lv ((X.drop (k - 1)).take (Y.length + 1)) / lv Y), fr_reb _ ⟨rfl, rfl, rfl, rfl, rfl, rfl, rfl, trivial⟩, hS10, ?_⟩
          obtain ⟨s1, s2⟩ := win_step (V := lv Y) (N := lv A * 2 ^ (32 - bl (B.getD (B.length - 1) 0))) (Qs := Qs) (j := k - 1) rfl (by omega) (by omega) hw2 hX'l hYp hX'v (by rw [show k - 1 + 1 = k by omega]; exact hv)
          exact ⟨rfl, by omega, by rw [List.length_append, List.length_append, List.length_take, List.length_drop]; omega, lim_append (lim_append (lim_take hXlim _) hX'lim) (lim_drop hXlim _), by simpa using hQl, lim_set hQlim hdig, s2, s1⟩
        · refine s_val hS8 rfl rfl (r_cmp_f rfl rfl (.t rfl rfl) .c (show ¬ (((k : Nat) : Int) - 1 ≥ 0) from by omega)) ?_
          refine wpList_nil ?_
          refine x_tn ?_
          refine k_reb [(1, .slice aB B.length cB), (4, .slice (some ⟨blk5, 0, none⟩) ((A.length - B.length) + 1) ((A.length - B.length) + 1)), (5, .slice none 0 0), (8, .int .i64 (((32 - bl (B.getD (B.length - 1) 0) : Nat) : Int))), (9, .slice (some ⟨blk3, 0, none⟩) Y.length YY.length), (10, .slice (some ⟨blk4, 0, none⟩) XX.length XX.length), (11, .int .i64 (((k : Nat) : Int) - 1)), (61, .bool false)] ⟨rfl, rfl, rfl, rfl, rfl, rfl, rfl, rfl, trivial⟩ fun G19 => ?_
          refine k_f (.t rfl rfl) ?_
          refine wp_exit ?_
          refine x_te ?_
          refine x_te ?_
          refine x_be ?_
          refine x_tn ?_
          refine k_reb [(4, .slice (some ⟨blk5, 0, none⟩) ((A.length - B.length) + 1) ((A.length - B.length) + 1)), (5, .slice none 0 0), (8, .int .i64 (((32 - bl (B.getD (B.length - 1) 0) : Nat) : Int))), (10, .slice (some ⟨blk4, 0, none⟩) XX.length XX.length)] ⟨rfl, rfl, rfl, rfl, trivial⟩ fun G20 => ?_
          refine wp_seq ?_
          refine k_reg ?_
          refine s_val hS8 rfl rfl (Rn.asS (p' := X.length) (q' := X.length) (by omega) (by omega) (r_move rfl (.t rfl rfl))) ?_
          have h9 : lv X < Top := by
            have hk0 : k = 0 := by omega
            subst hk0
            exact Nat.lt_trans (by simpa using hlt) (lt_top hYlim (by omega))
          refine s_call rfl rfl rfl (vs := [.slice (some ⟨blk4, 0, none⟩) X.length X.length]) ⟨(.t rfl rfl), trivial⟩ cb28 (normal_fit w8 (some ⟨blk4, 0, none⟩) X.length X (rd_own0 (m := 1) hS8 rfl (by omega) (by omega) (hXlim)) (by omega) h9) ?_
          intro v6 w11 hp7
          obtain ⟨hp7, hB4⟩ := hp7
          have hS11 := hS8.keep hB4
          replace hB4 := hB4.toBelow
          obtain ⟨R1, X1, hE1, hNR1, hlR1, rfl⟩ := hp7
          have hnR1 := hNR1.len
          have hR2 : Rd w11 .u32 (some ⟨blk4, 0, none⟩) R1.length R1 := Rd.front_eq hE1 (rd_own0 (m := 1) (cap := X.length) hS11 rfl (by omega) (by omega) hXlim)
          have hW2 := Ow.of_front_eq hE1 hS11 (m := 1) rfl (by have := hNR1.len; omega) hNR1.lim
          refine s_val hS11 rfl rfl (r_move rfl (.t rfl rfl)) ?_
          refine s_val hS11 rfl rfl (r_extract rfl (.t rfl rfl) rfl) ?_
          refine s_val hS11 rfl rfl (r_extract rfl (.t rfl rfl) rfl) ?_
          refine s_val hS11 rfl rfl (r_assign rfl (.t rfl rfl)) ?_
          refine wpList_nil ?_
          refine x_tn ?_
          refine k_reb [(4, .slice (some ⟨blk5, 0, none⟩) ((A.length - B.length) + 1) ((A.length - B.length) + 1)), (5, .slice (some ⟨blk4, 0, none⟩) R1.length R1.length), (8, .int .i64 (((32 - bl (B.getD (B.length - 1) 0) : Nat) : Int)))] ⟨rfl, rfl, rfl, trivial⟩ fun G21 => ?_
          refine wp_seq ?_
          refine k_reg ?_
          refine s_val hS11 rfl rfl (r_move rfl (.t rfl rfl)) ?_
          refine s_val hS11 rfl rfl (r_move rfl (.t rfl rfl)) ?_
          refine s_val hS11 rfl rfl (r_move rfl (.t rfl rfl)) ?_
          refine s_call rfl rfl rfl (vs := [.slice (some ⟨blk4, 0, none⟩) R1.length R1.length, .int .i64 (((32 - bl (B.getD (B.length - 1) 0) : Nat) : Int))]) ⟨(.t rfl rfl), (.t rfl rfl), trivial⟩ cb30 (right_ok w11 (some ⟨blk4, 0, none⟩) R1.length R1 hR2 (32 - bl (B.getD (B.length - 1) 0)) (by omega) (by omega)) ?_
          intro v7 w12 hp8
          obtain ⟨L2, hp8, ⟨hL2lim, hL2v, hL2l⟩⟩ := hp8
          obtain ⟨a2, c3, rfl, hR3, -, hT6⟩ := id hp8
          have hW3 := Ow.from_ hS11 hp8
          have hS12 := hS11.keep hT6
          have hR4 := hR2.below hT6.toBelow (Nat.le_refl _)
          have hW4 := hW2.later hT6.toBelow
          refine s_val hS12 rfl rfl (r_assign rfl (.t rfl rfl)) ?_
          refine s_val hS12 rfl rfl (r_assign rfl (.t rfl rfl)) ?_
          refine wpList_nil ?_
          refine x_tn ?_
          refine k_reb [(4, .slice (some ⟨blk5, 0, none⟩) ((A.length - B.length) + 1) ((A.length - B.length) + 1)), (5, .slice a2 L2.length c3)] ⟨rfl, rfl, trivial⟩ fun G22 => ?_
          refine wp_ret ?_
          refine k_ret2 Tryd.results41 rfl rfl rfl rfl ?_
          refine ⟨_, rfl, ?_⟩
          have hk0 : k = 0 := by omega
          subst hk0
          obtain ⟨e1, e2⟩ := div_end (s := (32 - bl (B.getD (B.length - 1) 0))) (by simpa using hv) (by simpa using hlt) rfl hYv
          exact ⟨Qs, L2, _, _, rfl, Ow.of_chunk0 (m := 2) hS12 rfl (by omega) (by omega) (by omega) hQlim, hW3, hQlim, hL2lim, e1, by rw [hL2v, hlR1]; exact e2, by omega, by have := hNR1.len; omega⟩
  · refine s_val hS1 rfl rfl (r_cmp_f rfl rfl (.t rfl rfl) .c (show ¬ (1 < 0) from by omega)) ?_
    refine wpList_nil ?_
    refine x_tn ?_
    refine k_reb [(0, .slice aA A.length cA), (1, .slice aB B.length cB), (4, .slice none 0 0), (5, .slice none 0 0), (15, .bool false)] ⟨rfl, rfl, rfl, rfl, rfl, trivial⟩ fun G23 => ?_
    refine k_f (.t rfl rfl) ?_
    refine wp_skip ?_
    refine x_tn ?_
    refine k_reb [(0, .slice aA A.length cA), (1, .slice aB B.length cB), (4, .slice none 0 0), (5, .slice none 0 0)] ⟨rfl, rfl, rfl, rfl, trivial⟩ fun G24 => ?_
    refine wp_seq ?_
    refine wp_seq ?_
    refine k_reg ?_
    refine s_val hS1 rfl rfl (r_move rfl (.t rfl rfl)) ?_
    refine s_val hS1 rfl rfl (r_len rfl rfl Tryd.underlying26 (.t rfl rfl)) ?_
    by_cases b1e : B.length = 1
    · have hb0 := nz_one nB.nz b1e
      refine s_val hS1 rfl rfl (r_cmp_t rfl rfl (.t rfl rfl) .c (show ((B.length : Nat) : Int) = 1 from by omega)) ?_
      refine wpList_nil ?_
      refine x_tn ?_
      refine k_reb [(0, .slice aA A.length cA), (1, .slice aB B.length cB), (4, .slice none 0 0), (5, .slice none 0 0), (20, .bool true)] ⟨rfl, rfl, rfl, rfl, rfl, trivial⟩ fun G25 => ?_
      refine k_t (.t rfl rfl) ?_
      refine wp_seq ?_
      refine k_reg ?_
      refine s_val hS1 rfl rfl (r_move rfl (.t rfl rfl)) ?_
      refine s_val hS1 rfl rfl (r_move rfl (.t rfl rfl)) ?_
      refine s_val hS1 rfl rfl (r_ixr (j := 0) rfl Tryd.underlying26 ti38 (.t rfl rfl) .c hB rfl rfl (by omega)) ?_
      have b3 : B.getD 0 0 ≤ 4294967295 := hB.lt _
      refine s_val hS1 rfl rfl (r_load rfl one38 (.t rfl rfl) (St.cell_rd hB (by omega) (by simp))) ?_
      refine s_call rfl rfl rfl (vs := [.slice aA A.length cA, .int .u32 (((B.getD 0 0 : Nat) : Int))]) ⟨(.t rfl rfl), (.t rfl rfl), trivial⟩ cb73 (by_ok w1 aA cA A (rd_st hS1 hA (by simp)) (B.getD 0 0) (by omega) (by omega) (by omega)) ?_
      intro v8 w13 hp9
      obtain ⟨Q, r, _, rfl, ⟨blk6, rfl, hb6, hT7⟩, hQl, hQlim, hQv, hre⟩ := hp9
      have hS13 := hS1.join hT7 hb6
      refine s_val hS13 rfl rfl (r_move rfl (.t rfl rfl)) ?_
      refine s_val hS13 rfl rfl (r_extract rfl (.t rfl rfl) rfl) ?_
      refine s_val hS13 rfl rfl (r_extract rfl (.t rfl rfl) rfl) ?_
      refine s_val hS13 rfl rfl (r_assign rfl (.t rfl rfl)) ?_
      refine s_val hS13 rfl rfl (r_assign rfl (.t rfl rfl)) ?_
      refine wpList_nil ?_
      refine x_tn ?_
      refine k_reb [(0, .slice aA A.length cA), (1, .slice aB B.length cB), (4, .slice none 0 0), (5, .slice none 0 0), (6, .slice (some ⟨blk6, 0, none⟩) Q.length Q.length), (7, .int .u32 (((r : Nat) : Int)))] ⟨rfl, rfl, rfl, rfl, rfl, rfl, trivial⟩ fun G26 => ?_
      refine wp_seq ?_
      refine k_reg ?_
      refine s_val hS13 rfl rfl (r_move rfl (.t rfl rfl)) ?_
      refine s_val hS13 rfl rfl (r_move rfl (.t rfl rfl)) ?_
      refine s_lit rfl rfl rfl Tryd.underlying26 ti38 (vs := [(0, .int .u32 (((r : Nat) : Int)))]) ⟨rfl, (.t rfl rfl), trivial⟩ (L := [r]) rfl (by omega) rfl hS13 fun blk7 w14 hb7 hB5 hS14 => ?_
      refine s_val hS14 rfl rfl (r_assign rfl (.t rfl rfl)) ?_
      refine s_val hS14 rfl rfl (r_assign rfl (.t rfl rfl)) ?_
      refine wpList_nil ?_
      refine x_tn ?_
      refine k_reb [(0, .slice aA A.length cA), (1, .slice aB B.length cB), (4, .slice (some ⟨blk6, 0, none⟩) Q.length Q.length), (5, .slice (some ⟨blk7, 0, none⟩) 1 1)] ⟨rfl, rfl, rfl, rfl, trivial⟩ fun G27 => ?_
      refine wp_ret ?_
      refine x_tr ?_
      refine k_ret2 Tryd.results41 rfl rfl rfl rfl ?_
      refine ⟨_, rfl, ?_⟩
      have hrl : r < B.getD 0 0 := by rw [hre]; exact Nat.mod_lt _ hb0
      exact ⟨Q, [r], _, _, rfl, Ow.of_chunk0 (m := 0) hS14 rfl rfl rfl (by omega) hQlim, Ow.of_chunk0 (m := 1) hS14 rfl rfl rfl (by simp) (by simp [maxK]; omega), hQlim, by intro x hx; simp at hx; omega, by rw [hQv, lv_one b1e], by rw [← lv_one b1e] at hre; simp [lv, hre], by omega, by simp⟩
    · have hge : lv B ≤ lv A := by first | exact Nat.le_of_eq hc1.symm | exact Nat.le_of_lt hc1
      have hBA : B.length ≤ A.length := len_of_le_lv hA.fit nB.nz hge
      refine s_val hS1 rfl rfl (r_cmp_f rfl rfl (.t rfl rfl) .c (show ¬ (((B.length : Nat) : Int) = 1) from by omega)) ?_
      refine wpList_nil ?_
      refine x_tn ?_
      refine k_reb [(0, .slice aA A.length cA), (1, .slice aB B.length cB), (4, .slice none 0 0), (5, .slice none 0 0), (20, .bool false)] ⟨rfl, rfl, rfl, rfl, rfl, trivial⟩ fun G28 => ?_
      refine k_f (.t rfl rfl) ?_
      refine wp_skip ?_
      refine x_tn ?_
      refine k_reb [(0, .slice aA A.length cA), (1, .slice aB B.length cB), (4, .slice none 0 0), (5, .slice none 0 0)] ⟨rfl, rfl, rfl, rfl, trivial⟩ fun G29 => ?_
      refine wp_seq ?_
      refine k_reg ?_
      refine s_val hS1 rfl rfl (r_move rfl (.t rfl rfl)) ?_
      refine s_val hS1 rfl rfl (r_move rfl (.t rfl rfl)) ?_
      refine s_val hS1 rfl rfl (r_len rfl rfl Tryd.underlying26 (.t rfl rfl)) ?_
      refine s_val hS1 rfl rfl (r_arith rfl rfl (.t rfl rfl) .c (c := ((B.length - 1 : Nat) : Int)) (wn_i64 (by show (((B.length : Nat) : Int) : Int) - 1 = _; omega) (by omega))) ?_
      refine s_val hS1 rfl rfl (r_ixr (j := B.length - 1) rfl Tryd.underlying26 ti38 (.t rfl rfl) (.t rfl rfl) hB rfl rfl (by omega)) ?_
      have b4 : B.getD (B.length - 1) 0 ≤ 4294967295 := hB.lt _
      refine s_val hS1 rfl rfl (r_load rfl one38 (.t rfl rfl) (St.cell_rd hB (by omega) (by simp))) ?_
      refine s_call rfl rfl rfl (vs := [.int .u32 (((B.getD (B.length - 1) 0 : Nat) : Int))]) ⟨(.t rfl rfl), trivial⟩ cb74 (lz32_ok w1 (B.getD (B.length - 1) 0) (by omega)) ?_
      rintro _ w1 ⟨rfl, rfl⟩
      refine s_val hS1 rfl rfl (r_assign rfl (.t rfl rfl)) ?_
      refine wpList_nil ?_
      refine x_tn ?_
      refine k_reb [(0, .slice aA A.length cA), (1, .slice aB B.length cB), (4, .slice none 0 0), (5, .slice none 0 0), (8, .int .i64 (((32 - bl (B.getD (B.length - 1) 0) : Nat) : Int)))] ⟨rfl, rfl, rfl, rfl, rfl, trivial⟩ fun G30 => ?_
      refine wp_seq ?_
      refine k_reg ?_
      refine s_val hS1 rfl rfl (r_move rfl (.t rfl rfl)) ?_
      refine s_val hS1 rfl rfl (r_move rfl (.t rfl rfl)) ?_
      have hbl1 : 0 < bl (B.getD (B.length - 1) 0) := bl_pos (top_pos nB.nz hB0)
      refine s_call rfl rfl rfl (vs := [.slice aB B.length cB, .int .i64 (((32 - bl (B.getD (B.length - 1) 0) : Nat) : Int))]) ⟨(.t rfl rfl), (.t rfl rfl), trivial⟩ cb29 (left_ok w1 aB cB B (rd_st hS1 hB (by simp)) (32 - bl (B.getD (B.length - 1) 0)) (by omega) (by omega)) ?_
      intro v9 w15 hp10
      obtain ⟨YY, ⟨blk8, rfl, hb8, hT8⟩, ⟨hYYl, hYYlim, hYYv⟩⟩ := hp10
      have hS15 := hS1.join hT8 hb8
      refine s_val hS15 rfl rfl (r_move rfl (.t rfl rfl)) ?_
      refine s_val hS15 rfl rfl (r_len rfl rfl Tryd.underlying26 (.t rfl rfl)) ?_
      obtain ⟨hYv, hY1⟩ := shift_top nB.lim nB.nz hB0 rfl hYYlim (by omega) hYYv
      obtain ⟨Y, hYe⟩ : ∃ Y, Y = YY.take B.length := ⟨_, rfl⟩
      rw [← hYe] at hYv hY1
      have hYl : Y.length = B.length := by rw [hYe, List.length_take]; omega
      rw [← hYl] at hY1
      have hYlim : Lim Y := by rw [hYe]; exact lim_take hYYlim _
      have hYp : 0 < lv Y := by rw [hYv]; exact Nat.mul_pos (lv_pos nB.nz hB0) (Nat.pow_pos (by omega))
      refine s_val hS15 rfl rfl (r_cut0w (hh' := Y.length) hYl.symm rfl Tryd.underlying26 ti38 (.t rfl rfl) (.s (.t rfl rfl)) .n (hh := B.length) (m := YY.length) (by omega) (by omega)) ?_
      refine s_val hS15 rfl rfl (r_assign rfl (.t rfl rfl)) ?_
      refine wpList_nil ?_
      refine x_tn ?_
      refine k_reb [(0, .slice aA A.length cA), (1, .slice aB B.length cB), (4, .slice none 0 0), (5, .slice none 0 0), (8, .int .i64 (((32 - bl (B.getD (B.length - 1) 0) : Nat) : Int))), (9, .slice (some ⟨blk8, 0, none⟩) Y.length YY.length)] ⟨rfl, rfl, rfl, rfl, rfl, rfl, trivial⟩ fun G31 => ?_
      refine wp_seq ?_
      refine k_reg ?_
      refine s_val hS15 rfl rfl (r_move rfl (.t rfl rfl)) ?_
      refine s_val hS15 rfl rfl (r_move rfl (.t rfl rfl)) ?_
      refine s_call rfl rfl rfl (vs := [.slice aA A.length cA, .int .i64 (((32 - bl (B.getD (B.length - 1) 0) : Nat) : Int))]) ⟨(.t rfl rfl), (.t rfl rfl), trivial⟩ cb29 (left_ok w15 aA cA A (rd_st hS15 hA (by simp)) (32 - bl (B.getD (B.length - 1) 0)) (by omega) (by omega)) ?_
      intro v10 w16 hp11
      obtain ⟨XX, ⟨blk9, rfl, hb9, hT9⟩, ⟨hXXl, hXXlim, hXXv⟩⟩ := hp11
      have hS16 := hS15.join hT9 hb9
      refine s_val hS16 rfl rfl (r_assign rfl (.t rfl rfl)) ?_
      refine wpList_nil ?_
      refine x_tn ?_
      refine k_reb [(0, .slice aA A.length cA), (1, .slice aB B.length cB), (4, .slice none 0 0), (5, .slice none 0 0), (8, .int .i64 (((32 - bl (B.getD (B.length - 1) 0) : Nat) : Int))), (9, .slice (some ⟨blk8, 0, none⟩) Y.length YY.length), (10, .slice (some ⟨blk9, 0, none⟩) XX.length XX.length)] ⟨rfl, rfl, rfl, rfl, rfl, rfl, rfl, trivial⟩ fun G32 => ?_
      refine wp_seq ?_
      refine k_reg ?_
      refine s_val hS16 rfl rfl (r_move rfl (.t rfl rfl)) ?_
      refine s_val hS16 rfl rfl (r_len rfl rfl Tryd.underlying26 (.t rfl rfl)) ?_
      refine s_val hS16 rfl rfl (r_move rfl (.t rfl rfl)) ?_
      refine s_val hS16 rfl rfl (r_len rfl rfl Tryd.underlying26 (.t rfl rfl)) ?_
      refine s_val hS16 rfl rfl (r_arith rfl rfl (.t rfl rfl) (.t rfl rfl) (c := ((A.length - B.length : Nat) : Int)) (wn_i64 (by show (((A.length : Nat) : Int) : Int) - ((B.length : Nat) : Int) = _; omega) (by omega))) ?_
      refine s_val hS16 rfl rfl (r_arith rfl rfl (.t rfl rfl) .c (c := (((A.length - B.length) + 1 : Nat) : Int)) (wn_i64 (by show (((A.length - B.length : Nat) : Int) : Int) + 1 = _; omega) (by omega))) ?_
      refine s_make rfl rfl rfl Tryd.underlying26 ti38 (.t rfl rfl) (.t rfl rfl) (len := (A.length - B.length) + 1) (cap := (A.length - B.length) + 1) rfl rfl (by omega) (by omega) (by omega) hS16 fun blk10 w17 hb10 hB6 hS17 => ?_
      refine s_val hS17 rfl rfl (r_assign rfl (.t rfl rfl)) ?_
      refine wpList_nil ?_
      refine x_tn ?_
      refine k_reb [(0, .slice aA A.length cA), (1, .slice aB B.length cB), (4, .slice (some ⟨blk10, 0, none⟩) ((A.length - B.length) + 1) ((A.length - B.length) + 1)), (5, .slice none 0 0), (8, .int .i64 (((32 - bl (B.getD (B.length - 1) 0) : Nat) : Int))), (9, .slice (some ⟨blk8, 0, none⟩) Y.length YY.length), (10, .slice (some ⟨blk9, 0, none⟩) XX.length XX.length)] ⟨rfl, rfl, rfl, rfl, rfl, rfl, rfl, trivial⟩ fun G33 => ?_
      refine wp_seq ?_
      refine wp_seq ?_
      refine k_reg ?_
      refine s_val hS17 rfl rfl (r_move rfl (.t rfl rfl)) ?_
      refine s_val hS17 rfl rfl (r_len rfl rfl Tryd.underlying26 (.t rfl rfl)) ?_
      refine s_val hS17 rfl rfl (r_move rfl (.t rfl rfl)) ?_
      refine s_val hS17 rfl rfl (r_len rfl rfl Tryd.underlying26 (.t rfl rfl)) ?_
      refine s_val hS17 rfl rfl (r_arith rfl rfl (.t rfl rfl) (.t rfl rfl) (c := ((A.length - B.length + 1 : Nat) : Int) - 1) (w_i64 (by show (((A.length : Nat) : Int) : Int) - ((B.length : Nat) : Int) = _; omega) (by omega) (by omega))) ?_
      refine s_val hS17 rfl rfl (r_assign rfl (.t rfl rfl)) ?_
      refine wpList_nil ?_
      refine x_tn ?_
      refine k_reb [(1, .slice aB B.length cB), (4, .slice (some ⟨blk10, 0, none⟩) ((A.length - B.length) + 1) ((A.length - B.length) + 1)), (5, .slice none 0 0), (8, .int .i64 (((32 - bl (B.getD (B.length - 1) 0) : Nat) : Int))), (9, .slice (some ⟨blk8, 0, none⟩) Y.length YY.length), (10, .slice (some ⟨blk9, 0, none⟩) XX.length XX.length), (11, .int .i64 (((A.length - B.length + 1 : Nat) : Int) - 1))] ⟨rfl, rfl, rfl, rfl, rfl, rfl, rfl, trivial⟩ fun G34 => ?_
      refine wp_block ?_
      refine wp_loop_ghost (fun (m2 : Nat) a w => ∃ (G : Nat → Value) (k : Nat) (X : List Nat) (Qs : List Nat), a = fr 86 [(1, .slice aB B.length cB), (4, .slice (some ⟨blk10, 0, none⟩) ((A.length - B.length) + 1) ((A.length - B.length) + 1)), (5, .slice none 0 0), (8, .int .i64 (((32 - bl (B.getD (B.length - 1) 0) : Nat) : Int))), (9, .slice (some ⟨blk8, 0, none⟩) Y.length YY.length), (10, .slice (some ⟨blk9, 0, none⟩) XX.length XX.length), (11, .int .i64 (((k : Nat) : Int) - 1))] G ∧ St w0 [] [(blk8, .cells (encN .u32 YY) 38 (0, 0)), (blk9, .cells (encN .u32 X) 38 (0, 0)), (blk10, .cells (encN .u32 Qs) 38 (0, 0))] w ∧ (m2 = k ∧ k ≤ A.length - B.length + 1 ∧ X.length = A.length + 1 ∧ Lim X ∧ Qs.length = A.length - B.length + 1 ∧ Lim Qs ∧ lv (X.drop k) < lv Y ∧ lv X + lv Y * (pw k * lv (Qs.drop k)) = lv A * 2 ^ (32 - bl (B.getD (B.length - 1) 0)))) (A.length - B.length + 1) ⟨_, A.length - B.length + 1, XX, List.replicate (A.length - B.length + 1) 0, fr_reb _ ⟨rfl, rfl, rfl, rfl, rfl, rfl, rfl, trivial⟩, hS17, ?_⟩ ?_
      · exact ⟨rfl, Nat.le_refl _, by rw [hXXl]; omega, hXXlim, by simp, lim_rep _, by rw [← hYl]; exact win_start (s := (32 - bl (B.getD (B.length - 1) 0))) hA.fit hXXv (by rw [hXXl]; omega) hY1 (by omega) (by omega) (by omega), win_init hXXv (by simp)⟩
      · intro m2 _ w18 hI2
        obtain ⟨G35, k, X, Qs, rfl, hS18, ⟨hmk, hk, hXl, hXlim, hQl, hQlim, hlt, hv⟩⟩ := hI2
        refine wp_seq ?_
        refine wp_seq ?_
        refine k_reg ?_
        refine s_val hS18 rfl rfl (r_move rfl (.t rfl rfl)) ?_
        by_cases c4 : ((k : Nat) : Int) - 1 ≥ 0
        · refine s_val hS18 rfl rfl (r_cmp_t rfl rfl (.t rfl rfl) .c (show ((k : Nat) : Int) - 1 ≥ 0 from by omega)) ?_
          refine wpList_nil ?_
          refine x_tn ?_
          refine k_reb [(1, .slice aB B.length cB), (4, .slice (some ⟨blk10, 0, none⟩) ((A.length - B.length) + 1) ((A.length - B.length) + 1)), (5, .slice none 0 0), (8, .int .i64 (((32 - bl (B.getD (B.length - 1) 0) : Nat) : Int))), (9, .slice (some ⟨blk8, 0, none⟩) Y.length YY.length), (10, .slice (some ⟨blk9, 0, none⟩) XX.length XX.length), (11, .int .i64 (((k : Nat) : Int) - 1)), (61, .bool true)] ⟨rfl, rfl, rfl, rfl, rfl, rfl, rfl, rfl, trivial⟩ fun G36 => ?_
          refine k_t (.t rfl rfl) ?_
          refine wp_skip ?_
          refine x_tn ?_
          refine k_reb [(1, .slice aB B.length cB), (4, .slice (some ⟨blk10, 0, none⟩) ((A.length - B.length) + 1) ((A.length - B.length) + 1)), (5, .slice none 0 0), (8, .int .i64 (((32 - bl (B.getD (B.length - 1) 0) : Nat) : Int))), (9, .slice (some ⟨blk8, 0, none⟩) Y.length YY.length), (10, .slice (some ⟨blk9, 0, none⟩) XX.length XX.length), (11, .int .i64 (((k : Nat) : Int) - 1))] ⟨rfl, rfl, rfl, rfl, rfl, rfl, rfl, trivial⟩ fun G37 => ?_
          refine wp_seq ?_
          refine wp_block ?_
          refine k_reg ?_
          refine s_val hS18 rfl rfl (r_move rfl (.t rfl rfl)) ?_
          refine s_val hS18 rfl rfl (Rn.as (j := ((k - 1 : Nat) : Int)) (by omega) (r_move rfl (.t rfl rfl))) ?_
          refine s_val hS18 rfl rfl (r_move rfl (.t rfl rfl)) ?_
          refine s_val hS18 rfl rfl (Rn.as (j := ((k - 1 : Nat) : Int)) (by omega) (r_move rfl (.t rfl rfl))) ?_
          refine s_val hS18 rfl rfl (Rn.as (j := ((k - 1 : Nat) : Int)) (by omega) (r_move rfl (.t rfl rfl))) ?_
          refine s_val hS18 rfl rfl (r_move rfl (.t rfl rfl)) ?_
          refine s_val hS18 rfl rfl (r_len rfl rfl Tryd.underlying26 (.t rfl rfl)) ?_
          refine s_val hS18 rfl rfl (r_arith rfl rfl (.t rfl rfl) (.t rfl rfl) (c := (((k - 1) + B.length : Nat) : Int)) (wn_i64 (by show (((k - 1 : Nat) : Int) : Int) + ((B.length : Nat) : Int) = _; omega) (by omega))) ?_
          refine s_val hS18 rfl rfl (r_arith rfl rfl (.t rfl rfl) .c (c := ((((k - 1) + B.length) + 1 : Nat) : Int)) (wn_i64 (by show ((((k - 1) + B.length : Nat) : Int) : Int) + 1 = _; omega) (by omega))) ?_
          refine s_val hS18 rfl rfl (r_cutw (ln := Y.length + 1) (cp := XX.length - (k - 1)) (lw := k - 1) (hh := ((k - 1) + B.length) + 1) (m := XX.length) (qq := (X.take (k - 1)).length) (by omega) (by omega) rfl Tryd.underlying26 ti38 (.t rfl rfl) (.s (.t rfl rfl)) (.s (.t rfl rfl)) .n (by omega) (by omega) (by omega) (by omega) (by rw [List.length_take, Nat.min_eq_left (by omega)]; omega)) ?_
          refine s_val hS18 rfl rfl (r_move rfl (.t rfl rfl)) ?_
          have hwl : ((X.drop (k - 1)).take (Y.length + 1)).length = Y.length + 1 := win_len (by omega)
          obtain ⟨hw1, hw2⟩ := win_lt (j := k - 1) hXlim hYlim (by omega) (by rw [show k - 1 + 1 = k by omega]; exact hlt)
          refine s_call rfl rfl rfl (vs := [.slice (some ⟨blk9, (X.take (k - 1)).length, none⟩) (Y.length + 1) (XX.length - (k - 1)), .slice (some ⟨blk8, 0, none⟩) Y.length YY.length]) ⟨(.t rfl rfl), (.t rfl rfl), trivial⟩ cb75 (step_ok w18 blk9 _ (X.take (k - 1)) ((X.drop (k - 1)).take (Y.length + 1)) (X.drop (k - 1 + (Y.length + 1))) (by rw [← win_split]; exact hS18.own (blk9, .cells (encN .u32 X) 38 (0, 0)) (by simp)) (lim_take (lim_drop hXlim _) _) (some ⟨blk8, 0, none⟩) YY.length Y (by rw [hYe]; exact Rd.take (rd_own0 (m := 0) (cap := YY.length) hS18 rfl (Nat.le_refl _) (by omega) hYYlim) (by omega) (by omega)) hwl (by omega) hY1 hw1 (by have := hS18.nodup; simp at this; simp [adr]; omega) (by omega)) ?_
          rintro _ w19 ⟨X', rfl, hT10, hX'l, hX'lim, hX'v⟩
          have hS19 := hS18.wrote (m := 1) rfl hT10
          have hdig : lv ((X.drop (k - 1)).take (Y.length + 1)) / lv Y ≤ 4294967295 := by
            have hlt2 : lv ((X.drop (k - 1)).take (Y.length + 1)) / lv Y < 4294967296 := Nat.div_lt_of_lt_mul (by rw [Nat.mul_comm]; exact hw1)
            omega
          refine s_val hS19 rfl rfl (r_ixs (j := k - 1) rfl Tryd.underlying26 ti38 (.t rfl rfl) (.t rfl rfl) rfl (by omega) (qq := k - 1) (by omega)) ?_
          refine s_store (m := 2) rfl rfl rfl one38 (.t rfl rfl) (.t rfl rfl) rfl hS19 rfl (encN_get (by first | omega | (simp only [List.length_set, List.length_append, List.length_replicate]; omega))) (encN_set) rfl fun w20 hS20 => ?_
          refine wpList_nil ?_
          refine x_bn ?_
          refine x_tn ?_
          refine k_reb [(1, .slice aB B.length cB), (4, .slice (some ⟨blk10, 0, none⟩) ((A.length - B.length) + 1) ((A.length - B.length) + 1)), (5, .slice none 0 0), (8, .int .i64 (((32 - bl (B.getD (B.length - 1) 0) : Nat) : Int))), (9, .slice (some ⟨blk8, 0, none⟩) Y.length YY.length), (10, .slice (some ⟨blk9, 0, none⟩) XX.length XX.length), (11, .int .i64 (((k : Nat) : Int) - 1))] ⟨rfl, rfl, rfl, rfl, rfl, rfl, rfl, trivial⟩ fun G38 => ?_
          refine k_reg ?_
          refine s_val hS20 rfl rfl (r_move rfl (.t rfl rfl)) ?_
          refine s_val hS20 rfl rfl (r_arith rfl rfl (.t rfl rfl) .c (c := ((k - 1 : Nat) : Int) - 1) (w_i64 (by show (((k : Nat) : Int) - 1 : Int) - 1 = _; omega) (by omega) (by omega))) ?_
          refine s_val hS20 rfl rfl (r_assign rfl (.t rfl rfl)) ?_
          refine wpList_nil ?_
          refine x_tn ?_
          refine ⟨k - 1, by omega, _, k - 1, X.take (k - 1) ++ X' ++ X.drop (k - 1 + (Y.length + 1)), Qs.set (k - 1) (lv ((X.drop (k - 1)).take (Y.length + 1)) / lv Y), fr_reb _ ⟨rfl, rfl, rfl, rfl, rfl, rfl, rfl, trivial⟩, hS20, ?_⟩
          obtain ⟨s1, s2⟩ := win_step (V := lv Y) (N := lv A * 2 ^ (32 - bl (B.getD (B.length - 1) 0))) (Qs := Qs) (j := k - 1) rfl (by omega) (by omega) hw2 hX'l hYp hX'v (by rw [show k - 1 + 1 = k by omega]; exact hv)
          exact ⟨rfl, by omega, by rw [List.length_append, List.length_append, List.length_take, List.length_drop]; omega, lim_append (lim_append (lim_take hXlim _) hX'lim) (lim_drop hXlim _), by simpa using hQl, lim_set hQlim hdig, s2, s1⟩
        · refine s_val hS18 rfl rfl (r_cmp_f rfl rfl (.t rfl rfl) .c (show ¬ (((k : Nat) : Int) - 1 ≥ 0) from by omega)) ?_
          refine wpList_nil ?_
          refine x_tn ?_
          refine k_reb [(1, .slice aB B.length cB), (4, .slice (some ⟨blk10, 0, none⟩) ((A.length - B.length) + 1) ((A.length - B.length) + 1)), (5, .slice none 0 0), (8, .int .i64 (((32 - bl (B.getD (B.length - 1) 0) : Nat) : Int))), (9, .slice (some ⟨blk8, 0, none⟩) Y.length YY.length), (10, .slice (some ⟨blk9, 0, none⟩) XX.length XX.length), (11, .int .i64 (((k : Nat) : Int) - 1)), (61, .bool false)] ⟨rfl, rfl, rfl, rfl, rfl, rfl, rfl, rfl, trivial⟩ fun G39 => ?_
          refine k_f (.t rfl rfl) ?_
          refine wp_exit ?_
          refine x_te ?_
          refine x_te ?_
          refine x_be ?_
          refine x_tn ?_
          refine k_reb [(4, .slice (some ⟨blk10, 0, none⟩) ((A.length - B.length) + 1) ((A.length - B.length) + 1)), (5, .slice none 0 0), (8, .int .i64 (((32 - bl (B.getD (B.length - 1) 0) : Nat) : Int))), (10, .slice (some ⟨blk9, 0, none⟩) XX.length XX.length)] ⟨rfl, rfl, rfl, rfl, trivial⟩ fun G40 => ?_
          refine wp_seq ?_
          refine k_reg ?_
          refine s_val hS18 rfl rfl (Rn.asS (p' := X.length) (q' := X.length) (by omega) (by omega) (r_move rfl (.t rfl rfl))) ?_
          have h9 : lv X < Top := by
            have hk0 : k = 0 := by omega
            subst hk0
            exact Nat.lt_trans (by simpa using hlt) (lt_top hYlim (by omega))
          refine s_call rfl rfl rfl (vs := [.slice (some ⟨blk9, 0, none⟩) X.length X.length]) ⟨(.t rfl rfl), trivial⟩ cb28 (normal_fit w18 (some ⟨blk9, 0, none⟩) X.length X (rd_own0 (m := 1) hS18 rfl (by omega) (by omega) (hXlim)) (by omega) h9) ?_
          intro v11 w21 hp13
          obtain ⟨hp13, hB7⟩ := hp13
          have hS21 := hS18.keep hB7
          replace hB7 := hB7.toBelow
          obtain ⟨R2, X2, hE2, hNR2, hlR2, rfl⟩ := hp13
          have hnR2 := hNR2.len
          have hR5 : Rd w21 .u32 (some ⟨blk9, 0, none⟩) R2.length R2 := Rd.front_eq hE2 (rd_own0 (m := 1) (cap := X.length) hS21 rfl (by omega) (by omega) hXlim)
          have hW5 := Ow.of_front_eq hE2 hS21 (m := 1) rfl (by have := hNR2.len; omega) hNR2.lim
          refine s_val hS21 rfl rfl (r_move rfl (.t rfl rfl)) ?_
          refine s_val hS21 rfl rfl (r_extract rfl (.t rfl rfl) rfl) ?_
          refine s_val hS21 rfl rfl (r_extract rfl (.t rfl rfl) rfl) ?_
          refine s_val hS21 rfl rfl (r_assign rfl (.t rfl rfl)) ?_
          refine wpList_nil ?_
          refine x_tn ?_
          refine k_reb [(4, .slice (some ⟨blk10, 0, none⟩) ((A.length - B.length) + 1) ((A.length - B.length) + 1)), (5, .slice (some ⟨blk9, 0, none⟩) R2.length R2.length), (8, .int .i64 (((32 - bl (B.getD (B.length - 1) 0) : Nat) : Int)))] ⟨rfl, rfl, rfl, trivial⟩ fun G41 => ?_
          refine wp_seq ?_
          refine k_reg ?_
          refine s_val hS21 rfl rfl (r_move rfl (.t rfl rfl)) ?_
          refine s_val hS21 rfl rfl (r_move rfl (.t rfl rfl)) ?_
          refine s_val hS21 rfl rfl (r_move rfl (.t rfl rfl)) ?_
          refine s_call rfl rfl rfl (vs := [.slice (some ⟨blk9, 0, none⟩) R2.length R2.length, .int .i64 (((32 - bl (B.getD (B.length - 1) 0) : Nat) : Int))]) ⟨(.t rfl rfl), (.t rfl rfl), trivial⟩ cb30 (right_ok w21 (some ⟨blk9, 0, none⟩) R2.length R2 hR5 (32 - bl (B.getD (B.length - 1) 0)) (by omega) (by omega)) ?_
          intro v12 w22 hp14
          obtain ⟨L3, hp14, ⟨hL3lim, hL3v, hL3l⟩⟩ := hp14
          obtain ⟨a3, c5, rfl, hR6, -, hT11⟩ := id hp14
          have hW6 := Ow.from_ hS21 hp14
          have hS22 := hS21.keep hT11
          have hR7 := hR5.below hT11.toBelow (Nat.le_refl _)
          have hW7 := hW5.later hT11.toBelow
          refine s_val hS22 rfl rfl (r_assign rfl (.t rfl rfl)) ?_
          refine s_val hS22 rfl rfl (r_assign rfl (.t rfl rfl)) ?_
          refine wpList_nil ?_
          refine x_tn ?_
          refine k_reb [(4, .slice (some ⟨blk10, 0, none⟩) ((A.length - B.length) + 1) ((A.length - B.length) + 1)), (5, .slice a3 L3.length c5)] ⟨rfl, rfl, trivial⟩ fun G42 => ?_
          refine wp_ret ?_
          refine k_ret2 Tryd.results41 rfl rfl rfl rfl ?_
          refine ⟨_, rfl, ?_⟩
          have hk0 : k = 0 := by omega
          subst hk0
          obtain ⟨e1, e2⟩ := div_end (s := (32 - bl (B.getD (B.length - 1) 0))) (by simpa using hv) (by simpa using hlt) rfl hYv
          exact ⟨Qs, L3, _, _, rfl, Ow.of_chunk0 (m := 2) hS22 rfl (by omega) (by omega) (by omega) hQlim, hW6, hQlim, hL3lim, e1, by rw [hL3v, hlR2]; exact e2, by omega, by have := hNR2.len; omega⟩

end Go.Proofs.YtnbklceenfjojaaDoor

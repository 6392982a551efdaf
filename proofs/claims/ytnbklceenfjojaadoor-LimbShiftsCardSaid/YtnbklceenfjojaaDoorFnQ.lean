/- Contracts of functions of the program, each walked once. -/
import Derived.Test.YtnbklceenfjojaaDoorFnJ
import Derived.Test.YtnbklceenfjojaaDoorKTz
namespace Go.Proofs.YtnbklceenfjojaaDoor
open Go Go.RowKit K
namespace FQ
theorem mixed : Tryd.prog.follows .mixedOrders = true := by kernel_rfl
theorem cb14 : callable Tryd.prog 14 = true := by kernel_rfl
theorem cb27 : callable Tryd.prog 27 = true := by kernel_rfl
theorem cb28 : callable Tryd.prog 28 = true := by kernel_rfl
theorem cb30 : callable Tryd.prog 30 = true := by kernel_rfl
theorem cb39 : callable Tryd.prog 39 = true := by kernel_rfl
theorem one38 : One Tryd.prog 38 = true := by kernel_rfl
theorem one5 : One Tryd.prog 5 = true := by kernel_rfl
theorem ti38 : (Tryd.prog.info? 38).map (fun i => (i.zero, i.size, i.bytes)) = some (some (.int .u32 0), 1, 4) := by kernel_rfl
theorem ti5 : (Tryd.prog.info? 5).map (fun i => (i.zero, i.size, i.bytes)) = some (some (.int .u8 0), 1, 1) := by kernel_rfl

end FQ
open FQ
attribute [local irreducible] Go.wpList Go.wpQuiet Go.wpStill Go.wpAny Go.Code.wp
set_option maxRecDepth 10000
set_option maxHeartbeats 8000000
set_option linter.unusedVariables false
set_option linter.unusedSimpArgs false
theorem tz32_ok (w0 : World) (hG : Rd w0 .u8 (some ⟨0, 0, none⟩) 32 deB) (x : Nat) (hx : x ≤ 4294967295) :
    Calls Tryd.prog 39 #[.int .u32 (((x : Nat) : Int))] w0 (Ret fun v w' => ((x = 0 ∧ v = .int .i64 32) ∨ (0 < x ∧ v = .int .i64 ((ctz x : Nat) : Int))) ∧ w' = w0) := by
  refine k_enter (vs := [.int .u32 (((x : Nat) : Int))]) Tryd.func39 rfl Tryd.ntmps39 rfl ?_
  have hS := St.init w0
  refine wp_seq ?_
  refine k_reg ?_
  refine s_val hS rfl rfl (r_assign rfl .c) ?_
  refine wpList_nil ?_
  refine x_tn ?_
  refine wp_seq ?_
  refine wp_seq ?_
  refine k_reg ?_
  refine s_val hS rfl rfl (r_move rfl (.t rfl rfl)) ?_
  by_cases c1 : x = 0
  · refine s_val hS rfl rfl (r_cmp_t rfl rfl (.t rfl rfl) .c (show ((x : Nat) : Int) = 0 from by omega)) ?_
    refine wpList_nil ?_
    refine x_tn ?_
    refine k_reb [(0, .int .u32 (((x : Nat) : Int))), (2, .int .i64 0), (4, .bool true)] ⟨rfl, rfl, rfl, trivial⟩ fun G1 => ?_
    refine k_t (.t rfl rfl) ?_
    refine wp_seq ?_
    refine k_reg ?_
    refine s_val hS rfl rfl (r_assign rfl .c) ?_
    refine wpList_nil ?_
    refine x_tn ?_
    refine k_reb [(0, .int .u32 (((x : Nat) : Int))), (2, .int .i64 32)] ⟨rfl, rfl, trivial⟩ fun G2 => ?_
    refine wp_ret ?_
    refine x_tr ?_
    refine k_ret1 Tryd.results39 rfl rfl ?_
    refine ⟨_, rfl, ?_⟩
    exact ⟨.inl ⟨by omega, rfl⟩, rfl⟩
  · refine s_val hS rfl rfl (r_cmp_f rfl rfl (.t rfl rfl) .c (show ¬ (((x : Nat) : Int) = 0) from by omega)) ?_
    refine wpList_nil ?_
    refine x_tn ?_
    refine k_reb [(0, .int .u32 (((x : Nat) : Int))), (2, .int .i64 0), (4, .bool false)] ⟨rfl, rfl, rfl, trivial⟩ fun G3 => ?_
    refine k_f (.t rfl rfl) ?_
    refine wp_skip ?_
    refine x_tn ?_
    refine k_reb [(0, .int .u32 (((x : Nat) : Int))), (2, .int .i64 0)] ⟨rfl, rfl, trivial⟩ fun G4 => ?_
    refine wp_seq ?_
    refine k_reg ?_
    refine s_val hS rfl rfl (r_move rfl (.t rfl rfl)) ?_
    refine s_val hS rfl rfl (r_move rfl (.t rfl rfl)) ?_
    have hdl : deB.length = 32 := rfl
    have hk : ctz x < 32 := ctzF_lt 32 x (by omega) (by omega)
    have hp31 : 2 ^ ctz x ≤ 2147483648 := Nat.pow_le_pow_right (show 0 < 2 by omega) (show ctz x ≤ 31 by omega)
    refine s_val hS rfl rfl (r_neg rfl (.t rfl rfl) (c := ((4294967296 - x : Nat) : Int)) (by have h := wms_u32 (m := 0) (p := x) (by omega); rw [show (0 + 4294967296 - x) % 4294967296 = 4294967296 - x from by omega] at h; simpa using h)) ?_
    refine s_val hS rfl rfl (r_and rfl (.t rfl rfl) (.t rfl rfl) (show x < 4294967296 from by omega) (show 4294967296 - x < 4294967296 from by omega) (c := 2 ^ ctz x) ((and_neg 32 x (by omega) (by omega))) (wn_u32 rfl (by omega))) ?_
    refine s_val hS rfl rfl (r_arith rfl rfl (.t rfl rfl) .c (wm_u32 (m := (2 ^ ctz x) * 125613361) (Int.natCast_mul _ _).symm)) ?_
    refine s_val hS rfl rfl (r_shr rfl (.t rfl rfl) .c (by omega) (show (2 : Int) ^ _ = ((134217728 : Nat) : Int) from rfl) fdiv_nat) ?_
    refine s_val hS rfl rfl (show Rn _ _ _ _ _ (.pointer (some ⟨(adr (some ⟨0, 0, none⟩)).block, (adr (some ⟨0, 0, none⟩)).off + ((((2 ^ ctz x) * 125613361) % 4294967296) / 134217728), none⟩)) from r_ixa (j := (((2 ^ ctz x) * 125613361) % 4294967296) / 134217728) (q := 0) rfl Tryd.underlying94 ti5 .g (.t rfl rfl) rfl (by omega) rfl) ?_
    have b1 : deB.getD ((((2 ^ ctz x) * 125613361) % 4294967296) / 134217728) 0 ≤ 255 := hG.lt _
    refine s_val hS rfl rfl (r_load rfl one5 (.t rfl rfl) (St.cell_rd hG (by omega) (by simp))) ?_
    refine s_val hS rfl rfl (r_conv rfl Tryd.underlying5 Tryd.underlying3 (.t rfl rfl) (c := ((deB.getD ((((2 ^ ctz x) * 125613361) % 4294967296) / 134217728) 0 : Nat) : Int)) (wn_i64 rfl (by omega))) ?_
    refine s_val hS rfl rfl (r_assign rfl (.t rfl rfl)) ?_
    refine wpList_nil ?_
    refine x_tn ?_
    refine k_reb [(2, .int .i64 (((deB.getD ((((2 ^ ctz x) * 125613361) % 4294967296) / 134217728) 0 : Nat) : Int)))] ⟨rfl, trivial⟩ fun G5 => ?_
    refine wp_ret ?_
    refine k_ret1 Tryd.results39 rfl rfl ?_
    refine ⟨_, rfl, ?_⟩
    exact ⟨.inr ⟨by omega, by rw [deB_at _ hk]⟩, rfl⟩

theorem Low_ok (w0 : World) (hG : Rd w0 .u8 (some ⟨0, 0, none⟩) 32 deB) (aA : Option Addr) (cA : Nat) (A : List Nat) (hA : Rd w0 .u32 aA cA A) (nA : Nm A) :
    Calls Tryd.prog 14 #[.slice aA A.length cA] w0 (Ret fun v w' => ∃ k, v = .int .i64 ((k : Nat) : Int) ∧ k ≤ 262144 ∧ ((lv A = 0 ∧ k = 0) ∨ (0 < lv A ∧ Lowest (lv A) k)) ∧ St w0 [] [] w') := by
  refine k_enter (vs := [.slice aA A.length cA]) Tryd.func14 rfl Tryd.ntmps14 rfl ?_
  have hS := St.init w0
  have lA := hA.le
  have lA2 := nA.len
  refine wp_seq ?_
  refine k_reg ?_
  refine s_val hS rfl rfl (r_assign rfl .c) ?_
  refine wpList_nil ?_
  refine x_tn ?_
  refine wp_seq ?_
  refine wp_seq ?_
  refine k_reg ?_
  refine s_val hS rfl rfl (r_move rfl (.t rfl rfl)) ?_
  refine s_call rfl rfl rfl (vs := [.slice aA A.length cA]) ⟨(.t rfl rfl), trivial⟩ cb27 (check_nm w0 aA cA A hA nA) ?_
  intro v1 w1 hp1
  obtain ⟨hp1, hB1⟩ := hp1
  have hS1 := hS.keep hB1
  replace hB1 := hB1.toBelow
  obtain rfl := hp1
  refine s_val hS1 rfl rfl (r_cmp_f rfl rfl (.t rfl rfl) .c (show ¬ (¬ 0 = 0) from by omega)) ?_
  refine wpList_nil ?_
  refine x_tn ?_
  refine k_reb [(0, .slice aA A.length cA), (2, .int .i64 0), (6, .bool false)] ⟨rfl, rfl, rfl, trivial⟩ fun G1 => ?_
  refine k_f (.t rfl rfl) ?_
  refine wp_skip ?_
  refine x_tn ?_
  refine k_reb [(0, .slice aA A.length cA), (2, .int .i64 0)] ⟨rfl, rfl, trivial⟩ fun G2 => ?_
  refine wp_seq ?_
  refine wp_seq ?_
  refine k_reg ?_
  refine s_val hS1 rfl rfl (r_move rfl (.t rfl rfl)) ?_
  refine s_val hS1 rfl rfl (r_len rfl rfl Tryd.underlying27 (.t rfl rfl)) ?_
  refine s_val hS1 rfl rfl (r_move rfl .c) ?_
  refine wpList_nil ?_
  refine x_tn ?_
  refine k_reb [(0, .slice aA A.length cA), (2, .int .i64 0), (8, .int .i64 (((A.length : Nat) : Int))), (9, .int .i64 0)] ⟨rfl, rfl, rfl, rfl, trivial⟩ fun G3 => ?_
  refine wp_block ?_
  refine wp_loop_ghost (fun (m1 : Nat) a w => ∃ (G : Nat → Value) (i : Nat), a = fr 26 [(0, .slice aA A.length cA), (2, .int .i64 0), (8, .int .i64 (((A.length : Nat) : Int))), (9, .int .i64 (((i : Nat) : Int)))] G ∧ St w0 [] [] w ∧ (m1 = A.length - i ∧ i ≤ A.length ∧ lv (A.take i) = 0)) (A.length) ⟨_, 0, fr_reb _ ⟨rfl, rfl, rfl, rfl, trivial⟩, hS1, ?_⟩ ?_
  · exact ⟨rfl, Nat.zero_le _, rfl⟩
  · intro m1 _ w2 hI1
    obtain ⟨G4, i, rfl, hS2, ⟨hm, hi, hv⟩⟩ := hI1
    refine wp_seq ?_
    refine k_reg ?_
    by_cases c1 : i < A.length
    · refine s_val hS2 rfl rfl (r_cmp_t rfl rfl (.t rfl rfl) (.t rfl rfl) (show ((i : Nat) : Int) < ((A.length : Nat) : Int) from by omega)) ?_
      refine wpList_nil ?_
      refine x_tn ?_
      refine wp_seq ?_
      refine k_t (.t rfl rfl) ?_
      refine wp_skip ?_
      refine x_tn ?_
      refine k_reb [(0, .slice aA A.length cA), (2, .int .i64 0), (8, .int .i64 (((A.length : Nat) : Int))), (9, .int .i64 (((i : Nat) : Int)))] ⟨rfl, rfl, rfl, rfl, trivial⟩ fun G5 => ?_
      refine wp_seq ?_
      refine wp_block ?_
      refine wp_seq ?_
      refine k_reg ?_
      refine s_val hS2 rfl rfl (r_move rfl (.t rfl rfl)) ?_
      refine s_val hS2 rfl rfl (r_assign rfl (.t rfl rfl)) ?_
      refine wpList_nil ?_
      refine x_tn ?_
      refine k_reb [(0, .slice aA A.length cA), (2, .int .i64 0), (3, .int .i64 (((i : Nat) : Int))), (8, .int .i64 (((A.length : Nat) : Int))), (9, .int .i64 (((i : Nat) : Int)))] ⟨rfl, rfl, rfl, rfl, rfl, trivial⟩ fun G6 => ?_
      refine wp_seq ?_
      refine k_reg ?_
      refine s_val hS2 rfl rfl (r_move rfl (.t rfl rfl)) ?_
      refine s_val hS2 rfl rfl (r_move rfl (.t rfl rfl)) ?_
      refine s_val hS2 rfl rfl (r_ixr (j := i) rfl Tryd.underlying27 ti38 (.t rfl rfl) (.t rfl rfl) hA rfl rfl (by omega)) ?_
      have b1 : A.getD i 0 ≤ 4294967295 := hA.lt _
      refine s_val hS2 rfl rfl (r_load rfl one38 (.t rfl rfl) (St.cell_rd hA (by omega) (by simp))) ?_
      by_cases c2 : A.getD i 0 ≠ 0
      · refine s_val hS2 rfl rfl (r_cmp_t rfl rfl (.t rfl rfl) .c (show ¬ ((A.getD i 0 : Nat) : Int) = 0 from by omega)) ?_
        refine wpList_nil ?_
        refine x_tn ?_
        refine k_reb [(0, .slice aA A.length cA), (2, .int .i64 0), (3, .int .i64 (((i : Nat) : Int))), (8, .int .i64 (((A.length : Nat) : Int))), (9, .int .i64 (((i : Nat) : Int))), (16, .bool true)] ⟨rfl, rfl, rfl, rfl, rfl, rfl, trivial⟩ fun G7 => ?_
        refine k_t (.t rfl rfl) ?_
        refine wp_seq ?_
        refine k_reg ?_
        refine s_val hS2 rfl rfl (r_move rfl (.t rfl rfl)) ?_
        refine s_val hS2 rfl rfl (r_arith rfl rfl .c (.t rfl rfl) (c := ((32 * i : Nat) : Int)) (wn_i64 (Int.natCast_mul _ _).symm (by omega))) ?_
        refine s_val hS2 rfl rfl (r_move rfl (.t rfl rfl)) ?_
        refine s_val hS2 rfl rfl (r_move rfl (.t rfl rfl)) ?_
        refine s_val hS2 rfl rfl (r_ixr (j := i) rfl Tryd.underlying27 ti38 (.t rfl rfl) (.t rfl rfl) hA rfl rfl (by omega)) ?_
        have b2 : A.getD i 0 ≤ 4294967295 := hA.lt _
        refine s_val hS2 rfl rfl (r_load rfl one38 (.t rfl rfl) (St.cell_rd hA (by omega) (by simp))) ?_
        refine s_call rfl rfl rfl (vs := [.int .u32 (((A.getD i 0 : Nat) : Int))]) ⟨(.t rfl rfl), trivial⟩ cb39 (tz32_ok w2 (rd_st hS2 hG (by simp)) (A.getD i 0) (by omega)) ?_
        rintro _ w2 ⟨⟨hz1, rfl⟩ | ⟨hz1, rfl⟩, rfl⟩
        · exfalso; omega
        have hz2 : ctz (A.getD i 0) < 32 := ctzF_lt 32 _ hz1 (show A.getD i 0 < 2 ^ 32 from Nat.lt_of_le_of_lt (show A.getD i 0 ≤ 4294967295 from by omega) (by decide))
        refine s_val hS2 rfl rfl (r_arith rfl rfl (.t rfl rfl) (.t rfl rfl) (c := (((32 * i) + (ctz (A.getD i 0)) : Nat) : Int)) (wn_i64 (by show (((32 * i : Nat) : Int) : Int) + ((ctz (A.getD i 0) : Nat) : Int) = _; omega) (by omega))) ?_
        refine s_val hS2 rfl rfl (r_assign rfl (.t rfl rfl)) ?_
        refine wpList_nil ?_
        refine x_tn ?_
        refine k_reb [(0, .slice aA A.length cA), (2, .int .i64 ((((32 * i) + (ctz (A.getD i 0)) : Nat) : Int))), (8, .int .i64 (((A.length : Nat) : Int))), (9, .int .i64 (((i : Nat) : Int)))] ⟨rfl, rfl, rfl, rfl, trivial⟩ fun G8 => ?_
        refine wp_ret ?_
        refine x_br ?_
        refine x_tr ?_
        refine x_tr ?_
        refine x_br ?_
        refine x_tr ?_
        refine k_ret1 Tryd.results14 rfl rfl ?_
        refine ⟨_, rfl, ?_⟩
        exact ⟨_, rfl, by omega, .inr ⟨lv_pos nA.nz (by omega), lowest_limb nA.lim (by omega) hv hz1⟩, hS2⟩
      · refine s_val hS2 rfl rfl (r_cmp_f rfl rfl (.t rfl rfl) .c (show ¬ (¬ ((A.getD i 0 : Nat) : Int) = 0) from by omega)) ?_
        refine wpList_nil ?_
        refine x_tn ?_
        refine k_reb [(0, .slice aA A.length cA), (2, .int .i64 0), (3, .int .i64 (((i : Nat) : Int))), (8, .int .i64 (((A.length : Nat) : Int))), (9, .int .i64 (((i : Nat) : Int))), (16, .bool false)] ⟨rfl, rfl, rfl, rfl, rfl, rfl, trivial⟩ fun G9 => ?_
        refine k_f (.t rfl rfl) ?_
        refine wp_skip ?_
        refine x_bn ?_
        refine x_tn ?_
        refine k_reb [(0, .slice aA A.length cA), (2, .int .i64 0), (8, .int .i64 (((A.length : Nat) : Int))), (9, .int .i64 (((i : Nat) : Int)))] ⟨rfl, rfl, rfl, rfl, trivial⟩ fun G10 => ?_
        refine k_reg ?_
        refine s_val hS2 rfl rfl (r_arith rfl rfl (.t rfl rfl) .c (c := ((i + 1 : Nat) : Int)) (wn_i64 (by show (((i : Nat) : Int) : Int) + 1 = _; omega) (by omega))) ?_
        refine s_val hS2 rfl rfl (r_move rfl (.t rfl rfl)) ?_
        refine wpList_nil ?_
        refine x_tn ?_
        refine ⟨A.length - (i + 1), by omega, _, i + 1, fr_reb _ ⟨rfl, rfl, rfl, rfl, trivial⟩, hS2, ?_⟩
        exact ⟨by omega, by omega, by rw [lv_take_succ (by omega), hv, show A.getD i 0 = 0 by omega, Nat.zero_mul]⟩
    · refine s_val hS2 rfl rfl (r_cmp_f rfl rfl (.t rfl rfl) (.t rfl rfl) (show ¬ (((i : Nat) : Int) < ((A.length : Nat) : Int)) from by omega)) ?_
      refine wpList_nil ?_
      refine x_tn ?_
      refine wp_seq ?_
      refine k_f (.t rfl rfl) ?_
      refine wp_exit ?_
      refine x_te ?_
      refine x_te ?_
      refine x_be ?_
      refine x_tn ?_
      refine k_reb [(2, .int .i64 0)] ⟨rfl, trivial⟩ fun G11 => ?_
      refine wp_seq ?_
      refine k_reg ?_
      refine s_val hS2 rfl rfl (r_assign rfl .c) ?_
      refine wpList_nil ?_
      refine x_tn ?_
      refine wp_ret ?_
      refine k_ret1 Tryd.results14 rfl rfl ?_
      refine ⟨_, rfl, ?_⟩
      obtain rfl : i = A.length := by omega
      rw [take_all (Nat.le_refl _)] at hv
      exact ⟨0, rfl, by omega, .inl ⟨hv, rfl⟩, hS2⟩

theorem Right_ok (w0 : World) (hG : Rd w0 .u8 (some ⟨0, 0, none⟩) 32 deB) (aA : Option Addr) (cA : Nat) (A : List Nat) (hA : Rd w0 .u32 aA cA A) (nA : Nm A) (N : Nat) (hN : N ≤ 9223372036854775807) :
    Calls Tryd.prog 7 #[.slice aA A.length cA, .int .i64 (((N : Nat) : Int))] w0 (Ret fun v w' => ∃ L u, v = .tuple #[u, .bool (decide (lv A % 2 ^ N ≠ 0)), .int .i64 0] ∧ Ow w0 w' .u32 38 u L ∧ Nm L ∧ lv L = lv A / 2 ^ N) := by
  refine k_enter (vs := [.slice aA A.length cA, .int .i64 (((N : Nat) : Int))]) Tryd.func7 rfl Tryd.ntmps7 rfl ?_
  have hS := St.init w0
  have lA := hA.le
  have lA2 := nA.len
  have hTA := nm_lt nA
  have hb32 : lv A < 2 ^ (32 * A.length) := by rw [← pw_two]; exact lv_lt nA.lim
  refine wp_seq ?_
  refine k_reg ?_
  refine s_val hS rfl rfl (r_assign rfl .c) ?_
  refine s_val hS rfl rfl (r_assign rfl .c) ?_
  refine s_val hS rfl rfl (r_assign rfl .c) ?_
  refine wpList_nil ?_
  refine x_tn ?_
  refine wp_seq ?_
  refine wp_seq ?_
  refine k_reg ?_
  refine s_val hS rfl rfl (r_move rfl (.t rfl rfl)) ?_
  refine s_call rfl rfl rfl (vs := [.slice aA A.length cA]) ⟨(.t rfl rfl), trivial⟩ cb27 (check_nm w0 aA cA A hA nA) ?_
  intro v1 w1 hp1
  obtain ⟨hp1, hB1⟩ := hp1
  have hS1 := hS.keep hB1
  replace hB1 := hB1.toBelow
  obtain rfl := hp1
  refine s_val hS1 rfl rfl (r_assign rfl (.t rfl rfl)) ?_
  refine wpList_nil ?_
  refine x_tn ?_
  refine k_reb [(0, .slice aA A.length cA), (1, .int .i64 (((N : Nat) : Int))), (4, .slice none 0 0), (5, .bool false), (6, .int .i64 0), (7, .int .i64 0)] ⟨rfl, rfl, rfl, rfl, rfl, rfl, trivial⟩ fun G1 => ?_
  refine wp_seq ?_
  refine k_reg ?_
  refine s_val hS1 rfl rfl (r_move rfl (.t rfl rfl)) ?_
  refine s_val hS1 rfl rfl (r_cmp_f rfl rfl (.t rfl rfl) .c (show ¬ (¬ 0 = 0) from by omega)) ?_
  refine wpList_nil ?_
  refine x_tn ?_
  refine k_reb [(0, .slice aA A.length cA), (1, .int .i64 (((N : Nat) : Int))), (4, .slice none 0 0), (5, .bool false), (6, .int .i64 0), (7, .int .i64 0), (11, .bool false)] ⟨rfl, rfl, rfl, rfl, rfl, rfl, rfl, trivial⟩ fun G2 => ?_
  refine k_f (.t rfl rfl) ?_
  refine wp_skip ?_
  refine x_tn ?_
  refine k_reb [(0, .slice aA A.length cA), (1, .int .i64 (((N : Nat) : Int))), (4, .slice none 0 0), (5, .bool false), (6, .int .i64 0)] ⟨rfl, rfl, rfl, rfl, rfl, trivial⟩ fun G3 => ?_
  refine wp_seq ?_
  refine wp_seq ?_
  refine k_reg ?_
  refine s_val hS1 rfl rfl (r_move rfl (.t rfl rfl)) ?_
  refine s_val hS1 rfl rfl (r_cmp_f rfl rfl (.t rfl rfl) .c (show ¬ (((N : Nat) : Int) < 0) from (by omega))) ?_
  refine wpList_nil ?_
  refine x_tn ?_
  refine k_reb [(0, .slice aA A.length cA), (1, .int .i64 (((N : Nat) : Int))), (4, .slice none 0 0), (5, .bool false), (6, .int .i64 0), (14, .bool false)] ⟨rfl, rfl, rfl, rfl, rfl, rfl, trivial⟩ fun G4 => ?_
  refine k_f (.t rfl rfl) ?_
  refine wp_skip ?_
  refine x_tn ?_
  refine k_reb [(0, .slice aA A.length cA), (1, .int .i64 (((N : Nat) : Int))), (4, .slice none 0 0), (5, .bool false), (6, .int .i64 0)] ⟨rfl, rfl, rfl, rfl, rfl, trivial⟩ fun G5 => ?_
  refine wp_seq ?_
  refine wp_seq ?_
  refine k_reg ?_
  refine s_val hS1 rfl rfl (r_move rfl (.t rfl rfl)) ?_
  refine s_val hS1 rfl rfl (r_move rfl (.t rfl rfl)) ?_
  refine s_val hS1 rfl rfl (r_len rfl rfl Tryd.underlying27 (.t rfl rfl)) ?_
  refine s_val hS1 rfl rfl (r_arith rfl rfl .c (.t rfl rfl) (c := ((32 * A.length : Nat) : Int)) (wn_i64 (Int.natCast_mul _ _).symm (by omega))) ?_
  by_cases c1 : N ≥ 32 * A.length
  · refine s_val hS1 rfl rfl (r_cmp_t rfl rfl (.t rfl rfl) (.t rfl rfl) (show ((N : Nat) : Int) ≥ ((32 * A.length : Nat) : Int) from by omega)) ?_
    refine wpList_nil ?_
    refine x_tn ?_
    refine k_reb [(0, .slice aA A.length cA), (1, .int .i64 (((N : Nat) : Int))), (4, .slice none 0 0), (5, .bool false), (6, .int .i64 0), (19, .bool true)] ⟨rfl, rfl, rfl, rfl, rfl, rfl, trivial⟩ fun G6 => ?_
    refine k_t (.t rfl rfl) ?_
    refine wp_seq ?_
    refine k_reg ?_
    refine s_val hS1 rfl rfl (r_move rfl (.t rfl rfl)) ?_
    refine s_val hS1 rfl rfl (r_len rfl rfl Tryd.underlying27 (.t rfl rfl)) ?_
    by_cases c2 : A.length > 0
    · refine s_val hS1 rfl rfl (r_cmp_t rfl rfl (.t rfl rfl) .c (show ((A.length : Nat) : Int) > 0 from by omega)) ?_
      refine s_val hS1 rfl rfl (r_assign rfl .c) ?_
      refine s_val hS1 rfl rfl (r_assign rfl (.t rfl rfl)) ?_
      refine s_val hS1 rfl rfl (r_assign rfl .c) ?_
      refine wpList_nil ?_
      refine x_tn ?_
      refine k_reb [(0, .slice aA A.length cA), (1, .int .i64 (((N : Nat) : Int))), (4, .slice none 0 0), (5, .bool true), (6, .int .i64 0)] ⟨rfl, rfl, rfl, rfl, rfl, trivial⟩ fun G7 => ?_
      refine wp_ret ?_
      refine x_tr ?_
      refine k_ret3 Tryd.results7 rfl rfl rfl rfl rfl rfl ?_
      refine ⟨_, rfl, ?_⟩
      have hlt : lv A < 2 ^ N := Nat.lt_of_lt_of_le hb32 (Nat.pow_le_pow_right (by omega) (by omega))
      exact ⟨[], _, by rw [decide_eq_true (show lv A % 2 ^ N ≠ 0 from by rw [Nat.mod_eq_of_lt hlt]; exact Nat.ne_of_gt (lv_pos nA.nz (by omega)))], Ow.empty hS1, nm_nil, (Nat.div_eq_of_lt hlt).symm⟩
    · refine s_val hS1 rfl rfl (r_cmp_f rfl rfl (.t rfl rfl) .c (show ¬ (((A.length : Nat) : Int) > 0) from by omega)) ?_
      refine s_val hS1 rfl rfl (r_assign rfl .c) ?_
      refine s_val hS1 rfl rfl (r_assign rfl (.t rfl rfl)) ?_
      refine s_val hS1 rfl rfl (r_assign rfl .c) ?_
      refine wpList_nil ?_
      refine x_tn ?_
      refine k_reb [(0, .slice aA A.length cA), (1, .int .i64 (((N : Nat) : Int))), (4, .slice none 0 0), (5, .bool false), (6, .int .i64 0)] ⟨rfl, rfl, rfl, rfl, rfl, trivial⟩ fun G8 => ?_
      refine wp_ret ?_
      refine x_tr ?_
      refine k_ret3 Tryd.results7 rfl rfl rfl rfl rfl rfl ?_
      refine ⟨_, rfl, ?_⟩
      have hlt : lv A < 2 ^ N := Nat.lt_of_lt_of_le hb32 (Nat.pow_le_pow_right (by omega) (by omega))
      exact ⟨[], _, by rw [decide_eq_false (show ¬ lv A % 2 ^ N ≠ 0 from by rw [List.eq_nil_of_length_eq_zero (by omega : A.length = 0)]; simp [lv])], Ow.empty hS1, nm_nil, (Nat.div_eq_of_lt hlt).symm⟩
  · refine s_val hS1 rfl rfl (r_cmp_f rfl rfl (.t rfl rfl) (.t rfl rfl) (show ¬ (((N : Nat) : Int) ≥ ((32 * A.length : Nat) : Int)) from by omega)) ?_
    refine wpList_nil ?_
    refine x_tn ?_
    refine k_reb [(0, .slice aA A.length cA), (1, .int .i64 (((N : Nat) : Int))), (4, .slice none 0 0), (5, .bool false), (6, .int .i64 0), (19, .bool false)] ⟨rfl, rfl, rfl, rfl, rfl, rfl, trivial⟩ fun G9 => ?_
    refine k_f (.t rfl rfl) ?_
    refine wp_skip ?_
    refine x_tn ?_
    refine k_reb [(0, .slice aA A.length cA), (1, .int .i64 (((N : Nat) : Int))), (4, .slice none 0 0), (5, .bool false), (6, .int .i64 0)] ⟨rfl, rfl, rfl, rfl, rfl, trivial⟩ fun G10 => ?_
    refine wp_seq ?_
    refine k_reg ?_
    refine s_val hS1 rfl rfl (r_move rfl (.t rfl rfl)) ?_
    refine s_val hS1 rfl rfl (r_move rfl (.t rfl rfl)) ?_
    refine s_call rfl rfl rfl (vs := [.slice aA A.length cA, .int .i64 (((N : Nat) : Int))]) ⟨(.t rfl rfl), (.t rfl rfl), trivial⟩ cb30 (right_ok w1 aA cA A (rd_st hS1 hA (by simp)) N (by omega) (by omega)) ?_
    intro v2 w2 hp2
    obtain ⟨RR, hp2, ⟨hRRlim, hRRv, hRRl⟩⟩ := hp2
    obtain ⟨a1, c3, rfl, hR1, -, hT1⟩ := id hp2
    have hW1 := Ow.from_ hS1 hp2
    have hS2 := hS1.keep hT1
    refine s_call rfl rfl rfl (vs := [.slice a1 RR.length c3]) ⟨(.t rfl rfl), trivial⟩ cb28 (normal_fit w2 a1 c3 RR hR1 (by omega) (by rw [hRRv]; exact Nat.lt_of_le_of_lt (Nat.div_le_self _ _) hTA)) ?_
    intro v3 w3 hp3
    obtain ⟨hp3, hB2⟩ := hp3
    have hS3 := hS2.keep hB2
    replace hB2 := hB2.toBelow
    have hR2 := hR1.below hB2 (Nat.le_refl _)
    have hW2 := hW1.later hB2
    obtain ⟨R1, X1, hE1, hNR1, hlR1, rfl⟩ := hp3
    have hnR1 := hNR1.len
    have hR3 := Rd.front_eq hE1 hR2
    have hW3 := Ow.front_eq hE1 hW2
    refine s_val hS3 rfl rfl (r_move rfl (.t rfl rfl)) ?_
    refine s_val hS3 rfl rfl (r_extract rfl (.t rfl rfl) rfl) ?_
    refine s_val hS3 rfl rfl (r_extract rfl (.t rfl rfl) rfl) ?_
    refine s_val hS3 rfl rfl (r_assign rfl (.t rfl rfl)) ?_
    refine wpList_nil ?_
    refine x_tn ?_
    refine k_reb [(0, .slice aA A.length cA), (1, .int .i64 (((N : Nat) : Int))), (4, .slice a1 R1.length R1.length), (5, .bool false), (6, .int .i64 0)] ⟨rfl, rfl, rfl, rfl, rfl, trivial⟩ fun G11 => ?_
    refine wp_seq ?_
    refine k_reg ?_
    refine s_val hS3 rfl rfl (r_move rfl (.t rfl rfl)) ?_
    refine s_val hS3 rfl rfl (r_move rfl (.t rfl rfl)) ?_
    refine s_val hS3 rfl rfl (r_len rfl rfl Tryd.underlying27 (.t rfl rfl)) ?_
    by_cases c4 : A.length > 0
    · refine s_val hS3 rfl rfl (r_cmp_t rfl rfl (.t rfl rfl) .c (show ((A.length : Nat) : Int) > 0 from by omega)) ?_
      refine s_val hS3 rfl rfl (r_move rfl (.t rfl rfl)) ?_
      refine s_valg hS3 (wanted_of (j := 4) (b := true) (d := 34) rfl rfl rfl rfl) rfl (r_move rfl (.t rfl rfl)) ?_
      refine s_callg (wanted_of (j := 4) (b := true) (d := 34) rfl rfl rfl rfl) rfl rfl (vs := [.slice aA A.length cA]) ⟨(.t rfl rfl), trivial⟩ cb14 (Low_ok w3 (rd_st hS3 hG (by simp)) aA cA A (rd_st hS3 hA (by simp)) nA) ?_
      rintro _ w4 ⟨k1, rfl, hk1l, hk1v, hB3⟩
      have hS4 := hS3.keep hB3
      replace hB3 := hB3.toBelow
      have hR4 := hR3.below hB3 (Nat.le_refl _)
      have hW4 := hW2.later hB3
      have hW5 := hW3.later hB3
      refine s_valg hS4 (wanted_of (j := 4) (b := true) (d := 34) rfl rfl rfl rfl) rfl (r_move rfl (.t rfl rfl)) ?_
      by_cases c5 : k1 < N
      · refine s_valg hS4 (wanted_of (j := 4) (b := true) (d := 34) rfl rfl rfl rfl) rfl (r_cmp_t rfl rfl (.t rfl rfl) (.t rfl rfl) (show ((k1 : Nat) : Int) < ((N : Nat) : Int) from by omega)) ?_
        refine s_val hS4 rfl rfl (r_pick rfl (.t rfl rfl) (.t rfl rfl)) ?_
        refine s_val hS4 rfl rfl (r_assign rfl (.t rfl rfl)) ?_
        refine s_val hS4 rfl rfl (r_assign rfl (.t rfl rfl)) ?_
        refine s_val hS4 rfl rfl (r_assign rfl .c) ?_
        refine wpList_nil ?_
        refine x_tn ?_
        refine k_reb [(4, .slice a1 R1.length R1.length), (5, .bool true), (6, .int .i64 0)] ⟨rfl, rfl, rfl, trivial⟩ fun G12 => ?_
        refine wp_ret ?_
        refine k_ret3 Tryd.results7 rfl rfl rfl rfl rfl rfl ?_
        refine ⟨_, rfl, ?_⟩
        have hA0 := lv_pos nA.nz (by omega)
        have hLW : Lowest (lv A) k1 := by
          rcases hk1v with h | h
          · omega
          · exact h.2
        exact ⟨R1, _, by rw [decide_eq_true (show lv A % 2 ^ N ≠ 0 from (lowest_gone hLW).1 (by omega))], hW5, hNR1, by rw [hlR1, hRRv]⟩
      · refine s_valg hS4 (wanted_of (j := 4) (b := true) (d := 34) rfl rfl rfl rfl) rfl (r_cmp_f rfl rfl (.t rfl rfl) (.t rfl rfl) (show ¬ (((k1 : Nat) : Int) < ((N : Nat) : Int)) from by omega)) ?_
        refine s_val hS4 rfl rfl (r_pick rfl (.t rfl rfl) (.t rfl rfl)) ?_
        refine s_val hS4 rfl rfl (r_assign rfl (.t rfl rfl)) ?_
        refine s_val hS4 rfl rfl (r_assign rfl (.t rfl rfl)) ?_
        refine s_val hS4 rfl rfl (r_assign rfl .c) ?_
        refine wpList_nil ?_
        refine x_tn ?_
        refine k_reb [(4, .slice a1 R1.length R1.length), (5, .bool false), (6, .int .i64 0)] ⟨rfl, rfl, rfl, trivial⟩ fun G13 => ?_
        refine wp_ret ?_
        refine k_ret3 Tryd.results7 rfl rfl rfl rfl rfl rfl ?_
        refine ⟨_, rfl, ?_⟩
        have hA0 := lv_pos nA.nz (by omega)
        have hLW : Lowest (lv A) k1 := by
          rcases hk1v with h | h
          · omega
          · exact h.2
        exact ⟨R1, _, by rw [decide_eq_false (show ¬ lv A % 2 ^ N ≠ 0 from fun h => absurd ((lowest_gone hLW).2 h) (by omega))], hW5, hNR1, by rw [hlR1, hRRv]⟩
    · omega

theorem Bit_ok (w0 : World) (aA : Option Addr) (cA : Nat) (A : List Nat) (hA : Rd w0 .u32 aA cA A) (nA : Nm A) (N : Nat) (hN : N ≤ 9223372036854775807) :
    Calls Tryd.prog 9 #[.slice aA A.length cA, .int .i64 (((N : Nat) : Int))] w0 (Ret fun v w' => v = .bool (decide (lv A / 2 ^ N % 2 = 1)) ∧ St w0 [] [] w') := by
  refine k_enter (vs := [.slice aA A.length cA, .int .i64 (((N : Nat) : Int))]) Tryd.func9 rfl Tryd.ntmps9 rfl ?_
  have hS := St.init w0
  have lA := hA.le
  have lA2 := nA.len
  refine wp_seq ?_
  refine k_reg ?_
  refine s_val hS rfl rfl (r_assign rfl .c) ?_
  refine wpList_nil ?_
  refine x_tn ?_
  refine wp_seq ?_
  refine wp_seq ?_
  refine k_reg ?_
  refine s_val hS rfl rfl (r_move rfl (.t rfl rfl)) ?_
  refine s_call rfl rfl rfl (vs := [.slice aA A.length cA]) ⟨(.t rfl rfl), trivial⟩ cb27 (check_nm w0 aA cA A hA nA) ?_
  intro v1 w1 hp1
  obtain ⟨hp1, hB1⟩ := hp1
  have hS1 := hS.keep hB1
  replace hB1 := hB1.toBelow
  obtain rfl := hp1
  refine s_val hS1 rfl rfl (r_cmp_f rfl rfl (.t rfl rfl) .c (show ¬ (¬ 0 = 0) from by omega)) ?_
  refine s_val hS1 rfl rfl (r_move rfl (.t rfl rfl)) ?_
  refine s_valg hS1 (wanted_of (j := 3) (b := false) (d := 8) rfl rfl rfl rfl) rfl (r_move rfl (.t rfl rfl)) ?_
  refine s_valg hS1 (wanted_of (j := 3) (b := false) (d := 8) rfl rfl rfl rfl) rfl (r_cmp_f rfl rfl (.t rfl rfl) .c (show ¬ (((N : Nat) : Int) < 0) from (by omega))) ?_
  refine s_val hS1 rfl rfl (r_pick rfl (.t rfl rfl) (.t rfl rfl)) ?_
  refine s_val hS1 rfl rfl (r_move rfl (.t rfl rfl)) ?_
  refine s_valg hS1 (wanted_of (j := 7) (b := false) (d := 12) rfl rfl rfl rfl) rfl (r_move rfl (.t rfl rfl)) ?_
  refine s_valg hS1 (wanted_of (j := 7) (b := false) (d := 12) rfl rfl rfl rfl) rfl (r_quo (b := ((32 : Nat) : Int)) rfl (.t rfl rfl) .c (nz_nat (by omega)) (wn_i64 (c := N / 32) tdiv_nat (Nat.le_trans (Nat.div_le_self _ _) (by omega)))) ?_
  refine s_valg hS1 (wanted_of (j := 7) (b := false) (d := 12) rfl rfl rfl rfl) rfl (r_move rfl (.t rfl rfl)) ?_
  refine s_valg hS1 (wanted_of (j := 7) (b := false) (d := 12) rfl rfl rfl rfl) rfl (r_len rfl rfl Tryd.underlying27 (.t rfl rfl)) ?_
  by_cases c1 : N / 32 ≥ A.length
  · refine s_valg hS1 (wanted_of (j := 7) (b := false) (d := 12) rfl rfl rfl rfl) rfl (r_cmp_t rfl rfl (.t rfl rfl) (.t rfl rfl) (show ((N / 32 : Nat) : Int) ≥ ((A.length : Nat) : Int) from by omega)) ?_
    refine s_val hS1 rfl rfl (r_pick rfl (.t rfl rfl) (.t rfl rfl)) ?_
    refine wpList_nil ?_
    refine x_tn ?_
    refine k_reb [(0, .slice aA A.length cA), (1, .int .i64 (((N : Nat) : Int))), (4, .bool false), (18, .bool true)] ⟨rfl, rfl, rfl, rfl, trivial⟩ fun G1 => ?_
    refine k_t (.t rfl rfl) ?_
    refine wp_seq ?_
    refine k_reg ?_
    refine s_val hS1 rfl rfl (r_assign rfl .c) ?_
    refine wpList_nil ?_
    refine x_tn ?_
    refine k_reb [(0, .slice aA A.length cA), (1, .int .i64 (((N : Nat) : Int))), (4, .bool false)] ⟨rfl, rfl, rfl, trivial⟩ fun G2 => ?_
    refine wp_ret ?_
    refine x_tr ?_
    refine k_ret1 Tryd.results9 rfl rfl ?_
    refine ⟨_, rfl, ?_⟩
    exact ⟨by rw [decide_eq_false (by rw [bit_over nA.lim (by omega)]; omega)], hS1⟩
  · refine s_valg hS1 (wanted_of (j := 7) (b := false) (d := 12) rfl rfl rfl rfl) rfl (r_cmp_f rfl rfl (.t rfl rfl) (.t rfl rfl) (show ¬ (((N / 32 : Nat) : Int) ≥ ((A.length : Nat) : Int)) from by omega)) ?_
    refine s_val hS1 rfl rfl (r_pick rfl (.t rfl rfl) (.t rfl rfl)) ?_
    refine wpList_nil ?_
    refine x_tn ?_
    refine k_reb [(0, .slice aA A.length cA), (1, .int .i64 (((N : Nat) : Int))), (4, .bool false), (18, .bool false)] ⟨rfl, rfl, rfl, rfl, trivial⟩ fun G3 => ?_
    refine k_f (.t rfl rfl) ?_
    refine wp_skip ?_
    refine x_tn ?_
    refine k_reb [(0, .slice aA A.length cA), (1, .int .i64 (((N : Nat) : Int))), (4, .bool false)] ⟨rfl, rfl, rfl, trivial⟩ fun G4 => ?_
    refine wp_seq ?_
    refine k_reg ?_
    refine s_val hS1 rfl rfl (r_move rfl (.t rfl rfl)) ?_
    refine s_val hS1 rfl rfl (r_move rfl (.t rfl rfl)) ?_
    refine s_val hS1 rfl rfl (r_quo (b := ((32 : Nat) : Int)) rfl (.t rfl rfl) .c (nz_nat (by omega)) (wn_i64 (c := N / 32) tdiv_nat (Nat.le_trans (Nat.div_le_self _ _) (by omega)))) ?_
    refine s_val hS1 rfl rfl (r_ixr (j := N / 32) rfl Tryd.underlying27 ti38 (.t rfl rfl) (.t rfl rfl) hA rfl rfl (by omega)) ?_
    have b1 : A.getD (N / 32) 0 ≤ 4294967295 := hA.lt _
    refine s_val hS1 rfl rfl (r_load rfl one38 (.t rfl rfl) (St.cell_rd hA (by omega) (by simp))) ?_
    refine s_val hS1 rfl rfl (r_move rfl (.t rfl rfl)) ?_
    refine s_val hS1 rfl rfl (r_rem (b := ((32 : Nat) : Int)) rfl (.t rfl rfl) .c (nz_nat (by omega)) (c := ((N % 32 : Nat) : Int)) tmod_nat) ?_
    refine s_val hS1 rfl rfl (r_shr rfl (.t rfl rfl) (.t rfl rfl) (by omega) (pw_var (by show N % 32 ≤ 32; omega)) fdiv_nat) ?_
    have hdl := Nat.div_le_self (A.getD (N / 32) 0) (2 ^ (N % 32))
    refine s_val hS1 rfl rfl (r_and rfl (.t rfl rfl) .c (show (A.getD (N / 32) 0) / (2 ^ (N % 32)) < 4294967296 from by omega) (show 1 < 4294967296 from by omega) (c := A.getD (N / 32) 0 / 2 ^ (N % 32) % 2) ((Nat.and_one_is_mod _)) (wn_u32 rfl (by omega))) ?_
    by_cases cb : A.getD (N / 32) 0 / 2 ^ (N % 32) % 2 = 1
    · refine s_val hS1 rfl rfl (r_cmp_t rfl rfl (.t rfl rfl) .c (show ((A.getD (N / 32) 0 / 2 ^ (N % 32) % 2 : Nat) : Int) = 1 from by omega)) ?_
      refine s_val hS1 rfl rfl (r_assign rfl (.t rfl rfl)) ?_
      refine wpList_nil ?_
      refine x_tn ?_
      refine k_reb [(4, .bool true)] ⟨rfl, trivial⟩ fun G5 => ?_
      refine wp_ret ?_
      refine k_ret1 Tryd.results9 rfl rfl ?_
      refine ⟨_, rfl, ?_⟩
      exact ⟨by rw [decide_eq_true (by rw [bit_limb nA.lim (by omega)]; exact cb)], hS1⟩
    · refine s_val hS1 rfl rfl (r_cmp_f rfl rfl (.t rfl rfl) .c (show ¬ (((A.getD (N / 32) 0 / 2 ^ (N % 32) % 2 : Nat) : Int) = 1) from by omega)) ?_
      refine s_val hS1 rfl rfl (r_assign rfl (.t rfl rfl)) ?_
      refine wpList_nil ?_
      refine x_tn ?_
      refine k_reb [(4, .bool false)] ⟨rfl, trivial⟩ fun G6 => ?_
      refine wp_ret ?_
      refine k_ret1 Tryd.results9 rfl rfl ?_
      refine ⟨_, rfl, ?_⟩
      exact ⟨by rw [decide_eq_false (by rw [bit_limb nA.lim (by omega)]; exact cb)], hS1⟩

theorem Bit_neg (w0 : World) (aA : Option Addr) (cA : Nat) (A : List Nat) (hA : Rd w0 .u32 aA cA A) (nA : Nm A) (x : Int) (hx : x < 0) :
    Calls Tryd.prog 9 #[.slice aA A.length cA, .int .i64 x] w0 (Ret fun v w' => v = .bool false ∧ St w0 [] [] w') := by
  refine k_enter (vs := [.slice aA A.length cA, .int .i64 x]) Tryd.func9 rfl Tryd.ntmps9 rfl ?_
  have hS := St.init w0
  refine wp_seq ?_
  refine k_reg ?_
  refine s_val hS rfl rfl (r_assign rfl .c) ?_
  refine wpList_nil ?_
  refine x_tn ?_
  refine wp_seq ?_
  refine wp_seq ?_
  refine k_reg ?_
  refine s_val hS rfl rfl (r_move rfl (.t rfl rfl)) ?_
  refine s_call rfl rfl rfl (vs := [.slice aA A.length cA]) ⟨(.t rfl rfl), trivial⟩ cb27 (check_nm w0 aA cA A hA nA) ?_
  intro v1 w1 hp1
  obtain ⟨hp1, hB1⟩ := hp1
  have hS1 := hS.keep hB1
  replace hB1 := hB1.toBelow
  obtain rfl := hp1
  refine s_val hS1 rfl rfl (r_cmp_f rfl rfl (.t rfl rfl) .c (show ¬ (¬ 0 = 0) from by omega)) ?_
  refine s_val hS1 rfl rfl (r_move rfl (.t rfl rfl)) ?_
  refine s_valg hS1 (wanted_of (j := 3) (b := false) (d := 8) rfl rfl rfl rfl) rfl (r_move rfl (.t rfl rfl)) ?_
  refine s_valg hS1 (wanted_of (j := 3) (b := false) (d := 8) rfl rfl rfl rfl) rfl (r_cmp_t rfl rfl (.t rfl rfl) .c (show x < 0 from hx)) ?_
  refine s_val hS1 rfl rfl (r_pick rfl (.t rfl rfl) (.t rfl rfl)) ?_
  refine s_val hS1 rfl rfl (r_move rfl (.t rfl rfl)) ?_
  refine s_skip (unwanted_of (j := 7) (b := false) (b' := true) (d := 12) rfl rfl rfl rfl rfl) rfl ?_
  refine s_skip (unwanted_of (j := 7) (b := false) (b' := true) (d := 12) rfl rfl rfl rfl rfl) rfl ?_
  refine s_skip (unwanted_of (j := 7) (b := false) (b' := true) (d := 12) rfl rfl rfl rfl rfl) rfl ?_
  refine s_skip (unwanted_of (j := 7) (b := false) (b' := true) (d := 12) rfl rfl rfl rfl rfl) rfl ?_
  refine s_skip (unwanted_of (j := 7) (b := false) (b' := true) (d := 12) rfl rfl rfl rfl rfl) rfl ?_
  refine s_val hS1 rfl rfl (r_pick rfl (.t rfl rfl) .c) ?_
  refine wpList_nil ?_
  refine x_tn ?_
  refine k_reb [(0, .slice aA A.length cA), (1, .int .i64 x), (4, .bool false), (18, .bool true)] ⟨rfl, rfl, rfl, rfl, trivial⟩ fun G1 => ?_
  refine k_t (.t rfl rfl) ?_
  refine wp_seq ?_
  refine k_reg ?_
  refine s_val hS1 rfl rfl (r_assign rfl .c) ?_
  refine wpList_nil ?_
  refine x_tn ?_
  refine k_reb [(0, .slice aA A.length cA), (1, .int .i64 x), (4, .bool false)] ⟨rfl, rfl, rfl, trivial⟩ fun G2 => ?_
  refine wp_ret ?_
  refine x_tr ?_
  refine k_ret1 Tryd.results9 rfl rfl ?_
  refine ⟨_, rfl, ?_⟩
  exact ⟨rfl, hS1⟩

theorem Left_neg (w0 : World) (aA : Option Addr) (cA : Nat) (A : List Nat) (hA : Rd w0 .u32 aA cA A) (nA : Nm A) (x : Int) (hx : x < 0) :
    Calls Tryd.prog 6 #[.slice aA A.length cA, .int .i64 x] w0 (Ret fun v w' => v = .tuple #[.slice none 0 0, .int .i64 24] ∧ St w0 [] [] w') := by
  refine k_enter (vs := [.slice aA A.length cA, .int .i64 x]) Tryd.func6 rfl Tryd.ntmps6 rfl ?_
  have hS := St.init w0
  refine wp_seq ?_
  refine k_reg ?_
  refine s_val hS rfl rfl (r_assign rfl .c) ?_
  refine s_val hS rfl rfl (r_assign rfl .c) ?_
  refine wpList_nil ?_
  refine x_tn ?_
  refine wp_seq ?_
  refine wp_seq ?_
  refine k_reg ?_
  refine s_val hS rfl rfl (r_move rfl (.t rfl rfl)) ?_
  refine s_call rfl rfl rfl (vs := [.slice aA A.length cA]) ⟨(.t rfl rfl), trivial⟩ cb27 (check_nm w0 aA cA A hA nA) ?_
  intro v1 w1 hp1
  obtain ⟨hp1, hB1⟩ := hp1
  have hS1 := hS.keep hB1
  replace hB1 := hB1.toBelow
  obtain rfl := hp1
  refine s_val hS1 rfl rfl (r_assign rfl (.t rfl rfl)) ?_
  refine wpList_nil ?_
  refine x_tn ?_
  refine k_reb [(0, .slice aA A.length cA), (1, .int .i64 x), (4, .slice none 0 0), (5, .int .i64 0), (6, .int .i64 0)] ⟨rfl, rfl, rfl, rfl, rfl, trivial⟩ fun G1 => ?_
  refine wp_seq ?_
  refine k_reg ?_
  refine s_val hS1 rfl rfl (r_move rfl (.t rfl rfl)) ?_
  refine s_val hS1 rfl rfl (r_cmp_f rfl rfl (.t rfl rfl) .c (show ¬ (¬ 0 = 0) from by omega)) ?_
  refine wpList_nil ?_
  refine x_tn ?_
  refine k_reb [(0, .slice aA A.length cA), (1, .int .i64 x), (4, .slice none 0 0), (5, .int .i64 0), (6, .int .i64 0), (10, .bool false)] ⟨rfl, rfl, rfl, rfl, rfl, rfl, trivial⟩ fun G2 => ?_
  refine k_f (.t rfl rfl) ?_
  refine wp_skip ?_
  refine x_tn ?_
  refine k_reb [(0, .slice aA A.length cA), (1, .int .i64 x), (4, .slice none 0 0), (5, .int .i64 0)] ⟨rfl, rfl, rfl, rfl, trivial⟩ fun G3 => ?_
  refine wp_seq ?_
  refine wp_block ?_
  refine wp_seq ?_
  refine k_reg ?_
  refine s_val hS1 rfl rfl (r_move rfl (.t rfl rfl)) ?_
  refine s_val hS1 rfl rfl (r_cmp_t rfl rfl (.t rfl rfl) .c (show x < 0 from hx)) ?_
  refine s_val hS1 rfl rfl (r_assign rfl (.t rfl rfl)) ?_
  refine wpList_nil ?_
  refine x_tn ?_
  refine k_reb [(0, .slice aA A.length cA), (1, .int .i64 x), (4, .slice none 0 0), (5, .int .i64 0), (12, .bool true)] ⟨rfl, rfl, rfl, rfl, rfl, trivial⟩ fun G4 => ?_
  refine k_t (.t rfl rfl) ?_
  refine wp_seq ?_
  refine k_reg ?_
  refine s_val hS1 rfl rfl (r_assign rfl .c) ?_
  refine s_val hS1 rfl rfl (r_assign rfl .c) ?_
  refine wpList_nil ?_
  refine x_tn ?_
  refine k_reb [(0, .slice aA A.length cA), (1, .int .i64 x), (4, .slice none 0 0), (5, .int .i64 24)] ⟨rfl, rfl, rfl, rfl, trivial⟩ fun G5 => ?_
  refine wp_ret ?_
  refine x_br ?_
  refine x_tr ?_
  refine k_ret2 Tryd.results6 rfl rfl rfl rfl ?_
  refine ⟨_, rfl, ?_⟩
  exact ⟨rfl, hS1⟩

theorem Right_neg (w0 : World) (aA : Option Addr) (cA : Nat) (A : List Nat) (hA : Rd w0 .u32 aA cA A) (nA : Nm A) (x : Int) (hx : x < 0) :
    Calls Tryd.prog 7 #[.slice aA A.length cA, .int .i64 x] w0 (Ret fun v w' => v = .tuple #[.slice none 0 0, .bool false, .int .i64 24] ∧ St w0 [] [] w') := by
  refine k_enter (vs := [.slice aA A.length cA, .int .i64 x]) Tryd.func7 rfl Tryd.ntmps7 rfl ?_
  have hS := St.init w0
  refine wp_seq ?_
  refine k_reg ?_
  refine s_val hS rfl rfl (r_assign rfl .c) ?_
  refine s_val hS rfl rfl (r_assign rfl .c) ?_
  refine s_val hS rfl rfl (r_assign rfl .c) ?_
  refine wpList_nil ?_
  refine x_tn ?_
  refine wp_seq ?_
  refine wp_seq ?_
  refine k_reg ?_
  refine s_val hS rfl rfl (r_move rfl (.t rfl rfl)) ?_
  refine s_call rfl rfl rfl (vs := [.slice aA A.length cA]) ⟨(.t rfl rfl), trivial⟩ cb27 (check_nm w0 aA cA A hA nA) ?_
  intro v1 w1 hp1
  obtain ⟨hp1, hB1⟩ := hp1
  have hS1 := hS.keep hB1
  replace hB1 := hB1.toBelow
  obtain rfl := hp1
  refine s_val hS1 rfl rfl (r_assign rfl (.t rfl rfl)) ?_
  refine wpList_nil ?_
  refine x_tn ?_
  refine k_reb [(0, .slice aA A.length cA), (1, .int .i64 x), (4, .slice none 0 0), (5, .bool false), (6, .int .i64 0), (7, .int .i64 0)] ⟨rfl, rfl, rfl, rfl, rfl, rfl, trivial⟩ fun G1 => ?_
  refine wp_seq ?_
  refine k_reg ?_
  refine s_val hS1 rfl rfl (r_move rfl (.t rfl rfl)) ?_
  refine s_val hS1 rfl rfl (r_cmp_f rfl rfl (.t rfl rfl) .c (show ¬ (¬ 0 = 0) from by omega)) ?_
  refine wpList_nil ?_
  refine x_tn ?_
  refine k_reb [(0, .slice aA A.length cA), (1, .int .i64 x), (4, .slice none 0 0), (5, .bool false), (6, .int .i64 0), (7, .int .i64 0), (11, .bool false)] ⟨rfl, rfl, rfl, rfl, rfl, rfl, rfl, trivial⟩ fun G2 => ?_
  refine k_f (.t rfl rfl) ?_
  refine wp_skip ?_
  refine x_tn ?_
  refine k_reb [(0, .slice aA A.length cA), (1, .int .i64 x), (4, .slice none 0 0), (5, .bool false), (6, .int .i64 0)] ⟨rfl, rfl, rfl, rfl, rfl, trivial⟩ fun G3 => ?_
  refine wp_seq ?_
  refine wp_seq ?_
  refine k_reg ?_
  refine s_val hS1 rfl rfl (r_move rfl (.t rfl rfl)) ?_
  refine s_val hS1 rfl rfl (r_cmp_t rfl rfl (.t rfl rfl) .c (show x < 0 from hx)) ?_
  refine wpList_nil ?_
  refine x_tn ?_
  refine k_reb [(0, .slice aA A.length cA), (1, .int .i64 x), (4, .slice none 0 0), (5, .bool false), (6, .int .i64 0), (14, .bool true)] ⟨rfl, rfl, rfl, rfl, rfl, rfl, trivial⟩ fun G4 => ?_
  refine k_t (.t rfl rfl) ?_
  refine wp_seq ?_
  refine k_reg ?_
  refine s_val hS1 rfl rfl (r_assign rfl .c) ?_
  refine s_val hS1 rfl rfl (r_assign rfl .c) ?_
  refine s_val hS1 rfl rfl (r_assign rfl .c) ?_
  refine wpList_nil ?_
  refine x_tn ?_
  refine k_reb [(0, .slice aA A.length cA), (1, .int .i64 x), (4, .slice none 0 0), (5, .bool false), (6, .int .i64 24)] ⟨rfl, rfl, rfl, rfl, rfl, trivial⟩ fun G5 => ?_
  refine wp_ret ?_
  refine x_tr ?_
  refine k_ret3 Tryd.results7 rfl rfl rfl rfl rfl rfl ?_
  refine ⟨_, rfl, ?_⟩
  exact ⟨rfl, hS1⟩

end Go.Proofs.YtnbklceenfjojaaDoor

/- Contracts of functions of the program, each walked once. -/
import Derived.Test.YtnbklceenfjojaaDoorFnH
import Derived.Test.YtnbklceenfjojaaDoorKDec
namespace Go.Proofs.YtnbklceenfjojaaDoor
open Go Go.RowKit K
namespace FI
theorem mixed : Tryd.prog.follows .mixedOrders = true := by kernel_rfl
theorem cb27 : callable Tryd.prog 27 = true := by kernel_rfl
theorem cb28 : callable Tryd.prog 28 = true := by kernel_rfl
theorem cb73 : callable Tryd.prog 73 = true := by kernel_rfl
theorem cb76 : callable Tryd.prog 76 = true := by kernel_rfl
theorem one5 : One Tryd.prog 5 = true := by kernel_rfl
theorem ti5 : (Tryd.prog.info? 5).map (fun i => (i.zero, i.size, i.bytes)) = some (some (.int .u8 0), 1, 1) := by kernel_rfl

end FI
open FI
attribute [local irreducible] Go.wpList Go.wpQuiet Go.wpStill Go.wpAny Go.Code.wp
set_option maxRecDepth 10000
set_option maxHeartbeats 8000000
set_option linter.unusedVariables false
set_option linter.unusedSimpArgs false
theorem by_ow (w0 : World) (aA : Option Addr) (cA : Nat) (A : List Nat) (hA : Rd w0 .u32 aA cA A) (d : Nat) (hd : 0 < d) (hd2 : d ≤ 4294967295) (hlA : A.length ≤ 1000000) :
    Calls Tryd.prog 73 #[.slice aA A.length cA, .int .u32 ((d : Nat) : Int)] w0 (Ret fun v w' => ∃ O r v0, v = .tuple #[v0, .int .u32 ((r : Nat) : Int)] ∧ Ow w0 w' .u32 38 v0 O ∧ O.length = A.length ∧ Lim O ∧ lv O = lv A / d ∧ r = lv A % d) := by
  refine (by_ok w0 aA cA A hA d hd hd2 hlA).mono ?_
  rintro e w' ⟨v, rfl, O, r, v0, rfl, h, h1, h2, h3, h4⟩
  exact ⟨_, rfl, O, r, v0, rfl, h.ow (by omega) h2, h1, h2, h3, h4⟩

theorem reverse_ok (w0 : World) (b cap : Nat) (L X : List Nat) (len : Nat) (hb : w0.heap[b]? = some (.cells (encN .u8 (L ++ X)) 5 (0, 0))) (hlen : L.length = len) (h0 : 0 < len) (hm : len ≤ 9223372036854775806) :
    Calls Tryd.prog 76 #[.slice (some ⟨b, 0, none⟩) len cap] w0 (Ret fun v w' => v = .tuple #[] ∧ St w0 [b] [(b, .cells (encN .u8 (L.reverse ++ X)) 5 (0, 0))] w') := by
  refine k_enter (vs := [.slice (some ⟨b, 0, none⟩) len cap]) Tryd.func76 rfl Tryd.ntmps76 rfl ?_
  have hS := St.init1 hb
  subst hlen
  refine wp_seq ?_
  refine k_reg ?_
  refine s_val hS rfl rfl (r_move rfl (.t rfl rfl)) ?_
  refine s_val hS rfl rfl (r_len rfl rfl Tryd.underlying79 (.t rfl rfl)) ?_
  refine s_val hS rfl rfl (r_arith rfl rfl (.t rfl rfl) .c (c := ((L.length - 1 : Nat) : Int)) (wn_i64 (by show (((L.length : Nat) : Int) : Int) - 1 = _; omega) (by omega))) ?_
  refine s_val hS rfl rfl (r_assign rfl .c) ?_
  refine s_val hS rfl rfl (r_assign rfl (.t rfl rfl)) ?_
  refine wpList_nil ?_
  refine x_tn ?_
  refine k_reb [(0, .slice (some ⟨b, 0, none⟩) L.length cap), (2, .int .i64 0), (3, .int .i64 (((L.length - 1 : Nat) : Int)))] ⟨rfl, rfl, rfl, trivial⟩ fun G1 => ?_
  refine wp_block ?_
  refine wp_loop_ghost (fun (m1 : Nat) a w => ∃ (G : Nat → Value) (i : Nat) (O : List Nat), a = fr 28 [(0, .slice (some ⟨b, 0, none⟩) L.length cap), (2, .int .i64 (((i : Nat) : Int))), (3, .int .i64 (((L.length - 1 - i : Nat) : Int)))] G ∧ St w0 [b] [(b, .cells (encN .u8 (O ++ X)) 5 (0, 0))] w ∧ (m1 = L.length - i ∧ 2 * i ≤ L.length ∧ O.length = L.length ∧ ∀ p, p < L.length → O.getD p 0 = if p < i ∨ L.length - i ≤ p then L.getD (L.length - 1 - p) 0 else L.getD p 0)) (L.length) ⟨_, 0, L, fr_reb _ ⟨rfl, rfl, rfl, trivial⟩, hS, ?_⟩ ?_
  · exact ⟨rfl, by omega, rfl, fun p hp => by rw [if_neg (by omega)]⟩
  · intro m1 _ w1 hI1
    obtain ⟨G2, i, O, rfl, hS1, ⟨hm2, hi, hOl, he⟩⟩ := hI1
    refine wp_seq ?_
    refine wp_seq ?_
    refine k_reg ?_
    refine s_val hS1 rfl rfl (r_move rfl (.t rfl rfl)) ?_
    refine s_val hS1 rfl rfl (r_move rfl (.t rfl rfl)) ?_
    by_cases c1 : i < L.length - 1 - i
    · refine s_val hS1 rfl rfl (r_cmp_t rfl rfl (.t rfl rfl) (.t rfl rfl) (show ((i : Nat) : Int) < ((L.length - 1 - i : Nat) : Int) from by omega)) ?_
      refine wpList_nil ?_
      refine x_tn ?_
      refine k_reb [(0, .slice (some ⟨b, 0, none⟩) L.length cap), (2, .int .i64 (((i : Nat) : Int))), (3, .int .i64 (((L.length - 1 - i : Nat) : Int))), (9, .bool true)] ⟨rfl, rfl, rfl, rfl, trivial⟩ fun G3 => ?_
      refine k_t (.t rfl rfl) ?_
      refine wp_skip ?_
      refine x_tn ?_
      refine k_reb [(0, .slice (some ⟨b, 0, none⟩) L.length cap), (2, .int .i64 (((i : Nat) : Int))), (3, .int .i64 (((L.length - 1 - i : Nat) : Int)))] ⟨rfl, rfl, rfl, trivial⟩ fun G4 => ?_
      refine wp_seq ?_
      refine wp_block ?_
      refine a_start mixed hS1 (L := [false, false, false, false, false, false, false, false, false, false, false, false, false, false, false, false]) rfl fun w2 hS2 hB1 => ?_
      refine a_take (i := 0) (NoP.block (NoP.then (NoP.then (NoP.block NoP.body)))) rfl rfl rfl (by kernel_rfl) (L' := [true, false, false, false, false, false, false, false, false, false, false, false, false, false, false, false]) rfl (r_move rfl (.t rfl rfl)) ?_
      refine a_take (i := 1) (NoP.block (NoP.then (NoP.then (NoP.block NoP.body)))) rfl rfl rfl (by kernel_rfl) (L' := [true, true, false, false, false, false, false, false, false, false, false, false, false, false, false, false]) rfl (r_move rfl (.t rfl rfl)) ?_
      refine a_take (i := 2) (NoP.block (NoP.then (NoP.then (NoP.block NoP.body)))) rfl rfl rfl (by kernel_rfl) (L' := [true, true, true, false, false, false, false, false, false, false, false, false, false, false, false, false]) rfl (r_move rfl (.t rfl rfl)) ?_
      refine a_take (i := 3) (NoP.block (NoP.then (NoP.then (NoP.block NoP.body)))) rfl rfl rfl (by kernel_rfl) (L' := [true, true, true, true, false, false, false, false, false, false, false, false, false, false, false, false]) rfl (r_move rfl (.t rfl rfl)) ?_
      refine a_take (i := 4) (NoP.block (NoP.then (NoP.then (NoP.block NoP.body)))) rfl rfl rfl (by kernel_rfl) (L' := [true, true, true, true, true, false, false, false, false, false, false, false, false, false, false, false]) rfl (r_move rfl (.t rfl rfl)) ?_
      refine a_take (i := 5) (NoP.block (NoP.then (NoP.then (NoP.block NoP.body)))) rfl rfl rfl (by kernel_rfl) (L' := [true, true, true, true, true, true, false, false, false, false, false, false, false, false, false, false]) rfl (r_move rfl (.t rfl rfl)) ?_
      refine a_take (i := 6) (NoP.block (NoP.then (NoP.then (NoP.block NoP.body)))) rfl rfl rfl (by kernel_rfl) (L' := [true, true, true, true, true, true, true, false, false, false, false, false, false, false, false, false]) rfl (r_ixs (j := L.length - 1 - i) rfl Tryd.underlying79 ti5 (.t rfl rfl) (.t rfl rfl) rfl (by omega) (qq := L.length - 1 - i) (by omega)) ?_
      refine a_take (i := 8) (NoP.block (NoP.then (NoP.then (NoP.block NoP.body)))) rfl rfl rfl (by kernel_rfl) (L' := [true, true, true, true, true, true, true, false, true, false, false, false, false, false, false, false]) rfl (r_move rfl (.t rfl rfl)) ?_
      refine a_take (i := 9) (NoP.block (NoP.then (NoP.then (NoP.block NoP.body)))) rfl rfl rfl (by kernel_rfl) (L' := [true, true, true, true, true, true, true, false, true, true, false, false, false, false, false, false]) rfl (r_move rfl (.t rfl rfl)) ?_
      refine a_take (i := 10) (NoP.block (NoP.then (NoP.then (NoP.block NoP.body)))) rfl rfl rfl (by kernel_rfl) (L' := [true, true, true, true, true, true, true, false, true, true, true, false, false, false, false, false]) rfl (r_ixs (j := i) rfl Tryd.underlying79 ti5 (.t rfl rfl) (.t rfl rfl) rfl (by omega) (qq := i) (by omega)) ?_
      refine a_two (i := 7) (j := 11) (by kernel_rfl) (by kernel_rfl) (by kernel_rfl) rfl rfl rfl rfl rfl rfl rfl (L' := [true, true, true, true, true, true, true, true, true, true, true, true, false, false, false, false]) rfl rfl hS2 (r_load rfl one5 (.t rfl rfl) (St.cell_own (m := 0) rfl (encP_get (by first | omega | (simp only [List.length_set, List.length_append, List.length_replicate]; omega))))) (r_load rfl one5 (.t rfl rfl) (St.cell_own (m := 0) rfl (encP_get (by first | omega | (simp only [List.length_set, List.length_append, List.length_replicate]; omega))))) (r_load rfl one5 (.t rfl rfl) (St.cell_own (m := 0) rfl (encP_get (by first | omega | (simp only [List.length_set, List.length_append, List.length_replicate]; omega))))) (r_load rfl one5 (.t rfl rfl) (St.cell_own (m := 0) rfl (encP_get (by first | omega | (simp only [List.length_set, List.length_append, List.length_replicate]; omega))))) ?_
      refine a_take (i := 12) (NoP.block (NoP.then (NoP.then (NoP.block NoP.body)))) rfl rfl rfl (by kernel_rfl) (L' := [true, true, true, true, true, true, true, true, true, true, true, true, true, false, false, false]) rfl (r_ixs (j := i) rfl Tryd.underlying79 ti5 (.t rfl rfl) (.t rfl rfl) rfl (by omega) (qq := i) (by omega)) ?_
      refine a_one (i := 13) (by kernel_rfl) rfl rfl (L' := [true, true, true, true, true, true, true, true, true, true, true, true, true, true, false, false]) rfl ?_
      refine s_store (m := 0) rfl rfl rfl one5 (.t rfl rfl) (.t rfl rfl) rfl hS2 rfl (encP_get (by first | omega | (simp only [List.length_set, List.length_append, List.length_replicate]; omega))) (encP_set (by first | omega | (simp only [List.length_set, List.length_append, List.length_replicate]; omega))) rfl fun w3 hS3 => ?_
      refine wpList_nil ?_
      refine x_tn ?_
      refine a_take (i := 14) (NoP.block (NoP.then (NoP.then (NoP.block NoP.body)))) rfl rfl rfl (by kernel_rfl) (L' := [true, true, true, true, true, true, true, true, true, true, true, true, true, true, true, false]) rfl (r_ixs (j := L.length - 1 - i) rfl Tryd.underlying79 ti5 (.t rfl rfl) (.t rfl rfl) rfl (by omega) (qq := L.length - 1 - i) (by omega)) ?_
      refine a_one (i := 15) (by kernel_rfl) rfl rfl (L' := [true, true, true, true, true, true, true, true, true, true, true, true, true, true, true, true]) rfl ?_
      refine s_store (m := 0) rfl rfl rfl one5 (.t rfl rfl) (.t rfl rfl) rfl hS3 rfl (encP_get (by first | omega | (simp only [List.length_set, List.length_append, List.length_replicate]; omega))) (encP_set (by first | omega | (simp only [List.length_set, List.length_append, List.length_replicate]; omega))) rfl fun w4 hS4 => ?_
      refine wpList_nil ?_
      refine x_tn ?_
      refine a_done (by kernel_rfl) ?_
      refine x_bn ?_
      refine x_tn ?_
      refine k_reb [(0, .slice (some ⟨b, 0, none⟩) L.length cap), (2, .int .i64 (((i : Nat) : Int))), (3, .int .i64 (((L.length - 1 - i : Nat) : Int)))] ⟨rfl, rfl, rfl, trivial⟩ fun G5 => ?_
      refine k_reg ?_
      refine s_val hS4 rfl rfl (r_move rfl (.t rfl rfl)) ?_
      refine s_val hS4 rfl rfl (r_arith rfl rfl (.t rfl rfl) .c (c := ((i + 1 : Nat) : Int)) (wn_i64 (by show (((i : Nat) : Int) : Int) + 1 = _; omega) (by omega))) ?_
      refine s_val hS4 rfl rfl (r_move rfl (.t rfl rfl)) ?_
      refine s_val hS4 rfl rfl (r_arith rfl rfl (.t rfl rfl) .c (c := (((L.length - 1 - i) - 1 : Nat) : Int)) (wn_i64 (by show (((L.length - 1 - i : Nat) : Int) : Int) - 1 = _; omega) (by omega))) ?_
      refine s_val hS4 rfl rfl (r_assign rfl (.t rfl rfl)) ?_
      refine s_val hS4 rfl rfl (r_assign rfl (.t rfl rfl)) ?_
      refine wpList_nil ?_
      refine x_tn ?_
      refine ⟨L.length - (i + 1), by omega, _, i + 1, (O.set i (O.getD (L.length - 1 - i) 0)).set (L.length - 1 - i) (O.getD i 0), fr_reb _ ⟨rfl, rfl, rfl, trivial⟩, hS4, ?_⟩
      exact ⟨rfl, by omega, by simpa using hOl, rev_step hOl (by omega) he⟩
    · refine s_val hS1 rfl rfl (r_cmp_f rfl rfl (.t rfl rfl) (.t rfl rfl) (show ¬ (((i : Nat) : Int) < ((L.length - 1 - i : Nat) : Int)) from by omega)) ?_
      refine wpList_nil ?_
      refine x_tn ?_
      refine k_reb [(0, .slice (some ⟨b, 0, none⟩) L.length cap), (2, .int .i64 (((i : Nat) : Int))), (3, .int .i64 (((L.length - 1 - i : Nat) : Int))), (9, .bool false)] ⟨rfl, rfl, rfl, rfl, trivial⟩ fun G6 => ?_
      refine k_f (.t rfl rfl) ?_
      refine wp_exit ?_
      refine x_te ?_
      refine x_te ?_
      refine x_be ?_
      refine k_end0 Tryd.results76 ?_
      refine ⟨_, rfl, ?_⟩
      have e := rev_end hOl (by omega) h0 he hi
      subst e
      exact ⟨rfl, hS1⟩

theorem Text_ok (w0 : World) (aA : Option Addr) (cA : Nat) (A : List Nat) (hA : Rd w0 .u32 aA cA A) (nA : Nm A) :
    Calls Tryd.prog 42 #[.slice aA A.length cA] w0 (Ret fun v w' => v = .string (decB (lv A)) ∧ St w0 [] [] w') := by
  refine k_enter (vs := [.slice aA A.length cA]) Tryd.func42 rfl Tryd.ntmps42 rfl ?_
  have hS := St.init w0
  have lA := hA.le
  have lA2 := nA.len
  have hTA := nm_lt nA
  refine wp_seq ?_
  refine k_reg ?_
  refine s_val hS rfl rfl (r_assign rfl .c) ?_
  refine wpList_nil ?_
  refine x_tn ?_
  refine wp_seq ?_
  refine wp_seq ?_
  refine k_reg ?_
  refine s_val hS rfl rfl (r_move rfl (.t rfl rfl)) ?_
  refine s_call rfl rfl rfl (vs := [.slice aA A.length cA]) ⟨(.t rfl rfl), trivial⟩ cb27 (check_nm w0 aA cA A hA nA) ?_
  intro v1 w1 hp1
  obtain ⟨hp1, hB1⟩ := hp1
  have hS1 := hS.keep hB1
  replace hB1 := hB1.toBelow
  obtain rfl := hp1
  refine s_val hS1 rfl rfl (r_cmp_f rfl rfl (.t rfl rfl) .c (show ¬ (¬ 0 = 0) from by omega)) ?_
  refine wpList_nil ?_
  refine x_tn ?_
  refine k_reb [(0, .slice aA A.length cA), (2, .string (⟨#[]⟩)), (9, .bool false)] ⟨rfl, rfl, rfl, trivial⟩ fun G1 => ?_
  refine k_f (.t rfl rfl) ?_
  refine wp_skip ?_
  refine x_tn ?_
  refine k_reb [(0, .slice aA A.length cA), (2, .string (⟨#[]⟩))] ⟨rfl, rfl, trivial⟩ fun G2 => ?_
  refine wp_seq ?_
  refine k_reg ?_
  refine s_val hS1 rfl rfl (r_assign rfl .c) ?_
  refine wpList_nil ?_
  refine x_tn ?_
  refine wp_seq ?_
  refine k_reg ?_
  refine s_val hS1 rfl rfl (r_move rfl (.t rfl rfl)) ?_
  refine s_val hS1 rfl rfl (r_assign rfl (.t rfl rfl)) ?_
  refine wpList_nil ?_
  refine x_tn ?_
  refine k_reb [(2, .string (⟨#[]⟩)), (3, .slice none 0 0), (4, .slice aA A.length cA)] ⟨rfl, rfl, rfl, trivial⟩ fun G3 => ?_
  refine wp_seq ?_
  refine wp_block ?_
  refine wp_loop_ghost (fun (m1 : Nat) a w => ∃ (G : Nat → Value) (r : Nat) (t : Nat) (ga : Option Addr) (gc : Nat) (hv : Hp) (aX : Option Addr) (cX : Nat) (X : List Nat), a = fr 60 [(2, .string (⟨#[]⟩)), (3, .slice ga t gc), (4, .slice aX X.length cX)] G ∧ St w0 [] ([] ++ hv) w ∧ (m1 = lv X ∧ t = 9 * r ∧ 9 * r ≤ 262153 ∧ Rd w .u32 aX cX X ∧ Apart aX X hv ∧ Nm X ∧ lv X = lv A / 10 ^ (9 * r) ∧ Gr .u8 5 ga gc (dgs (9 * r) (lv A)) hv)) (lv A) ⟨_, 0, 0, none, 0, [], aA, cA, A, fr_reb _ ⟨rfl, rfl, rfl, trivial⟩, hS1, ?_⟩ ?_
  · exact ⟨rfl, rfl, by omega, rd_st hS1 hA (by simp), Apart.none, nA, by simp, .nil⟩
  · intro m1 _ w2 hI1
    obtain ⟨G4, r, t, ga, gc, hv, aX, cX, X, rfl, hS2, ⟨hm, ht, hr9, hRX, hAX, hNX, hX, hG⟩⟩ := hI1
    have hnX := hNX.len
    refine wp_seq ?_
    refine wp_seq ?_
    refine k_reg ?_
    refine s_val hS2 rfl rfl (r_move rfl (.t rfl rfl)) ?_
    refine s_val hS2 rfl rfl (r_len rfl rfl Tryd.underlying26 (.t rfl rfl)) ?_
    by_cases c1 : X.length > 0
    · have hxp := lv_pos hNX.nz (by omega)
      have hfr := few_rounds (n := lv A) (r := 9 * r) (by rw [← hX]; exact hxp) hTA
      have hTX := nm_lt hNX
      refine s_val hS2 rfl rfl (r_cmp_t rfl rfl (.t rfl rfl) .c (show ((X.length : Nat) : Int) > 0 from by omega)) ?_
      refine wpList_nil ?_
      refine x_tn ?_
      refine k_reb [(2, .string (⟨#[]⟩)), (3, .slice ga t gc), (4, .slice aX X.length cX), (13, .bool true)] ⟨rfl, rfl, rfl, rfl, trivial⟩ fun G5 => ?_
      refine k_t (.t rfl rfl) ?_
      refine wp_skip ?_
      refine x_tn ?_
      refine k_reb [(2, .string (⟨#[]⟩)), (3, .slice ga t gc), (4, .slice aX X.length cX)] ⟨rfl, rfl, rfl, trivial⟩ fun G6 => ?_
      refine wp_block ?_
      refine wp_seq ?_
      refine k_reg ?_
      refine s_val hS2 rfl rfl (r_move rfl (.t rfl rfl)) ?_
      refine s_call rfl rfl rfl (vs := [.slice aX X.length cX, .int .u32 1000000000]) ⟨(.t rfl rfl), .c, trivial⟩ cb73 (by_ow w2 aX cX X hRX 1000000000 (by omega) (by omega) (by omega)) ?_
      rintro v2 w3 ⟨O, rest, _, rfl, hp2, hOl, hOlim, hOv, hreste⟩
      obtain ⟨a1, c2, rfl, hR1, -, hT1⟩ := id hp2
      have hW1 := Ow.from_ hS2 hp2
      have hS3 := hS2.keep hT1
      have hR2 := hRX.below hT1.toBelow (Nat.le_refl _)
      have hP1 := Apart.new hp2 hS2
      have hrest : rest ≤ 999999999 := by rw [hreste]; omega
      refine s_val hS3 rfl rfl (r_move rfl (.t rfl rfl)) ?_
      refine s_val hS3 rfl rfl (r_extract rfl (.t rfl rfl) rfl) ?_
      refine s_val hS3 rfl rfl (r_extract rfl (.t rfl rfl) rfl) ?_
      refine s_val hS3 rfl rfl (r_assign rfl (.t rfl rfl)) ?_
      refine s_val hS3 rfl rfl (r_assign rfl (.t rfl rfl)) ?_
      refine wpList_nil ?_
      refine x_tn ?_
      refine k_reb [(2, .string (⟨#[]⟩)), (3, .slice ga t gc), (4, .slice aX X.length cX), (5, .slice a1 O.length c2), (6, .int .u32 (((rest : Nat) : Int)))] ⟨rfl, rfl, rfl, rfl, rfl, trivial⟩ fun G7 => ?_
      refine wp_seq ?_
      refine k_reg ?_
      refine s_val hS3 rfl rfl (r_move rfl (.t rfl rfl)) ?_
      refine s_call rfl rfl rfl (vs := [.slice a1 O.length c2]) ⟨(.t rfl rfl), trivial⟩ cb28 (normal_fit w3 a1 c2 O hR1 (by omega) (by rw [hOv]; exact Nat.lt_of_le_of_lt (Nat.div_le_self _ _) hTX)) ?_
      intro v3 w4 hp3
      obtain ⟨hp3, hB2⟩ := hp3
      have hS4 := hS3.keep hB2
      replace hB2 := hB2.toBelow
      have hR3 := hR2.below hB2 (Nat.le_refl _)
      have hR4 := hR1.below hB2 (Nat.le_refl _)
      have hW2 := hW1.later hB2
      obtain ⟨Y, X1, hE1, hNY, hlY, rfl⟩ := hp3
      have hnY := hNY.len
      have hR5 := Rd.front_eq hE1 hR4
      have hW3 := Ow.front_eq hE1 hW2
      have hP2 := Apart.front hE1 hP1
      refine s_val hS4 rfl rfl (r_move rfl (.t rfl rfl)) ?_
      refine s_val hS4 rfl rfl (r_extract rfl (.t rfl rfl) rfl) ?_
      refine s_val hS4 rfl rfl (r_extract rfl (.t rfl rfl) rfl) ?_
      refine s_val hS4 rfl rfl (r_assign rfl (.t rfl rfl)) ?_
      refine wpList_nil ?_
      refine x_tn ?_
      refine k_reb [(2, .string (⟨#[]⟩)), (3, .slice ga t gc), (4, .slice a1 Y.length Y.length), (6, .int .u32 (((rest : Nat) : Int)))] ⟨rfl, rfl, rfl, rfl, trivial⟩ fun G8 => ?_
      refine wp_seq ?_
      refine k_reg ?_
      refine s_val hS4 rfl rfl (r_move rfl .c) ?_
      refine wpList_nil ?_
      refine x_tn ?_
      refine wp_block ?_
      refine wp_loop_ghost (fun (m2 : Nat) a w => ∃ (G : Nat → Value) (j : Nat) (t2 : Nat) (q : Nat) (ga2 : Option Addr) (gc2 : Nat) (hv2 : Hp), a = fr 60 [(2, .string (⟨#[]⟩)), (3, .slice ga2 t2 gc2), (4, .slice a1 Y.length Y.length), (6, .int .u32 (((q : Nat) : Int))), (24, .int .i64 (((j : Nat) : Int)))] G ∧ St w0 [] ([] ++ hv2) w ∧ (m2 = 9 - j ∧ t2 = 9 * r + j ∧ j ≤ 9 ∧ q ≤ 4294967295 ∧ q = lv A / 10 ^ (9 * r) % 1000000000 / 10 ^ j ∧ Rd w .u32 a1 Y.length Y ∧ Apart a1 Y hv2 ∧ Gr .u8 5 ga2 gc2 (dgs (9 * r) (lv A) ++ dgs j (lv A / 10 ^ (9 * r) % 1000000000)) hv2)) (9) ⟨_, 0, t, rest, ga, gc, hv, fr_reb _ ⟨rfl, rfl, rfl, rfl, rfl, trivial⟩, hS4, ?_⟩ ?_
      · exact ⟨rfl, by omega, by omega, by omega, by rw [hreste, hX]; simp, hR5, hP2, by simpa [dgs, digs] using hG⟩
      · intro m2 _ w5 hI2
        obtain ⟨G9, j, t2, q, ga2, gc2, hv2, rfl, hS5, ⟨hmj, ht2, hj, hq4, hq, hRY, hAY, hG2⟩⟩ := hI2
        refine wp_seq ?_
        refine k_reg ?_
        by_cases c3 : j < 9
        · refine s_val hS5 rfl rfl (r_cmp_t rfl rfl (.t rfl rfl) .c (show ((j : Nat) : Int) < 9 from by omega)) ?_
          refine wpList_nil ?_
          refine x_tn ?_
          refine wp_seq ?_
          refine k_t (.t rfl rfl) ?_
          refine wp_skip ?_
          refine x_tn ?_
          refine k_reb [(2, .string (⟨#[]⟩)), (3, .slice ga2 t2 gc2), (4, .slice a1 Y.length Y.length), (6, .int .u32 (((q : Nat) : Int))), (24, .int .i64 (((j : Nat) : Int)))] ⟨rfl, rfl, rfl, rfl, rfl, trivial⟩ fun G10 => ?_
          refine wp_seq ?_
          refine wp_block ?_
          refine wp_seq ?_
          refine k_reg ?_
          refine s_val hS5 rfl rfl (r_move rfl (.t rfl rfl)) ?_
          refine s_val hS5 rfl rfl (r_move rfl (.t rfl rfl)) ?_
          refine s_val hS5 rfl rfl (r_rem (b := ((10 : Nat) : Int)) rfl (.t rfl rfl) .c (nz_nat (by omega)) (c := ((q % 10 : Nat) : Int)) tmod_nat) ?_
          refine s_val hS5 rfl rfl (r_arith rfl rfl .c (.t rfl rfl) (c := ((48 + (q % 10) : Nat) : Int)) (wn_u32 (by show (48 : Int) + ((q % 10 : Nat) : Int) = _; omega) (by omega))) ?_
          refine s_val hS5 rfl rfl (r_conv rfl Tryd.underlying38 Tryd.underlying5 (.t rfl rfl) (c := ((48 + (q % 10) : Nat) : Int)) (wn_u8 rfl (by omega))) ?_
          refine s_lit rfl rfl rfl Tryd.underlying79 ti5 (vs := [(0, .int .u8 (((48 + (q % 10) : Nat) : Int)))]) ⟨rfl, (.t rfl rfl), trivial⟩ (L := [48 + (q % 10)]) rfl (by omega) rfl hS5 fun blk1 w6 hb1 hB3 hS6 => ?_
          have hR6 := hRY.below hB3 (Nat.le_refl _)
          have hS7 := hS6.seg
          refine s_append (h1 := [(blk1, .cells (encN .u8 ([48 + (q % 10)])) 5 (0, 0))]) (L := dgs (9 * r) (lv A) ++ dgs j (lv A / 10 ^ (9 * r) % 1000000000)) rfl rfl rfl rfl ⟨_, _, rfl, Tryd.underlying79⟩ Tryd.underlying79 ti5 (by omega) (by omega) (.t rfl rfl) (.t rfl rfl) rfl (by rw [List.length_append, dgs_len, dgs_len]; omega) hG2 hS7 (rd_own0 (m := 0) hS7 rfl (by simp) (by simp) (by intro x hx; simp only [List.mem_cons, List.not_mem_nil, or_false] at hx; first | (subst hx; first | omega | (simp only [maxK]; omega)) | (rcases hx with rfl | rfl <;> first | omega | (simp only [maxK]; omega)))) (by rw [List.length_append, dgs_len, dgs_len]; simp only [List.length_cons, List.length_nil]; omega) fun ga1 gc1 gh1 w7 hG1 hS8 hF1 => ?_
          have hR7 := hR6.grow hF1 hAY
          have hP3 := Apart.grow hR6 hF1 hAY
          refine s_val hS8 rfl rfl (r_assign rfl (.t rfl rfl)) ?_
          refine wpList_nil ?_
          refine x_tn ?_
          refine k_reb [(2, .string (⟨#[]⟩)), (3, .slice ga1 (t2 + 1) gc1), (4, .slice a1 Y.length Y.length), (6, .int .u32 (((q : Nat) : Int))), (24, .int .i64 (((j : Nat) : Int)))] ⟨rfl, rfl, rfl, rfl, rfl, trivial⟩ fun G11 => ?_
          refine k_reg ?_
          refine s_val hS8 rfl rfl (r_move rfl (.t rfl rfl)) ?_
          refine s_val hS8 rfl rfl (r_quo (b := ((10 : Nat) : Int)) rfl (.t rfl rfl) .c (nz_nat (by omega)) (wn_u32 (c := q / 10) tdiv_nat (Nat.le_trans (Nat.div_le_self _ _) (by omega)))) ?_
          refine s_val hS8 rfl rfl (r_assign rfl (.t rfl rfl)) ?_
          refine wpList_nil ?_
          refine x_bn ?_
          refine x_tn ?_
          refine k_reb [(2, .string (⟨#[]⟩)), (3, .slice ga1 (t2 + 1) gc1), (4, .slice a1 Y.length Y.length), (6, .int .u32 (((q / 10 : Nat) : Int))), (24, .int .i64 (((j : Nat) : Int)))] ⟨rfl, rfl, rfl, rfl, rfl, trivial⟩ fun G12 => ?_
          refine k_reg ?_
          refine s_val hS8 rfl rfl (r_arith rfl rfl (.t rfl rfl) .c (c := ((j + 1 : Nat) : Int)) (wn_i64 (by show (((j : Nat) : Int) : Int) + 1 = _; omega) (by omega))) ?_
          refine s_val hS8 rfl rfl (r_move rfl (.t rfl rfl)) ?_
          refine wpList_nil ?_
          refine x_tn ?_
          have hS9 : St w0 [] (([] ++ gh1)) w7 := hS8.weaken _ (List.Sublist.append_right (by repeat (first | exact List.nil_sublist _ | exact List.Sublist.refl _ | apply List.Sublist.cons₂ | apply List.Sublist.cons)) _)
          refine ⟨9 - (j + 1), by omega, _, j + 1, t2 + 1, q / 10, ga1, gc1, gh1, fr_reb _ ⟨rfl, rfl, rfl, rfl, rfl, trivial⟩, hS9, ?_⟩
          exact ⟨by omega, by omega, by omega, by omega, div_tenth hq, hR7, hP3, by have h9 := hG1; rw [dgs_snoc hq] at h9; exact h9⟩
        · have hj9 : j = 9 := by omega
          refine s_val hS5 rfl rfl (r_cmp_f rfl rfl (.t rfl rfl) .c (show ¬ (((j : Nat) : Int) < 9) from by omega)) ?_
          refine wpList_nil ?_
          refine x_tn ?_
          refine wp_seq ?_
          refine k_f (.t rfl rfl) ?_
          refine wp_exit ?_
          refine x_te ?_
          refine x_te ?_
          refine x_be ?_
          refine x_bn ?_
          refine x_tn ?_
          refine ⟨lv Y, (by rw [hm, hlY, hOv]; exact Nat.div_lt_self hxp (by omega)), _, r + 1, t2, ga2, gc2, hv2, a1, Y.length, Y, fr_reb _ ⟨rfl, rfl, rfl, trivial⟩, hS5, ?_⟩
          exact ⟨rfl, by omega, by omega, hRY, hAY, hNY, by rw [hlY, hOv, hX, div_nine]; rfl, by have h9 := hG2; rw [hj9, dgs_nine] at h9; exact h9⟩
    · refine s_val hS2 rfl rfl (r_cmp_f rfl rfl (.t rfl rfl) .c (show ¬ (((X.length : Nat) : Int) > 0) from by omega)) ?_
      refine wpList_nil ?_
      refine x_tn ?_
      refine k_reb [(2, .string (⟨#[]⟩)), (3, .slice ga t gc), (4, .slice aX X.length cX), (13, .bool false)] ⟨rfl, rfl, rfl, rfl, trivial⟩ fun G13 => ?_
      refine k_f (.t rfl rfl) ?_
      refine wp_exit ?_
      refine x_te ?_
      refine x_te ?_
      refine x_be ?_
      refine x_tn ?_
      refine k_reb [(2, .string (⟨#[]⟩)), (3, .slice ga t gc)] ⟨rfl, rfl, trivial⟩ fun G14 => ?_
      refine wp_seq ?_
      refine wp_block ?_
      refine wp_loop_ghost (fun (m3 : Nat) a w => ∃ (G : Nat → Value) (k : Nat), a = fr 60 [(2, .string (⟨#[]⟩)), (3, .slice ga k gc)] G ∧ St w0 [] ([] ++ hv) w ∧ (m3 = k ∧ k ≤ 9 * r ∧ (1 ≤ k ∨ r = 0) ∧ lv A < 10 ^ k)) (t) ⟨_, t, fr_reb _ ⟨rfl, rfl, trivial⟩, hS2, ?_⟩ ?_
      · exact ⟨rfl, by omega, by omega, lt_of_div (by rw [ht, ← hX, List.eq_nil_of_length_eq_zero (by omega : X.length = 0)]; rfl)⟩
      · intro m3 _ w8 hI3
        obtain ⟨G15, k, rfl, hS10, ⟨hmk, hk, hk1, hA10⟩⟩ := hI3
        have hLr := hG.rd hS10 (by rw [dgs_len]; omega) (dgs_fit _ _)
        have hTk : Rd w8 .u8 ga gc (dgs k (lv A)) := by
          have := hLr.take (m := k) (cap' := gc) (by rw [dgs_len]; exact hk) (by have := hLr.le; rw [dgs_len] at this; omega)
          rwa [dgs_take hk] at this
        have hTl : (dgs k (lv A)).length = k := dgs_len _ _
        have hgc : 9 * r ≤ gc := by have := hLr.le; rwa [dgs_len] at this
        refine wp_seq ?_
        refine wp_seq ?_
        refine k_reg ?_
        refine s_val hS10 rfl rfl (r_move rfl (.t rfl rfl)) ?_
        refine s_val hS10 rfl rfl (r_len rfl rfl Tryd.underlying79 (.t rfl rfl)) ?_
        by_cases c4 : k > 1
        · refine s_val hS10 rfl rfl (r_cmp_t rfl rfl (.t rfl rfl) .c (show ((k : Nat) : Int) > 1 from by omega)) ?_
          refine s_val hS10 rfl rfl (r_move rfl (.t rfl rfl)) ?_
          refine s_valg hS10 (wanted_of (j := 3) (b := true) (d := 39) rfl rfl rfl rfl) rfl (r_move rfl (.t rfl rfl)) ?_
          refine s_valg hS10 (wanted_of (j := 3) (b := true) (d := 39) rfl rfl rfl rfl) rfl (r_move rfl (.t rfl rfl)) ?_
          refine s_valg hS10 (wanted_of (j := 3) (b := true) (d := 39) rfl rfl rfl rfl) rfl (r_len rfl rfl Tryd.underlying79 (.t rfl rfl)) ?_
          refine s_valg hS10 (wanted_of (j := 3) (b := true) (d := 39) rfl rfl rfl rfl) rfl (r_arith rfl rfl (.t rfl rfl) .c (c := ((k - 1 : Nat) : Int)) (wn_i64 (by show (((k : Nat) : Int) : Int) - 1 = _; omega) (by omega))) ?_
          refine s_valg hS10 (wanted_of (j := 3) (b := true) (d := 39) rfl rfl rfl rfl) rfl (r_ixr (j := k - 1) rfl Tryd.underlying79 ti5 (.t rfl rfl) (.t rfl rfl) hTk hTl rfl (by omega)) ?_
          have b1 : (dgs k (lv A)).getD (k - 1) 0 ≤ 255 := hTk.lt _
          refine s_valg (C := fun x => x = w8) rfl (wanted_of (j := 3) (b := true) (d := 39) rfl rfl rfl rfl) rfl (r_load rfl one5 (.t rfl rfl) (Rd.cell_now hTk (by omega))) ?_
          by_cases cz : (dgs k (lv A)).getD (k - 1) 0 = 48
          · refine s_valg hS10 (wanted_of (j := 3) (b := true) (d := 39) rfl rfl rfl rfl) rfl (r_cmp_t rfl rfl (.t rfl rfl) .c (show (((dgs k (lv A)).getD (k - 1) 0 : Nat) : Int) = 48 from by omega)) ?_
            refine s_val hS10 rfl rfl (r_pick rfl (.t rfl rfl) (.t rfl rfl)) ?_
            refine wpList_nil ?_
            refine x_tn ?_
            refine k_reb [(2, .string (⟨#[]⟩)), (3, .slice ga k gc), (47, .bool true)] ⟨rfl, rfl, rfl, trivial⟩ fun G16 => ?_
            refine k_t (.t rfl rfl) ?_
            refine wp_skip ?_
            refine x_tn ?_
            refine k_reb [(2, .string (⟨#[]⟩)), (3, .slice ga k gc)] ⟨rfl, rfl, trivial⟩ fun G17 => ?_
            refine wp_block ?_
            refine k_reg ?_
            refine s_val hS10 rfl rfl (r_move rfl (.t rfl rfl)) ?_
            refine s_val hS10 rfl rfl (r_move rfl (.t rfl rfl)) ?_
            refine s_val hS10 rfl rfl (r_len rfl rfl Tryd.underlying79 (.t rfl rfl)) ?_
            refine s_val hS10 rfl rfl (r_arith rfl rfl (.t rfl rfl) .c (c := ((k - 1 : Nat) : Int)) (wn_i64 (by show (((k : Nat) : Int) : Int) - 1 = _; omega) (by omega))) ?_
            refine s_val hS10 rfl rfl (r_cut0 rfl Tryd.underlying79 ti5 (.t rfl rfl) (.s (.t rfl rfl)) .n (hh := k - 1) (m := gc) (by omega) (by omega)) ?_
            refine s_val hS10 rfl rfl (r_assign rfl (.t rfl rfl)) ?_
            refine wpList_nil ?_
            refine x_bn ?_
            refine x_tn ?_
            refine ⟨k - 1, by omega, _, k - 1, fr_reb _ ⟨rfl, rfl, trivial⟩, hS10, ?_⟩
            exact ⟨by omega, by omega, by omega, drop_digit (by omega) hA10 (by rw [dgs_get (by omega)] at cz; omega)⟩
          · refine s_valg hS10 (wanted_of (j := 3) (b := true) (d := 39) rfl rfl rfl rfl) rfl (r_cmp_f rfl rfl (.t rfl rfl) .c (show ¬ ((((dgs k (lv A)).getD (k - 1) 0 : Nat) : Int) = 48) from by omega)) ?_
            refine s_val hS10 rfl rfl (r_pick rfl (.t rfl rfl) (.t rfl rfl)) ?_
            refine wpList_nil ?_
            refine x_tn ?_
            refine k_reb [(2, .string (⟨#[]⟩)), (3, .slice ga k gc), (47, .bool false)] ⟨rfl, rfl, rfl, trivial⟩ fun G18 => ?_
            refine k_f (.t rfl rfl) ?_
            refine wp_exit ?_
            refine x_te ?_
            refine x_te ?_
            refine x_be ?_
            refine x_tn ?_
            refine k_reb [(2, .string (⟨#[]⟩)), (3, .slice ga k gc)] ⟨rfl, rfl, trivial⟩ fun G19 => ?_
            refine wp_seq ?_
            refine wp_seq ?_
            refine k_reg ?_
            refine s_val hS10 rfl rfl (r_move rfl (.t rfl rfl)) ?_
            refine s_val hS10 rfl rfl (r_len rfl rfl Tryd.underlying79 (.t rfl rfl)) ?_
            by_cases c5 : k = 0
            · refine s_val hS10 rfl rfl (r_cmp_t rfl rfl (.t rfl rfl) .c (show ((k : Nat) : Int) = 0 from by omega)) ?_
              refine wpList_nil ?_
              refine x_tn ?_
              refine k_reb [(2, .string (⟨#[]⟩)), (3, .slice ga k gc), (55, .bool true)] ⟨rfl, rfl, rfl, trivial⟩ fun G20 => ?_
              refine k_t (.t rfl rfl) ?_
              refine wp_seq ?_
              refine k_reg ?_
              refine s_val hS10 rfl rfl (r_assign rfl .c) ?_
              refine wpList_nil ?_
              refine x_tn ?_
              refine k_reb [(2, .string (⟨#[48]⟩)), (3, .slice ga k gc)] ⟨rfl, rfl, trivial⟩ fun G21 => ?_
              refine wp_ret ?_
              refine x_tr ?_
              refine k_ret1 Tryd.results42 rfl rfl ?_
              refine ⟨_, rfl, ?_⟩
              have h0 : lv A = 0 := by have hk0 : k = 0 := (by omega); subst hk0; simpa using hA10
              exact ⟨by rw [h0]; rfl, hS10.none⟩
            · refine s_val hS10 rfl rfl (r_cmp_f rfl rfl (.t rfl rfl) .c (show ¬ (((k : Nat) : Int) = 0) from by omega)) ?_
              refine wpList_nil ?_
              refine x_tn ?_
              refine k_reb [(2, .string (⟨#[]⟩)), (3, .slice ga k gc), (55, .bool false)] ⟨rfl, rfl, rfl, trivial⟩ fun G22 => ?_
              refine k_f (.t rfl rfl) ?_
              refine wp_skip ?_
              refine x_tn ?_
              refine k_reb [(2, .string (⟨#[]⟩)), (3, .slice ga k gc)] ⟨rfl, rfl, trivial⟩ fun G23 => ?_
              refine wp_seq ?_
              refine k_reg ?_
              refine s_val hS10 rfl rfl (r_move rfl (.t rfl rfl)) ?_
              obtain ⟨blk2, X2, rfl, hS11⟩ : ∃ b X, ga = some ⟨b, 0, none⟩ ∧ St w0 [] [(b, .cells (encN .u8 (dgs k (lv A) ++ X)) 5 (0, 0))] w8 := by
                rcases hG with ⟨_, _, h9, _⟩ | ⟨b, X, rfl, rfl, h8, h9⟩
                · exact absurd (congrArg List.length h9) (by rw [dgs_len]; simp; omega)
                · refine ⟨b, (dgs (9 * r) (lv A)).drop k ++ X, rfl, ?_⟩
                  rw [← List.append_assoc, ← dgs_take (k := k) (j := 9 * r) (by omega), List.take_append_drop]
                  exact hS10
              refine s_call rfl rfl rfl (vs := [.slice (some ⟨blk2, 0, none⟩) k gc]) ⟨(.t rfl rfl), trivial⟩ cb76 (reverse_ok w8 blk2 gc (dgs k (lv A)) X2 k (hS11.own (blk2, _) (by simp)) (dgs_len _ _) (by omega) (by omega)) ?_
              rintro _ w9 ⟨rfl, hT2⟩
              have hS12 := hS11.wrote (m := 0) rfl hT2
              have hR8 : Rd w9 .u8 (some ⟨blk2, 0, none⟩) gc (dgs k (lv A)).reverse := rd_own (m := 0) hS12 rfl (by rw [List.length_reverse, dgs_len]; omega) (by rw [List.length_reverse, dgs_len]; omega) (by intro x hx; exact dgs_fit _ _ _ (List.mem_reverse.1 hx))
              refine wpList_nil ?_
              refine x_tn ?_
              refine k_reb [(2, .string (⟨#[]⟩)), (3, .slice (some ⟨blk2, 0, none⟩) k gc)] ⟨rfl, rfl, trivial⟩ fun G24 => ?_
              refine wp_seq ?_
              refine k_reg ?_
              refine s_val hS12 rfl rfl (r_move rfl (.t rfl rfl)) ?_
              refine s_val (C := fun x => x = w9) rfl rfl rfl (r_str rfl Tryd.underlying79 Tryd.underlying5 Tryd.underlying9 (.t rfl rfl) hR8 (by rw [List.length_reverse]; exact dgs_len _ _) (by omega)) ?_
              refine s_val hS12 rfl rfl (r_assign rfl (.t rfl rfl)) ?_
              refine wpList_nil ?_
              refine x_tn ?_
              refine k_reb [(2, .string (strB ((dgs k (lv A)).reverse)))] ⟨rfl, trivial⟩ fun G25 => ?_
              refine wp_ret ?_
              refine k_ret1 Tryd.results42 rfl rfl ?_
              refine ⟨_, rfl, ?_⟩
              have hd : dgs k (lv A) = (dl (lv A)).map (48 + ·) := dgs_dl (by omega) hA10 (by first | (left; omega) | (right; rw [dgs_get (by omega)] at cz; omega))
              exact ⟨by rw [hd]; rfl, hS12.none⟩
        · refine s_val hS10 rfl rfl (r_cmp_f rfl rfl (.t rfl rfl) .c (show ¬ (((k : Nat) : Int) > 1) from by omega)) ?_
          refine s_val hS10 rfl rfl (r_move rfl (.t rfl rfl)) ?_
          refine s_skip (unwanted_of (j := 3) (b := true) (b' := false) (d := 39) rfl rfl rfl rfl rfl) rfl ?_
          refine s_skip (unwanted_of (j := 3) (b := true) (b' := false) (d := 39) rfl rfl rfl rfl rfl) rfl ?_
          refine s_skip (unwanted_of (j := 3) (b := true) (b' := false) (d := 39) rfl rfl rfl rfl rfl) rfl ?_
          refine s_skip (unwanted_of (j := 3) (b := true) (b' := false) (d := 39) rfl rfl rfl rfl rfl) rfl ?_
          refine s_skip (unwanted_of (j := 3) (b := true) (b' := false) (d := 39) rfl rfl rfl rfl rfl) rfl ?_
          refine s_skip (unwanted_of (j := 3) (b := true) (b' := false) (d := 39) rfl rfl rfl rfl rfl) rfl ?_
          refine s_skip (unwanted_of (j := 3) (b := true) (b' := false) (d := 39) rfl rfl rfl rfl rfl) rfl ?_
          refine s_val hS10 rfl rfl (r_pick rfl (.t rfl rfl) .c) ?_
          refine wpList_nil ?_
          refine x_tn ?_
          refine k_reb [(2, .string (⟨#[]⟩)), (3, .slice ga k gc), (47, .bool false)] ⟨rfl, rfl, rfl, trivial⟩ fun G26 => ?_
          refine k_f (.t rfl rfl) ?_
          refine wp_exit ?_
          refine x_te ?_
          refine x_te ?_
          refine x_be ?_
          refine x_tn ?_
          refine k_reb [(2, .string (⟨#[]⟩)), (3, .slice ga k gc)] ⟨rfl, rfl, trivial⟩ fun G27 => ?_
          refine wp_seq ?_
          refine wp_seq ?_
          refine k_reg ?_
          refine s_val hS10 rfl rfl (r_move rfl (.t rfl rfl)) ?_
          refine s_val hS10 rfl rfl (r_len rfl rfl Tryd.underlying79 (.t rfl rfl)) ?_
          by_cases c6 : k = 0
          · refine s_val hS10 rfl rfl (r_cmp_t rfl rfl (.t rfl rfl) .c (show ((k : Nat) : Int) = 0 from by omega)) ?_
            refine wpList_nil ?_
            refine x_tn ?_
            refine k_reb [(2, .string (⟨#[]⟩)), (3, .slice ga k gc), (55, .bool true)] ⟨rfl, rfl, rfl, trivial⟩ fun G28 => ?_
            refine k_t (.t rfl rfl) ?_
            refine wp_seq ?_
            refine k_reg ?_
            refine s_val hS10 rfl rfl (r_assign rfl .c) ?_
            refine wpList_nil ?_
            refine x_tn ?_
            refine k_reb [(2, .string (⟨#[48]⟩)), (3, .slice ga k gc)] ⟨rfl, rfl, trivial⟩ fun G29 => ?_
            refine wp_ret ?_
            refine x_tr ?_
            refine k_ret1 Tryd.results42 rfl rfl ?_
            refine ⟨_, rfl, ?_⟩
            have h0 : lv A = 0 := by have hk0 : k = 0 := (by omega); subst hk0; simpa using hA10
            exact ⟨by rw [h0]; rfl, hS10.none⟩
          · refine s_val hS10 rfl rfl (r_cmp_f rfl rfl (.t rfl rfl) .c (show ¬ (((k : Nat) : Int) = 0) from by omega)) ?_
            refine wpList_nil ?_
            refine x_tn ?_
            refine k_reb [(2, .string (⟨#[]⟩)), (3, .slice ga k gc), (55, .bool false)] ⟨rfl, rfl, rfl, trivial⟩ fun G30 => ?_
            refine k_f (.t rfl rfl) ?_
            refine wp_skip ?_
            refine x_tn ?_
            refine k_reb [(2, .string (⟨#[]⟩)), (3, .slice ga k gc)] ⟨rfl, rfl, trivial⟩ fun G31 => ?_
            refine wp_seq ?_
            refine k_reg ?_
            refine s_val hS10 rfl rfl (r_move rfl (.t rfl rfl)) ?_
            obtain ⟨blk3, X3, rfl, hS14⟩ : ∃ b X, ga = some ⟨b, 0, none⟩ ∧ St w0 [] [(b, .cells (encN .u8 (dgs k (lv A) ++ X)) 5 (0, 0))] w8 := by
              rcases hG with ⟨_, _, h9, _⟩ | ⟨b, X, rfl, rfl, h8, h9⟩
              · exact absurd (congrArg List.length h9) (by rw [dgs_len]; simp; omega)
              · refine ⟨b, (dgs (9 * r) (lv A)).drop k ++ X, rfl, ?_⟩
                rw [← List.append_assoc, ← dgs_take (k := k) (j := 9 * r) (by omega), List.take_append_drop]
                exact hS10
            refine s_call rfl rfl rfl (vs := [.slice (some ⟨blk3, 0, none⟩) k gc]) ⟨(.t rfl rfl), trivial⟩ cb76 (reverse_ok w8 blk3 gc (dgs k (lv A)) X3 k (hS14.own (blk3, _) (by simp)) (dgs_len _ _) (by omega) (by omega)) ?_
            rintro _ w10 ⟨rfl, hT3⟩
            have hS15 := hS14.wrote (m := 0) rfl hT3
            have hR9 : Rd w10 .u8 (some ⟨blk3, 0, none⟩) gc (dgs k (lv A)).reverse := rd_own (m := 0) hS15 rfl (by rw [List.length_reverse, dgs_len]; omega) (by rw [List.length_reverse, dgs_len]; omega) (by intro x hx; exact dgs_fit _ _ _ (List.mem_reverse.1 hx))
            refine wpList_nil ?_
            refine x_tn ?_
            refine k_reb [(2, .string (⟨#[]⟩)), (3, .slice (some ⟨blk3, 0, none⟩) k gc)] ⟨rfl, rfl, trivial⟩ fun G32 => ?_
            refine wp_seq ?_
            refine k_reg ?_
            refine s_val hS15 rfl rfl (r_move rfl (.t rfl rfl)) ?_
            refine s_val (C := fun x => x = w10) rfl rfl rfl (r_str rfl Tryd.underlying79 Tryd.underlying5 Tryd.underlying9 (.t rfl rfl) hR9 (by rw [List.length_reverse]; exact dgs_len _ _) (by omega)) ?_
            refine s_val hS15 rfl rfl (r_assign rfl (.t rfl rfl)) ?_
            refine wpList_nil ?_
            refine x_tn ?_
            refine k_reb [(2, .string (strB ((dgs k (lv A)).reverse)))] ⟨rfl, trivial⟩ fun G33 => ?_
            refine wp_ret ?_
            refine k_ret1 Tryd.results42 rfl rfl ?_
            refine ⟨_, rfl, ?_⟩
            have hd : dgs k (lv A) = (dl (lv A)).map (48 + ·) := dgs_dl (by omega) hA10 (by first | (left; omega) | (right; rw [dgs_get (by omega)] at cz; omega))
            exact ⟨by rw [hd]; rfl, hS15.none⟩

end Go.Proofs.YtnbklceenfjojaaDoor

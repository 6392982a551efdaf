/- Contracts of functions of the program, each walked once. -/
import Derived.Test.YtnbklceenfjojaaDoorFnQ
namespace Go.Proofs.YtnbklceenfjojaaDoor
open Go Go.RowKit K
namespace FS
theorem mixed : Tryd.prog.follows .mixedOrders = true := by kernel_rfl
theorem agg25 : (match Tryd.prog.underlying 25 with | some (.struct _) | some (.array ..) => true | _ => false) = true := by kernel_rfl
theorem cb10 : callable Tryd.prog 10 = true := by kernel_rfl
theorem cb11 : callable Tryd.prog 11 = true := by kernel_rfl
theorem cb12 : callable Tryd.prog 12 = true := by kernel_rfl
theorem cb13 : callable Tryd.prog 13 = true := by kernel_rfl
theorem cb14 : callable Tryd.prog 14 = true := by kernel_rfl
theorem cb15 : callable Tryd.prog 15 = true := by kernel_rfl
theorem cb16 : callable Tryd.prog 16 = true := by kernel_rfl
theorem cb5 : callable Tryd.prog 5 = true := by kernel_rfl
theorem cb6 : callable Tryd.prog 6 = true := by kernel_rfl
theorem cb7 : callable Tryd.prog 7 = true := by kernel_rfl
theorem cb8 : callable Tryd.prog 8 = true := by kernel_rfl
theorem cb9 : callable Tryd.prog 9 = true := by kernel_rfl
theorem one23 : One Tryd.prog 23 = true := by kernel_rfl
theorem one3 : One Tryd.prog 3 = true := by kernel_rfl
theorem one38 : One Tryd.prog 38 = true := by kernel_rfl
theorem ti23 : (Tryd.prog.info? 23).map (fun i => (i.zero, i.size, i.bytes)) = some (some (.slice none 0 0), 1, 24) := by kernel_rfl
theorem ti25 : (Tryd.prog.info? 25).map (fun i => (i.zero, i.size, i.bytes)) = some (some (.agg #[.slice none 0 0, .slice none 0 0]), 2, 48) := by kernel_rfl
theorem ti3 : (Tryd.prog.info? 3).map (fun i => (i.zero, i.size, i.bytes)) = some (some (.int .i64 0), 1, 8) := by kernel_rfl
theorem ti38 : (Tryd.prog.info? 38).map (fun i => (i.zero, i.size, i.bytes)) = some (some (.int .u32 0), 1, 4) := by kernel_rfl

end FS
open FS
attribute [local irreducible] Go.wpList Go.wpQuiet Go.wpStill Go.wpAny Go.Code.wp
set_option maxRecDepth 10000
set_option maxHeartbeats 8000000
set_option linter.unusedVariables false
set_option linter.unusedSimpArgs false
theorem LimbShifts_ok (w0 : World) (hG : Rd w0 .u8 (some ⟨0, 0, none⟩) 32 deB) (aL : Option Addr) (cL : Nat) (LL : List (Option Addr × Nat × List Nat)) (hL : RdS w0 aL LL) (aN : Option Addr) (cN nN : Nat) (ns : Nat → Int) (hN : RdT w0 aN nN 1 (fun j _ => .int .i64 (ns j))) (hns : ∀ j, j < nN → -9223372036854775808 ≤ ns j ∧ ns j ≤ 9223372036854775807) :
    Calls Tryd.prog 3 #[.agg #[.slice aL LL.length cL, .slice aN nN cN]] w0 (Ret fun v w' => v = .bool true ∧ St w0 [] [] w') := by
  refine k_enter (vs := [.agg #[.slice aL LL.length cL, .slice aN nN cN]]) Tryd.func3 rfl Tryd.ntmps3 rfl ?_
  have hS := St.init w0
  have mL := hL.most
  have mN := hN.most
  refine wp_seq ?_
  refine k_reg ?_
  refine s_box rfl rfl rfl (.t rfl rfl) (cs := #[.slice aL LL.length cL, .slice aN nN cN]) rfl hS fun blk1 w1 hb1 hB1 hS1 => ?_
  refine s_val hS1 rfl rfl (r_assign rfl .c) ?_
  refine wpList_nil ?_
  refine x_tn ?_
  refine k_reb [(1, .pointer (some ⟨blk1, 0, none⟩)), (2, .bool false)] ⟨rfl, rfl, trivial⟩ fun G1 => ?_
  refine wp_seq ?_
  refine k_reg ?_
  refine s_val hS1 rfl rfl (r_loadA rfl agg25 ti25 rfl (.t rfl rfl) (St.block (m := 0) rfl)) ?_
  refine s_call rfl rfl rfl (vs := [.agg #[.slice aL LL.length cL, .slice aN nN cN], .int .i64 200]) ⟨(.t rfl rfl), .c, trivial⟩ cb5 (three_ok w1 aL cL LL (RdS.st hS1 hL (by intro x hx; cases hx)) (.slice aN nN cN) 200 (by omega)) ?_
  rintro v1 w2 ⟨A, B, C, _, _, _, rfl, hp1, hp2, hp3, hNA, hNB, hNC, hmA, hmB, hmC⟩
  obtain ⟨a1, c1, rfl, hR1, -, hT1⟩ := id hp1
  have hW1 := Ow.from_ hS1 hp1
  have hS2 := hS1.keep hT1
  have hA1 := hp1.apart hS1 (m := 0) rfl
  obtain ⟨a2, c2, rfl, hR2, -, hT2⟩ := id hp2
  have hW2 := Ow.from_ hS1 hp2
  have hA2 := hp2.apart hS1 (m := 0) rfl
  obtain ⟨a3, c3, rfl, hR3, -, hT3⟩ := id hp3
  have hW3 := Ow.from_ hS1 hp3
  have hA3 := hp3.apart hS1 (m := 0) rfl
  have hnA := hNA.len
  have hbA := nm_bound hNA hmA
  have hnB := hNB.len
  have hbB := nm_bound hNB hmB
  have hnC := hNC.len
  have hbC := nm_bound hNC hmC
  refine s_val hS2 rfl rfl (r_move rfl (.t rfl rfl)) ?_
  refine s_val hS2 rfl rfl (r_extract rfl (.t rfl rfl) rfl) ?_
  refine s_val hS2 rfl rfl (r_extract rfl (.t rfl rfl) rfl) ?_
  refine s_val hS2 rfl rfl (r_extract rfl (.t rfl rfl) rfl) ?_
  refine s_val hS2 rfl rfl (r_assign rfl (.t rfl rfl)) ?_
  refine s_val hS2 rfl rfl (r_assign rfl (.t rfl rfl)) ?_
  refine s_val hS2 rfl rfl (r_assign rfl (.t rfl rfl)) ?_
  refine wpList_nil ?_
  refine x_tn ?_
  refine k_reb [(1, .pointer (some ⟨blk1, 0, none⟩)), (2, .bool false), (3, .slice a1 A.length c1), (4, .slice a2 B.length c2)] ⟨rfl, rfl, rfl, rfl, trivial⟩ fun G2 => ?_
  refine wp_seq ?_
  refine wp_seq ?_
  refine k_reg ?_
  refine s_val hS2 rfl rfl (r_assign rfl .c) ?_
  refine wpList_nil ?_
  refine x_tn ?_
  refine wp_block ?_
  refine wp_loop_ghost (fun (m1 : Nat) a w => ∃ (G : Nat → Value) (i : Nat), a = fr 208 [(1, .pointer (some ⟨blk1, 0, none⟩)), (2, .bool false), (3, .slice a1 A.length c1), (4, .slice a2 B.length c2), (6, .int .i64 (((i : Nat) : Int)))] G ∧ St w0 [] [(blk1, .cells #[.slice aL LL.length cL, .slice aN nN cN] 25 (0, 0))] w ∧ (Rd w .u32 a1 c1 A ∧ Rd w .u32 a2 c2 B ∧ m1 = nN - i ∧ i ≤ nN)) (nN) ⟨_, 0, fr_reb _ ⟨rfl, rfl, rfl, rfl, rfl, trivial⟩, hS2, ?_⟩ ?_
  · refine ⟨hR1, hR2, ?_⟩
    exact ⟨rfl, Nat.zero_le _⟩
  · intro m1 _ w3 hI1
    obtain ⟨G3, i, rfl, hS5, ⟨hR4, hR5, ⟨hm, hi⟩⟩⟩ := hI1
    refine wp_seq ?_
    refine wp_seq ?_
    refine k_reg ?_
    refine s_val hS5 rfl rfl (r_move rfl (.t rfl rfl)) ?_
    refine s_val hS5 rfl rfl (r_field rfl Tryd.underlying25 rfl ti23 (.t rfl rfl) (qq := 1) rfl) ?_
    refine s_val hS5 rfl rfl (r_load rfl one23 (.t rfl rfl) (St.cell_own (m := 0) rfl rfl)) ?_
    refine s_val hS5 rfl rfl (r_len rfl rfl Tryd.underlying23 (.t rfl rfl)) ?_
    by_cases c4 : i < nN
    · refine s_val hS5 rfl rfl (r_cmp_t rfl rfl (.t rfl rfl) (.t rfl rfl) (show ((i : Nat) : Int) < ((nN : Nat) : Int) from by omega)) ?_
      refine s_val hS5 rfl rfl (r_move rfl (.t rfl rfl)) ?_
      refine s_valg hS5 (wanted_of (j := 5) (b := true) (d := 33) rfl rfl rfl rfl) rfl (r_move rfl (.t rfl rfl)) ?_
      by_cases c5 : i < 6
      · refine s_valg hS5 (wanted_of (j := 5) (b := true) (d := 33) rfl rfl rfl rfl) rfl (r_cmp_t rfl rfl (.t rfl rfl) .c (show ((i : Nat) : Int) < 6 from by omega)) ?_
        refine s_val hS5 rfl rfl (r_pick rfl (.t rfl rfl) (.t rfl rfl)) ?_
        refine wpList_nil ?_
        refine x_tn ?_
        refine k_reb [(1, .pointer (some ⟨blk1, 0, none⟩)), (2, .bool false), (3, .slice a1 A.length c1), (4, .slice a2 B.length c2), (6, .int .i64 (((i : Nat) : Int))), (36, .bool true)] ⟨rfl, rfl, rfl, rfl, rfl, rfl, trivial⟩ fun G4 => ?_
        refine k_t (.t rfl rfl) ?_
        refine wp_skip ?_
        refine x_tn ?_
        refine k_reb [(1, .pointer (some ⟨blk1, 0, none⟩)), (2, .bool false), (3, .slice a1 A.length c1), (4, .slice a2 B.length c2), (6, .int .i64 (((i : Nat) : Int)))] ⟨rfl, rfl, rfl, rfl, rfl, trivial⟩ fun G5 => ?_
        refine wp_seq ?_
        refine wp_block ?_
        refine wp_seq ?_
        refine k_reg ?_
        refine s_val hS5 rfl rfl (r_field rfl Tryd.underlying25 rfl ti23 (.t rfl rfl) (qq := 1) rfl) ?_
        refine s_val hS5 rfl rfl (r_load rfl one23 (.t rfl rfl) (St.cell_own (m := 0) rfl rfl)) ?_
        refine s_val hS5 rfl rfl (r_move rfl (.t rfl rfl)) ?_
        refine s_val hS5 rfl rfl (r_ixT (j := i) rfl Tryd.underlying23 ti3 (by omega) (.t rfl rfl) (.t rfl rfl) hN rfl (by omega)) ?_
        have hns_ := hns i (by omega)
        refine s_val hS5 rfl rfl (show Rn _ _ _ _ _ (.int .i64 (ns i)) from r_load rfl one3 (.t rfl rfl) (cell_rdT hN (f := 0) (by omega) (by omega) (by simp))) ?_
        refine s_val hS5 rfl rfl (r_assign rfl (.t rfl rfl)) ?_
        refine wpList_nil ?_
        refine x_tn ?_
        refine k_reb [(1, .pointer (some ⟨blk1, 0, none⟩)), (2, .bool false), (3, .slice a1 A.length c1), (4, .slice a2 B.length c2), (6, .int .i64 (((i : Nat) : Int))), (7, .int .i64 (ns i))] ⟨rfl, rfl, rfl, rfl, rfl, rfl, trivial⟩ fun G6 => ?_
        refine wp_seq ?_
        refine wp_seq ?_
        refine k_reg ?_
        refine s_val hS5 rfl rfl (r_move rfl (.t rfl rfl)) ?_
        by_cases c6 : ns i < 0
        · refine s_val hS5 rfl rfl (r_cmp_t rfl rfl (.t rfl rfl) .c (show ns i < 0 from by omega)) ?_
          refine wpList_nil ?_
          refine x_tn ?_
          refine k_reb [(1, .pointer (some ⟨blk1, 0, none⟩)), (2, .bool false), (3, .slice a1 A.length c1), (4, .slice a2 B.length c2), (6, .int .i64 (((i : Nat) : Int))), (7, .int .i64 (ns i)), (45, .bool true)] ⟨rfl, rfl, rfl, rfl, rfl, rfl, rfl, trivial⟩ fun G7 => ?_
          refine k_t (.t rfl rfl) ?_
          refine wp_seq ?_
          refine k_reg ?_
          refine s_val hS5 rfl rfl (r_move rfl (.t rfl rfl)) ?_
          refine s_val hS5 rfl rfl (r_move rfl (.t rfl rfl)) ?_
          refine s_call rfl rfl rfl (vs := [.slice a1 A.length c1, .int .i64 (ns i)]) ⟨(.t rfl rfl), (.t rfl rfl), trivial⟩ cb6 (Left_neg w3 a1 c1 A hR4 hNA (ns i) (by omega)) ?_
          intro v2 w4 hp4
          obtain ⟨hp4, hB2⟩ := hp4
          have hS6 := hS5.keep hB2
          replace hB2 := hB2.toBelow
          have hR6 := hR4.below hB2 (Nat.le_refl _)
          have hR7 := hR5.below hB2 (Nat.le_refl _)
          obtain rfl := hp4
          refine s_val hS6 rfl rfl (r_move rfl (.t rfl rfl)) ?_
          refine s_val hS6 rfl rfl (r_extract rfl (.t rfl rfl) rfl) ?_
          refine s_val hS6 rfl rfl (r_extract rfl (.t rfl rfl) rfl) ?_
          refine s_val hS6 rfl rfl (r_assign rfl (.t rfl rfl)) ?_
          refine s_val hS6 rfl rfl (r_assign rfl (.t rfl rfl)) ?_
          refine wpList_nil ?_
          refine x_tn ?_
          refine k_reb [(1, .pointer (some ⟨blk1, 0, none⟩)), (2, .bool false), (3, .slice a1 A.length c1), (4, .slice a2 B.length c2), (6, .int .i64 (((i : Nat) : Int))), (7, .int .i64 (ns i)), (9, .int .i64 24)] ⟨rfl, rfl, rfl, rfl, rfl, rfl, rfl, trivial⟩ fun G8 => ?_
          refine wp_seq ?_
          refine k_reg ?_
          refine s_val hS6 rfl rfl (r_move rfl (.t rfl rfl)) ?_
          refine s_val hS6 rfl rfl (r_move rfl (.t rfl rfl)) ?_
          refine s_call rfl rfl rfl (vs := [.slice a1 A.length c1, .int .i64 (ns i)]) ⟨(.t rfl rfl), (.t rfl rfl), trivial⟩ cb7 (Right_neg w4 a1 c1 A hR6 hNA (ns i) (by omega)) ?_
          intro v3 w5 hp5
          obtain ⟨hp5, hB3⟩ := hp5
          have hS7 := hS6.keep hB3
          replace hB3 := hB3.toBelow
          have hR8 := hR6.below hB3 (Nat.le_refl _)
          have hR9 := hR7.below hB3 (Nat.le_refl _)
          obtain rfl := hp5
          refine s_val hS7 rfl rfl (r_move rfl (.t rfl rfl)) ?_
          refine s_val hS7 rfl rfl (r_extract rfl (.t rfl rfl) rfl) ?_
          refine s_val hS7 rfl rfl (r_extract rfl (.t rfl rfl) rfl) ?_
          refine s_val hS7 rfl rfl (r_extract rfl (.t rfl rfl) rfl) ?_
          refine s_val hS7 rfl rfl (r_assign rfl (.t rfl rfl)) ?_
          refine s_val hS7 rfl rfl (r_assign rfl (.t rfl rfl)) ?_
          refine s_val hS7 rfl rfl (r_assign rfl (.t rfl rfl)) ?_
          refine wpList_nil ?_
          refine x_tn ?_
          refine k_reb [(1, .pointer (some ⟨blk1, 0, none⟩)), (2, .bool false), (3, .slice a1 A.length c1), (4, .slice a2 B.length c2), (6, .int .i64 (((i : Nat) : Int))), (7, .int .i64 (ns i)), (9, .int .i64 24), (12, .int .i64 24)] ⟨rfl, rfl, rfl, rfl, rfl, rfl, rfl, rfl, trivial⟩ fun G9 => ?_
          refine wp_seq ?_
          refine wp_seq ?_
          refine k_reg ?_
          refine s_val hS7 rfl rfl (r_move rfl (.t rfl rfl)) ?_
          refine s_call rfl rfl rfl (vs := [.int .i64 24]) ⟨(.t rfl rfl), trivial⟩ cb8 (num_ok w5 24) ?_
          rintro _ w5 ⟨rfl, rfl⟩
          refine s_val hS7 rfl rfl (r_cmp_f rfl rfl (.t rfl rfl) .c (show ¬ (¬ 24 = 24) from by omega)) ?_
          refine s_val hS7 rfl rfl (r_move rfl (.t rfl rfl)) ?_
          refine s_valg hS7 (wanted_of (j := 3) (b := false) (d := 62) rfl rfl rfl rfl) rfl (r_move rfl (.t rfl rfl)) ?_
          refine s_callg (wanted_of (j := 3) (b := false) (d := 62) rfl rfl rfl rfl) rfl rfl (vs := [.int .i64 24]) ⟨(.t rfl rfl), trivial⟩ cb8 (num_ok w5 24) ?_
          rintro _ w5 ⟨rfl, rfl⟩
          refine s_valg hS7 (wanted_of (j := 3) (b := false) (d := 62) rfl rfl rfl rfl) rfl (r_cmp_f rfl rfl (.t rfl rfl) .c (show ¬ (¬ 24 = 24) from by omega)) ?_
          refine s_val hS7 rfl rfl (r_pick rfl (.t rfl rfl) (.t rfl rfl)) ?_
          refine s_val hS7 rfl rfl (r_move rfl (.t rfl rfl)) ?_
          refine s_valg hS7 (wanted_of (j := 8) (b := false) (d := 67) rfl rfl rfl rfl) rfl (r_move rfl (.t rfl rfl)) ?_
          refine s_valg hS7 (wanted_of (j := 8) (b := false) (d := 67) rfl rfl rfl rfl) rfl (r_move rfl (.t rfl rfl)) ?_
          refine s_callg (wanted_of (j := 8) (b := false) (d := 67) rfl rfl rfl rfl) rfl rfl (vs := [.slice a1 A.length c1, .int .i64 (ns i)]) ⟨(.t rfl rfl), (.t rfl rfl), trivial⟩ cb9 (Bit_neg w5 a1 c1 A hR8 hNA (ns i) (by omega)) ?_
          intro v4 w6 hp6
          obtain ⟨hp6, hB4⟩ := hp6
          have hS8 := hS7.keep hB4
          replace hB4 := hB4.toBelow
          have hR10 := hR8.below hB4 (Nat.le_refl _)
          have hR11 := hR9.below hB4 (Nat.le_refl _)
          obtain rfl := hp6
          refine s_val hS8 rfl rfl (r_pick rfl (.t rfl rfl) (.t rfl rfl)) ?_
          refine wpList_nil ?_
          refine x_tn ?_
          refine k_reb [(1, .pointer (some ⟨blk1, 0, none⟩)), (2, .bool false), (3, .slice a1 A.length c1), (4, .slice a2 B.length c2), (6, .int .i64 (((i : Nat) : Int))), (7, .int .i64 (ns i)), (71, .bool false)] ⟨rfl, rfl, rfl, rfl, rfl, rfl, rfl, trivial⟩ fun G10 => ?_
          refine k_f (.t rfl rfl) ?_
          refine wp_skip ?_
          refine x_tn ?_
          refine k_reb [(1, .pointer (some ⟨blk1, 0, none⟩)), (2, .bool false), (3, .slice a1 A.length c1), (4, .slice a2 B.length c2), (6, .int .i64 (((i : Nat) : Int))), (7, .int .i64 (ns i))] ⟨rfl, rfl, rfl, rfl, rfl, rfl, trivial⟩ fun G11 => ?_
          refine wp_exit ?_
          refine x_te ?_
          refine x_be ?_
          refine x_tn ?_
          refine k_reb [(1, .pointer (some ⟨blk1, 0, none⟩)), (2, .bool false), (3, .slice a1 A.length c1), (4, .slice a2 B.length c2), (6, .int .i64 (((i : Nat) : Int)))] ⟨rfl, rfl, rfl, rfl, rfl, trivial⟩ fun G12 => ?_
          refine k_reg ?_
          refine s_val hS8 rfl rfl (r_move rfl (.t rfl rfl)) ?_
          refine s_val hS8 rfl rfl (r_arith rfl rfl (.t rfl rfl) .c (c := ((i + 1 : Nat) : Int)) (wn_i64 (by show (((i : Nat) : Int) : Int) + 1 = _; omega) (by omega))) ?_
          refine s_val hS8 rfl rfl (r_assign rfl (.t rfl rfl)) ?_
          refine wpList_nil ?_
          refine x_tn ?_
          refine ⟨nN - (i + 1), by omega, _, i + 1, fr_reb _ ⟨rfl, rfl, rfl, rfl, rfl, trivial⟩, hS8, ?_⟩
          refine ⟨hR10, hR11, ?_⟩
          exact ⟨by omega, by omega⟩
        · refine s_val hS5 rfl rfl (r_cmp_f rfl rfl (.t rfl rfl) .c (show ¬ (ns i < 0) from by omega)) ?_
          refine wpList_nil ?_
          refine x_tn ?_
          refine k_reb [(1, .pointer (some ⟨blk1, 0, none⟩)), (2, .bool false), (3, .slice a1 A.length c1), (4, .slice a2 B.length c2), (6, .int .i64 (((i : Nat) : Int))), (7, .int .i64 (ns i)), (45, .bool false)] ⟨rfl, rfl, rfl, rfl, rfl, rfl, rfl, trivial⟩ fun G13 => ?_
          refine k_f (.t rfl rfl) ?_
          refine wp_skip ?_
          refine x_tn ?_
          refine k_reb [(1, .pointer (some ⟨blk1, 0, none⟩)), (2, .bool false), (3, .slice a1 A.length c1), (4, .slice a2 B.length c2), (6, .int .i64 (((i : Nat) : Int))), (7, .int .i64 (ns i))] ⟨rfl, rfl, rfl, rfl, rfl, rfl, trivial⟩ fun G14 => ?_
          refine wp_seq ?_
          refine k_reg ?_
          obtain ⟨k, hk⟩ : ∃ k : Nat, ns i = (k : Int) := ⟨(ns i).toNat, by omega⟩
          refine s_val hS5 rfl rfl (Rn.as (j := ((k : Nat) : Int)) (by omega) (r_move rfl (.t rfl rfl))) ?_
          refine s_val hS5 rfl rfl (r_rem (b := ((5000 : Nat) : Int)) rfl (.t rfl rfl) .c (nz_nat (by omega)) (c := ((k % 5000 : Nat) : Int)) tmod_nat) ?_
          refine s_val hS5 rfl rfl (r_assign rfl (.t rfl rfl)) ?_
          refine wpList_nil ?_
          refine x_tn ?_
          refine k_reb [(1, .pointer (some ⟨blk1, 0, none⟩)), (2, .bool false), (3, .slice a1 A.length c1), (4, .slice a2 B.length c2), (6, .int .i64 (((i : Nat) : Int))), (7, .int .i64 (((k % 5000 : Nat) : Int)))] ⟨rfl, rfl, rfl, rfl, rfl, rfl, trivial⟩ fun G15 => ?_
          refine wp_seq ?_
          refine k_reg ?_
          refine s_val hS5 rfl rfl (r_move rfl (.t rfl rfl)) ?_
          refine s_call rfl rfl rfl (vs := [.int .u32 2, .int .i64 (((k % 5000 : Nat) : Int))]) ⟨.c, (.t rfl rfl), trivial⟩ cb10 (Power_ok w3 2 (k % 5000) (by omega) (by omega)) ?_
          rintro v5 w7 hp7
          obtain ⟨htTWO, TWO, _, rfl, hp7, hNTWO, hlTWO⟩ := hp7.fits (pow_fit (by omega) (by omega))
          obtain ⟨a4, c7, rfl, hR12, -, hT5⟩ := id hp7
          have hW4 := Ow.from_ hS5 hp7
          have hS10 := hS5.keep hT5
          have hR13 := hR4.below hT5.toBelow (Nat.le_refl _)
          have hR14 := hR5.below hT5.toBelow (Nat.le_refl _)
          have hA4 := hp7.apart hS5 (m := 0) rfl
          have hnTWO := hNTWO.len
          refine s_val hS10 rfl rfl (r_move rfl (.t rfl rfl)) ?_
          refine s_val hS10 rfl rfl (r_extract rfl (.t rfl rfl) rfl) ?_
          refine s_val hS10 rfl rfl (r_extract rfl (.t rfl rfl) rfl) ?_
          refine s_val hS10 rfl rfl (r_assign rfl (.t rfl rfl)) ?_
          refine s_val hS10 rfl rfl (r_assign rfl (.t rfl rfl)) ?_
          refine wpList_nil ?_
          refine x_tn ?_
          refine k_reb [(1, .pointer (some ⟨blk1, 0, none⟩)), (2, .bool false), (3, .slice a1 A.length c1), (4, .slice a2 B.length c2), (6, .int .i64 (((i : Nat) : Int))), (7, .int .i64 (((k % 5000 : Nat) : Int))), (13, .slice a4 TWO.length c7), (14, .int .i64 0)] ⟨rfl, rfl, rfl, rfl, rfl, rfl, rfl, rfl, trivial⟩ fun G16 => ?_
          refine wp_seq ?_
          refine k_reg ?_
          refine s_val hS10 rfl rfl (r_move rfl (.t rfl rfl)) ?_
          refine s_val hS10 rfl rfl (r_move rfl (.t rfl rfl)) ?_
          refine s_call rfl rfl rfl (vs := [.slice a1 A.length c1, .int .i64 (((k % 5000 : Nat) : Int))]) ⟨(.t rfl rfl), (.t rfl rfl), trivial⟩ cb6 (Left_ok w7 a1 c1 A hR13 hNA (k % 5000) (by omega)) ?_
          rintro v6 w8 hp8
          obtain ⟨htX, X, _, rfl, hp8, hNX, hlX⟩ := hp8.fits (shift_fit hbA (by omega))
          obtain ⟨a5, c8, rfl, hR15, -, hT7⟩ := id hp8
          have hW5 := Ow.from_ hS10 hp8
          have hS12 := hS10.keep hT7
          have hR16 := hR13.below hT7.toBelow (Nat.le_refl _)
          have hR17 := hR14.below hT7.toBelow (Nat.le_refl _)
          have hR18 := hR12.below hT7.toBelow (Nat.le_refl _)
          have hW6 := hW4.later hT7.toBelow
          have hA5 := hp8.apart hS10 (m := 0) rfl
          have hnX := hNX.len
          refine s_val hS12 rfl rfl (r_move rfl (.t rfl rfl)) ?_
          refine s_val hS12 rfl rfl (r_extract rfl (.t rfl rfl) rfl) ?_
          refine s_val hS12 rfl rfl (r_extract rfl (.t rfl rfl) rfl) ?_
          refine s_val hS12 rfl rfl (r_assign rfl (.t rfl rfl)) ?_
          refine s_val hS12 rfl rfl (r_assign rfl (.t rfl rfl)) ?_
          refine wpList_nil ?_
          refine x_tn ?_
          refine k_reb [(1, .pointer (some ⟨blk1, 0, none⟩)), (2, .bool false), (3, .slice a1 A.length c1), (4, .slice a2 B.length c2), (6, .int .i64 (((i : Nat) : Int))), (7, .int .i64 (((k % 5000 : Nat) : Int))), (13, .slice a4 TWO.length c7), (14, .int .i64 0), (15, .slice a5 X.length c8), (16, .int .i64 0)] ⟨rfl, rfl, rfl, rfl, rfl, rfl, rfl, rfl, rfl, rfl, trivial⟩ fun G17 => ?_
          refine wp_seq ?_
          refine k_reg ?_
          refine s_val hS12 rfl rfl (r_move rfl (.t rfl rfl)) ?_
          refine s_val hS12 rfl rfl (r_move rfl (.t rfl rfl)) ?_
          refine s_call rfl rfl rfl (vs := [.slice a5 X.length c8, .int .i64 (((k % 5000 : Nat) : Int))]) ⟨(.t rfl rfl), (.t rfl rfl), trivial⟩ cb7 (Right_ok w8 (rd_st hS12 hG (by simp)) a5 c8 X hR15 hNX (k % 5000) (by omega)) ?_
          rintro v7 w9 ⟨Y, _, rfl, hp9, hNY, hlY⟩
          obtain ⟨a6, c9, rfl, hR19, -, hT8⟩ := id hp9
          have hW7 := Ow.from_ hS12 hp9
          have hS13 := hS12.keep hT8
          have hR20 := hR16.below hT8.toBelow (Nat.le_refl _)
          have hR21 := hR17.below hT8.toBelow (Nat.le_refl _)
          have hR22 := hR18.below hT8.toBelow (Nat.le_refl _)
          have hR23 := hR15.below hT8.toBelow (Nat.le_refl _)
          have hW8 := hW6.later hT8.toBelow
          have hW9 := hW5.later hT8.toBelow
          have hA6 := hp9.apart hS12 (m := 0) rfl
          have hnY := hNY.len
          rw [decide_eq_false ((by rw [hlX, Nat.mul_mod_left]; simp))]
          refine s_val hS13 rfl rfl (r_move rfl (.t rfl rfl)) ?_
          refine s_val hS13 rfl rfl (r_extract rfl (.t rfl rfl) rfl) ?_
          refine s_val hS13 rfl rfl (r_extract rfl (.t rfl rfl) rfl) ?_
          refine s_val hS13 rfl rfl (r_extract rfl (.t rfl rfl) rfl) ?_
          refine s_val hS13 rfl rfl (r_assign rfl (.t rfl rfl)) ?_
          refine s_val hS13 rfl rfl (r_assign rfl (.t rfl rfl)) ?_
          refine s_val hS13 rfl rfl (r_assign rfl (.t rfl rfl)) ?_
          refine wpList_nil ?_
          refine x_tn ?_
          refine k_reb [(1, .pointer (some ⟨blk1, 0, none⟩)), (2, .bool false), (3, .slice a1 A.length c1), (4, .slice a2 B.length c2), (6, .int .i64 (((i : Nat) : Int))), (7, .int .i64 (((k % 5000 : Nat) : Int))), (13, .slice a4 TWO.length c7), (14, .int .i64 0), (15, .slice a5 X.length c8), (16, .int .i64 0), (17, .slice a6 Y.length c9), (18, .bool false), (19, .int .i64 0)] ⟨rfl, rfl, rfl, rfl, rfl, rfl, rfl, rfl, rfl, rfl, rfl, rfl, rfl, trivial⟩ fun G18 => ?_
          refine wp_seq ?_
          refine wp_seq ?_
          refine k_reg ?_
          refine s_val hS13 rfl rfl (r_move rfl (.t rfl rfl)) ?_
          refine s_call rfl rfl rfl (vs := [.int .i64 0]) ⟨(.t rfl rfl), trivial⟩ cb8 (num_ok w9 0) ?_
          rintro _ w9 ⟨rfl, rfl⟩
          refine s_val hS13 rfl rfl (r_cmp_f rfl rfl (.t rfl rfl) .c (show ¬ (¬ 0 = 0) from by omega)) ?_
          refine s_val hS13 rfl rfl (r_move rfl (.t rfl rfl)) ?_
          refine s_valg hS13 (wanted_of (j := 3) (b := false) (d := 95) rfl rfl rfl rfl) rfl (r_move rfl (.t rfl rfl)) ?_
          refine s_callg (wanted_of (j := 3) (b := false) (d := 95) rfl rfl rfl rfl) rfl rfl (vs := [.int .i64 0]) ⟨(.t rfl rfl), trivial⟩ cb8 (num_ok w9 0) ?_
          rintro _ w9 ⟨rfl, rfl⟩
          refine s_valg hS13 (wanted_of (j := 3) (b := false) (d := 95) rfl rfl rfl rfl) rfl (r_cmp_f rfl rfl (.t rfl rfl) .c (show ¬ (¬ 0 = 0) from by omega)) ?_
          refine s_val hS13 rfl rfl (r_pick rfl (.t rfl rfl) (.t rfl rfl)) ?_
          refine s_val hS13 rfl rfl (r_move rfl (.t rfl rfl)) ?_
          refine s_valg hS13 (wanted_of (j := 8) (b := false) (d := 100) rfl rfl rfl rfl) rfl (r_move rfl (.t rfl rfl)) ?_
          refine s_callg (wanted_of (j := 8) (b := false) (d := 100) rfl rfl rfl rfl) rfl rfl (vs := [.int .i64 0]) ⟨(.t rfl rfl), trivial⟩ cb8 (num_ok w9 0) ?_
          rintro _ w9 ⟨rfl, rfl⟩
          refine s_valg hS13 (wanted_of (j := 8) (b := false) (d := 100) rfl rfl rfl rfl) rfl (r_cmp_f rfl rfl (.t rfl rfl) .c (show ¬ (¬ 0 = 0) from by omega)) ?_
          refine s_val hS13 rfl rfl (r_pick rfl (.t rfl rfl) (.t rfl rfl)) ?_
          refine s_val hS13 rfl rfl (r_move rfl (.t rfl rfl)) ?_
          refine s_valg hS13 (wanted_of (j := 13) (b := false) (d := 105) rfl rfl rfl rfl) rfl (r_move rfl (.t rfl rfl)) ?_
          refine s_val hS13 rfl rfl (r_pick rfl (.t rfl rfl) (.t rfl rfl)) ?_
          refine s_val hS13 rfl rfl (r_move rfl (.t rfl rfl)) ?_
          refine s_valg hS13 (wanted_of (j := 16) (b := false) (d := 108) rfl rfl rfl rfl) rfl (r_move rfl (.t rfl rfl)) ?_
          refine s_valg hS13 (wanted_of (j := 16) (b := false) (d := 108) rfl rfl rfl rfl) rfl (r_move rfl (.t rfl rfl)) ?_
          refine s_valg hS13 (wanted_of (j := 16) (b := false) (d := 108) rfl rfl rfl rfl) rfl (r_move rfl (.t rfl rfl)) ?_
          refine s_callg (wanted_of (j := 16) (b := false) (d := 108) rfl rfl rfl rfl) rfl rfl (vs := [.slice a1 A.length c1, .slice a4 TWO.length c7]) ⟨(.t rfl rfl), (.t rfl rfl), trivial⟩ cb12 (lmul_ok w9 a1 c1 A hR20 a4 c7 TWO hR22 hNA hNTWO (by simp only [hlTWO, hlX]; exact shift_fit hbA (by omega))) ?_
          intro v8 w10 hp10
          obtain ⟨N1, hp10, ⟨hNN1, hlN1⟩⟩ := hp10
          obtain ⟨a7, c10, rfl, hR24, -, hT9⟩ := id hp10
          have hW10 := Ow.from_ hS13 hp10
          have hS14 := hS13.keep hT9
          have hR25 := hR20.below hT9.toBelow (Nat.le_refl _)
          have hR26 := hR21.below hT9.toBelow (Nat.le_refl _)
          have hR27 := hR22.below hT9.toBelow (Nat.le_refl _)
          have hR28 := hR23.below hT9.toBelow (Nat.le_refl _)
          have hR29 := hR19.below hT9.toBelow (Nat.le_refl _)
          have hW11 := hW8.later hT9.toBelow
          have hW12 := hW9.later hT9.toBelow
          have hW13 := hW7.later hT9.toBelow
          have hA7 := hp10.apart hS13 (m := 0) rfl
          have hnN1 := hNN1.len
          refine s_callg (wanted_of (j := 16) (b := false) (d := 108) rfl rfl rfl rfl) rfl rfl (vs := [.slice a5 X.length c8, .slice a7 N1.length c10]) ⟨(.t rfl rfl), (.t rfl rfl), trivial⟩ cb11 (eq_ok w10 a5 c8 X hR28 a7 c10 N1 hR24 hNX hNN1) ?_
          rintro _ w11 ⟨⟨hc1, rfl⟩ | ⟨hc1, rfl⟩, hB5⟩
          rotate_left
          · exact absurd ((by (try simp only [hlTWO, hlX, hlN1, lv_nil, Nat.mul_zero, Nat.add_zero]) <;> (first | rfl | omega | grind))) hc1
          have hS15 := hS14.keep hB5
          replace hB5 := hB5.toBelow
          have hR30 := hR25.below hB5 (Nat.le_refl _)
          have hR31 := hR26.below hB5 (Nat.le_refl _)
          have hR32 := hR27.below hB5 (Nat.le_refl _)
          have hR33 := hR28.below hB5 (Nat.le_refl _)
          have hR34 := hR29.below hB5 (Nat.le_refl _)
          have hR35 := hR24.below hB5 (Nat.le_refl _)
          have hW14 := hW11.later hB5
          have hW15 := hW12.later hB5
          have hW16 := hW13.later hB5
          have hW17 := hW10.later hB5
          refine s_valg hS15 (wanted_of (j := 16) (b := false) (d := 108) rfl rfl rfl rfl) rfl (r_lnot rfl (.t rfl rfl)) ?_
          refine s_val hS15 rfl rfl (r_pick rfl (.t rfl rfl) (.t rfl rfl)) ?_
          refine s_val hS15 rfl rfl (r_move rfl (.t rfl rfl)) ?_
          refine s_valg hS15 (wanted_of (j := 24) (b := false) (d := 116) rfl rfl rfl rfl) rfl (r_move rfl (.t rfl rfl)) ?_
          refine s_valg hS15 (wanted_of (j := 24) (b := false) (d := 116) rfl rfl rfl rfl) rfl (r_move rfl (.t rfl rfl)) ?_
          refine s_callg (wanted_of (j := 24) (b := false) (d := 116) rfl rfl rfl rfl) rfl rfl (vs := [.slice a6 Y.length c9, .slice a1 A.length c1]) ⟨(.t rfl rfl), (.t rfl rfl), trivial⟩ cb11 (eq_ok w11 a6 c9 Y hR34 a1 c1 A hR30 hNY hNA) ?_
          rintro _ w12 ⟨⟨hc2, rfl⟩ | ⟨hc2, rfl⟩, hB6⟩
          rotate_left
          · exact absurd ((by rw [hlY, hlX]; exact Nat.mul_div_cancel _ (Nat.pow_pos (by omega)))) hc2
          have hS16 := hS15.keep hB6
          replace hB6 := hB6.toBelow
          have hR36 := hR30.below hB6 (Nat.le_refl _)
          have hR37 := hR31.below hB6 (Nat.le_refl _)
          have hR38 := hR32.below hB6 (Nat.le_refl _)
          have hR39 := hR33.below hB6 (Nat.le_refl _)
          have hR40 := hR34.below hB6 (Nat.le_refl _)
          have hR41 := hR35.below hB6 (Nat.le_refl _)
          have hW18 := hW14.later hB6
          have hW19 := hW15.later hB6
          have hW20 := hW16.later hB6
          have hW21 := hW17.later hB6
          refine s_valg hS16 (wanted_of (j := 24) (b := false) (d := 116) rfl rfl rfl rfl) rfl (r_lnot rfl (.t rfl rfl)) ?_
          refine s_val hS16 rfl rfl (r_pick rfl (.t rfl rfl) (.t rfl rfl)) ?_
          refine s_val hS16 rfl rfl (r_move rfl (.t rfl rfl)) ?_
          refine s_valg hS16 (wanted_of (j := 30) (b := false) (d := 122) rfl rfl rfl rfl) rfl (r_move rfl (.t rfl rfl)) ?_
          refine s_callg (wanted_of (j := 30) (b := false) (d := 122) rfl rfl rfl rfl) rfl rfl (vs := [.slice a4 TWO.length c7]) ⟨(.t rfl rfl), trivial⟩ cb13 (Len_ok w12 a4 c7 TWO hR38 hNTWO) ?_
          intro v9 w13 hp11
          obtain ⟨hp11, hB7⟩ := hp11
          have hS17 := hS16.keep hB7
          replace hB7 := hB7.toBelow
          have hR42 := hR36.below hB7 (Nat.le_refl _)
          have hR43 := hR37.below hB7 (Nat.le_refl _)
          have hR44 := hR38.below hB7 (Nat.le_refl _)
          have hR45 := hR39.below hB7 (Nat.le_refl _)
          have hR46 := hR40.below hB7 (Nat.le_refl _)
          have hR47 := hR41.below hB7 (Nat.le_refl _)
          have hW22 := hW18.later hB7
          have hW23 := hW19.later hB7
          have hW24 := hW20.later hB7
          have hW25 := hW21.later hB7
          obtain rfl := hp11
          refine s_valg hS17 (wanted_of (j := 30) (b := false) (d := 122) rfl rfl rfl rfl) rfl (r_move rfl (.t rfl rfl)) ?_
          refine s_valg hS17 (wanted_of (j := 30) (b := false) (d := 122) rfl rfl rfl rfl) rfl (r_arith rfl rfl (.t rfl rfl) .c (c := (((k % 5000) + 1 : Nat) : Int)) (wn_i64 (by show (((k % 5000 : Nat) : Int) : Int) + 1 = _; omega) (by omega))) ?_
          refine s_valg hS17 (wanted_of (j := 30) (b := false) (d := 122) rfl rfl rfl rfl) rfl (r_cmp_f rfl rfl (.t rfl rfl) (.t rfl rfl) (show ¬ (¬ ((bl (lv TWO) : Nat) : Int) = (((k % 5000) + 1 : Nat) : Int)) from (by rw [hlTWO, bl_two]; omega))) ?_
          refine s_val hS17 rfl rfl (r_pick rfl (.t rfl rfl) (.t rfl rfl)) ?_
          refine s_val hS17 rfl rfl (r_move rfl (.t rfl rfl)) ?_
          refine s_valg hS17 (wanted_of (j := 37) (b := false) (d := 129) rfl rfl rfl rfl) rfl (r_move rfl (.t rfl rfl)) ?_
          refine s_callg (wanted_of (j := 37) (b := false) (d := 129) rfl rfl rfl rfl) rfl rfl (vs := [.slice a4 TWO.length c7]) ⟨(.t rfl rfl), trivial⟩ cb14 (Low_ok w13 (rd_st hS17 hG (by simp)) a4 c7 TWO hR44 hNTWO) ?_
          rintro _ w14 ⟨k1, rfl, hk1l, hk1v, hB8⟩
          have hS18 := hS17.keep hB8
          replace hB8 := hB8.toBelow
          have hR48 := hR42.below hB8 (Nat.le_refl _)
          have hR49 := hR43.below hB8 (Nat.le_refl _)
          have hR50 := hR44.below hB8 (Nat.le_refl _)
          have hR51 := hR45.below hB8 (Nat.le_refl _)
          have hR52 := hR46.below hB8 (Nat.le_refl _)
          have hR53 := hR47.below hB8 (Nat.le_refl _)
          have hW26 := hW22.later hB8
          have hW27 := hW23.later hB8
          have hW28 := hW24.later hB8
          have hW29 := hW25.later hB8
          refine s_valg hS18 (wanted_of (j := 37) (b := false) (d := 129) rfl rfl rfl rfl) rfl (r_move rfl (.t rfl rfl)) ?_
          have hk1 : k1 = k % 5000 := by
            rcases hk1v with h | h
            · rw [hlTWO] at h; have := Nat.pow_pos (n := k % 5000) (show 0 < 2 by omega); omega
            · rw [hlTWO] at h; exact lowest_uniq h.2 (lowest_two _)
          clear hk1v
          refine s_valg hS18 (wanted_of (j := 37) (b := false) (d := 129) rfl rfl rfl rfl) rfl (r_cmp_f rfl rfl (.t rfl rfl) (.t rfl rfl) (show ¬ (¬ ((k1 : Nat) : Int) = ((k % 5000 : Nat) : Int)) from (by omega))) ?_
          refine s_val hS18 rfl rfl (r_pick rfl (.t rfl rfl) (.t rfl rfl)) ?_
          refine wpList_nil ?_
          refine x_tn ?_
          refine k_reb [(1, .pointer (some ⟨blk1, 0, none⟩)), (2, .bool false), (3, .slice a1 A.length c1), (4, .slice a2 B.length c2), (6, .int .i64 (((i : Nat) : Int))), (7, .int .i64 (((k % 5000 : Nat) : Int))), (13, .slice a4 TWO.length c7), (14, .int .i64 0), (15, .slice a5 X.length c8), (16, .int .i64 0), (17, .slice a6 Y.length c9), (18, .bool false), (134, .bool false)] ⟨rfl, rfl, rfl, rfl, rfl, rfl, rfl, rfl, rfl, rfl, rfl, rfl, rfl, trivial⟩ fun G19 => ?_
          refine k_f (.t rfl rfl) ?_
          refine wp_skip ?_
          refine x_tn ?_
          refine k_reb [(1, .pointer (some ⟨blk1, 0, none⟩)), (2, .bool false), (3, .slice a1 A.length c1), (4, .slice a2 B.length c2), (6, .int .i64 (((i : Nat) : Int))), (7, .int .i64 (((k % 5000 : Nat) : Int))), (13, .slice a4 TWO.length c7), (14, .int .i64 0), (15, .slice a5 X.length c8), (16, .int .i64 0), (17, .slice a6 Y.length c9), (18, .bool false)] ⟨rfl, rfl, rfl, rfl, rfl, rfl, rfl, rfl, rfl, rfl, rfl, rfl, trivial⟩ fun G20 => ?_
          refine wp_seq ?_
          refine k_reg ?_
          refine s_val hS18 rfl rfl (r_move rfl (.t rfl rfl)) ?_
          refine s_val hS18 rfl rfl (r_move rfl (.t rfl rfl)) ?_
          refine s_call rfl rfl rfl (vs := [.slice a2 B.length c2, .slice a4 TWO.length c7]) ⟨(.t rfl rfl), (.t rfl rfl), trivial⟩ cb15 (DivMod_ok w14 a2 c2 B hR49 a4 c7 TWO hR50 hNB hNTWO (by rw [hlTWO]; exact Nat.pow_pos (by omega))) ?_
          rintro v10 w15 ⟨Q, R, _, _, rfl, hp12, hq1, hNQ, hNR, hlQ, hlR⟩
          obtain ⟨a8, c11, rfl, hR54, -, hT10⟩ := id hp12
          have hW30 := Ow.from_ hS18 hp12
          have hS19 := hS18.keep hT10
          have hR55 := hR48.below hT10.toBelow (Nat.le_refl _)
          have hR56 := hR49.below hT10.toBelow (Nat.le_refl _)
          have hR57 := hR50.below hT10.toBelow (Nat.le_refl _)
          have hR58 := hR51.below hT10.toBelow (Nat.le_refl _)
          have hR59 := hR52.below hT10.toBelow (Nat.le_refl _)
          have hW31 := hW26.later hT10.toBelow
          have hW32 := hW27.later hT10.toBelow
          have hW33 := hW28.later hT10.toBelow
          have hW34 := hW29.later hT10.toBelow
          have hA8 := hp12.apart hS18 (m := 0) rfl
          obtain ⟨a9, c12, rfl, hR60, -, hT11⟩ := id hq1
          have hW35 := Ow.from_ hS18 hq1
          have hA9 := hq1.apart hS18 (m := 0) rfl
          have hnQ := hNQ.len
          have hnR := hNR.len
          refine s_val hS19 rfl rfl (r_move rfl (.t rfl rfl)) ?_
          refine s_val hS19 rfl rfl (r_extract rfl (.t rfl rfl) rfl) ?_
          refine s_val hS19 rfl rfl (r_extract rfl (.t rfl rfl) rfl) ?_
          refine s_val hS19 rfl rfl (r_extract rfl (.t rfl rfl) rfl) ?_
          refine s_val hS19 rfl rfl (r_assign rfl (.t rfl rfl)) ?_
          refine s_val hS19 rfl rfl (r_assign rfl (.t rfl rfl)) ?_
          refine s_val hS19 rfl rfl (r_assign rfl (.t rfl rfl)) ?_
          refine wpList_nil ?_
          refine x_tn ?_
          refine k_reb [(1, .pointer (some ⟨blk1, 0, none⟩)), (2, .bool false), (3, .slice a1 A.length c1), (4, .slice a2 B.length c2), (6, .int .i64 (((i : Nat) : Int))), (7, .int .i64 (((k % 5000 : Nat) : Int))), (14, .int .i64 0), (15, .slice a5 X.length c8), (16, .int .i64 0), (17, .slice a6 Y.length c9), (18, .bool false), (20, .slice a8 Q.length c11), (21, .slice a9 R.length c12)] ⟨rfl, rfl, rfl, rfl, rfl, rfl, rfl, rfl, rfl, rfl, rfl, rfl, rfl, trivial⟩ fun G21 => ?_
          refine wp_seq ?_
          refine k_reg ?_
          refine s_val hS19 rfl rfl (r_move rfl (.t rfl rfl)) ?_
          refine s_val hS19 rfl rfl (r_move rfl (.t rfl rfl)) ?_
          refine s_call rfl rfl rfl (vs := [.slice a2 B.length c2, .int .i64 (((k % 5000 : Nat) : Int))]) ⟨(.t rfl rfl), (.t rfl rfl), trivial⟩ cb7 (Right_ok w15 (rd_st hS19 hG (by simp)) a2 c2 B hR56 hNB (k % 5000) (by omega)) ?_
          rintro v11 w16 ⟨YB, _, rfl, hp13, hNYB, hlYB⟩
          obtain ⟨a10, c13, rfl, hR61, -, hT12⟩ := id hp13
          have hW36 := Ow.from_ hS19 hp13
          have hS21 := hS19.keep hT12
          have hR62 := hR55.below hT12.toBelow (Nat.le_refl _)
          have hR63 := hR56.below hT12.toBelow (Nat.le_refl _)
          have hR64 := hR58.below hT12.toBelow (Nat.le_refl _)
          have hR65 := hR59.below hT12.toBelow (Nat.le_refl _)
          have hR66 := hR54.below hT12.toBelow (Nat.le_refl _)
          have hR67 := hR60.below hT12.toBelow (Nat.le_refl _)
          have hW37 := hW31.later hT12.toBelow
          have hW38 := hW32.later hT12.toBelow
          have hW39 := hW33.later hT12.toBelow
          have hW40 := hW34.later hT12.toBelow
          have hW41 := hW30.later hT12.toBelow
          have hW42 := hW35.later hT12.toBelow
          have hA10 := hp13.apart hS19 (m := 0) rfl
          have hnYB := hNYB.len
          refine s_val hS21 rfl rfl (r_move rfl (.t rfl rfl)) ?_
          refine s_val hS21 rfl rfl (r_extract rfl (.t rfl rfl) rfl) ?_
          refine s_val hS21 rfl rfl (r_extract rfl (.t rfl rfl) rfl) ?_
          refine s_val hS21 rfl rfl (r_extract rfl (.t rfl rfl) rfl) ?_
          refine s_val hS21 rfl rfl (r_assign rfl (.t rfl rfl)) ?_
          refine s_val hS21 rfl rfl (r_assign rfl (.t rfl rfl)) ?_
          refine s_val hS21 rfl rfl (r_assign rfl (.t rfl rfl)) ?_
          refine wpList_nil ?_
          refine x_tn ?_
          refine k_reb [(1, .pointer (some ⟨blk1, 0, none⟩)), (2, .bool false), (3, .slice a1 A.length c1), (4, .slice a2 B.length c2), (6, .int .i64 (((i : Nat) : Int))), (7, .int .i64 (((k % 5000 : Nat) : Int))), (14, .int .i64 0), (15, .slice a5 X.length c8), (16, .int .i64 0), (17, .slice a10 YB.length c13), (18, .bool (decide (lv B % 2 ^ (k % 5000) ≠ 0))), (20, .slice a8 Q.length c11), (21, .slice a9 R.length c12)] ⟨rfl, rfl, rfl, rfl, rfl, rfl, rfl, rfl, rfl, rfl, rfl, rfl, rfl, trivial⟩ fun G22 => ?_
          refine wp_seq ?_
          refine wp_seq ?_
          refine k_reg ?_
          refine s_val hS21 rfl rfl (r_move rfl (.t rfl rfl)) ?_
          refine s_call rfl rfl rfl (vs := [.int .i64 0]) ⟨(.t rfl rfl), trivial⟩ cb8 (num_ok w16 0) ?_
          rintro _ w16 ⟨rfl, rfl⟩
          refine s_val hS21 rfl rfl (r_cmp_f rfl rfl (.t rfl rfl) .c (show ¬ (¬ 0 = 0) from by omega)) ?_
          refine s_val hS21 rfl rfl (r_move rfl (.t rfl rfl)) ?_
          refine s_valg hS21 (wanted_of (j := 3) (b := false) (d := 152) rfl rfl rfl rfl) rfl (r_move rfl (.t rfl rfl)) ?_
          refine s_callg (wanted_of (j := 3) (b := false) (d := 152) rfl rfl rfl rfl) rfl rfl (vs := [.int .i64 0]) ⟨(.t rfl rfl), trivial⟩ cb8 (num_ok w16 0) ?_
          rintro _ w16 ⟨rfl, rfl⟩
          refine s_valg hS21 (wanted_of (j := 3) (b := false) (d := 152) rfl rfl rfl rfl) rfl (r_cmp_f rfl rfl (.t rfl rfl) .c (show ¬ (¬ 0 = 0) from by omega)) ?_
          refine s_val hS21 rfl rfl (r_pick rfl (.t rfl rfl) (.t rfl rfl)) ?_
          refine s_val hS21 rfl rfl (r_move rfl (.t rfl rfl)) ?_
          refine s_valg hS21 (wanted_of (j := 8) (b := false) (d := 157) rfl rfl rfl rfl) rfl (r_move rfl (.t rfl rfl)) ?_
          refine s_valg hS21 (wanted_of (j := 8) (b := false) (d := 157) rfl rfl rfl rfl) rfl (r_move rfl (.t rfl rfl)) ?_
          refine s_callg (wanted_of (j := 8) (b := false) (d := 157) rfl rfl rfl rfl) rfl rfl (vs := [.slice a8 Q.length c11, .slice a10 YB.length c13]) ⟨(.t rfl rfl), (.t rfl rfl), trivial⟩ cb11 (eq_ok w16 a8 c11 Q hR66 a10 c13 YB hR61 hNQ hNYB) ?_
          rintro _ w17 ⟨⟨hc3, rfl⟩ | ⟨hc3, rfl⟩, hB9⟩
          rotate_left
          · exact absurd ((by rw [hlQ, hlTWO, hlYB])) hc3
          have hS22 := hS21.keep hB9
          replace hB9 := hB9.toBelow
          have hR68 := hR62.below hB9 (Nat.le_refl _)
          have hR69 := hR63.below hB9 (Nat.le_refl _)
          have hR70 := hR64.below hB9 (Nat.le_refl _)
          have hR71 := hR61.below hB9 (Nat.le_refl _)
          have hR72 := hR66.below hB9 (Nat.le_refl _)
          have hR73 := hR67.below hB9 (Nat.le_refl _)
          have hW43 := hW37.later hB9
          have hW44 := hW38.later hB9
          have hW45 := hW39.later hB9
          have hW46 := hW40.later hB9
          have hW47 := hW41.later hB9
          have hW48 := hW42.later hB9
          have hW49 := hW36.later hB9
          refine s_valg hS22 (wanted_of (j := 8) (b := false) (d := 157) rfl rfl rfl rfl) rfl (r_lnot rfl (.t rfl rfl)) ?_
          refine s_val hS22 rfl rfl (r_pick rfl (.t rfl rfl) (.t rfl rfl)) ?_
          refine s_val hS22 rfl rfl (r_move rfl (.t rfl rfl)) ?_
          refine s_valg hS22 (wanted_of (j := 14) (b := false) (d := 163) rfl rfl rfl rfl) rfl (r_move rfl (.t rfl rfl)) ?_
          refine s_valg hS22 (wanted_of (j := 14) (b := false) (d := 163) rfl rfl rfl rfl) rfl (r_move rfl (.t rfl rfl)) ?_
          refine s_valg hS22 (wanted_of (j := 14) (b := false) (d := 163) rfl rfl rfl rfl) rfl (r_len rfl rfl Tryd.underlying27 (.t rfl rfl)) ?_
          refine s_valg hS22 (wanted_of (j := 14) (b := false) (d := 163) rfl rfl rfl rfl) rfl (r_cmp_d (p := R.length > 0) rfl rfl (.t rfl rfl) .c (by show _ ↔ ((R.length : Nat) : Int) > 0; omega)) ?_
          refine s_valg hS22 (wanted_of (j := 14) (b := false) (d := 163) rfl rfl rfl rfl) rfl (r_neb_k rfl Tryd.underlying4 (.t rfl rfl) (.t rfl rfl) (r := false) (ne_dec (by rw [← nm_pos hNR, hlR, hlTWO]))) ?_
          refine s_val hS22 rfl rfl (r_pick rfl (.t rfl rfl) (.t rfl rfl)) ?_
          refine s_val hS22 rfl rfl (r_move rfl (.t rfl rfl)) ?_
          refine s_valg hS22 (wanted_of (j := 21) (b := false) (d := 170) rfl rfl rfl rfl) rfl (r_move rfl (.t rfl rfl)) ?_
          refine s_valg hS22 (wanted_of (j := 21) (b := false) (d := 170) rfl rfl rfl rfl) rfl (r_move rfl (.t rfl rfl)) ?_
          refine s_callg (wanted_of (j := 21) (b := false) (d := 170) rfl rfl rfl rfl) rfl rfl (vs := [.slice a2 B.length c2, .int .i64 (((k % 5000 : Nat) : Int))]) ⟨(.t rfl rfl), (.t rfl rfl), trivial⟩ cb9 (Bit_ok w17 a2 c2 B hR69 hNB (k % 5000) (by omega)) ?_
          intro v12 w18 hp14
          obtain ⟨hp14, hB10⟩ := hp14
          have hS23 := hS22.keep hB10
          replace hB10 := hB10.toBelow
          have hR74 := hR68.below hB10 (Nat.le_refl _)
          have hR75 := hR69.below hB10 (Nat.le_refl _)
          have hR76 := hR70.below hB10 (Nat.le_refl _)
          have hR77 := hR71.below hB10 (Nat.le_refl _)
          have hR78 := hR72.below hB10 (Nat.le_refl _)
          have hR79 := hR73.below hB10 (Nat.le_refl _)
          have hW50 := hW43.later hB10
          have hW51 := hW44.later hB10
          have hW52 := hW45.later hB10
          have hW53 := hW46.later hB10
          have hW54 := hW47.later hB10
          have hW55 := hW48.later hB10
          have hW56 := hW49.later hB10
          obtain rfl := hp14
          refine s_valg hS23 (wanted_of (j := 21) (b := false) (d := 170) rfl rfl rfl rfl) rfl (r_move rfl (.t rfl rfl)) ?_
          refine s_valg hS23 (wanted_of (j := 21) (b := false) (d := 170) rfl rfl rfl rfl) rfl (r_len rfl rfl Tryd.underlying27 (.t rfl rfl)) ?_
          by_cases cQ : Q.length > 0
          · refine s_valg hS23 (wanted_of (j := 21) (b := false) (d := 170) rfl rfl rfl rfl) rfl (r_cmp_t rfl rfl (.t rfl rfl) .c (show ((Q.length : Nat) : Int) > 0 from by omega)) ?_
            refine s_valg hS23 (wanted_of (j := 21) (b := false) (d := 170) rfl rfl rfl rfl) rfl (r_move rfl (.t rfl rfl)) ?_
            refine s_valg hS23 (wanted_of (j := 28) (b := true) (d := 177) rfl rfl rfl rfl) rfl (r_move rfl (.t rfl rfl)) ?_
            refine s_valg hS23 (wanted_of (j := 28) (b := true) (d := 177) rfl rfl rfl rfl) rfl (r_ixr (j := 0) rfl Tryd.underlying27 ti38 (.t rfl rfl) .c hR78 rfl rfl (by omega)) ?_
            have b1 : Q.getD 0 0 ≤ 4294967295 := hR78.lt _
            refine s_valg (C := fun x => x = w18) rfl (wanted_of (j := 28) (b := true) (d := 177) rfl rfl rfl rfl) rfl (r_load rfl one38 (.t rfl rfl) (Rd.cell_now hR78 (by omega))) ?_
            refine s_valg hS23 (wanted_of (j := 28) (b := true) (d := 177) rfl rfl rfl rfl) rfl (r_rem (b := ((2 : Nat) : Int)) rfl (.t rfl rfl) .c (nz_nat (by omega)) (c := (((Q.getD 0 0) % 2 : Nat) : Int)) tmod_nat) ?_
            refine s_valg hS23 (wanted_of (j := 28) (b := true) (d := 177) rfl rfl rfl rfl) rfl (r_cmp_d (p := (Q.getD 0 0) % 2 = 1) rfl rfl (.t rfl rfl) .c (by show _ ↔ (((Q.getD 0 0) % 2 : Nat) : Int) = 1; omega)) ?_
            refine s_valg hS23 (wanted_of (j := 21) (b := false) (d := 170) rfl rfl rfl rfl) rfl (r_pick rfl (.t rfl rfl) (.t rfl rfl)) ?_
            refine s_valg hS23 (wanted_of (j := 21) (b := false) (d := 170) rfl rfl rfl rfl) rfl (r_neb_k rfl Tryd.underlying4 (.t rfl rfl) (.t rfl rfl) (r := false) (ne_dec (by have := lv_odd Q; rw [hlQ, hlTWO] at this; omega))) ?_
            refine s_val hS23 rfl rfl (r_pick rfl (.t rfl rfl) (.t rfl rfl)) ?_
            refine wpList_nil ?_
            refine x_tn ?_
            refine k_reb [(1, .pointer (some ⟨blk1, 0, none⟩)), (2, .bool false), (3, .slice a1 A.length c1), (4, .slice a2 B.length c2), (6, .int .i64 (((i : Nat) : Int))), (7, .int .i64 (((k % 5000 : Nat) : Int))), (15, .slice a5 X.length c8), (185, .bool false)] ⟨rfl, rfl, rfl, rfl, rfl, rfl, rfl, rfl, trivial⟩ fun G23 => ?_
            refine k_f (.t rfl rfl) ?_
            refine wp_skip ?_
            refine x_tn ?_
            refine k_reb [(1, .pointer (some ⟨blk1, 0, none⟩)), (2, .bool false), (3, .slice a1 A.length c1), (4, .slice a2 B.length c2), (6, .int .i64 (((i : Nat) : Int))), (7, .int .i64 (((k % 5000 : Nat) : Int))), (15, .slice a5 X.length c8)] ⟨rfl, rfl, rfl, rfl, rfl, rfl, rfl, trivial⟩ fun G24 => ?_
            refine wp_seq ?_
            refine k_reg ?_
            refine s_val hS23 rfl rfl (r_move rfl (.t rfl rfl)) ?_
            refine s_val hS23 rfl rfl (r_len rfl rfl Tryd.underlying27 (.t rfl rfl)) ?_
            by_cases cA : A.length > 0
            · refine s_val hS23 rfl rfl (r_cmp_t rfl rfl (.t rfl rfl) .c (show ((A.length : Nat) : Int) > 0 from by omega)) ?_
              refine s_val hS23 rfl rfl (r_move rfl (.t rfl rfl)) ?_
              refine s_valg hS23 (wanted_of (j := 3) (b := true) (d := 189) rfl rfl rfl rfl) rfl (r_move rfl (.t rfl rfl)) ?_
              refine s_callg (wanted_of (j := 3) (b := true) (d := 189) rfl rfl rfl rfl) rfl rfl (vs := [.slice a5 X.length c8]) ⟨(.t rfl rfl), trivial⟩ cb13 (Len_ok w18 a5 c8 X hR76 hNX) ?_
              intro v13 w19 hp15
              obtain ⟨hp15, hB11⟩ := hp15
              have hS24 := hS23.keep hB11
              replace hB11 := hB11.toBelow
              have hR80 := hR74.below hB11 (Nat.le_refl _)
              have hR81 := hR75.below hB11 (Nat.le_refl _)
              have hR82 := hR76.below hB11 (Nat.le_refl _)
              have hW57 := hW50.later hB11
              have hW58 := hW51.later hB11
              have hW59 := hW52.later hB11
              have hW60 := hW53.later hB11
              have hW61 := hW54.later hB11
              have hW62 := hW55.later hB11
              have hW63 := hW56.later hB11
              obtain rfl := hp15
              refine s_valg hS24 (wanted_of (j := 3) (b := true) (d := 189) rfl rfl rfl rfl) rfl (r_move rfl (.t rfl rfl)) ?_
              refine s_callg (wanted_of (j := 3) (b := true) (d := 189) rfl rfl rfl rfl) rfl rfl (vs := [.slice a1 A.length c1]) ⟨(.t rfl rfl), trivial⟩ cb13 (Len_ok w19 a1 c1 A hR80 hNA) ?_
              intro v14 w20 hp16
              obtain ⟨hp16, hB12⟩ := hp16
              have hS25 := hS24.keep hB12
              replace hB12 := hB12.toBelow
              have hR83 := hR80.below hB12 (Nat.le_refl _)
              have hR84 := hR81.below hB12 (Nat.le_refl _)
              have hR85 := hR82.below hB12 (Nat.le_refl _)
              have hW64 := hW57.later hB12
              have hW65 := hW58.later hB12
              have hW66 := hW59.later hB12
              have hW67 := hW60.later hB12
              have hW68 := hW61.later hB12
              have hW69 := hW62.later hB12
              have hW70 := hW63.later hB12
              obtain rfl := hp16
              refine s_valg hS25 (wanted_of (j := 3) (b := true) (d := 189) rfl rfl rfl rfl) rfl (r_move rfl (.t rfl rfl)) ?_
              refine s_valg hS25 (wanted_of (j := 3) (b := true) (d := 189) rfl rfl rfl rfl) rfl (r_arith rfl rfl (.t rfl rfl) (.t rfl rfl) (c := (((bl (lv A)) + (k % 5000) : Nat) : Int)) (wn_i64 (by show (((bl (lv A) : Nat) : Int) : Int) + ((k % 5000 : Nat) : Int) = _; omega) (by have := bl_top (nm_lt hNA); omega))) ?_
              refine s_valg hS25 (wanted_of (j := 3) (b := true) (d := 189) rfl rfl rfl rfl) rfl (r_cmp_f rfl rfl (.t rfl rfl) (.t rfl rfl) (show ¬ (¬ ((bl (lv X) : Nat) : Int) = (((bl (lv A)) + (k % 5000) : Nat) : Int)) from (by rw [hlX, bl_mul_two (lv_pos hNA.nz cA)]; omega))) ?_
              refine s_valg hS25 (wanted_of (j := 3) (b := true) (d := 189) rfl rfl rfl rfl) rfl (r_move rfl (.t rfl rfl)) ?_
              refine s_valg hS25 (wanted_of (j := 11) (b := false) (d := 197) rfl rfl rfl rfl) rfl (r_move rfl (.t rfl rfl)) ?_
              refine s_callg (wanted_of (j := 11) (b := false) (d := 197) rfl rfl rfl rfl) rfl rfl (vs := [.slice a5 X.length c8]) ⟨(.t rfl rfl), trivial⟩ cb14 (Low_ok w20 (rd_st hS25 hG (by simp)) a5 c8 X hR85 hNX) ?_
              rintro _ w21 ⟨kX, rfl, hkXl, hkXv, hB13⟩
              have hS26 := hS25.keep hB13
              replace hB13 := hB13.toBelow
              have hR86 := hR83.below hB13 (Nat.le_refl _)
              have hR87 := hR84.below hB13 (Nat.le_refl _)
              have hR88 := hR85.below hB13 (Nat.le_refl _)
              have hW71 := hW64.later hB13
              have hW72 := hW65.later hB13
              have hW73 := hW66.later hB13
              have hW74 := hW67.later hB13
              have hW75 := hW68.later hB13
              have hW76 := hW69.later hB13
              have hW77 := hW70.later hB13
              refine s_valg hS26 (wanted_of (j := 11) (b := false) (d := 197) rfl rfl rfl rfl) rfl (r_move rfl (.t rfl rfl)) ?_
              refine s_callg (wanted_of (j := 11) (b := false) (d := 197) rfl rfl rfl rfl) rfl rfl (vs := [.slice a1 A.length c1]) ⟨(.t rfl rfl), trivial⟩ cb14 (Low_ok w21 (rd_st hS26 hG (by simp)) a1 c1 A hR86 hNA) ?_
              rintro _ w22 ⟨kA, rfl, hkAl, hkAv, hB14⟩
              have hS27 := hS26.keep hB14
              replace hB14 := hB14.toBelow
              have hR89 := hR86.below hB14 (Nat.le_refl _)
              have hR90 := hR87.below hB14 (Nat.le_refl _)
              have hR91 := hR88.below hB14 (Nat.le_refl _)
              have hW78 := hW71.later hB14
              have hW79 := hW72.later hB14
              have hW80 := hW73.later hB14
              have hW81 := hW74.later hB14
              have hW82 := hW75.later hB14
              have hW83 := hW76.later hB14
              have hW84 := hW77.later hB14
              refine s_valg hS27 (wanted_of (j := 11) (b := false) (d := 197) rfl rfl rfl rfl) rfl (r_move rfl (.t rfl rfl)) ?_
              refine s_valg hS27 (wanted_of (j := 11) (b := false) (d := 197) rfl rfl rfl rfl) rfl (r_arith rfl rfl (.t rfl rfl) (.t rfl rfl) (c := ((kA + (k % 5000) : Nat) : Int)) (wn_i64 (by show (((kA : Nat) : Int) : Int) + ((k % 5000 : Nat) : Int) = _; omega) (by omega))) ?_
              refine s_valg hS27 (wanted_of (j := 11) (b := false) (d := 197) rfl rfl rfl rfl) rfl (r_cmp_f rfl rfl (.t rfl rfl) (.t rfl rfl) (show ¬ (¬ ((kX : Nat) : Int) = ((kA + (k % 5000) : Nat) : Int)) from (by rw [hlX] at hkXv; have := low_shift (lv_pos hNA.nz cA) hkXv hkAv; omega))) ?_
              refine s_valg hS27 (wanted_of (j := 3) (b := true) (d := 189) rfl rfl rfl rfl) rfl (r_pick rfl (.t rfl rfl) (.t rfl rfl)) ?_
              refine s_val hS27 rfl rfl (r_pick rfl (.t rfl rfl) (.t rfl rfl)) ?_
              refine wpList_nil ?_
              refine x_tn ?_
              refine k_reb [(1, .pointer (some ⟨blk1, 0, none⟩)), (2, .bool false), (3, .slice a1 A.length c1), (4, .slice a2 B.length c2), (6, .int .i64 (((i : Nat) : Int))), (206, .bool false)] ⟨rfl, rfl, rfl, rfl, rfl, rfl, trivial⟩ fun G25 => ?_
              refine k_f (.t rfl rfl) ?_
              refine wp_skip ?_
              refine x_bn ?_
              refine x_tn ?_
              refine k_reb [(1, .pointer (some ⟨blk1, 0, none⟩)), (2, .bool false), (3, .slice a1 A.length c1), (4, .slice a2 B.length c2), (6, .int .i64 (((i : Nat) : Int)))] ⟨rfl, rfl, rfl, rfl, rfl, trivial⟩ fun G26 => ?_
              refine k_reg ?_
              refine s_val hS27 rfl rfl (r_move rfl (.t rfl rfl)) ?_
              refine s_val hS27 rfl rfl (r_arith rfl rfl (.t rfl rfl) .c (c := ((i + 1 : Nat) : Int)) (wn_i64 (by show (((i : Nat) : Int) : Int) + 1 = _; omega) (by omega))) ?_
              refine s_val hS27 rfl rfl (r_assign rfl (.t rfl rfl)) ?_
              refine wpList_nil ?_
              refine x_tn ?_
              refine ⟨nN - (i + 1), by omega, _, i + 1, fr_reb _ ⟨rfl, rfl, rfl, rfl, rfl, trivial⟩, hS27, ?_⟩
              refine ⟨hR89, hR90, ?_⟩
              exact ⟨by omega, by omega⟩
            · refine s_val hS23 rfl rfl (r_cmp_f rfl rfl (.t rfl rfl) .c (show ¬ (((A.length : Nat) : Int) > 0) from by omega)) ?_
              refine s_val hS23 rfl rfl (r_move rfl (.t rfl rfl)) ?_
              refine s_skip (unwanted_of (j := 3) (b := true) (b' := false) (d := 189) rfl rfl rfl rfl rfl) rfl ?_
              refine s_skip (unwanted_of (j := 3) (b := true) (b' := false) (d := 189) rfl rfl rfl rfl rfl) rfl ?_
              refine s_skip (unwanted_of (j := 3) (b := true) (b' := false) (d := 189) rfl rfl rfl rfl rfl) rfl ?_
              refine s_skip (unwanted_of (j := 3) (b := true) (b' := false) (d := 189) rfl rfl rfl rfl rfl) rfl ?_
              refine s_skip (unwanted_of (j := 3) (b := true) (b' := false) (d := 189) rfl rfl rfl rfl rfl) rfl ?_
              refine s_skip (unwanted_of (j := 3) (b := true) (b' := false) (d := 189) rfl rfl rfl rfl rfl) rfl ?_
              refine s_skip (unwanted_of (j := 3) (b := true) (b' := false) (d := 189) rfl rfl rfl rfl rfl) rfl ?_
              refine s_skip (unwanted_of (j := 3) (b := true) (b' := false) (d := 189) rfl rfl rfl rfl rfl) rfl ?_
              refine s_skip (unwanted_undef (j := 11) (b := false) (d := 197) rfl rfl rfl rfl) rfl ?_
              refine s_skip (unwanted_undef (j := 11) (b := false) (d := 197) rfl rfl rfl rfl) rfl ?_
              refine s_skip (unwanted_undef (j := 11) (b := false) (d := 197) rfl rfl rfl rfl) rfl ?_
              refine s_skip (unwanted_undef (j := 11) (b := false) (d := 197) rfl rfl rfl rfl) rfl ?_
              refine s_skip (unwanted_undef (j := 11) (b := false) (d := 197) rfl rfl rfl rfl) rfl ?_
              refine s_skip (unwanted_undef (j := 11) (b := false) (d := 197) rfl rfl rfl rfl) rfl ?_
              refine s_skip (unwanted_undef (j := 11) (b := false) (d := 197) rfl rfl rfl rfl) rfl ?_
              refine s_skip (unwanted_of (j := 3) (b := true) (b' := false) (d := 189) rfl rfl rfl rfl rfl) rfl ?_
              refine s_val hS23 rfl rfl (r_pick rfl (.t rfl rfl) .c) ?_
              refine wpList_nil ?_
              refine x_tn ?_
              refine k_reb [(1, .pointer (some ⟨blk1, 0, none⟩)), (2, .bool false), (3, .slice a1 A.length c1), (4, .slice a2 B.length c2), (6, .int .i64 (((i : Nat) : Int))), (206, .bool false)] ⟨rfl, rfl, rfl, rfl, rfl, rfl, trivial⟩ fun G27 => ?_
              refine k_f (.t rfl rfl) ?_
              refine wp_skip ?_
              refine x_bn ?_
              refine x_tn ?_
              refine k_reb [(1, .pointer (some ⟨blk1, 0, none⟩)), (2, .bool false), (3, .slice a1 A.length c1), (4, .slice a2 B.length c2), (6, .int .i64 (((i : Nat) : Int)))] ⟨rfl, rfl, rfl, rfl, rfl, trivial⟩ fun G28 => ?_
              refine k_reg ?_
              refine s_val hS23 rfl rfl (r_move rfl (.t rfl rfl)) ?_
              refine s_val hS23 rfl rfl (r_arith rfl rfl (.t rfl rfl) .c (c := ((i + 1 : Nat) : Int)) (wn_i64 (by show (((i : Nat) : Int) : Int) + 1 = _; omega) (by omega))) ?_
              refine s_val hS23 rfl rfl (r_assign rfl (.t rfl rfl)) ?_
              refine wpList_nil ?_
              refine x_tn ?_
              refine ⟨nN - (i + 1), by omega, _, i + 1, fr_reb _ ⟨rfl, rfl, rfl, rfl, rfl, trivial⟩, hS23, ?_⟩
              refine ⟨hR74, hR75, ?_⟩
              exact ⟨by omega, by omega⟩
          · refine s_valg hS23 (wanted_of (j := 21) (b := false) (d := 170) rfl rfl rfl rfl) rfl (r_cmp_f rfl rfl (.t rfl rfl) .c (show ¬ (((Q.length : Nat) : Int) > 0) from by omega)) ?_
            refine s_valg hS23 (wanted_of (j := 21) (b := false) (d := 170) rfl rfl rfl rfl) rfl (r_move rfl (.t rfl rfl)) ?_
            refine s_skip (unwanted_of (j := 28) (b := true) (b' := false) (d := 177) rfl rfl rfl rfl rfl) rfl ?_
            refine s_skip (unwanted_of (j := 28) (b := true) (b' := false) (d := 177) rfl rfl rfl rfl rfl) rfl ?_
            refine s_skip (unwanted_of (j := 28) (b := true) (b' := false) (d := 177) rfl rfl rfl rfl rfl) rfl ?_
            refine s_skip (unwanted_of (j := 28) (b := true) (b' := false) (d := 177) rfl rfl rfl rfl rfl) rfl ?_
            refine s_skip (unwanted_of (j := 28) (b := true) (b' := false) (d := 177) rfl rfl rfl rfl rfl) rfl ?_
            refine s_valg hS23 (wanted_of (j := 21) (b := false) (d := 170) rfl rfl rfl rfl) rfl (r_pick rfl (.t rfl rfl) .c) ?_
            refine s_valg hS23 (wanted_of (j := 21) (b := false) (d := 170) rfl rfl rfl rfl) rfl (r_neb_k rfl Tryd.underlying4 (.t rfl rfl) (.t rfl rfl) (r := false) (ne_dec0 (by rw [← hlTWO, ← hlQ, List.eq_nil_of_length_eq_zero (show Q.length = 0 by omega)]; decide))) ?_
            refine s_val hS23 rfl rfl (r_pick rfl (.t rfl rfl) (.t rfl rfl)) ?_
            refine wpList_nil ?_
            refine x_tn ?_
            refine k_reb [(1, .pointer (some ⟨blk1, 0, none⟩)), (2, .bool false), (3, .slice a1 A.length c1), (4, .slice a2 B.length c2), (6, .int .i64 (((i : Nat) : Int))), (7, .int .i64 (((k % 5000 : Nat) : Int))), (15, .slice a5 X.length c8), (185, .bool false)] ⟨rfl, rfl, rfl, rfl, rfl, rfl, rfl, rfl, trivial⟩ fun G29 => ?_
            refine k_f (.t rfl rfl) ?_
            refine wp_skip ?_
            refine x_tn ?_
            refine k_reb [(1, .pointer (some ⟨blk1, 0, none⟩)), (2, .bool false), (3, .slice a1 A.length c1), (4, .slice a2 B.length c2), (6, .int .i64 (((i : Nat) : Int))), (7, .int .i64 (((k % 5000 : Nat) : Int))), (15, .slice a5 X.length c8)] ⟨rfl, rfl, rfl, rfl, rfl, rfl, rfl, trivial⟩ fun G30 => ?_
            refine wp_seq ?_
            refine k_reg ?_
            refine s_val hS23 rfl rfl (r_move rfl (.t rfl rfl)) ?_
            refine s_val hS23 rfl rfl (r_len rfl rfl Tryd.underlying27 (.t rfl rfl)) ?_
            by_cases cA : A.length > 0
            · refine s_val hS23 rfl rfl (r_cmp_t rfl rfl (.t rfl rfl) .c (show ((A.length : Nat) : Int) > 0 from by omega)) ?_
              refine s_val hS23 rfl rfl (r_move rfl (.t rfl rfl)) ?_
              refine s_valg hS23 (wanted_of (j := 3) (b := true) (d := 189) rfl rfl rfl rfl) rfl (r_move rfl (.t rfl rfl)) ?_
              refine s_callg (wanted_of (j := 3) (b := true) (d := 189) rfl rfl rfl rfl) rfl rfl (vs := [.slice a5 X.length c8]) ⟨(.t rfl rfl), trivial⟩ cb13 (Len_ok w18 a5 c8 X hR76 hNX) ?_
              intro v15 w23 hp17
              obtain ⟨hp17, hB15⟩ := hp17
              have hS28 := hS23.keep hB15
              replace hB15 := hB15.toBelow
              have hR92 := hR74.below hB15 (Nat.le_refl _)
              have hR93 := hR75.below hB15 (Nat.le_refl _)
              have hR94 := hR76.below hB15 (Nat.le_refl _)
              have hW85 := hW50.later hB15
              have hW86 := hW51.later hB15
              have hW87 := hW52.later hB15
              have hW88 := hW53.later hB15
              have hW89 := hW54.later hB15
              have hW90 := hW55.later hB15
              have hW91 := hW56.later hB15
              obtain rfl := hp17
              refine s_valg hS28 (wanted_of (j := 3) (b := true) (d := 189) rfl rfl rfl rfl) rfl (r_move rfl (.t rfl rfl)) ?_
              refine s_callg (wanted_of (j := 3) (b := true) (d := 189) rfl rfl rfl rfl) rfl rfl (vs := [.slice a1 A.length c1]) ⟨(.t rfl rfl), trivial⟩ cb13 (Len_ok w23 a1 c1 A hR92 hNA) ?_
              intro v16 w24 hp18
              obtain ⟨hp18, hB16⟩ := hp18
              have hS29 := hS28.keep hB16
              replace hB16 := hB16.toBelow
              have hR95 := hR92.below hB16 (Nat.le_refl _)
              have hR96 := hR93.below hB16 (Nat.le_refl _)
              have hR97 := hR94.below hB16 (Nat.le_refl _)
              have hW92 := hW85.later hB16
              have hW93 := hW86.later hB16
              have hW94 := hW87.later hB16
              have hW95 := hW88.later hB16
              have hW96 := hW89.later hB16
              have hW97 := hW90.later hB16
              have hW98 := hW91.later hB16
              obtain rfl := hp18
              refine s_valg hS29 (wanted_of (j := 3) (b := true) (d := 189) rfl rfl rfl rfl) rfl (r_move rfl (.t rfl rfl)) ?_
              refine s_valg hS29 (wanted_of (j := 3) (b := true) (d := 189) rfl rfl rfl rfl) rfl (r_arith rfl rfl (.t rfl rfl) (.t rfl rfl) (c := (((bl (lv A)) + (k % 5000) : Nat) : Int)) (wn_i64 (by show (((bl (lv A) : Nat) : Int) : Int) + ((k % 5000 : Nat) : Int) = _; omega) (by have := bl_top (nm_lt hNA); omega))) ?_
              refine s_valg hS29 (wanted_of (j := 3) (b := true) (d := 189) rfl rfl rfl rfl) rfl (r_cmp_f rfl rfl (.t rfl rfl) (.t rfl rfl) (show ¬ (¬ ((bl (lv X) : Nat) : Int) = (((bl (lv A)) + (k % 5000) : Nat) : Int)) from (by rw [hlX, bl_mul_two (lv_pos hNA.nz cA)]; omega))) ?_
              refine s_valg hS29 (wanted_of (j := 3) (b := true) (d := 189) rfl rfl rfl rfl) rfl (r_move rfl (.t rfl rfl)) ?_
              refine s_valg hS29 (wanted_of (j := 11) (b := false) (d := 197) rfl rfl rfl rfl) rfl (r_move rfl (.t rfl rfl)) ?_
              refine s_callg (wanted_of (j := 11) (b := false) (d := 197) rfl rfl rfl rfl) rfl rfl (vs := [.slice a5 X.length c8]) ⟨(.t rfl rfl), trivial⟩ cb14 (Low_ok w24 (rd_st hS29 hG (by simp)) a5 c8 X hR97 hNX) ?_
              rintro _ w25 ⟨kX, rfl, hkXl, hkXv, hB17⟩
              have hS30 := hS29.keep hB17
              replace hB17 := hB17.toBelow
              have hR98 := hR95.below hB17 (Nat.le_refl _)
              have hR99 := hR96.below hB17 (Nat.le_refl _)
              have hR100 := hR97.below hB17 (Nat.le_refl _)
              have hW99 := hW92.later hB17
              have hW100 := hW93.later hB17
              have hW101 := hW94.later hB17
              have hW102 := hW95.later hB17
              have hW103 := hW96.later hB17
              have hW104 := hW97.later hB17
              have hW105 := hW98.later hB17
              refine s_valg hS30 (wanted_of (j := 11) (b := false) (d := 197) rfl rfl rfl rfl) rfl (r_move rfl (.t rfl rfl)) ?_
              refine s_callg (wanted_of (j := 11) (b := false) (d := 197) rfl rfl rfl rfl) rfl rfl (vs := [.slice a1 A.length c1]) ⟨(.t rfl rfl), trivial⟩ cb14 (Low_ok w25 (rd_st hS30 hG (by simp)) a1 c1 A hR98 hNA) ?_
              rintro _ w26 ⟨kA, rfl, hkAl, hkAv, hB18⟩
              have hS31 := hS30.keep hB18
              replace hB18 := hB18.toBelow
              have hR101 := hR98.below hB18 (Nat.le_refl _)
              have hR102 := hR99.below hB18 (Nat.le_refl _)
              have hR103 := hR100.below hB18 (Nat.le_refl _)
              have hW106 := hW99.later hB18
              have hW107 := hW100.later hB18
              have hW108 := hW101.later hB18
              have hW109 := hW102.later hB18
              have hW110 := hW103.later hB18
              have hW111 := hW104.later hB18
              have hW112 := hW105.later hB18
              refine s_valg hS31 (wanted_of (j := 11) (b := false) (d := 197) rfl rfl rfl rfl) rfl (r_move rfl (.t rfl rfl)) ?_
              refine s_valg hS31 (wanted_of (j := 11) (b := false) (d := 197) rfl rfl rfl rfl) rfl (r_arith rfl rfl (.t rfl rfl) (.t rfl rfl) (c := ((kA + (k % 5000) : Nat) : Int)) (wn_i64 (by show (((kA : Nat) : Int) : Int) + ((k % 5000 : Nat) : Int) = _; omega) (by omega))) ?_
              refine s_valg hS31 (wanted_of (j := 11) (b := false) (d := 197) rfl rfl rfl rfl) rfl (r_cmp_f rfl rfl (.t rfl rfl) (.t rfl rfl) (show ¬ (¬ ((kX : Nat) : Int) = ((kA + (k % 5000) : Nat) : Int)) from (by rw [hlX] at hkXv; have := low_shift (lv_pos hNA.nz cA) hkXv hkAv; omega))) ?_
              refine s_valg hS31 (wanted_of (j := 3) (b := true) (d := 189) rfl rfl rfl rfl) rfl (r_pick rfl (.t rfl rfl) (.t rfl rfl)) ?_
              refine s_val hS31 rfl rfl (r_pick rfl (.t rfl rfl) (.t rfl rfl)) ?_
              refine wpList_nil ?_
              refine x_tn ?_
              refine k_reb [(1, .pointer (some ⟨blk1, 0, none⟩)), (2, .bool false), (3, .slice a1 A.length c1), (4, .slice a2 B.length c2), (6, .int .i64 (((i : Nat) : Int))), (206, .bool false)] ⟨rfl, rfl, rfl, rfl, rfl, rfl, trivial⟩ fun G31 => ?_
              refine k_f (.t rfl rfl) ?_
              refine wp_skip ?_
              refine x_bn ?_
              refine x_tn ?_
              refine k_reb [(1, .pointer (some ⟨blk1, 0, none⟩)), (2, .bool false), (3, .slice a1 A.length c1), (4, .slice a2 B.length c2), (6, .int .i64 (((i : Nat) : Int)))] ⟨rfl, rfl, rfl, rfl, rfl, trivial⟩ fun G32 => ?_
              refine k_reg ?_
              refine s_val hS31 rfl rfl (r_move rfl (.t rfl rfl)) ?_
              refine s_val hS31 rfl rfl (r_arith rfl rfl (.t rfl rfl) .c (c := ((i + 1 : Nat) : Int)) (wn_i64 (by show (((i : Nat) : Int) : Int) + 1 = _; omega) (by omega))) ?_
              refine s_val hS31 rfl rfl (r_assign rfl (.t rfl rfl)) ?_
              refine wpList_nil ?_
              refine x_tn ?_
              refine ⟨nN - (i + 1), by omega, _, i + 1, fr_reb _ ⟨rfl, rfl, rfl, rfl, rfl, trivial⟩, hS31, ?_⟩
              refine ⟨hR101, hR102, ?_⟩
              exact ⟨by omega, by omega⟩
            · refine s_val hS23 rfl rfl (r_cmp_f rfl rfl (.t rfl rfl) .c (show ¬ (((A.length : Nat) : Int) > 0) from by omega)) ?_
              refine s_val hS23 rfl rfl (r_move rfl (.t rfl rfl)) ?_
              refine s_skip (unwanted_of (j := 3) (b := true) (b' := false) (d := 189) rfl rfl rfl rfl rfl) rfl ?_
              refine s_skip (unwanted_of (j := 3) (b := true) (b' := false) (d := 189) rfl rfl rfl rfl rfl) rfl ?_
              refine s_skip (unwanted_of (j := 3) (b := true) (b' := false) (d := 189) rfl rfl rfl rfl rfl) rfl ?_
              refine s_skip (unwanted_of (j := 3) (b := true) (b' := false) (d := 189) rfl rfl rfl rfl rfl) rfl ?_
              refine s_skip (unwanted_of (j := 3) (b := true) (b' := false) (d := 189) rfl rfl rfl rfl rfl) rfl ?_
              refine s_skip (unwanted_of (j := 3) (b := true) (b' := false) (d := 189) rfl rfl rfl rfl rfl) rfl ?_
              refine s_skip (unwanted_of (j := 3) (b := true) (b' := false) (d := 189) rfl rfl rfl rfl rfl) rfl ?_
              refine s_skip (unwanted_of (j := 3) (b := true) (b' := false) (d := 189) rfl rfl rfl rfl rfl) rfl ?_
              refine s_skip (unwanted_undef (j := 11) (b := false) (d := 197) rfl rfl rfl rfl) rfl ?_
              refine s_skip (unwanted_undef (j := 11) (b := false) (d := 197) rfl rfl rfl rfl) rfl ?_
              refine s_skip (unwanted_undef (j := 11) (b := false) (d := 197) rfl rfl rfl rfl) rfl ?_
              refine s_skip (unwanted_undef (j := 11) (b := false) (d := 197) rfl rfl rfl rfl) rfl ?_
              refine s_skip (unwanted_undef (j := 11) (b := false) (d := 197) rfl rfl rfl rfl) rfl ?_
              refine s_skip (unwanted_undef (j := 11) (b := false) (d := 197) rfl rfl rfl rfl) rfl ?_
              refine s_skip (unwanted_undef (j := 11) (b := false) (d := 197) rfl rfl rfl rfl) rfl ?_
              refine s_skip (unwanted_of (j := 3) (b := true) (b' := false) (d := 189) rfl rfl rfl rfl rfl) rfl ?_
              refine s_val hS23 rfl rfl (r_pick rfl (.t rfl rfl) .c) ?_
              refine wpList_nil ?_
              refine x_tn ?_
              refine k_reb [(1, .pointer (some ⟨blk1, 0, none⟩)), (2, .bool false), (3, .slice a1 A.length c1), (4, .slice a2 B.length c2), (6, .int .i64 (((i : Nat) : Int))), (206, .bool false)] ⟨rfl, rfl, rfl, rfl, rfl, rfl, trivial⟩ fun G33 => ?_
              refine k_f (.t rfl rfl) ?_
              refine wp_skip ?_
              refine x_bn ?_
              refine x_tn ?_
              refine k_reb [(1, .pointer (some ⟨blk1, 0, none⟩)), (2, .bool false), (3, .slice a1 A.length c1), (4, .slice a2 B.length c2), (6, .int .i64 (((i : Nat) : Int)))] ⟨rfl, rfl, rfl, rfl, rfl, trivial⟩ fun G34 => ?_
              refine k_reg ?_
              refine s_val hS23 rfl rfl (r_move rfl (.t rfl rfl)) ?_
              refine s_val hS23 rfl rfl (r_arith rfl rfl (.t rfl rfl) .c (c := ((i + 1 : Nat) : Int)) (wn_i64 (by show (((i : Nat) : Int) : Int) + 1 = _; omega) (by omega))) ?_
              refine s_val hS23 rfl rfl (r_assign rfl (.t rfl rfl)) ?_
              refine wpList_nil ?_
              refine x_tn ?_
              refine ⟨nN - (i + 1), by omega, _, i + 1, fr_reb _ ⟨rfl, rfl, rfl, rfl, rfl, trivial⟩, hS23, ?_⟩
              refine ⟨hR74, hR75, ?_⟩
              exact ⟨by omega, by omega⟩
      · refine s_valg hS5 (wanted_of (j := 5) (b := true) (d := 33) rfl rfl rfl rfl) rfl (r_cmp_f rfl rfl (.t rfl rfl) .c (show ¬ (((i : Nat) : Int) < 6) from by omega)) ?_
        refine s_val hS5 rfl rfl (r_pick rfl (.t rfl rfl) (.t rfl rfl)) ?_
        refine wpList_nil ?_
        refine x_tn ?_
        refine k_reb [(1, .pointer (some ⟨blk1, 0, none⟩)), (2, .bool false), (3, .slice a1 A.length c1), (4, .slice a2 B.length c2), (6, .int .i64 (((i : Nat) : Int))), (36, .bool false)] ⟨rfl, rfl, rfl, rfl, rfl, rfl, trivial⟩ fun G35 => ?_
        refine k_f (.t rfl rfl) ?_
        refine wp_exit ?_
        refine x_te ?_
        refine x_te ?_
        refine x_be ?_
        refine x_tn ?_
        refine k_reb [(2, .bool false)] ⟨rfl, trivial⟩ fun G36 => ?_
        refine wp_seq ?_
        refine k_reg ?_
        refine s_call rfl rfl rfl (vs := []) trivial cb16 (wakes_ok w3 ) ?_
        intro v17 w27 hp19
        obtain ⟨hp19, hB19⟩ := hp19
        have hS32 := hS5.keep hB19
        replace hB19 := hB19.toBelow
        obtain rfl := hp19
        refine s_val hS32 rfl rfl (r_assign rfl (.t rfl rfl)) ?_
        refine wpList_nil ?_
        refine x_tn ?_
        refine k_reb [(2, .bool true)] ⟨rfl, trivial⟩ fun G37 => ?_
        refine wp_ret ?_
        refine k_ret1 Tryd.results3 rfl rfl ?_
        refine ⟨_, rfl, ?_⟩
        exact ⟨rfl, hS32.none⟩
    · refine s_val hS5 rfl rfl (r_cmp_f rfl rfl (.t rfl rfl) (.t rfl rfl) (show ¬ (((i : Nat) : Int) < ((nN : Nat) : Int)) from by omega)) ?_
      refine s_val hS5 rfl rfl (r_move rfl (.t rfl rfl)) ?_
      refine s_skip (unwanted_of (j := 5) (b := true) (b' := false) (d := 33) rfl rfl rfl rfl rfl) rfl ?_
      refine s_skip (unwanted_of (j := 5) (b := true) (b' := false) (d := 33) rfl rfl rfl rfl rfl) rfl ?_
      refine s_val hS5 rfl rfl (r_pick rfl (.t rfl rfl) .c) ?_
      refine wpList_nil ?_
      refine x_tn ?_
      refine k_reb [(1, .pointer (some ⟨blk1, 0, none⟩)), (2, .bool false), (3, .slice a1 A.length c1), (4, .slice a2 B.length c2), (6, .int .i64 (((i : Nat) : Int))), (36, .bool false)] ⟨rfl, rfl, rfl, rfl, rfl, rfl, trivial⟩ fun G38 => ?_
      refine k_f (.t rfl rfl) ?_
      refine wp_exit ?_
      refine x_te ?_
      refine x_te ?_
      refine x_be ?_
      refine x_tn ?_
      refine k_reb [(2, .bool false)] ⟨rfl, trivial⟩ fun G39 => ?_
      refine wp_seq ?_
      refine k_reg ?_
      refine s_call rfl rfl rfl (vs := []) trivial cb16 (wakes_ok w3 ) ?_
      intro v18 w28 hp20
      obtain ⟨hp20, hB20⟩ := hp20
      have hS33 := hS5.keep hB20
      replace hB20 := hB20.toBelow
      obtain rfl := hp20
      refine s_val hS33 rfl rfl (r_assign rfl (.t rfl rfl)) ?_
      refine wpList_nil ?_
      refine x_tn ?_
      refine k_reb [(2, .bool true)] ⟨rfl, trivial⟩ fun G40 => ?_
      refine wp_ret ?_
      refine k_ret1 Tryd.results3 rfl rfl ?_
      refine ⟨_, rfl, ?_⟩
      exact ⟨rfl, hS33.none⟩

end Go.Proofs.YtnbklceenfjojaaDoor

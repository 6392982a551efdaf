/- Contracts of functions of the program, each walked once. -/
import Derived.Test.YtdmiklegahdafaaProg
import Derived.Test.YtdmiklegahdafaaMu
import Derived.Test.YtdmiklegahdafaaKMore
import Derived.Test.YtdmiklegahdafaaKCrc
import Derived.Test.YtdmiklegahdafaaKFrm
namespace Go.Proofs.Ytdmiklegahdafaa
open Go Go.RowKit K
namespace FA
theorem mixed : Try.prog.follows .mixedOrders = true := by kernel_rfl
theorem agg104 : (match Try.prog.underlying 104 with | some (.struct _) | some (.array ..) => true | _ => false) = true := by kernel_rfl
theorem cb41 : callable Try.prog 41 = true := by kernel_rfl
theorem cb59 : callable Try.prog 59 = true := by kernel_rfl
theorem cb62 : callable Try.prog 62 = true := by kernel_rfl
theorem one25 : One Try.prog 25 = true := by kernel_rfl
theorem one5 : One Try.prog 5 = true := by kernel_rfl
theorem ti104 : (Try.prog.info? 104).map (fun i => (i.zero, i.size, i.bytes)) = some (some (.agg #[.int .u32 0, .int .u32 0, .int .u32 0, .int .u32 0, .int .u32 0, .int .u32 0, .int .u32 0, .int .u32 0, .int .u32 0, .int .u32 0, .int .u32 0, .int .u32 0, .int .u32 0, .int .u32 0, .int .u32 0, .int .u32 0, .int .u32 0, .int .u32 0, .int .u32 0, .int .u32 0, .int .u32 0, .int .u32 0, .int .u32 0, .int .u32 0, .int .u32 0, .int .u32 0, .int .u32 0, .int .u32 0, .int .u32 0, .int .u32 0, .int .u32 0, .int .u32 0, .int .u32 0, .int .u32 0, .int .u32 0, .int .u32 0, .int .u32 0, .int .u32 0, .int .u32 0, .int .u32 0, .int .u32 0, .int .u32 0, .int .u32 0, .int .u32 0, .int .u32 0, .int .u32 0, .int .u32 0, .int .u32 0, .int .u32 0, .int .u32 0, .int .u32 0, .int .u32 0, .int .u32 0, .int .u32 0, .int .u32 0, .int .u32 0, .int .u32 0, .int .u32 0, .int .u32 0, .int .u32 0, .int .u32 0, .int .u32 0, .int .u32 0, .int .u32 0, .int .u32 0, .int .u32 0, .int .u32 0, .int .u32 0, .int .u32 0, .int .u32 0, .int .u32 0, .int .u32 0, .int .u32 0, .int .u32 0, .int .u32 0, .int .u32 0, .int .u32 0, .int .u32 0, .int .u32 0, .int .u32 0, .int .u32 0, .int .u32 0, .int .u32 0, .int .u32 0, .int .u32 0, .int .u32 0, .int .u32 0, .int .u32 0, .int .u32 0, .int .u32 0, .int .u32 0, .int .u32 0, .int .u32 0, .int .u32 0, .int .u32 0, .int .u32 0, .int .u32 0, .int .u32 0, .int .u32 0, .int .u32 0, .int .u32 0, .int .u32 0, .int .u32 0, .int .u32 0, .int .u32 0, .int .u32 0, .int .u32 0, .int .u32 0, .int .u32 0, .int .u32 0, .int .u32 0, .int .u32 0, .int .u32 0, .int .u32 0, .int .u32 0, .int .u32 0, .int .u32 0, .int .u32 0, .int .u32 0, .int .u32 0, .int .u32 0, .int .u32 0, .int .u32 0, .int .u32 0, .int .u32 0, .int .u32 0, .int .u32 0, .int .u32 0, .int .u32 0, .int .u32 0, .int .u32 0, .int .u32 0, .int .u32 0, .int .u32 0, .int .u32 0, .int .u32 0, .int .u32 0, .int .u32 0, .int .u32 0, .int .u32 0, .int .u32 0, .int .u32 0, .int .u32 0, .int .u32 0, .int .u32 0, .int .u32 0, .int .u32 0, .int .u32 0, .int .u32 0, .int .u32 0, .int .u32 0, .int .u32 0, .int .u32 0, .int .u32 0, .int .u32 0, .int .u32 0, .int .u32 0, .int .u32 0, .int .u32 0, .int .u32 0, .int .u32 0, .int .u32 0, .int .u32 0, .int .u32 0, .int .u32 0, .int .u32 0, .int .u32 0, .int .u32 0, .int .u32 0, .int .u32 0, .int .u32 0, .int .u32 0, .int .u32 0, .int .u32 0, .int .u32 0, .int .u32 0, .int .u32 0, .int .u32 0, .int .u32 0, .int .u32 0, .int .u32 0, .int .u32 0, .int .u32 0, .int .u32 0, .int .u32 0, .int .u32 0, .int .u32 0, .int .u32 0, .int .u32 0, .int .u32 0, .int .u32 0, .int .u32 0, .int .u32 0, .int .u32 0, .int .u32 0, .int .u32 0, .int .u32 0, .int .u32 0, .int .u32 0, .int .u32 0, .int .u32 0, .int .u32 0, .int .u32 0, .int .u32 0, .int .u32 0, .int .u32 0, .int .u32 0, .int .u32 0, .int .u32 0, .int .u32 0, .int .u32 0, .int .u32 0, .int .u32 0, .int .u32 0, .int .u32 0, .int .u32 0, .int .u32 0, .int .u32 0, .int .u32 0, .int .u32 0, .int .u32 0, .int .u32 0, .int .u32 0, .int .u32 0, .int .u32 0, .int .u32 0, .int .u32 0, .int .u32 0, .int .u32 0, .int .u32 0, .int .u32 0, .int .u32 0, .int .u32 0, .int .u32 0, .int .u32 0, .int .u32 0, .int .u32 0, .int .u32 0, .int .u32 0, .int .u32 0, .int .u32 0, .int .u32 0, .int .u32 0, .int .u32 0, .int .u32 0, .int .u32 0, .int .u32 0, .int .u32 0, .int .u32 0, .int .u32 0, .int .u32 0, .int .u32 0, .int .u32 0, .int .u32 0, .int .u32 0, .int .u32 0]), 256, 1024) := by kernel_rfl
theorem ti25 : (Try.prog.info? 25).map (fun i => (i.zero, i.size, i.bytes)) = some (some (.int .u32 0), 1, 4) := by kernel_rfl
theorem ti5 : (Try.prog.info? 5).map (fun i => (i.zero, i.size, i.bytes)) = some (some (.int .u8 0), 1, 1) := by kernel_rfl

end FA
open FA
attribute [local irreducible] Go.wpList Go.wpQuiet Go.wpStill Go.wpAny Go.Code.wp
set_option maxRecDepth 10000
set_option maxHeartbeats 8000000
set_option linter.unusedVariables false
set_option linter.unusedSimpArgs false
abbrev U8 : TypeId := 5
theorem table_ok (w0 : World) :
    Calls Try.prog 59 #[] w0 (Ret fun v w' => v = .agg (encN .u32 tabL) ∧ St w0 [] (fl []) w') := by
  refine k_enter (vs := []) Try.func59 rfl Try.ntmps59 rfl ?_
  have hS : St w0 [] (fl []) w0 := St.init w0
  refine wp_seq ?_
  refine k_reg ?_
  refine s_alloc rfl rfl rfl ti104 (cs := encN .u32 (List.replicate 256 0)) (by kernel_rfl) hS fun blk1 w1 hb1 hB1 hS1 => ?_
  have hS2 : St w0 [] (fl [[(blk1, .cells (encN .u32 (List.replicate 256 0)) 104 (0, 0))]]) w1 := hS1.push 0 rfl
  refine wpList_nil ?_
  refine x_tn ?_
  refine wp_seq ?_
  refine wp_seq ?_
  refine k_reg ?_
  refine s_val hS2 rfl rfl (r_move rfl .c) ?_
  refine wpList_nil ?_
  refine x_tn ?_
  refine wp_block ?_
  refine wp_loop_ghost (fun (m1 : Nat) a w => ∃ (G : Nat → Value) (i : Nat), a = fr 23 [(0, .pointer (some ⟨blk1, 0, none⟩)), (3, .int .i64 (((i : Nat) : Int)))] G ∧ St w0 [] (fl [[(blk1, .cells (encN .u32 (tabU i)) 104 (0, 0))]]) w ∧ (m1 = 256 - i ∧ i ≤ 256)) (256) ⟨_, 0, fr_reb _ ⟨rfl, rfl, trivial⟩, hS2, ?_⟩ ?_
  · exact ⟨rfl, by omega⟩
  · intro m1 _ w2 hI1
    obtain ⟨G1, i, rfl, hS3, ⟨hm, hi⟩⟩ := hI1
    have hl := tabU_len hi
    refine wp_seq ?_
    refine k_reg ?_
    by_cases c1 : i < 256
    · refine s_val hS3 rfl rfl (r_cmp_t rfl rfl (.t rfl rfl) .c (show ((i : Nat) : Int) < 256 from by omega)) ?_
      refine wpList_nil ?_
      refine x_tn ?_
      refine wp_seq ?_
      refine k_t (.t rfl rfl) ?_
      refine wp_skip ?_
      refine x_tn ?_
      refine k_reb [(0, .pointer (some ⟨blk1, 0, none⟩)), (3, .int .i64 (((i : Nat) : Int)))] ⟨rfl, rfl, trivial⟩ fun G2 => ?_
      refine wp_seq ?_
      refine wp_block ?_
      refine wp_seq ?_
      refine k_reg ?_
      refine s_val hS3 rfl rfl (r_move rfl (.t rfl rfl)) ?_
      refine s_val hS3 rfl rfl (r_assign rfl (.t rfl rfl)) ?_
      refine wpList_nil ?_
      refine x_tn ?_
      refine k_reb [(0, .pointer (some ⟨blk1, 0, none⟩)), (1, .int .i64 (((i : Nat) : Int))), (3, .int .i64 (((i : Nat) : Int)))] ⟨rfl, rfl, rfl, trivial⟩ fun G3 => ?_
      refine wp_seq ?_
      refine k_reg ?_
      refine s_val hS3 rfl rfl (r_move rfl (.t rfl rfl)) ?_
      refine s_val hS3 rfl rfl (r_conv rfl Try.underlying3 Try.underlying25 (.t rfl rfl) (c := ((i : Nat) : Int)) (wn_u32 rfl (by omega))) ?_
      refine s_val hS3 rfl rfl (r_assign rfl (.t rfl rfl)) ?_
      refine wpList_nil ?_
      refine x_tn ?_
      refine k_reb [(0, .pointer (some ⟨blk1, 0, none⟩)), (1, .int .i64 (((i : Nat) : Int))), (2, .int .u32 (((i : Nat) : Int))), (3, .int .i64 (((i : Nat) : Int)))] ⟨rfl, rfl, rfl, rfl, trivial⟩ fun G4 => ?_
      refine wp_seq ?_
      refine wp_seq ?_
      refine k_reg ?_
      refine s_val hS3 rfl rfl (r_move rfl .c) ?_
      refine wpList_nil ?_
      refine x_tn ?_
      refine wp_block ?_
      refine wp_loop_ghost (fun (m2 : Nat) a w => ∃ (G : Nat → Value) (k : Nat) (x : Nat), a = fr 23 [(0, .pointer (some ⟨blk1, 0, none⟩)), (1, .int .i64 (((i : Nat) : Int))), (2, .int .u32 (((x : Nat) : Int))), (3, .int .i64 (((i : Nat) : Int))), (8, .int .i64 (((k : Nat) : Int)))] G ∧ St w0 [] (fl [[(blk1, .cells (encN .u32 (tabU i)) 104 (0, 0))]]) w ∧ (m2 = 8 - k ∧ k ≤ 8 ∧ x = crcI k i)) (8) ⟨_, 0, i, fr_reb _ ⟨rfl, rfl, rfl, rfl, rfl, trivial⟩, hS3, ?_⟩ ?_
      · exact ⟨rfl, by omega, rfl⟩
      · intro m2 _ w3 hI2
        obtain ⟨G5, k, x, rfl, hS4, ⟨hm2, hk, hx⟩⟩ := hI2
        have hxl : x < 4294967296 := by rw [hx]; exact crcI_lt k (by omega)
        refine wp_seq ?_
        refine k_reg ?_
        by_cases c2 : k < 8
        · refine s_val hS4 rfl rfl (r_cmp_t rfl rfl (.t rfl rfl) .c (show ((k : Nat) : Int) < 8 from by omega)) ?_
          refine wpList_nil ?_
          refine x_tn ?_
          refine wp_seq ?_
          refine k_t (.t rfl rfl) ?_
          refine wp_skip ?_
          refine x_tn ?_
          refine k_reb [(0, .pointer (some ⟨blk1, 0, none⟩)), (1, .int .i64 (((i : Nat) : Int))), (2, .int .u32 (((x : Nat) : Int))), (3, .int .i64 (((i : Nat) : Int))), (8, .int .i64 (((k : Nat) : Int)))] ⟨rfl, rfl, rfl, rfl, rfl, trivial⟩ fun G6 => ?_
          refine wp_seq ?_
          refine wp_block ?_
          refine k_reg ?_
          refine s_val hS4 rfl rfl (r_move rfl (.t rfl rfl)) ?_
          refine s_val hS4 rfl rfl (r_shr rfl (.t rfl rfl) .c (by omega) (show (2 : Int) ^ _ = ((2 : Nat) : Int) from rfl) fdiv_nat) ?_
          refine s_val hS4 rfl rfl (r_move rfl (.t rfl rfl)) ?_
          refine s_val hS4 rfl rfl (r_and rfl (.t rfl rfl) .c (show x < 4294967296 from by omega) (show 1 < 4294967296 from by omega) (c := x % 2) ((Nat.and_one_is_mod _)) (wn_u32 rfl (by omega))) ?_
          refine s_val hS4 rfl rfl (r_neg rfl (.t rfl rfl) (c := (((4294967296 - (x % 2)) % 4294967296 : Nat) : Int)) (by have h := wms_u32 (m := 0) (p := x % 2) (by omega); rw [show (0 + 4294967296 - (x % 2)) % 4294967296 = (4294967296 - (x % 2)) % 4294967296 from by omega] at h; simpa using h)) ?_
          have hb2 : 3988292384 &&& ((4294967296 - (x % 2)) % 4294967296) < 4294967296 := Nat.and_lt_two_pow (n := 32) _ (show (4294967296 - (x % 2)) % 4294967296 < 4294967296 from by omega)
          refine s_val hS4 rfl rfl (r_and rfl .c (.t rfl rfl) (show 3988292384 < 4294967296 from by omega) (show (4294967296 - (x % 2)) % 4294967296 < 4294967296 from by omega) (c := 3988292384 &&& ((4294967296 - (x % 2)) % 4294967296)) rfl (wn_u32 rfl (Nat.le_of_lt_succ hb2))) ?_
          have hb3 : (x / 2) ^^^ (3988292384 &&& ((4294967296 - (x % 2)) % 4294967296)) < 4294967296 := Nat.xor_lt_two_pow (n := 32) (show x / 2 < 4294967296 from by omega) (show 3988292384 &&& ((4294967296 - (x % 2)) % 4294967296) < 4294967296 from by omega)
          refine s_val hS4 rfl rfl (r_xor rfl (.t rfl rfl) (.t rfl rfl) (show x / 2 < 4294967296 from by omega) (show 3988292384 &&& ((4294967296 - (x % 2)) % 4294967296) < 4294967296 from by omega) (c := (x / 2) ^^^ (3988292384 &&& ((4294967296 - (x % 2)) % 4294967296))) rfl (wn_u32 rfl (Nat.le_of_lt_succ hb3))) ?_
          refine s_val hS4 rfl rfl (r_assign rfl (.t rfl rfl)) ?_
          refine wpList_nil ?_
          refine x_bn ?_
          refine x_tn ?_
          refine k_reb [(0, .pointer (some ⟨blk1, 0, none⟩)), (1, .int .i64 (((i : Nat) : Int))), (2, .int .u32 ((((x / 2) ^^^ (3988292384 &&& ((4294967296 - (x % 2)) % 4294967296)) : Nat) : Int))), (3, .int .i64 (((i : Nat) : Int))), (8, .int .i64 (((k : Nat) : Int)))] ⟨rfl, rfl, rfl, rfl, rfl, trivial⟩ fun G7 => ?_
          refine k_reg ?_
          refine s_val hS4 rfl rfl (r_arith rfl rfl (.t rfl rfl) .c (c := ((k + 1 : Nat) : Int)) (wn_i64 (by show (((k : Nat) : Int) : Int) + 1 = _; omega) (by omega))) ?_
          refine s_val hS4 rfl rfl (r_move rfl (.t rfl rfl)) ?_
          refine wpList_nil ?_
          refine x_tn ?_
          refine ⟨8 - (k + 1), by omega, _, k + 1, x / 2 ^^^ (3988292384 &&& ((4294967296 - x % 2) % 4294967296)), fr_reb _ ⟨rfl, rfl, rfl, rfl, rfl, trivial⟩, hS4, ?_⟩
          exact ⟨by omega, by omega, by rw [hx]; rfl⟩
        · refine s_val hS4 rfl rfl (r_cmp_f rfl rfl (.t rfl rfl) .c (show ¬ (((k : Nat) : Int) < 8) from by omega)) ?_
          refine wpList_nil ?_
          refine x_tn ?_
          refine wp_seq ?_
          refine k_f (.t rfl rfl) ?_
          refine wp_exit ?_
          refine x_te ?_
          refine x_te ?_
          refine x_be ?_
          refine x_tn ?_
          refine k_reb [(0, .pointer (some ⟨blk1, 0, none⟩)), (1, .int .i64 (((i : Nat) : Int))), (2, .int .u32 (((x : Nat) : Int))), (3, .int .i64 (((i : Nat) : Int)))] ⟨rfl, rfl, rfl, rfl, trivial⟩ fun G8 => ?_
          refine k_reg ?_
          refine s_val hS4 rfl rfl (r_move rfl (.t rfl rfl)) ?_
          refine s_val hS4 rfl rfl (r_move rfl (.t rfl rfl)) ?_
          refine s_val hS4 rfl rfl (r_ixa (j := i) rfl Try.underlying104 ti25 (.t rfl rfl) (.t rfl rfl) rfl (by omega) (qq := i) (by omega)) ?_
          obtain rfl : k = 8 := by omega
          have hset : (tabU i).set i x = tabU (i + 1) := by rw [hx]; exact tabU_set (by omega)
          refine s_store (m := 0) rfl rfl rfl one25 (.t rfl rfl) (.t rfl rfl) rfl hS4 rfl (encN_get (by first | omega | (simp only [List.length_set, List.length_append, List.length_replicate]; omega))) encN_set (h' := (fl [[(blk1, .cells (encN .u32 ((tabU i).set i x)) 104 (0, 0))]])) rfl fun w4 hS5 => ?_
          rw [show (tabU i).set i x = tabU (i + 1) from hset] at hS5
          refine wpList_nil ?_
          refine x_bn ?_
          refine x_tn ?_
          refine k_reb [(0, .pointer (some ⟨blk1, 0, none⟩)), (3, .int .i64 (((i : Nat) : Int)))] ⟨rfl, rfl, trivial⟩ fun G9 => ?_
          refine k_reg ?_
          refine s_val hS5 rfl rfl (r_arith rfl rfl (.t rfl rfl) .c (c := ((i + 1 : Nat) : Int)) (wn_i64 (by show (((i : Nat) : Int) : Int) + 1 = _; omega) (by omega))) ?_
          refine s_val hS5 rfl rfl (r_move rfl (.t rfl rfl)) ?_
          refine wpList_nil ?_
          refine x_tn ?_
          refine ⟨256 - (i + 1), by omega, _, i + 1, fr_reb _ ⟨rfl, rfl, trivial⟩, hS5, ?_⟩
          exact ⟨by omega, by omega⟩
    · refine s_val hS3 rfl rfl (r_cmp_f rfl rfl (.t rfl rfl) .c (show ¬ (((i : Nat) : Int) < 256) from by omega)) ?_
      refine wpList_nil ?_
      refine x_tn ?_
      refine wp_seq ?_
      refine k_f (.t rfl rfl) ?_
      refine wp_exit ?_
      refine x_te ?_
      refine x_te ?_
      refine x_be ?_
      refine x_tn ?_
      refine k_reb [(0, .pointer (some ⟨blk1, 0, none⟩))] ⟨rfl, trivial⟩ fun G10 => ?_
      refine wp_seq ?_
      refine k_reg ?_
      refine s_val hS3 rfl rfl (r_loadA rfl agg104 ti104 (by rw [encN_size]; first | rfl | omega | (simp; omega)) (.t rfl rfl) (St.block (m := 0) rfl)) ?_
      refine s_storeA (m := 0) rfl rfl rfl ti104 (.t rfl rfl) (vs := ints .u32 (tabU i)) (.t rfl rfl) (by simp [ints, hl]) (by simp [ints, oneC]) hS3 rfl (by simp [ints, encN, hl]) (c' := encN .u32 (tabU i)) (by first | rfl | exact put_arr (by simp [hl])) (h' := (fl [[(blk1, .cells (encN .u32 (tabU i)) 104 (0, 0))]])) rfl fun w5 hS6 => ?_
      refine wpList_nil ?_
      refine x_tn ?_
      refine k_reb [(0, .pointer (some ⟨blk1, 0, none⟩))] ⟨rfl, trivial⟩ fun G11 => ?_
      refine wp_ret ?_
      refine k_retc1 (m := 0) Try.results59 rfl rfl agg104 ti104 (by rw [encN_size]; first | rfl | omega | (simp; omega)) hS6 rfl ?_
      refine ⟨_, rfl, ?_⟩
      have hS7 : St w0 [] (fl []) w5 := hS6.pick [] rfl (by decide)
      obtain rfl : i = 256 := by omega
      rw [tabU_all]
      exact ⟨rfl, hS7⟩

theorem more_ok (w0 : World) (s : Nat) (hs : s ≤ 4294967295) (aB : Option Addr) (cB : Nat) (B : List Nat) (vB : Hp) (hB : Sl .u8 aB cB B vB) (oB : Old w0 [] vB) :
    Calls Try.prog 41 #[.int .u32 (((s : Nat) : Int)), .slice aB B.length cB] w0 (Ret fun v w' => v = .int .u32 ((crcM s B : Nat) : Int) ∧ St w0 [] (fl []) w') := by
  refine k_enter (vs := [.int .u32 (((s : Nat) : Int)), .slice aB B.length cB]) Try.func41 rfl Try.ntmps41 rfl ?_
  have hS : St w0 [] (fl []) w0 := St.init w0
  have lB := hB.most
  have fB : ∀ x ∈ B, x ≤ 255 := hB.fit
  refine wp_seq ?_
  refine k_reg ?_
  refine s_val hS rfl rfl (r_assign rfl .c) ?_
  refine wpList_nil ?_
  refine x_tn ?_
  refine wp_seq ?_
  refine k_reg ?_
  refine s_call rfl rfl rfl (vs := []) trivial cb59 (table_ok w0  ) ?_
  rintro _ w1 ⟨rfl, ht1⟩
  have hS1 : St w0 [] (fl []) w1 := hS.callL (xs := []) (xs' := []) (zs := []) [] rfl (by decide) ht1 rfl rfl
  refine s_alloc rfl rfl rfl ti104 (cs := encN .u32 (List.replicate 256 0)) (by kernel_rfl) hS1 fun blk1 w2 hb1 hB1 hS2 => ?_
  have hS3 : St w0 [] (fl [[(blk1, .cells (encN .u32 (List.replicate 256 0)) 104 (0, 0))]]) w2 := hS2.push 0 rfl
  refine s_storeA (m := 0) rfl rfl rfl ti104 (.t rfl rfl) (vs := ints .u32 tabL) (.t rfl rfl) (by simp [ints, tabL_len]) (by simp [ints, oneC]) hS3 rfl (by simp [ints, encN, tabL_len]) (c' := encN .u32 tabL) (by first | rfl | exact put_arr (by simp [tabL_len])) (h' := (fl [[(blk1, .cells (encN .u32 tabL) 104 (0, 0))]])) rfl fun w3 hS4 => ?_
  refine wpList_nil ?_
  refine x_tn ?_
  refine k_reb [(0, .int .u32 (((s : Nat) : Int))), (1, .slice aB B.length cB), (4, .int .u32 0), (5, .pointer (some ⟨blk1, 0, none⟩))] ⟨rfl, rfl, rfl, rfl, trivial⟩ fun G1 => ?_
  refine wp_seq ?_
  refine k_reg ?_
  refine s_val hS4 rfl rfl (r_move rfl (.t rfl rfl)) ?_
  refine s_val hS4 rfl rfl (r_not rfl (.t rfl rfl) rfl (show s < 4294967296 from by omega)) ?_
  refine s_val hS4 rfl rfl (r_assign rfl (.t rfl rfl)) ?_
  refine wpList_nil ?_
  refine x_tn ?_
  refine k_reb [(1, .slice aB B.length cB), (4, .int .u32 0), (5, .pointer (some ⟨blk1, 0, none⟩)), (6, .int .u32 (((4294967295 - s : Nat) : Int)))] ⟨rfl, rfl, rfl, rfl, trivial⟩ fun G2 => ?_
  refine wp_seq ?_
  refine wp_seq ?_
  refine k_reg ?_
  refine s_val hS4 rfl rfl (r_move rfl (.t rfl rfl)) ?_
  refine s_val hS4 rfl rfl (r_len rfl rfl Try.underlying22 (.t rfl rfl)) ?_
  refine s_val hS4 rfl rfl (r_move rfl .c) ?_
  refine wpList_nil ?_
  refine x_tn ?_
  refine k_reb [(4, .int .u32 0), (5, .pointer (some ⟨blk1, 0, none⟩)), (6, .int .u32 (((4294967295 - s : Nat) : Int))), (12, .slice aB B.length cB), (13, .int .i64 (((B.length : Nat) : Int))), (14, .int .i64 0)] ⟨rfl, rfl, rfl, rfl, rfl, rfl, trivial⟩ fun G3 => ?_
  refine wp_block ?_
  refine wp_loop_ghost (fun (m1 : Nat) a w => ∃ (G : Nat → Value) (i : Nat) (r : Nat), a = fr 30 [(4, .int .u32 0), (5, .pointer (some ⟨blk1, 0, none⟩)), (6, .int .u32 (((r : Nat) : Int))), (12, .slice aB B.length cB), (13, .int .i64 (((B.length : Nat) : Int))), (14, .int .i64 (((i : Nat) : Int)))] G ∧ St w0 [] (fl [[(blk1, .cells (encN .u32 tabL) 104 (0, 0))]]) w ∧ (m1 = B.length - i ∧ i ≤ B.length ∧ r = crcR (4294967295 - s) (B.take i))) (B.length) ⟨_, 0, 4294967295 - s, fr_reb _ ⟨rfl, rfl, rfl, rfl, rfl, rfl, trivial⟩, hS4, ?_⟩ ?_
  · exact ⟨rfl, by omega, rfl⟩
  · intro m1 _ w4 hI1
    obtain ⟨G4, i, r, rfl, hS5, ⟨hm, hi, hr⟩⟩ := hI1
    have hrl : r < 4294967296 := by rw [hr]; exact crcR_lt _ (by omega) fun x hx => fB x (List.mem_of_mem_take hx)
    refine wp_seq ?_
    refine k_reg ?_
    by_cases c1 : i < B.length
    · refine s_val hS5 rfl rfl (r_cmp_t rfl rfl (.t rfl rfl) (.t rfl rfl) (show ((i : Nat) : Int) < ((B.length : Nat) : Int) from by omega)) ?_
      refine wpList_nil ?_
      refine x_tn ?_
      refine wp_seq ?_
      refine k_t (.t rfl rfl) ?_
      refine wp_skip ?_
      refine x_tn ?_
      refine k_reb [(4, .int .u32 0), (5, .pointer (some ⟨blk1, 0, none⟩)), (6, .int .u32 (((r : Nat) : Int))), (12, .slice aB B.length cB), (13, .int .i64 (((B.length : Nat) : Int))), (14, .int .i64 (((i : Nat) : Int)))] ⟨rfl, rfl, rfl, rfl, rfl, rfl, trivial⟩ fun G5 => ?_
      refine wp_seq ?_
      refine wp_block ?_
      refine wp_seq ?_
      refine k_reg ?_
      refine s_val hS5 rfl rfl (r_ixl (j := i) rfl Try.underlying22 ti5 (.t rfl rfl) (.t rfl rfl) hB rfl rfl (by omega)) ?_
      have b1 : B.getD i 0 ≤ 255 := hB.lt _
      refine s_val hS5 rfl rfl (r_load rfl one5 (.t rfl rfl) (hB.cell_o oB (by omega))) ?_
      refine s_val hS5 rfl rfl (r_assign rfl (.t rfl rfl)) ?_
      refine wpList_nil ?_
      refine x_tn ?_
      refine k_reb [(4, .int .u32 0), (5, .pointer (some ⟨blk1, 0, none⟩)), (6, .int .u32 (((r : Nat) : Int))), (8, .int .u8 (((B.getD i 0 : Nat) : Int))), (12, .slice aB B.length cB), (13, .int .i64 (((B.length : Nat) : Int))), (14, .int .i64 (((i : Nat) : Int)))] ⟨rfl, rfl, rfl, rfl, rfl, rfl, rfl, trivial⟩ fun G6 => ?_
      refine k_reg ?_
      refine s_val hS5 rfl rfl (r_move rfl (.t rfl rfl)) ?_
      refine s_val hS5 rfl rfl (r_conv rfl Try.underlying25 Try.underlying5 (.t rfl rfl) (wm_u8 rfl)) ?_
      refine s_val hS5 rfl rfl (r_move rfl (.t rfl rfl)) ?_
      have hb2 : (r % 256) ^^^ (B.getD i 0) < 256 := Nat.xor_lt_two_pow (n := 8) (show r % 256 < 256 from by omega) (show B.getD i 0 < 256 from by omega)
      refine s_val hS5 rfl rfl (r_xor rfl (.t rfl rfl) (.t rfl rfl) (show r % 256 < 256 from by omega) (show B.getD i 0 < 256 from by omega) (c := (r % 256) ^^^ (B.getD i 0)) rfl (wn_u8 rfl (Nat.le_of_lt_succ hb2))) ?_
      refine s_val hS5 rfl rfl (r_ixa (j := (r % 256) ^^^ (B.getD i 0)) rfl Try.underlying104 ti25 (.t rfl rfl) (.t rfl rfl) rfl (byte_xor (by omega)) (qq := (r % 256) ^^^ (B.getD i 0)) (by omega)) ?_
      have b2 : tabL.getD ((r % 256) ^^^ (B.getD i 0)) 0 ≤ 4294967295 := (getD_fit tabL_fit ((r % 256) ^^^ (B.getD i 0)))
      refine s_val hS5 rfl rfl (r_load rfl one25 (.t rfl rfl) (St.cell_own (m := 0) rfl (encN_get (by rw [tabL_len]; exact byte_xor (by omega))))) ?_
      refine s_val hS5 rfl rfl (r_move rfl (.t rfl rfl)) ?_
      refine s_val hS5 rfl rfl (r_shr rfl (.t rfl rfl) .c (by omega) (show (2 : Int) ^ _ = ((256 : Nat) : Int) from rfl) fdiv_nat) ?_
      have hb3 : (tabL.getD ((r % 256) ^^^ (B.getD i 0)) 0) ^^^ (r / 256) < 4294967296 := Nat.xor_lt_two_pow (n := 32) (show tabL.getD ((r % 256) ^^^ (B.getD i 0)) 0 < 4294967296 from by omega) (show r / 256 < 4294967296 from by omega)
      refine s_val hS5 rfl rfl (r_xor rfl (.t rfl rfl) (.t rfl rfl) (show tabL.getD ((r % 256) ^^^ (B.getD i 0)) 0 < 4294967296 from by omega) (show r / 256 < 4294967296 from by omega) (c := (tabL.getD ((r % 256) ^^^ (B.getD i 0)) 0) ^^^ (r / 256)) rfl (wn_u32 rfl (Nat.le_of_lt_succ hb3))) ?_
      refine s_val hS5 rfl rfl (r_assign rfl (.t rfl rfl)) ?_
      refine wpList_nil ?_
      refine x_bn ?_
      refine x_tn ?_
      refine k_reb [(4, .int .u32 0), (5, .pointer (some ⟨blk1, 0, none⟩)), (6, .int .u32 ((((tabL.getD ((r % 256) ^^^ (B.getD i 0)) 0) ^^^ (r / 256) : Nat) : Int))), (12, .slice aB B.length cB), (13, .int .i64 (((B.length : Nat) : Int))), (14, .int .i64 (((i : Nat) : Int)))] ⟨rfl, rfl, rfl, rfl, rfl, rfl, trivial⟩ fun G7 => ?_
      refine k_reg ?_
      refine s_val hS5 rfl rfl (r_arith rfl rfl (.t rfl rfl) .c (c := ((i + 1 : Nat) : Int)) (wn_i64 (by show (((i : Nat) : Int) : Int) + 1 = _; omega) (by omega))) ?_
      refine s_val hS5 rfl rfl (r_move rfl (.t rfl rfl)) ?_
      refine wpList_nil ?_
      refine x_tn ?_
      refine ⟨B.length - (i + 1), by omega, _, i + 1, (tabL.getD ((r % 256) ^^^ (B.getD i 0)) 0) ^^^ (r / 256), fr_reb _ ⟨rfl, rfl, rfl, rfl, rfl, rfl, trivial⟩, hS5, ?_⟩
      exact ⟨by omega, by omega, by rw [crcR_succ (by omega), ← hr, tabL_get (byte_xor (by omega))]; rfl⟩
    · refine s_val hS5 rfl rfl (r_cmp_f rfl rfl (.t rfl rfl) (.t rfl rfl) (show ¬ (((i : Nat) : Int) < ((B.length : Nat) : Int)) from by omega)) ?_
      refine wpList_nil ?_
      refine x_tn ?_
      refine wp_seq ?_
      refine k_f (.t rfl rfl) ?_
      refine wp_exit ?_
      refine x_te ?_
      refine x_te ?_
      refine x_be ?_
      refine x_tn ?_
      refine k_reb [(4, .int .u32 0), (6, .int .u32 (((r : Nat) : Int)))] ⟨rfl, rfl, trivial⟩ fun G8 => ?_
      refine wp_seq ?_
      refine k_reg ?_
      refine s_val hS5 rfl rfl (r_move rfl (.t rfl rfl)) ?_
      refine s_val hS5 rfl rfl (r_not rfl (.t rfl rfl) rfl (show r < 4294967296 from by omega)) ?_
      refine s_val hS5 rfl rfl (r_assign rfl (.t rfl rfl)) ?_
      refine wpList_nil ?_
      refine x_tn ?_
      refine k_reb [(4, .int .u32 (((4294967295 - r : Nat) : Int)))] ⟨rfl, trivial⟩ fun G9 => ?_
      refine wp_ret ?_
      refine k_ret1 Try.results41 rfl rfl ?_
      refine ⟨_, rfl, ?_⟩
      have hS6 : St w0 [] (fl []) w4 := hS5.pick [] rfl (by decide)
      obtain rfl : i = B.length := by omega
      exact ⟨by rw [hr, List.take_length]; rfl, hS6⟩

theorem Sum_ok (w0 : World) (aB : Option Addr) (cB : Nat) (B : List Nat) (vB : Hp) (hB : Sl .u8 aB cB B vB) (oB : Old w0 [] vB) :
    Calls Try.prog 11 #[.slice aB B.length cB] w0 (Ret fun v w' => v = .int .u32 ((crcM 0 B : Nat) : Int) ∧ St w0 [] (fl []) w') := by
  refine k_enter (vs := [.slice aB B.length cB]) Try.func11 rfl Try.ntmps11 rfl ?_
  have hS : St w0 [] (fl []) w0 := St.init w0
  refine wp_seq ?_
  refine k_reg ?_
  refine s_val hS rfl rfl (r_assign rfl .c) ?_
  refine wpList_nil ?_
  refine x_tn ?_
  refine wp_seq ?_
  refine k_reg ?_
  refine s_val hS rfl rfl (r_move rfl (.t rfl rfl)) ?_
  refine s_call rfl rfl rfl (vs := [.int .u32 0, .slice aB B.length cB]) ⟨.c, (.t rfl rfl), trivial⟩ cb41 (more_ok w0 0 (by first | omega | exact Nat.le_of_lt_succ crcM_lt) aB cB B vB hB (Old.of_old (xs := []) [] oB hS rfl (by decide)) ) ?_
  rintro _ w1 ⟨rfl, ht1⟩
  have hS1 : St w0 [] (fl []) w1 := hS.callL (xs := []) (xs' := []) (zs := []) [] rfl (by decide) ht1 rfl rfl
  refine s_val hS1 rfl rfl (r_assign rfl (.t rfl rfl)) ?_
  refine wpList_nil ?_
  refine x_tn ?_
  refine k_reb [(2, .int .u32 (((crcM 0 B : Nat) : Int)))] ⟨rfl, trivial⟩ fun G1 => ?_
  refine wp_ret ?_
  refine k_ret1 Try.results11 rfl rfl ?_
  refine ⟨_, rfl, ?_⟩
  exact ⟨rfl, hS1⟩

theorem four_ok (w0 : World) (x : Nat) (hx : x ≤ 4294967295) :
    Calls Try.prog 64 #[.int .u32 (((x : Nat) : Int))] w0 (Ret fun v w' => ∃ a c sg, v = .slice a (4) c ∧ Gr .u8 U8 a c (fourL x) sg ∧ St w0 [] (fl [sg]) w') := by
  refine k_enter (vs := [.int .u32 (((x : Nat) : Int))]) Try.func64 rfl Try.ntmps64 rfl ?_
  have hS : St w0 [] (fl []) w0 := St.init w0
  refine wp_seq ?_
  refine k_reg ?_
  refine s_val hS rfl rfl (r_assign rfl .c) ?_
  refine wpList_nil ?_
  refine x_tn ?_
  refine wp_seq ?_
  refine k_reg ?_
  refine s_val hS rfl rfl (r_move rfl (.t rfl rfl)) ?_
  refine s_val hS rfl rfl (r_shr rfl (.t rfl rfl) .c (by omega) (show (2 : Int) ^ _ = ((16777216 : Nat) : Int) from rfl) fdiv_nat) ?_
  refine s_val hS rfl rfl (r_conv rfl Try.underlying25 Try.underlying5 (.t rfl rfl) (wm_u8 rfl)) ?_
  refine s_val hS rfl rfl (r_move rfl (.t rfl rfl)) ?_
  refine s_val hS rfl rfl (r_shr rfl (.t rfl rfl) .c (by omega) (show (2 : Int) ^ _ = ((65536 : Nat) : Int) from rfl) fdiv_nat) ?_
  refine s_val hS rfl rfl (r_conv rfl Try.underlying25 Try.underlying5 (.t rfl rfl) (wm_u8 rfl)) ?_
  refine s_val hS rfl rfl (r_move rfl (.t rfl rfl)) ?_
  refine s_val hS rfl rfl (r_shr rfl (.t rfl rfl) .c (by omega) (show (2 : Int) ^ _ = ((256 : Nat) : Int) from rfl) fdiv_nat) ?_
  refine s_val hS rfl rfl (r_conv rfl Try.underlying25 Try.underlying5 (.t rfl rfl) (wm_u8 rfl)) ?_
  refine s_val hS rfl rfl (r_move rfl (.t rfl rfl)) ?_
  refine s_val hS rfl rfl (r_conv rfl Try.underlying25 Try.underlying5 (.t rfl rfl) (wm_u8 rfl)) ?_
  refine s_lit rfl rfl rfl Try.underlying22 ti5 (vs := [(0, .int .u8 ((((x / 16777216) % 256 : Nat) : Int))), (1, .int .u8 ((((x / 65536) % 256 : Nat) : Int))), (2, .int .u8 ((((x / 256) % 256 : Nat) : Int))), (3, .int .u8 (((x % 256 : Nat) : Int)))]) ⟨rfl, (.t rfl rfl), ⟨rfl, (.t rfl rfl), ⟨rfl, (.t rfl rfl), ⟨rfl, (.t rfl rfl), trivial⟩⟩⟩⟩ (L := [(x / 16777216) % 256, (x / 65536) % 256, (x / 256) % 256, x % 256]) rfl (by omega) rfl hS fun blk1 w1 hb1 hB1 hS1 => ?_
  have hS2 : St w0 [] (fl [[(blk1, .cells (encN .u8 ([(x / 16777216) % 256, (x / 65536) % 256, (x / 256) % 256, x % 256])) 5 (0, 0))]]) w1 := hS1.push 0 rfl
  refine s_val hS2 rfl rfl (r_assign rfl (.t rfl rfl)) ?_
  refine wpList_nil ?_
  refine x_tn ?_
  refine k_reb [(2, .slice (some ⟨blk1, 0, none⟩) 4 4)] ⟨rfl, trivial⟩ fun G1 => ?_
  refine wp_ret ?_
  refine k_ret1 Try.results64 rfl rfl ?_
  refine ⟨_, rfl, ?_⟩
  obtain ⟨sg1, hG1, hS3⟩ : ∃ sg1 : Hp, Gr .u8 5 (some ⟨blk1, 0, none⟩) ([(x / 16777216) % 256, (x / 65536) % 256, (x / 256) % 256, x % 256]).length ([(x / 16777216) % 256, (x / 65536) % 256, (x / 256) % 256, x % 256]) sg1 ∧ St w0 [] (fl [sg1]) w1 := ⟨_, Gr.of_row (by first | rfl | (simp; done) | omega), hS2.pick [0] rfl (by decide)⟩
  exact ⟨_, _, _, (by first | rfl | (congr 1; simp; done) | (congr 1; omega)), hG1, hS3⟩

theorem number_ok (w0 : World) (aB : Option Addr) (cB : Nat) (B : List Nat) (vB : Hp) (hB : Sl .u8 aB cB B vB) (oB : Old w0 [] vB) (l4 : 4 ≤ B.length) :
    Calls Try.prog 49 #[.slice aB B.length cB] w0 (Ret fun v w' => ∃ q : Nat, NumIs q B ∧ q ≤ 4294967295 ∧ v = .int .u32 (q : Int) ∧ St w0 [] (fl []) w') := by
  refine k_enter (vs := [.slice aB B.length cB]) Try.func49 rfl Try.ntmps49 rfl ?_
  have hS : St w0 [] (fl []) w0 := St.init w0
  have lB := hB.most
  have fB : ∀ x ∈ B, x ≤ 255 := hB.fit
  refine wp_seq ?_
  refine k_reg ?_
  refine s_val hS rfl rfl (r_assign rfl .c) ?_
  refine wpList_nil ?_
  refine x_tn ?_
  refine wp_seq ?_
  refine k_regq mixed (by kernel_rfl) hS ?_
  refine q_val rfl rfl (r_move rfl (.t rfl rfl)) ?_
  refine q_val rfl rfl (r_ixl (j := 0) rfl Try.underlying22 ti5 (.t rfl rfl) .c hB rfl rfl (by omega)) ?_
  have b1 : B.getD 0 0 ≤ 255 := hB.lt _
  refine q_val rfl rfl (r_load rfl one5 (.t rfl rfl) (hB.cell_o oB (by omega))) ?_
  refine q_val rfl rfl (r_conv rfl Try.underlying5 Try.underlying25 (.t rfl rfl) (c := ((B.getD 0 0 : Nat) : Int)) (wn_u32 rfl (by omega))) ?_
  refine q_val rfl rfl (r_shl rfl (.t rfl rfl) .c (by omega) (show (2 : Int) ^ _ = ((16777216 : Nat) : Int) from rfl) (c := (((B.getD 0 0) * 16777216 : Nat) : Int)) (wn_u32 (Int.natCast_mul _ _).symm (by omega))) ?_
  refine q_val rfl rfl (r_move rfl (.t rfl rfl)) ?_
  refine q_val rfl rfl (r_ixl (j := 1) rfl Try.underlying22 ti5 (.t rfl rfl) .c hB rfl rfl (by omega)) ?_
  have b2 : B.getD 1 0 ≤ 255 := hB.lt _
  refine q_val rfl rfl (r_load rfl one5 (.t rfl rfl) (hB.cell_o oB (by omega))) ?_
  refine q_val rfl rfl (r_conv rfl Try.underlying5 Try.underlying25 (.t rfl rfl) (c := ((B.getD 1 0 : Nat) : Int)) (wn_u32 rfl (by omega))) ?_
  refine q_val rfl rfl (r_shl rfl (.t rfl rfl) .c (by omega) (show (2 : Int) ^ _ = ((65536 : Nat) : Int) from rfl) (c := (((B.getD 1 0) * 65536 : Nat) : Int)) (wn_u32 (Int.natCast_mul _ _).symm (by omega))) ?_
  refine q_val rfl rfl (r_or rfl (.t rfl rfl) (.t rfl rfl) (show (B.getD 0 0) * 16777216 < 4294967296 from by omega) (show (B.getD 1 0) * 65536 < 4294967296 from by omega) (c := B.getD 0 0 * 16777216 + B.getD 1 0 * 65536) (or_dvd (k := 24) (m := 16777216) rfl (by omega) (by omega)) (wn_u32 rfl (by omega))) ?_
  refine q_val rfl rfl (r_move rfl (.t rfl rfl)) ?_
  refine q_val rfl rfl (r_ixl (j := 2) rfl Try.underlying22 ti5 (.t rfl rfl) .c hB rfl rfl (by omega)) ?_
  have b3 : B.getD 2 0 ≤ 255 := hB.lt _
  refine q_val rfl rfl (r_load rfl one5 (.t rfl rfl) (hB.cell_o oB (by omega))) ?_
  refine q_val rfl rfl (r_conv rfl Try.underlying5 Try.underlying25 (.t rfl rfl) (c := ((B.getD 2 0 : Nat) : Int)) (wn_u32 rfl (by omega))) ?_
  refine q_val rfl rfl (r_shl rfl (.t rfl rfl) .c (by omega) (show (2 : Int) ^ _ = ((256 : Nat) : Int) from rfl) (c := (((B.getD 2 0) * 256 : Nat) : Int)) (wn_u32 (Int.natCast_mul _ _).symm (by omega))) ?_
  refine q_val rfl rfl (r_or rfl (.t rfl rfl) (.t rfl rfl) (show B.getD 0 0 * 16777216 + B.getD 1 0 * 65536 < 4294967296 from by omega) (show (B.getD 2 0) * 256 < 4294967296 from by omega) (c := B.getD 0 0 * 16777216 + B.getD 1 0 * 65536 + B.getD 2 0 * 256) (or_dvd (k := 16) (m := 65536) rfl (by omega) (by omega)) (wn_u32 rfl (by omega))) ?_
  refine q_val rfl rfl (r_move rfl (.t rfl rfl)) ?_
  refine q_val rfl rfl (r_ixl (j := 3) rfl Try.underlying22 ti5 (.t rfl rfl) .c hB rfl rfl (by omega)) ?_
  have b4 : B.getD 3 0 ≤ 255 := hB.lt _
  refine q_val rfl rfl (r_load rfl one5 (.t rfl rfl) (hB.cell_o oB (by omega))) ?_
  refine q_val rfl rfl (r_conv rfl Try.underlying5 Try.underlying25 (.t rfl rfl) (c := ((B.getD 3 0 : Nat) : Int)) (wn_u32 rfl (by omega))) ?_
  refine q_val rfl rfl (r_or rfl (.t rfl rfl) (.t rfl rfl) (show B.getD 0 0 * 16777216 + B.getD 1 0 * 65536 + B.getD 2 0 * 256 < 4294967296 from by omega) (show B.getD 3 0 < 4294967296 from by omega) (c := B.getD 0 0 * 16777216 + B.getD 1 0 * 65536 + B.getD 2 0 * 256 + B.getD 3 0) (or_dvd (k := 8) (m := 256) rfl (by omega) (by omega)) (wn_u32 rfl (by omega))) ?_
  refine q_val rfl rfl (r_assign rfl (.t rfl rfl)) ?_
  refine q_nil ?_
  intro w1 hS1
  refine x_tn ?_
  refine k_reb [(2, .int .u32 (((B.getD 0 0 * 16777216 + B.getD 1 0 * 65536 + B.getD 2 0 * 256 + B.getD 3 0 : Nat) : Int)))] ⟨rfl, trivial⟩ fun G1 => ?_
  refine wp_ret ?_
  refine k_ret1 Try.results49 rfl rfl ?_
  refine ⟨_, rfl, ?_⟩
  exact ⟨numL B, rfl, numL_lt fB, rfl, hS1⟩

theorem Clone_ok (w0 : World) (aB : Option Addr) (cB : Nat) (B : List Nat) (vB : Hp) (hB : Sl .u8 aB cB B vB) (oB : Old w0 [] vB) (lB : B.length ≤ 1000000000000) :
    Calls Try.prog 45 #[.slice aB B.length cB] w0 (Ret fun v w' => ∃ a c sg, v = .slice a (B.length) c ∧ Gr .u8 U8 a c (B) sg ∧ St w0 [] (fl [sg]) w') := by
  refine k_enter (vs := [.slice aB B.length cB]) Try.func45 rfl Try.ntmps45 rfl ?_
  have hS : St w0 [] (fl []) w0 := St.init w0
  have fB : ∀ x ∈ B, x ≤ 255 := hB.fit
  refine wp_seq ?_
  refine k_reg ?_
  refine s_val hS rfl rfl (r_assign rfl .c) ?_
  refine wpList_nil ?_
  refine x_tn ?_
  refine wp_seq ?_
  refine wp_seq ?_
  refine k_reg ?_
  refine s_val hS rfl rfl (r_move rfl (.t rfl rfl)) ?_
  by_cases c1 : aB.isNone = true
  · refine s_val hS rfl rfl (r_eqnil_b rfl Try.underlying22 (.t rfl rfl) .c (show aB.isNone = true from c1)) ?_
    refine wpList_nil ?_
    refine x_tn ?_
    refine k_reb [(0, .slice aB B.length cB), (2, .slice none 0 0), (4, .bool true)] ⟨rfl, rfl, rfl, trivial⟩ fun G1 => ?_
    refine k_t (.t rfl rfl) ?_
    refine wp_seq ?_
    refine k_reg ?_
    refine s_val hS rfl rfl (r_assign rfl .c) ?_
    refine wpList_nil ?_
    refine x_tn ?_
    refine k_reb [(0, .slice aB B.length cB), (2, .slice none 0 0)] ⟨rfl, rfl, trivial⟩ fun G2 => ?_
    refine wp_ret ?_
    refine x_tr ?_
    refine k_ret1 Try.results45 rfl rfl ?_
    refine ⟨_, rfl, ?_⟩
    obtain rfl : B = [] := by
      have ha : aB = none := by simpa using c1
      subst ha; exact hB.none_nil
    exact ⟨none, 0, [], rfl, Gr.nil, (by have := hS.pick (ys := []) [] rfl (by decide); simpa using this)⟩
  · refine s_val hS rfl rfl (r_eqnil_b rfl Try.underlying22 (.t rfl rfl) .c (show aB.isNone = false from Bool.eq_false_iff.2 c1)) ?_
    refine wpList_nil ?_
    refine x_tn ?_
    refine k_reb [(0, .slice aB B.length cB), (2, .slice none 0 0), (4, .bool false)] ⟨rfl, rfl, rfl, trivial⟩ fun G3 => ?_
    refine k_f (.t rfl rfl) ?_
    refine wp_skip ?_
    refine x_tn ?_
    refine k_reb [(0, .slice aB B.length cB), (2, .slice none 0 0)] ⟨rfl, rfl, trivial⟩ fun G4 => ?_
    refine wp_seq ?_
    refine k_reg ?_
    refine s_lit rfl rfl rfl Try.underlying22 ti5 (vs := []) trivial (L := []) rfl (by omega) rfl hS fun blk1 w1 hb1 hB1 hS1 => ?_
    have hS2 : St w0 [] (fl [[(blk1, .cells (encN .u8 ([])) 5 (0, 0))]]) w1 := hS1.push 0 rfl
    refine s_val hS2 rfl rfl (r_move rfl (.t rfl rfl)) ?_
    obtain ⟨sg1, hG1, hS3⟩ : ∃ sg1 : Hp, Gr .u8 5 (some ⟨blk1, 0, none⟩) ([]).length ([]) sg1 ∧ St w0 [] (fl [sg1]) w1 := ⟨_, Gr.of_row (by first | rfl | (simp; done) | omega), hS2.pick [0] rfl (by decide)⟩
    refine s_appendG (i := 0) rfl rfl rfl rfl ⟨_, _, rfl, Try.underlying22⟩ Try.underlying22 ti5 (by omega) (by omega) (.t rfl rfl) (.t rfl rfl) rfl hG1 hS3 (by first | rfl | assumption | omega | (simp; done) | (simp; omega)) hB (oB.has hS3) rfl (by first | omega | (simp; omega)) fun ga1 gc1 sg2 w2 hG2 hS4 => ?_
    have hS5 : St w0 [] (fl [sg2]) w2 := hS4
    rw [List.nil_append] at hG2
    refine s_val hS5 rfl rfl (r_assign rfl (.t rfl rfl)) ?_
    refine wpList_nil ?_
    refine x_tn ?_
    refine k_reb [(2, .slice ga1 (0 + B.length) gc1)] ⟨rfl, trivial⟩ fun G5 => ?_
    refine wp_ret ?_
    refine k_ret1 Try.results45 rfl rfl ?_
    refine ⟨_, rfl, ?_⟩
    exact ⟨_, _, _, (by first | rfl | (congr 1; simp; done) | (congr 1; omega)), hG2, hS5⟩

theorem Copy_ok (w0 : World) (aB : Option Addr) (cB : Nat) (B : List Nat) (vB : Hp) (hB : Sl .u8 aB cB B vB) (oB : Old w0 [] vB) (lB : B.length ≤ 1000000000000) :
    Calls Try.prog 13 #[.slice aB B.length cB] w0 (Ret fun v w' => ∃ a c sg, v = .slice a (B.length) c ∧ Gr .u8 U8 a c (B) sg ∧ St w0 [] (fl [sg]) w') := by
  refine k_enter (vs := [.slice aB B.length cB]) Try.func13 rfl Try.ntmps13 rfl ?_
  have hS : St w0 [] (fl []) w0 := St.init w0
  have fB : ∀ x ∈ B, x ≤ 255 := hB.fit
  refine wp_seq ?_
  refine k_reg ?_
  refine s_val hS rfl rfl (r_assign rfl .c) ?_
  refine wpList_nil ?_
  refine x_tn ?_
  refine wp_seq ?_
  refine k_reg ?_
  refine s_val hS rfl rfl (r_assign rfl .c) ?_
  refine wpList_nil ?_
  refine x_tn ?_
  refine wp_seq ?_
  refine k_reg ?_
  refine s_val hS rfl rfl (r_move rfl (.t rfl rfl)) ?_
  refine s_val hS rfl rfl (r_move rfl (.t rfl rfl)) ?_
  have hS1 : St w0 [] (fl [[]]) w0 := St.re hS (by simp)
  refine s_appendG (i := 0) rfl rfl rfl rfl ⟨_, _, rfl, Try.underlying22⟩ Try.underlying22 ti5 (by omega) (by omega) (.t rfl rfl) (.t rfl rfl) rfl Gr.nil hS1 (by first | rfl | assumption | omega | (simp; done) | (simp; omega)) hB (oB.has hS1) rfl (by first | omega | (simp; omega)) fun ga1 gc1 sg1 w1 hG1 hS2 => ?_
  have hS3 : St w0 [] (fl [sg1]) w1 := hS2
  rw [List.nil_append] at hG1
  refine s_val hS3 rfl rfl (r_assign rfl (.t rfl rfl)) ?_
  refine wpList_nil ?_
  refine x_tn ?_
  refine k_reb [(2, .slice none 0 0), (3, .slice ga1 (0 + B.length) gc1)] ⟨rfl, rfl, trivial⟩ fun G1 => ?_
  refine wp_seq ?_
  refine k_reg ?_
  refine s_val hS3 rfl rfl (r_move rfl (.t rfl rfl)) ?_
  refine s_val hS3 rfl rfl (r_assign rfl (.t rfl rfl)) ?_
  refine wpList_nil ?_
  refine x_tn ?_
  refine k_reb [(2, .slice ga1 (0 + B.length) gc1)] ⟨rfl, trivial⟩ fun G2 => ?_
  refine wp_ret ?_
  refine k_ret1 Try.results13 rfl rfl ?_
  refine ⟨_, rfl, ?_⟩
  exact ⟨_, _, _, (by first | rfl | (congr 1; simp; done) | (congr 1; omega)), hG1, hS3⟩

theorem num_ok (w0 : World) (x : Int) :
    Calls Try.prog 16 #[.int .i64 x] w0 (Ret fun v w' => v = .int .i64 x ∧ w' = w0) := by
  refine k_enter (vs := [.int .i64 x]) Try.func16 rfl Try.ntmps16 rfl ?_
  have hS := St.init w0
  refine wp_seq ?_
  refine k_reg ?_
  refine s_val hS rfl rfl (r_assign rfl .c) ?_
  refine wpList_nil ?_
  refine x_tn ?_
  refine wp_seq ?_
  refine k_reg ?_
  refine s_val hS rfl rfl (r_move rfl (.t rfl rfl)) ?_
  refine s_val hS rfl rfl (r_assign rfl (.t rfl rfl)) ?_
  refine wpList_nil ?_
  refine x_tn ?_
  refine k_reb [(2, .int .i64 x)] ⟨rfl, trivial⟩ fun G1 => ?_
  refine wp_ret ?_
  refine k_ret1 Try.results16 rfl rfl ?_
  refine ⟨_, rfl, ?_⟩
  exact ⟨rfl, rfl⟩

theorem hasPre_ok (w0 : World) (s t : ByteArray) (ls : s.size ≤ 9223372036854775807) (lt_ : t.size ≤ 9223372036854775807) :
    Calls Try.prog 62 #[.string s, .string t] w0 (Ret fun v w' => v = .bool (decide (strL t = (strL s).take t.size)) ∧ St w0 [] (fl []) w') := by
  refine k_enter (vs := [.string s, .string t]) Try.func62 rfl Try.ntmps62 rfl ?_
  have hS : St w0 [] (fl []) w0 := St.init w0
  refine wp_seq ?_
  refine k_reg ?_
  refine s_val hS rfl rfl (r_assign rfl .c) ?_
  refine wpList_nil ?_
  refine x_tn ?_
  refine wp_seq ?_
  refine k_reg ?_
  refine s_val hS rfl rfl (r_move rfl (.t rfl rfl)) ?_
  refine s_val hS rfl rfl (r_lens rfl rfl Try.underlying9 (.t rfl rfl)) ?_
  refine s_val hS rfl rfl (r_move rfl (.t rfl rfl)) ?_
  refine s_val hS rfl rfl (r_lens rfl rfl Try.underlying9 (.t rfl rfl)) ?_
  by_cases c1 : s.size ≥ t.size
  · refine s_val hS rfl rfl (r_cmp_t rfl rfl (.t rfl rfl) (.t rfl rfl) (show ((s.size : Nat) : Int) ≥ ((t.size : Nat) : Int) from by omega)) ?_
    refine s_val hS rfl rfl (r_move rfl (.t rfl rfl)) ?_
    refine s_valg hS (wanted_of (j := 5) (b := true) (d := 10) rfl rfl rfl rfl) rfl (r_move rfl (.t rfl rfl)) ?_
    refine s_valg hS (wanted_of (j := 5) (b := true) (d := 10) rfl rfl rfl rfl) rfl (r_move rfl (.t rfl rfl)) ?_
    refine s_valg hS (wanted_of (j := 5) (b := true) (d := 10) rfl rfl rfl rfl) rfl (r_lens rfl rfl Try.underlying9 (.t rfl rfl)) ?_
    refine s_valg hS (wanted_of (j := 5) (b := true) (d := 10) rfl rfl rfl rfl) rfl (r_cutstr (hh := t.size) rfl Try.underlying9 (.t rfl rfl) (.s (.t rfl rfl)) (by omega) rfl) ?_
    refine s_valg hS (wanted_of (j := 5) (b := true) (d := 10) rfl rfl rfl rfl) rfl (r_move rfl (.t rfl rfl)) ?_
    refine s_valg hS (wanted_of (j := 5) (b := true) (d := 10) rfl rfl rfl rfl) rfl (r_eqstr rfl (.t rfl rfl) (.t rfl rfl) (r := decide (strL t = (strL s).take t.size)) (pre_eq s t t.size)) ?_
    refine s_val hS rfl rfl (r_pick rfl (.t rfl rfl) (.t rfl rfl)) ?_
    refine s_val hS rfl rfl (r_assign rfl (.t rfl rfl)) ?_
    refine wpList_nil ?_
    refine x_tn ?_
    refine k_reb [(4, .bool (decide (strL t = (strL s).take t.size)))] ⟨rfl, trivial⟩ fun G1 => ?_
    refine wp_ret ?_
    refine k_ret1 Try.results62 rfl rfl ?_
    refine ⟨_, rfl, ?_⟩
    exact ⟨rfl, hS⟩
  · refine s_val hS rfl rfl (r_cmp_f rfl rfl (.t rfl rfl) (.t rfl rfl) (show ¬ (((s.size : Nat) : Int) ≥ ((t.size : Nat) : Int)) from by omega)) ?_
    refine s_val hS rfl rfl (r_move rfl (.t rfl rfl)) ?_
    refine s_skip (unwanted_of (j := 5) (b := true) (b' := false) (d := 10) rfl rfl rfl rfl rfl) rfl ?_
    refine s_skip (unwanted_of (j := 5) (b := true) (b' := false) (d := 10) rfl rfl rfl rfl rfl) rfl ?_
    refine s_skip (unwanted_of (j := 5) (b := true) (b' := false) (d := 10) rfl rfl rfl rfl rfl) rfl ?_
    refine s_skip (unwanted_of (j := 5) (b := true) (b' := false) (d := 10) rfl rfl rfl rfl rfl) rfl ?_
    refine s_skip (unwanted_of (j := 5) (b := true) (b' := false) (d := 10) rfl rfl rfl rfl rfl) rfl ?_
    refine s_skip (unwanted_of (j := 5) (b := true) (b' := false) (d := 10) rfl rfl rfl rfl rfl) rfl ?_
    refine s_val hS rfl rfl (r_pick rfl (.t rfl rfl) .c) ?_
    refine s_val hS rfl rfl (r_assign rfl (.t rfl rfl)) ?_
    refine wpList_nil ?_
    refine x_tn ?_
    refine k_reb [(4, .bool false)] ⟨rfl, trivial⟩ fun G2 => ?_
    refine wp_ret ?_
    refine k_ret1 Try.results62 rfl rfl ?_
    refine ⟨_, rfl, ?_⟩
    exact ⟨by rw [decide_eq_false (by intro q; have := congrArg List.length q; rw [strL_len, List.length_take, strL_len] at this; omega)], hS⟩

theorem HasPrefix_ok (w0 : World) (s t : ByteArray) (ls : s.size ≤ 9223372036854775807) (lt_ : t.size ≤ 9223372036854775807) :
    Calls Try.prog 47 #[.string s, .string t] w0 (Ret fun v w' => v = .bool (decide (strL t = (strL s).take t.size)) ∧ St w0 [] (fl []) w') := by
  refine k_enter (vs := [.string s, .string t]) Try.func47 rfl Try.ntmps47 rfl ?_
  have hS : St w0 [] (fl []) w0 := St.init w0
  refine wp_seq ?_
  refine k_reg ?_
  refine s_val hS rfl rfl (r_assign rfl .c) ?_
  refine wpList_nil ?_
  refine x_tn ?_
  refine wp_seq ?_
  refine k_reg ?_
  refine s_val hS rfl rfl (r_move rfl (.t rfl rfl)) ?_
  refine s_val hS rfl rfl (r_move rfl (.t rfl rfl)) ?_
  refine s_call rfl rfl rfl (vs := [.string s, .string t]) ⟨(.t rfl rfl), (.t rfl rfl), trivial⟩ cb62 (hasPre_ok w0 s t (by omega) (by omega) ) ?_
  rintro _ w1 ⟨rfl, ht1⟩
  have hS1 : St w0 [] (fl []) w1 := hS.callL (xs := []) (xs' := []) (zs := []) [] rfl (by decide) ht1 rfl rfl
  refine s_val hS1 rfl rfl (r_assign rfl (.t rfl rfl)) ?_
  refine wpList_nil ?_
  refine x_tn ?_
  refine k_reb [(4, .bool (decide (strL t = (strL s).take t.size)))] ⟨rfl, trivial⟩ fun G1 => ?_
  refine wp_ret ?_
  refine k_ret1 Try.results47 rfl rfl ?_
  refine ⟨_, rfl, ?_⟩
  exact ⟨rfl, hS1⟩

theorem named_ok (w0 : World) (s : ByteArray) (ls : s.size ≤ 9223372036854775807) :
    Calls Try.prog 63 #[.string s] w0 (Ret fun v w' => v = .bool (okName s) ∧ St w0 [] (fl []) w') := by
  refine k_enter (vs := [.string s]) Try.func63 rfl Try.ntmps63 rfl ?_
  have hS : St w0 [] (fl []) w0 := St.init w0
  refine wp_seq ?_
  refine k_reg ?_
  refine s_val hS rfl rfl (r_assign rfl .c) ?_
  refine wpList_nil ?_
  refine x_tn ?_
  refine wp_seq ?_
  refine wp_seq ?_
  refine k_reg ?_
  refine s_val hS rfl rfl (r_move rfl (.t rfl rfl)) ?_
  refine s_val hS rfl rfl (r_lens rfl rfl Try.underlying9 (.t rfl rfl)) ?_
  by_cases c1 : s.size < 1
  · refine s_val hS rfl rfl (r_cmp_t rfl rfl (.t rfl rfl) .c (show ((s.size : Nat) : Int) < 1 from by omega)) ?_
    refine s_val hS rfl rfl (r_move rfl (.t rfl rfl)) ?_
    refine s_skip (unwanted_of (j := 3) (b := false) (b' := true) (d := 8) rfl rfl rfl rfl rfl) rfl ?_
    refine s_skip (unwanted_of (j := 3) (b := false) (b' := true) (d := 8) rfl rfl rfl rfl rfl) rfl ?_
    refine s_skip (unwanted_of (j := 3) (b := false) (b' := true) (d := 8) rfl rfl rfl rfl rfl) rfl ?_
    refine s_val hS rfl rfl (r_pick rfl (.t rfl rfl) .c) ?_
    refine wpList_nil ?_
    refine x_tn ?_
    refine k_reb [(0, .string s), (2, .bool false), (12, .bool true)] ⟨rfl, rfl, rfl, trivial⟩ fun G1 => ?_
    refine k_t (.t rfl rfl) ?_
    refine wp_seq ?_
    refine k_reg ?_
    refine s_val hS rfl rfl (r_assign rfl .c) ?_
    refine wpList_nil ?_
    refine x_tn ?_
    refine k_reb [(0, .string s), (2, .bool false)] ⟨rfl, rfl, trivial⟩ fun G2 => ?_
    refine wp_ret ?_
    refine x_tr ?_
    refine k_ret1 Try.results63 rfl rfl ?_
    refine ⟨_, rfl, ?_⟩
    exact ⟨by rw [okName_len (by omega)], hS⟩
  · refine s_val hS rfl rfl (r_cmp_f rfl rfl (.t rfl rfl) .c (show ¬ (((s.size : Nat) : Int) < 1) from by omega)) ?_
    refine s_val hS rfl rfl (r_move rfl (.t rfl rfl)) ?_
    refine s_valg hS (wanted_of (j := 3) (b := false) (d := 8) rfl rfl rfl rfl) rfl (r_move rfl (.t rfl rfl)) ?_
    refine s_valg hS (wanted_of (j := 3) (b := false) (d := 8) rfl rfl rfl rfl) rfl (r_lens rfl rfl Try.underlying9 (.t rfl rfl)) ?_
    by_cases c2 : s.size > 64
    · refine s_valg hS (wanted_of (j := 3) (b := false) (d := 8) rfl rfl rfl rfl) rfl (r_cmp_t rfl rfl (.t rfl rfl) .c (show ((s.size : Nat) : Int) > 64 from by omega)) ?_
      refine s_val hS rfl rfl (r_pick rfl (.t rfl rfl) (.t rfl rfl)) ?_
      refine wpList_nil ?_
      refine x_tn ?_
      refine k_reb [(0, .string s), (2, .bool false), (12, .bool true)] ⟨rfl, rfl, rfl, trivial⟩ fun G3 => ?_
      refine k_t (.t rfl rfl) ?_
      refine wp_seq ?_
      refine k_reg ?_
      refine s_val hS rfl rfl (r_assign rfl .c) ?_
      refine wpList_nil ?_
      refine x_tn ?_
      refine k_reb [(0, .string s), (2, .bool false)] ⟨rfl, rfl, trivial⟩ fun G4 => ?_
      refine wp_ret ?_
      refine x_tr ?_
      refine k_ret1 Try.results63 rfl rfl ?_
      refine ⟨_, rfl, ?_⟩
      exact ⟨by rw [okName_len (by omega)], hS⟩
    · refine s_valg hS (wanted_of (j := 3) (b := false) (d := 8) rfl rfl rfl rfl) rfl (r_cmp_f rfl rfl (.t rfl rfl) .c (show ¬ (((s.size : Nat) : Int) > 64) from by omega)) ?_
      refine s_val hS rfl rfl (r_pick rfl (.t rfl rfl) (.t rfl rfl)) ?_
      refine wpList_nil ?_
      refine x_tn ?_
      refine k_reb [(0, .string s), (2, .bool false), (12, .bool false)] ⟨rfl, rfl, rfl, trivial⟩ fun G5 => ?_
      refine k_f (.t rfl rfl) ?_
      refine wp_skip ?_
      refine x_tn ?_
      refine k_reb [(0, .string s), (2, .bool false)] ⟨rfl, rfl, trivial⟩ fun G6 => ?_
      refine wp_seq ?_
      refine wp_seq ?_
      refine k_reg ?_
      refine s_val hS rfl rfl (r_move rfl (.t rfl rfl)) ?_
      refine s_sbytes rfl rfl rfl Try.underlying9 Try.underlying22 Try.underlying5 (.t rfl rfl) (by omega) hS fun blk1 c3 ob1 w1 hx1 hS1 => ?_
      obtain ⟨sg1, hx2, hS2⟩ : ∃ sg1 : Hp, Sl .u8 (some ⟨blk1, 0, none⟩) c3 (strL s) sg1 ∧ St w0 [] (fl [sg1]) w1 := ⟨_, hx1, hS1.push 0 rfl⟩
      have hn1 := strL_len s
      refine s_val hS2 rfl rfl (r_len rfl rfl Try.underlying22 (.t rfl rfl)) ?_
      refine s_val hS2 rfl rfl (r_move rfl .c) ?_
      refine wpList_nil ?_
      refine x_tn ?_
      refine k_reb [(2, .bool false), (14, .slice (some ⟨blk1, 0, none⟩) s.size c3), (15, .int .i64 (((s.size : Nat) : Int))), (16, .int .i64 0)] ⟨rfl, rfl, rfl, rfl, trivial⟩ fun G7 => ?_
      refine wp_block ?_
      refine wp_loop_ghost (fun (m1 : Nat) a w => ∃ (G : Nat → Value) (i : Nat), a = fr 47 [(2, .bool false), (14, .slice (some ⟨blk1, 0, none⟩) s.size c3), (15, .int .i64 (((s.size : Nat) : Int))), (16, .int .i64 (((i : Nat) : Int)))] G ∧ St w0 [] (fl [sg1]) w ∧ (m1 = s.size - i ∧ i ≤ s.size ∧ ((strL s).take i).all okC = true)) (s.size) ⟨_, 0, fr_reb _ ⟨rfl, rfl, rfl, rfl, trivial⟩, hS2, ?_⟩ ?_
      · exact ⟨rfl, by omega, rfl⟩
      · intro m1 _ w2 hI1
        obtain ⟨G8, i, rfl, hS3, ⟨hm, hi, hr⟩⟩ := hI1
        refine wp_seq ?_
        refine k_reg ?_
        by_cases c4 : i < s.size
        · refine s_val hS3 rfl rfl (r_cmp_t rfl rfl (.t rfl rfl) (.t rfl rfl) (show ((i : Nat) : Int) < ((s.size : Nat) : Int) from by omega)) ?_
          refine wpList_nil ?_
          refine x_tn ?_
          refine wp_seq ?_
          refine k_t (.t rfl rfl) ?_
          refine wp_skip ?_
          refine x_tn ?_
          refine k_reb [(2, .bool false), (14, .slice (some ⟨blk1, 0, none⟩) s.size c3), (15, .int .i64 (((s.size : Nat) : Int))), (16, .int .i64 (((i : Nat) : Int)))] ⟨rfl, rfl, rfl, rfl, trivial⟩ fun G9 => ?_
          refine wp_seq ?_
          refine wp_block ?_
          refine wp_seq ?_
          refine k_reg ?_
          refine s_val hS3 rfl rfl (r_ixl (j := i) rfl Try.underlying22 ti5 (.t rfl rfl) (.t rfl rfl) hx2 (strL_len _) rfl (by omega)) ?_
          have b1 : ((strL s)).getD i 0 ≤ 255 := hx2.lt _
          refine s_val hS3 rfl rfl (r_load rfl one5 (.t rfl rfl) (hx2.cell_p (i := 0) rfl (by omega))) ?_
          refine s_val hS3 rfl rfl (r_assign rfl (.t rfl rfl)) ?_
          refine wpList_nil ?_
          refine x_tn ?_
          refine k_reb [(2, .bool false), (4, .int .u8 (((((strL s)).getD i 0 : Nat) : Int))), (14, .slice (some ⟨blk1, 0, none⟩) s.size c3), (15, .int .i64 (((s.size : Nat) : Int))), (16, .int .i64 (((i : Nat) : Int)))] ⟨rfl, rfl, rfl, rfl, rfl, trivial⟩ fun G10 => ?_
          refine wp_seq ?_
          refine k_reg ?_
          refine s_val hS3 rfl rfl (r_move rfl (.t rfl rfl)) ?_
          by_cases c5 : ((strL s)).getD i 0 < 97
          · refine s_val hS3 rfl rfl (r_cmp_t rfl rfl (.t rfl rfl) .c (show ((((strL s)).getD i 0 : Nat) : Int) < 97 from by omega)) ?_
            refine s_val hS3 rfl rfl (r_move rfl (.t rfl rfl)) ?_
            refine s_skip (unwanted_of (j := 2) (b := false) (b' := true) (d := 22) rfl rfl rfl rfl rfl) rfl ?_
            refine s_skip (unwanted_of (j := 2) (b := false) (b' := true) (d := 22) rfl rfl rfl rfl rfl) rfl ?_
            refine s_val hS3 rfl rfl (r_pick rfl (.t rfl rfl) .c) ?_
            refine s_val hS3 rfl rfl (r_move rfl (.t rfl rfl)) ?_
            refine s_valg hS3 (wanted_of (j := 6) (b := true) (d := 26) rfl rfl rfl rfl) rfl (r_move rfl (.t rfl rfl)) ?_
            by_cases c6 : ((strL s)).getD i 0 < 48
            · refine s_valg hS3 (wanted_of (j := 6) (b := true) (d := 26) rfl rfl rfl rfl) rfl (r_cmp_t rfl rfl (.t rfl rfl) .c (show ((((strL s)).getD i 0 : Nat) : Int) < 48 from by omega)) ?_
              refine s_valg hS3 (wanted_of (j := 6) (b := true) (d := 26) rfl rfl rfl rfl) rfl (r_move rfl (.t rfl rfl)) ?_
              refine s_skip (unwanted_of (j := 9) (b := false) (b' := true) (d := 29) rfl rfl rfl rfl rfl) rfl ?_
              refine s_skip (unwanted_of (j := 9) (b := false) (b' := true) (d := 29) rfl rfl rfl rfl rfl) rfl ?_
              refine s_valg hS3 (wanted_of (j := 6) (b := true) (d := 26) rfl rfl rfl rfl) rfl (r_pick rfl (.t rfl rfl) .c) ?_
              refine s_val hS3 rfl rfl (r_pick rfl (.t rfl rfl) (.t rfl rfl)) ?_
              refine s_val hS3 rfl rfl (r_move rfl (.t rfl rfl)) ?_
              refine s_valg hS3 (wanted_of (j := 14) (b := true) (d := 34) rfl rfl rfl rfl) rfl (r_move rfl (.t rfl rfl)) ?_
              by_cases c7 : ((strL s)).getD i 0 ≠ 46
              · refine s_valg hS3 (wanted_of (j := 14) (b := true) (d := 34) rfl rfl rfl rfl) rfl (r_cmp_t rfl rfl (.t rfl rfl) .c (show ¬ ((((strL s)).getD i 0 : Nat) : Int) = 46 from by omega)) ?_
                refine s_val hS3 rfl rfl (r_pick rfl (.t rfl rfl) (.t rfl rfl)) ?_
                refine s_val hS3 rfl rfl (r_move rfl (.t rfl rfl)) ?_
                refine s_valg hS3 (wanted_of (j := 18) (b := true) (d := 38) rfl rfl rfl rfl) rfl (r_move rfl (.t rfl rfl)) ?_
                by_cases c8 : ((strL s)).getD i 0 ≠ 45
                · refine s_valg hS3 (wanted_of (j := 18) (b := true) (d := 38) rfl rfl rfl rfl) rfl (r_cmp_t rfl rfl (.t rfl rfl) .c (show ¬ ((((strL s)).getD i 0 : Nat) : Int) = 45 from by omega)) ?_
                  refine s_val hS3 rfl rfl (r_pick rfl (.t rfl rfl) (.t rfl rfl)) ?_
                  refine s_val hS3 rfl rfl (r_move rfl (.t rfl rfl)) ?_
                  refine s_valg hS3 (wanted_of (j := 22) (b := true) (d := 42) rfl rfl rfl rfl) rfl (r_move rfl (.t rfl rfl)) ?_
                  by_cases c9 : ((strL s)).getD i 0 ≠ 95
                  · refine s_valg hS3 (wanted_of (j := 22) (b := true) (d := 42) rfl rfl rfl rfl) rfl (r_cmp_t rfl rfl (.t rfl rfl) .c (show ¬ ((((strL s)).getD i 0 : Nat) : Int) = 95 from by omega)) ?_
                    refine s_val hS3 rfl rfl (r_pick rfl (.t rfl rfl) (.t rfl rfl)) ?_
                    refine wpList_nil ?_
                    refine x_tn ?_
                    refine k_reb [(2, .bool false), (14, .slice (some ⟨blk1, 0, none⟩) s.size c3), (15, .int .i64 (((s.size : Nat) : Int))), (16, .int .i64 (((i : Nat) : Int))), (45, .bool true)] ⟨rfl, rfl, rfl, rfl, rfl, trivial⟩ fun G11 => ?_
                    refine k_t (.t rfl rfl) ?_
                    refine wp_seq ?_
                    refine k_reg ?_
                    refine s_val hS3 rfl rfl (r_assign rfl .c) ?_
                    refine wpList_nil ?_
                    refine x_tn ?_
                    refine k_reb [(2, .bool false), (14, .slice (some ⟨blk1, 0, none⟩) s.size c3), (15, .int .i64 (((s.size : Nat) : Int))), (16, .int .i64 (((i : Nat) : Int)))] ⟨rfl, rfl, rfl, rfl, trivial⟩ fun G12 => ?_
                    refine wp_ret ?_
                    refine x_br ?_
                    refine x_tr ?_
                    refine x_tr ?_
                    refine x_br ?_
                    refine x_tr ?_
                    refine k_ret1 Try.results63 rfl rfl ?_
                    refine ⟨_, rfl, ?_⟩
                    have hS4 : St w0 [] (fl []) w2 := hS3.pick [] rfl (by decide)
                    exact ⟨by rw [okName_no (j := i) (by rw [strL_len]; omega) (by unfold okC; simp only [← Bool.not_eq_true, decide_eq_true_eq, Bool.or_eq_true, Bool.and_eq_true]; omega)], hS4⟩
                  · refine s_valg hS3 (wanted_of (j := 22) (b := true) (d := 42) rfl rfl rfl rfl) rfl (r_cmp_f rfl rfl (.t rfl rfl) .c (show ¬ (¬ ((((strL s)).getD i 0 : Nat) : Int) = 95) from by omega)) ?_
                    refine s_val hS3 rfl rfl (r_pick rfl (.t rfl rfl) (.t rfl rfl)) ?_
                    refine wpList_nil ?_
                    refine x_tn ?_
                    refine k_reb [(2, .bool false), (14, .slice (some ⟨blk1, 0, none⟩) s.size c3), (15, .int .i64 (((s.size : Nat) : Int))), (16, .int .i64 (((i : Nat) : Int))), (45, .bool false)] ⟨rfl, rfl, rfl, rfl, rfl, trivial⟩ fun G13 => ?_
                    refine k_f (.t rfl rfl) ?_
                    refine wp_skip ?_
                    refine x_bn ?_
                    refine x_tn ?_
                    refine k_reb [(2, .bool false), (14, .slice (some ⟨blk1, 0, none⟩) s.size c3), (15, .int .i64 (((s.size : Nat) : Int))), (16, .int .i64 (((i : Nat) : Int)))] ⟨rfl, rfl, rfl, rfl, trivial⟩ fun G14 => ?_
                    refine k_reg ?_
                    refine s_val hS3 rfl rfl (r_arith rfl rfl (.t rfl rfl) .c (c := ((i + 1 : Nat) : Int)) (wn_i64 (by show (((i : Nat) : Int) : Int) + 1 = _; omega) (by omega))) ?_
                    refine s_val hS3 rfl rfl (r_move rfl (.t rfl rfl)) ?_
                    refine wpList_nil ?_
                    refine x_tn ?_
                    refine ⟨s.size - (i + 1), by omega, _, i + 1, fr_reb _ ⟨rfl, rfl, rfl, rfl, trivial⟩, hS3, ?_⟩
                    exact ⟨by omega, by omega, by rw [List.take_succ_eq_append_getElem (by rw [strL_len]; omega), List.all_append, hr]; simp only [List.all_cons, List.all_nil, Bool.and_true, Bool.true_and]; rw [← getD_get (by rw [strL_len]; omega)]; unfold okC; simp only [decide_eq_true_eq, Bool.or_eq_true, Bool.and_eq_true]; omega⟩
                · refine s_valg hS3 (wanted_of (j := 18) (b := true) (d := 38) rfl rfl rfl rfl) rfl (r_cmp_f rfl rfl (.t rfl rfl) .c (show ¬ (¬ ((((strL s)).getD i 0 : Nat) : Int) = 45) from by omega)) ?_
                  refine s_val hS3 rfl rfl (r_pick rfl (.t rfl rfl) (.t rfl rfl)) ?_
                  refine s_val hS3 rfl rfl (r_move rfl (.t rfl rfl)) ?_
                  refine s_skip (unwanted_of (j := 22) (b := true) (b' := false) (d := 42) rfl rfl rfl rfl rfl) rfl ?_
                  refine s_skip (unwanted_of (j := 22) (b := true) (b' := false) (d := 42) rfl rfl rfl rfl rfl) rfl ?_
                  refine s_val hS3 rfl rfl (r_pick rfl (.t rfl rfl) .c) ?_
                  refine wpList_nil ?_
                  refine x_tn ?_
                  refine k_reb [(2, .bool false), (14, .slice (some ⟨blk1, 0, none⟩) s.size c3), (15, .int .i64 (((s.size : Nat) : Int))), (16, .int .i64 (((i : Nat) : Int))), (45, .bool false)] ⟨rfl, rfl, rfl, rfl, rfl, trivial⟩ fun G15 => ?_
                  refine k_f (.t rfl rfl) ?_
                  refine wp_skip ?_
                  refine x_bn ?_
                  refine x_tn ?_
                  refine k_reb [(2, .bool false), (14, .slice (some ⟨blk1, 0, none⟩) s.size c3), (15, .int .i64 (((s.size : Nat) : Int))), (16, .int .i64 (((i : Nat) : Int)))] ⟨rfl, rfl, rfl, rfl, trivial⟩ fun G16 => ?_
                  refine k_reg ?_
                  refine s_val hS3 rfl rfl (r_arith rfl rfl (.t rfl rfl) .c (c := ((i + 1 : Nat) : Int)) (wn_i64 (by show (((i : Nat) : Int) : Int) + 1 = _; omega) (by omega))) ?_
                  refine s_val hS3 rfl rfl (r_move rfl (.t rfl rfl)) ?_
                  refine wpList_nil ?_
                  refine x_tn ?_
                  refine ⟨s.size - (i + 1), by omega, _, i + 1, fr_reb _ ⟨rfl, rfl, rfl, rfl, trivial⟩, hS3, ?_⟩
                  exact ⟨by omega, by omega, by rw [List.take_succ_eq_append_getElem (by rw [strL_len]; omega), List.all_append, hr]; simp only [List.all_cons, List.all_nil, Bool.and_true, Bool.true_and]; rw [← getD_get (by rw [strL_len]; omega)]; unfold okC; simp only [decide_eq_true_eq, Bool.or_eq_true, Bool.and_eq_true]; omega⟩
              · refine s_valg hS3 (wanted_of (j := 14) (b := true) (d := 34) rfl rfl rfl rfl) rfl (r_cmp_f rfl rfl (.t rfl rfl) .c (show ¬ (¬ ((((strL s)).getD i 0 : Nat) : Int) = 46) from by omega)) ?_
                refine s_val hS3 rfl rfl (r_pick rfl (.t rfl rfl) (.t rfl rfl)) ?_
                refine s_val hS3 rfl rfl (r_move rfl (.t rfl rfl)) ?_
                refine s_skip (unwanted_of (j := 18) (b := true) (b' := false) (d := 38) rfl rfl rfl rfl rfl) rfl ?_
                refine s_skip (unwanted_of (j := 18) (b := true) (b' := false) (d := 38) rfl rfl rfl rfl rfl) rfl ?_
                refine s_val hS3 rfl rfl (r_pick rfl (.t rfl rfl) .c) ?_
                refine s_val hS3 rfl rfl (r_move rfl (.t rfl rfl)) ?_
                refine s_skip (unwanted_of (j := 22) (b := true) (b' := false) (d := 42) rfl rfl rfl rfl rfl) rfl ?_
                refine s_skip (unwanted_of (j := 22) (b := true) (b' := false) (d := 42) rfl rfl rfl rfl rfl) rfl ?_
                refine s_val hS3 rfl rfl (r_pick rfl (.t rfl rfl) .c) ?_
                refine wpList_nil ?_
                refine x_tn ?_
                refine k_reb [(2, .bool false), (14, .slice (some ⟨blk1, 0, none⟩) s.size c3), (15, .int .i64 (((s.size : Nat) : Int))), (16, .int .i64 (((i : Nat) : Int))), (45, .bool false)] ⟨rfl, rfl, rfl, rfl, rfl, trivial⟩ fun G17 => ?_
                refine k_f (.t rfl rfl) ?_
                refine wp_skip ?_
                refine x_bn ?_
                refine x_tn ?_
                refine k_reb [(2, .bool false), (14, .slice (some ⟨blk1, 0, none⟩) s.size c3), (15, .int .i64 (((s.size : Nat) : Int))), (16, .int .i64 (((i : Nat) : Int)))] ⟨rfl, rfl, rfl, rfl, trivial⟩ fun G18 => ?_
                refine k_reg ?_
                refine s_val hS3 rfl rfl (r_arith rfl rfl (.t rfl rfl) .c (c := ((i + 1 : Nat) : Int)) (wn_i64 (by show (((i : Nat) : Int) : Int) + 1 = _; omega) (by omega))) ?_
                refine s_val hS3 rfl rfl (r_move rfl (.t rfl rfl)) ?_
                refine wpList_nil ?_
                refine x_tn ?_
                refine ⟨s.size - (i + 1), by omega, _, i + 1, fr_reb _ ⟨rfl, rfl, rfl, rfl, trivial⟩, hS3, ?_⟩
                exact ⟨by omega, by omega, by rw [List.take_succ_eq_append_getElem (by rw [strL_len]; omega), List.all_append, hr]; simp only [List.all_cons, List.all_nil, Bool.and_true, Bool.true_and]; rw [← getD_get (by rw [strL_len]; omega)]; unfold okC; simp only [decide_eq_true_eq, Bool.or_eq_true, Bool.and_eq_true]; omega⟩
            · refine s_valg hS3 (wanted_of (j := 6) (b := true) (d := 26) rfl rfl rfl rfl) rfl (r_cmp_f rfl rfl (.t rfl rfl) .c (show ¬ (((((strL s)).getD i 0 : Nat) : Int) < 48) from by omega)) ?_
              refine s_valg hS3 (wanted_of (j := 6) (b := true) (d := 26) rfl rfl rfl rfl) rfl (r_move rfl (.t rfl rfl)) ?_
              refine s_valg hS3 (wanted_of (j := 9) (b := false) (d := 29) rfl rfl rfl rfl) rfl (r_move rfl (.t rfl rfl)) ?_
              by_cases c10 : ((strL s)).getD i 0 > 57
              · refine s_valg hS3 (wanted_of (j := 9) (b := false) (d := 29) rfl rfl rfl rfl) rfl (r_cmp_t rfl rfl (.t rfl rfl) .c (show ((((strL s)).getD i 0 : Nat) : Int) > 57 from by omega)) ?_
                refine s_valg hS3 (wanted_of (j := 6) (b := true) (d := 26) rfl rfl rfl rfl) rfl (r_pick rfl (.t rfl rfl) (.t rfl rfl)) ?_
                refine s_val hS3 rfl rfl (r_pick rfl (.t rfl rfl) (.t rfl rfl)) ?_
                refine s_val hS3 rfl rfl (r_move rfl (.t rfl rfl)) ?_
                refine s_valg hS3 (wanted_of (j := 14) (b := true) (d := 34) rfl rfl rfl rfl) rfl (r_move rfl (.t rfl rfl)) ?_
                by_cases c11 : ((strL s)).getD i 0 ≠ 46
                · refine s_valg hS3 (wanted_of (j := 14) (b := true) (d := 34) rfl rfl rfl rfl) rfl (r_cmp_t rfl rfl (.t rfl rfl) .c (show ¬ ((((strL s)).getD i 0 : Nat) : Int) = 46 from by omega)) ?_
                  refine s_val hS3 rfl rfl (r_pick rfl (.t rfl rfl) (.t rfl rfl)) ?_
                  refine s_val hS3 rfl rfl (r_move rfl (.t rfl rfl)) ?_
                  refine s_valg hS3 (wanted_of (j := 18) (b := true) (d := 38) rfl rfl rfl rfl) rfl (r_move rfl (.t rfl rfl)) ?_
                  by_cases c12 : ((strL s)).getD i 0 ≠ 45
                  · refine s_valg hS3 (wanted_of (j := 18) (b := true) (d := 38) rfl rfl rfl rfl) rfl (r_cmp_t rfl rfl (.t rfl rfl) .c (show ¬ ((((strL s)).getD i 0 : Nat) : Int) = 45 from by omega)) ?_
                    refine s_val hS3 rfl rfl (r_pick rfl (.t rfl rfl) (.t rfl rfl)) ?_
                    refine s_val hS3 rfl rfl (r_move rfl (.t rfl rfl)) ?_
                    refine s_valg hS3 (wanted_of (j := 22) (b := true) (d := 42) rfl rfl rfl rfl) rfl (r_move rfl (.t rfl rfl)) ?_
                    by_cases c13 : ((strL s)).getD i 0 ≠ 95
                    · refine s_valg hS3 (wanted_of (j := 22) (b := true) (d := 42) rfl rfl rfl rfl) rfl (r_cmp_t rfl rfl (.t rfl rfl) .c (show ¬ ((((strL s)).getD i 0 : Nat) : Int) = 95 from by omega)) ?_
                      refine s_val hS3 rfl rfl (r_pick rfl (.t rfl rfl) (.t rfl rfl)) ?_
                      refine wpList_nil ?_
                      refine x_tn ?_
                      refine k_reb [(2, .bool false), (14, .slice (some ⟨blk1, 0, none⟩) s.size c3), (15, .int .i64 (((s.size : Nat) : Int))), (16, .int .i64 (((i : Nat) : Int))), (45, .bool true)] ⟨rfl, rfl, rfl, rfl, rfl, trivial⟩ fun G19 => ?_
                      refine k_t (.t rfl rfl) ?_
                      refine wp_seq ?_
                      refine k_reg ?_
                      refine s_val hS3 rfl rfl (r_assign rfl .c) ?_
                      refine wpList_nil ?_
                      refine x_tn ?_
                      refine k_reb [(2, .bool false), (14, .slice (some ⟨blk1, 0, none⟩) s.size c3), (15, .int .i64 (((s.size : Nat) : Int))), (16, .int .i64 (((i : Nat) : Int)))] ⟨rfl, rfl, rfl, rfl, trivial⟩ fun G20 => ?_
                      refine wp_ret ?_
                      refine x_br ?_
                      refine x_tr ?_
                      refine x_tr ?_
                      refine x_br ?_
                      refine x_tr ?_
                      refine k_ret1 Try.results63 rfl rfl ?_
                      refine ⟨_, rfl, ?_⟩
                      have hS5 : St w0 [] (fl []) w2 := hS3.pick [] rfl (by decide)
                      exact ⟨by rw [okName_no (j := i) (by rw [strL_len]; omega) (by unfold okC; simp only [← Bool.not_eq_true, decide_eq_true_eq, Bool.or_eq_true, Bool.and_eq_true]; omega)], hS5⟩
                    · refine s_valg hS3 (wanted_of (j := 22) (b := true) (d := 42) rfl rfl rfl rfl) rfl (r_cmp_f rfl rfl (.t rfl rfl) .c (show ¬ (¬ ((((strL s)).getD i 0 : Nat) : Int) = 95) from by omega)) ?_
                      refine s_val hS3 rfl rfl (r_pick rfl (.t rfl rfl) (.t rfl rfl)) ?_
                      refine wpList_nil ?_
                      refine x_tn ?_
                      refine k_reb [(2, .bool false), (14, .slice (some ⟨blk1, 0, none⟩) s.size c3), (15, .int .i64 (((s.size : Nat) : Int))), (16, .int .i64 (((i : Nat) : Int))), (45, .bool false)] ⟨rfl, rfl, rfl, rfl, rfl, trivial⟩ fun G21 => ?_
                      refine k_f (.t rfl rfl) ?_
                      refine wp_skip ?_
                      refine x_bn ?_
                      refine x_tn ?_
                      refine k_reb [(2, .bool false), (14, .slice (some ⟨blk1, 0, none⟩) s.size c3), (15, .int .i64 (((s.size : Nat) : Int))), (16, .int .i64 (((i : Nat) : Int)))] ⟨rfl, rfl, rfl, rfl, trivial⟩ fun G22 => ?_
                      refine k_reg ?_
                      refine s_val hS3 rfl rfl (r_arith rfl rfl (.t rfl rfl) .c (c := ((i + 1 : Nat) : Int)) (wn_i64 (by show (((i : Nat) : Int) : Int) + 1 = _; omega) (by omega))) ?_
                      refine s_val hS3 rfl rfl (r_move rfl (.t rfl rfl)) ?_
                      refine wpList_nil ?_
                      refine x_tn ?_
                      refine ⟨s.size - (i + 1), by omega, _, i + 1, fr_reb _ ⟨rfl, rfl, rfl, rfl, trivial⟩, hS3, ?_⟩
                      exact ⟨by omega, by omega, by rw [List.take_succ_eq_append_getElem (by rw [strL_len]; omega), List.all_append, hr]; simp only [List.all_cons, List.all_nil, Bool.and_true, Bool.true_and]; rw [← getD_get (by rw [strL_len]; omega)]; unfold okC; simp only [decide_eq_true_eq, Bool.or_eq_true, Bool.and_eq_true]; omega⟩
                  · refine s_valg hS3 (wanted_of (j := 18) (b := true) (d := 38) rfl rfl rfl rfl) rfl (r_cmp_f rfl rfl (.t rfl rfl) .c (show ¬ (¬ ((((strL s)).getD i 0 : Nat) : Int) = 45) from by omega)) ?_
                    refine s_val hS3 rfl rfl (r_pick rfl (.t rfl rfl) (.t rfl rfl)) ?_
                    refine s_val hS3 rfl rfl (r_move rfl (.t rfl rfl)) ?_
                    refine s_skip (unwanted_of (j := 22) (b := true) (b' := false) (d := 42) rfl rfl rfl rfl rfl) rfl ?_
                    refine s_skip (unwanted_of (j := 22) (b := true) (b' := false) (d := 42) rfl rfl rfl rfl rfl) rfl ?_
                    refine s_val hS3 rfl rfl (r_pick rfl (.t rfl rfl) .c) ?_
                    refine wpList_nil ?_
                    refine x_tn ?_
                    refine k_reb [(2, .bool false), (14, .slice (some ⟨blk1, 0, none⟩) s.size c3), (15, .int .i64 (((s.size : Nat) : Int))), (16, .int .i64 (((i : Nat) : Int))), (45, .bool false)] ⟨rfl, rfl, rfl, rfl, rfl, trivial⟩ fun G23 => ?_
                    refine k_f (.t rfl rfl) ?_
                    refine wp_skip ?_
                    refine x_bn ?_
                    refine x_tn ?_
                    refine k_reb [(2, .bool false), (14, .slice (some ⟨blk1, 0, none⟩) s.size c3), (15, .int .i64 (((s.size : Nat) : Int))), (16, .int .i64 (((i : Nat) : Int)))] ⟨rfl, rfl, rfl, rfl, trivial⟩ fun G24 => ?_
                    refine k_reg ?_
                    refine s_val hS3 rfl rfl (r_arith rfl rfl (.t rfl rfl) .c (c := ((i + 1 : Nat) : Int)) (wn_i64 (by show (((i : Nat) : Int) : Int) + 1 = _; omega) (by omega))) ?_
                    refine s_val hS3 rfl rfl (r_move rfl (.t rfl rfl)) ?_
                    refine wpList_nil ?_
                    refine x_tn ?_
                    refine ⟨s.size - (i + 1), by omega, _, i + 1, fr_reb _ ⟨rfl, rfl, rfl, rfl, trivial⟩, hS3, ?_⟩
                    exact ⟨by omega, by omega, by rw [List.take_succ_eq_append_getElem (by rw [strL_len]; omega), List.all_append, hr]; simp only [List.all_cons, List.all_nil, Bool.and_true, Bool.true_and]; rw [← getD_get (by rw [strL_len]; omega)]; unfold okC; simp only [decide_eq_true_eq, Bool.or_eq_true, Bool.and_eq_true]; omega⟩
                · refine s_valg hS3 (wanted_of (j := 14) (b := true) (d := 34) rfl rfl rfl rfl) rfl (r_cmp_f rfl rfl (.t rfl rfl) .c (show ¬ (¬ ((((strL s)).getD i 0 : Nat) : Int) = 46) from by omega)) ?_
                  refine s_val hS3 rfl rfl (r_pick rfl (.t rfl rfl) (.t rfl rfl)) ?_
                  refine s_val hS3 rfl rfl (r_move rfl (.t rfl rfl)) ?_
                  refine s_skip (unwanted_of (j := 18) (b := true) (b' := false) (d := 38) rfl rfl rfl rfl rfl) rfl ?_
                  refine s_skip (unwanted_of (j := 18) (b := true) (b' := false) (d := 38) rfl rfl rfl rfl rfl) rfl ?_
                  refine s_val hS3 rfl rfl (r_pick rfl (.t rfl rfl) .c) ?_
                  refine s_val hS3 rfl rfl (r_move rfl (.t rfl rfl)) ?_
                  refine s_skip (unwanted_of (j := 22) (b := true) (b' := false) (d := 42) rfl rfl rfl rfl rfl) rfl ?_
                  refine s_skip (unwanted_of (j := 22) (b := true) (b' := false) (d := 42) rfl rfl rfl rfl rfl) rfl ?_
                  refine s_val hS3 rfl rfl (r_pick rfl (.t rfl rfl) .c) ?_
                  refine wpList_nil ?_
                  refine x_tn ?_
                  refine k_reb [(2, .bool false), (14, .slice (some ⟨blk1, 0, none⟩) s.size c3), (15, .int .i64 (((s.size : Nat) : Int))), (16, .int .i64 (((i : Nat) : Int))), (45, .bool false)] ⟨rfl, rfl, rfl, rfl, rfl, trivial⟩ fun G25 => ?_
                  refine k_f (.t rfl rfl) ?_
                  refine wp_skip ?_
                  refine x_bn ?_
                  refine x_tn ?_
                  refine k_reb [(2, .bool false), (14, .slice (some ⟨blk1, 0, none⟩) s.size c3), (15, .int .i64 (((s.size : Nat) : Int))), (16, .int .i64 (((i : Nat) : Int)))] ⟨rfl, rfl, rfl, rfl, trivial⟩ fun G26 => ?_
                  refine k_reg ?_
                  refine s_val hS3 rfl rfl (r_arith rfl rfl (.t rfl rfl) .c (c := ((i + 1 : Nat) : Int)) (wn_i64 (by show (((i : Nat) : Int) : Int) + 1 = _; omega) (by omega))) ?_
                  refine s_val hS3 rfl rfl (r_move rfl (.t rfl rfl)) ?_
                  refine wpList_nil ?_
                  refine x_tn ?_
                  refine ⟨s.size - (i + 1), by omega, _, i + 1, fr_reb _ ⟨rfl, rfl, rfl, rfl, trivial⟩, hS3, ?_⟩
                  exact ⟨by omega, by omega, by rw [List.take_succ_eq_append_getElem (by rw [strL_len]; omega), List.all_append, hr]; simp only [List.all_cons, List.all_nil, Bool.and_true, Bool.true_and]; rw [← getD_get (by rw [strL_len]; omega)]; unfold okC; simp only [decide_eq_true_eq, Bool.or_eq_true, Bool.and_eq_true]; omega⟩
              · refine s_valg hS3 (wanted_of (j := 9) (b := false) (d := 29) rfl rfl rfl rfl) rfl (r_cmp_f rfl rfl (.t rfl rfl) .c (show ¬ (((((strL s)).getD i 0 : Nat) : Int) > 57) from by omega)) ?_
                refine s_valg hS3 (wanted_of (j := 6) (b := true) (d := 26) rfl rfl rfl rfl) rfl (r_pick rfl (.t rfl rfl) (.t rfl rfl)) ?_
                refine s_val hS3 rfl rfl (r_pick rfl (.t rfl rfl) (.t rfl rfl)) ?_
                refine s_val hS3 rfl rfl (r_move rfl (.t rfl rfl)) ?_
                refine s_skip (unwanted_of (j := 14) (b := true) (b' := false) (d := 34) rfl rfl rfl rfl rfl) rfl ?_
                refine s_skip (unwanted_of (j := 14) (b := true) (b' := false) (d := 34) rfl rfl rfl rfl rfl) rfl ?_
                refine s_val hS3 rfl rfl (r_pick rfl (.t rfl rfl) .c) ?_
                refine s_val hS3 rfl rfl (r_move rfl (.t rfl rfl)) ?_
                refine s_skip (unwanted_of (j := 18) (b := true) (b' := false) (d := 38) rfl rfl rfl rfl rfl) rfl ?_
                refine s_skip (unwanted_of (j := 18) (b := true) (b' := false) (d := 38) rfl rfl rfl rfl rfl) rfl ?_
                refine s_val hS3 rfl rfl (r_pick rfl (.t rfl rfl) .c) ?_
                refine s_val hS3 rfl rfl (r_move rfl (.t rfl rfl)) ?_
                refine s_skip (unwanted_of (j := 22) (b := true) (b' := false) (d := 42) rfl rfl rfl rfl rfl) rfl ?_
                refine s_skip (unwanted_of (j := 22) (b := true) (b' := false) (d := 42) rfl rfl rfl rfl rfl) rfl ?_
                refine s_val hS3 rfl rfl (r_pick rfl (.t rfl rfl) .c) ?_
                refine wpList_nil ?_
                refine x_tn ?_
                refine k_reb [(2, .bool false), (14, .slice (some ⟨blk1, 0, none⟩) s.size c3), (15, .int .i64 (((s.size : Nat) : Int))), (16, .int .i64 (((i : Nat) : Int))), (45, .bool false)] ⟨rfl, rfl, rfl, rfl, rfl, trivial⟩ fun G27 => ?_
                refine k_f (.t rfl rfl) ?_
                refine wp_skip ?_
                refine x_bn ?_
                refine x_tn ?_
                refine k_reb [(2, .bool false), (14, .slice (some ⟨blk1, 0, none⟩) s.size c3), (15, .int .i64 (((s.size : Nat) : Int))), (16, .int .i64 (((i : Nat) : Int)))] ⟨rfl, rfl, rfl, rfl, trivial⟩ fun G28 => ?_
                refine k_reg ?_
                refine s_val hS3 rfl rfl (r_arith rfl rfl (.t rfl rfl) .c (c := ((i + 1 : Nat) : Int)) (wn_i64 (by show (((i : Nat) : Int) : Int) + 1 = _; omega) (by omega))) ?_
                refine s_val hS3 rfl rfl (r_move rfl (.t rfl rfl)) ?_
                refine wpList_nil ?_
                refine x_tn ?_
                refine ⟨s.size - (i + 1), by omega, _, i + 1, fr_reb _ ⟨rfl, rfl, rfl, rfl, trivial⟩, hS3, ?_⟩
                exact ⟨by omega, by omega, by rw [List.take_succ_eq_append_getElem (by rw [strL_len]; omega), List.all_append, hr]; simp only [List.all_cons, List.all_nil, Bool.and_true, Bool.true_and]; rw [← getD_get (by rw [strL_len]; omega)]; unfold okC; simp only [decide_eq_true_eq, Bool.or_eq_true, Bool.and_eq_true]; omega⟩
          · refine s_val hS3 rfl rfl (r_cmp_f rfl rfl (.t rfl rfl) .c (show ¬ (((((strL s)).getD i 0 : Nat) : Int) < 97) from by omega)) ?_
            refine s_val hS3 rfl rfl (r_move rfl (.t rfl rfl)) ?_
            refine s_valg hS3 (wanted_of (j := 2) (b := false) (d := 22) rfl rfl rfl rfl) rfl (r_move rfl (.t rfl rfl)) ?_
            by_cases c14 : ((strL s)).getD i 0 > 122
            · refine s_valg hS3 (wanted_of (j := 2) (b := false) (d := 22) rfl rfl rfl rfl) rfl (r_cmp_t rfl rfl (.t rfl rfl) .c (show ((((strL s)).getD i 0 : Nat) : Int) > 122 from by omega)) ?_
              refine s_val hS3 rfl rfl (r_pick rfl (.t rfl rfl) (.t rfl rfl)) ?_
              refine s_val hS3 rfl rfl (r_move rfl (.t rfl rfl)) ?_
              refine s_valg hS3 (wanted_of (j := 6) (b := true) (d := 26) rfl rfl rfl rfl) rfl (r_move rfl (.t rfl rfl)) ?_
              by_cases c15 : ((strL s)).getD i 0 < 48
              · refine s_valg hS3 (wanted_of (j := 6) (b := true) (d := 26) rfl rfl rfl rfl) rfl (r_cmp_t rfl rfl (.t rfl rfl) .c (show ((((strL s)).getD i 0 : Nat) : Int) < 48 from by omega)) ?_
                refine s_valg hS3 (wanted_of (j := 6) (b := true) (d := 26) rfl rfl rfl rfl) rfl (r_move rfl (.t rfl rfl)) ?_
                refine s_skip (unwanted_of (j := 9) (b := false) (b' := true) (d := 29) rfl rfl rfl rfl rfl) rfl ?_
                refine s_skip (unwanted_of (j := 9) (b := false) (b' := true) (d := 29) rfl rfl rfl rfl rfl) rfl ?_
                refine s_valg hS3 (wanted_of (j := 6) (b := true) (d := 26) rfl rfl rfl rfl) rfl (r_pick rfl (.t rfl rfl) .c) ?_
                refine s_val hS3 rfl rfl (r_pick rfl (.t rfl rfl) (.t rfl rfl)) ?_
                refine s_val hS3 rfl rfl (r_move rfl (.t rfl rfl)) ?_
                refine s_valg hS3 (wanted_of (j := 14) (b := true) (d := 34) rfl rfl rfl rfl) rfl (r_move rfl (.t rfl rfl)) ?_
                by_cases c16 : ((strL s)).getD i 0 ≠ 46
                · refine s_valg hS3 (wanted_of (j := 14) (b := true) (d := 34) rfl rfl rfl rfl) rfl (r_cmp_t rfl rfl (.t rfl rfl) .c (show ¬ ((((strL s)).getD i 0 : Nat) : Int) = 46 from by omega)) ?_
                  refine s_val hS3 rfl rfl (r_pick rfl (.t rfl rfl) (.t rfl rfl)) ?_
                  refine s_val hS3 rfl rfl (r_move rfl (.t rfl rfl)) ?_
                  refine s_valg hS3 (wanted_of (j := 18) (b := true) (d := 38) rfl rfl rfl rfl) rfl (r_move rfl (.t rfl rfl)) ?_
                  by_cases c17 : ((strL s)).getD i 0 ≠ 45
                  · refine s_valg hS3 (wanted_of (j := 18) (b := true) (d := 38) rfl rfl rfl rfl) rfl (r_cmp_t rfl rfl (.t rfl rfl) .c (show ¬ ((((strL s)).getD i 0 : Nat) : Int) = 45 from by omega)) ?_
                    refine s_val hS3 rfl rfl (r_pick rfl (.t rfl rfl) (.t rfl rfl)) ?_
                    refine s_val hS3 rfl rfl (r_move rfl (.t rfl rfl)) ?_
                    refine s_valg hS3 (wanted_of (j := 22) (b := true) (d := 42) rfl rfl rfl rfl) rfl (r_move rfl (.t rfl rfl)) ?_
                    by_cases c18 : ((strL s)).getD i 0 ≠ 95
                    · refine s_valg hS3 (wanted_of (j := 22) (b := true) (d := 42) rfl rfl rfl rfl) rfl (r_cmp_t rfl rfl (.t rfl rfl) .c (show ¬ ((((strL s)).getD i 0 : Nat) : Int) = 95 from by omega)) ?_
                      refine s_val hS3 rfl rfl (r_pick rfl (.t rfl rfl) (.t rfl rfl)) ?_
                      refine wpList_nil ?_
                      refine x_tn ?_
                      refine k_reb [(2, .bool false), (14, .slice (some ⟨blk1, 0, none⟩) s.size c3), (15, .int .i64 (((s.size : Nat) : Int))), (16, .int .i64 (((i : Nat) : Int))), (45, .bool true)] ⟨rfl, rfl, rfl, rfl, rfl, trivial⟩ fun G29 => ?_
                      refine k_t (.t rfl rfl) ?_
                      refine wp_seq ?_
                      refine k_reg ?_
                      refine s_val hS3 rfl rfl (r_assign rfl .c) ?_
                      refine wpList_nil ?_
                      refine x_tn ?_
                      refine k_reb [(2, .bool false), (14, .slice (some ⟨blk1, 0, none⟩) s.size c3), (15, .int .i64 (((s.size : Nat) : Int))), (16, .int .i64 (((i : Nat) : Int)))] ⟨rfl, rfl, rfl, rfl, trivial⟩ fun G30 => ?_
                      refine wp_ret ?_
                      refine x_br ?_
                      refine x_tr ?_
                      refine x_tr ?_
                      refine x_br ?_
                      refine x_tr ?_
                      refine k_ret1 Try.results63 rfl rfl ?_
                      refine ⟨_, rfl, ?_⟩
                      have hS6 : St w0 [] (fl []) w2 := hS3.pick [] rfl (by decide)
                      exact ⟨by rw [okName_no (j := i) (by rw [strL_len]; omega) (by unfold okC; simp only [← Bool.not_eq_true, decide_eq_true_eq, Bool.or_eq_true, Bool.and_eq_true]; omega)], hS6⟩
                    · refine s_valg hS3 (wanted_of (j := 22) (b := true) (d := 42) rfl rfl rfl rfl) rfl (r_cmp_f rfl rfl (.t rfl rfl) .c (show ¬ (¬ ((((strL s)).getD i 0 : Nat) : Int) = 95) from by omega)) ?_
                      refine s_val hS3 rfl rfl (r_pick rfl (.t rfl rfl) (.t rfl rfl)) ?_
                      refine wpList_nil ?_
                      refine x_tn ?_
                      refine k_reb [(2, .bool false), (14, .slice (some ⟨blk1, 0, none⟩) s.size c3), (15, .int .i64 (((s.size : Nat) : Int))), (16, .int .i64 (((i : Nat) : Int))), (45, .bool false)] ⟨rfl, rfl, rfl, rfl, rfl, trivial⟩ fun G31 => ?_
                      refine k_f (.t rfl rfl) ?_
                      refine wp_skip ?_
                      refine x_bn ?_
                      refine x_tn ?_
                      refine k_reb [(2, .bool false), (14, .slice (some ⟨blk1, 0, none⟩) s.size c3), (15, .int .i64 (((s.size : Nat) : Int))), (16, .int .i64 (((i : Nat) : Int)))] ⟨rfl, rfl, rfl, rfl, trivial⟩ fun G32 => ?_
                      refine k_reg ?_
                      refine s_val hS3 rfl rfl (r_arith rfl rfl (.t rfl rfl) .c (c := ((i + 1 : Nat) : Int)) (wn_i64 (by show (((i : Nat) : Int) : Int) + 1 = _; omega) (by omega))) ?_
                      refine s_val hS3 rfl rfl (r_move rfl (.t rfl rfl)) ?_
                      refine wpList_nil ?_
                      refine x_tn ?_
                      refine ⟨s.size - (i + 1), by omega, _, i + 1, fr_reb _ ⟨rfl, rfl, rfl, rfl, trivial⟩, hS3, ?_⟩
                      exact ⟨by omega, by omega, by rw [List.take_succ_eq_append_getElem (by rw [strL_len]; omega), List.all_append, hr]; simp only [List.all_cons, List.all_nil, Bool.and_true, Bool.true_and]; rw [← getD_get (by rw [strL_len]; omega)]; unfold okC; simp only [decide_eq_true_eq, Bool.or_eq_true, Bool.and_eq_true]; omega⟩
                  · refine s_valg hS3 (wanted_of (j := 18) (b := true) (d := 38) rfl rfl rfl rfl) rfl (r_cmp_f rfl rfl (.t rfl rfl) .c (show ¬ (¬ ((((strL s)).getD i 0 : Nat) : Int) = 45) from by omega)) ?_
                    refine s_val hS3 rfl rfl (r_pick rfl (.t rfl rfl) (.t rfl rfl)) ?_
                    refine s_val hS3 rfl rfl (r_move rfl (.t rfl rfl)) ?_
                    refine s_skip (unwanted_of (j := 22) (b := true) (b' := false) (d := 42) rfl rfl rfl rfl rfl) rfl ?_
                    refine s_skip (unwanted_of (j := 22) (b := true) (b' := false) (d := 42) rfl rfl rfl rfl rfl) rfl ?_
                    refine s_val hS3 rfl rfl (r_pick rfl (.t rfl rfl) .c) ?_
                    refine wpList_nil ?_
                    refine x_tn ?_
                    refine k_reb [(2, .bool false), (14, .slice (some ⟨blk1, 0, none⟩) s.size c3), (15, .int .i64 (((s.size : Nat) : Int))), (16, .int .i64 (((i : Nat) : Int))), (45, .bool false)] ⟨rfl, rfl, rfl, rfl, rfl, trivial⟩ fun G33 => ?_
                    refine k_f (.t rfl rfl) ?_
                    refine wp_skip ?_
                    refine x_bn ?_
                    refine x_tn ?_
                    refine k_reb [(2, .bool false), (14, .slice (some ⟨blk1, 0, none⟩) s.size c3), (15, .int .i64 (((s.size : Nat) : Int))), (16, .int .i64 (((i : Nat) : Int)))] ⟨rfl, rfl, rfl, rfl, trivial⟩ fun G34 => ?_
                    refine k_reg ?_
                    refine s_val hS3 rfl rfl (r_arith rfl rfl (.t rfl rfl) .c (c := ((i + 1 : Nat) : Int)) (wn_i64 (by show (((i : Nat) : Int) : Int) + 1 = _; omega) (by omega))) ?_
                    refine s_val hS3 rfl rfl (r_move rfl (.t rfl rfl)) ?_
                    refine wpList_nil ?_
                    refine x_tn ?_
                    refine ⟨s.size - (i + 1), by omega, _, i + 1, fr_reb _ ⟨rfl, rfl, rfl, rfl, trivial⟩, hS3, ?_⟩
                    exact ⟨by omega, by omega, by rw [List.take_succ_eq_append_getElem (by rw [strL_len]; omega), List.all_append, hr]; simp only [List.all_cons, List.all_nil, Bool.and_true, Bool.true_and]; rw [← getD_get (by rw [strL_len]; omega)]; unfold okC; simp only [decide_eq_true_eq, Bool.or_eq_true, Bool.and_eq_true]; omega⟩
                · refine s_valg hS3 (wanted_of (j := 14) (b := true) (d := 34) rfl rfl rfl rfl) rfl (r_cmp_f rfl rfl (.t rfl rfl) .c (show ¬ (¬ ((((strL s)).getD i 0 : Nat) : Int) = 46) from by omega)) ?_
                  refine s_val hS3 rfl rfl (r_pick rfl (.t rfl rfl) (.t rfl rfl)) ?_
                  refine s_val hS3 rfl rfl (r_move rfl (.t rfl rfl)) ?_
                  refine s_skip (unwanted_of (j := 18) (b := true) (b' := false) (d := 38) rfl rfl rfl rfl rfl) rfl ?_
                  refine s_skip (unwanted_of (j := 18) (b := true) (b' := false) (d := 38) rfl rfl rfl rfl rfl) rfl ?_
                  refine s_val hS3 rfl rfl (r_pick rfl (.t rfl rfl) .c) ?_
                  refine s_val hS3 rfl rfl (r_move rfl (.t rfl rfl)) ?_
                  refine s_skip (unwanted_of (j := 22) (b := true) (b' := false) (d := 42) rfl rfl rfl rfl rfl) rfl ?_
                  refine s_skip (unwanted_of (j := 22) (b := true) (b' := false) (d := 42) rfl rfl rfl rfl rfl) rfl ?_
                  refine s_val hS3 rfl rfl (r_pick rfl (.t rfl rfl) .c) ?_
                  refine wpList_nil ?_
                  refine x_tn ?_
                  refine k_reb [(2, .bool false), (14, .slice (some ⟨blk1, 0, none⟩) s.size c3), (15, .int .i64 (((s.size : Nat) : Int))), (16, .int .i64 (((i : Nat) : Int))), (45, .bool false)] ⟨rfl, rfl, rfl, rfl, rfl, trivial⟩ fun G35 => ?_
                  refine k_f (.t rfl rfl) ?_
                  refine wp_skip ?_
                  refine x_bn ?_
                  refine x_tn ?_
                  refine k_reb [(2, .bool false), (14, .slice (some ⟨blk1, 0, none⟩) s.size c3), (15, .int .i64 (((s.size : Nat) : Int))), (16, .int .i64 (((i : Nat) : Int)))] ⟨rfl, rfl, rfl, rfl, trivial⟩ fun G36 => ?_
                  refine k_reg ?_
                  refine s_val hS3 rfl rfl (r_arith rfl rfl (.t rfl rfl) .c (c := ((i + 1 : Nat) : Int)) (wn_i64 (by show (((i : Nat) : Int) : Int) + 1 = _; omega) (by omega))) ?_
                  refine s_val hS3 rfl rfl (r_move rfl (.t rfl rfl)) ?_
                  refine wpList_nil ?_
                  refine x_tn ?_
                  refine ⟨s.size - (i + 1), by omega, _, i + 1, fr_reb _ ⟨rfl, rfl, rfl, rfl, trivial⟩, hS3, ?_⟩
                  exact ⟨by omega, by omega, by rw [List.take_succ_eq_append_getElem (by rw [strL_len]; omega), List.all_append, hr]; simp only [List.all_cons, List.all_nil, Bool.and_true, Bool.true_and]; rw [← getD_get (by rw [strL_len]; omega)]; unfold okC; simp only [decide_eq_true_eq, Bool.or_eq_true, Bool.and_eq_true]; omega⟩
              · refine s_valg hS3 (wanted_of (j := 6) (b := true) (d := 26) rfl rfl rfl rfl) rfl (r_cmp_f rfl rfl (.t rfl rfl) .c (show ¬ (((((strL s)).getD i 0 : Nat) : Int) < 48) from by omega)) ?_
                refine s_valg hS3 (wanted_of (j := 6) (b := true) (d := 26) rfl rfl rfl rfl) rfl (r_move rfl (.t rfl rfl)) ?_
                refine s_valg hS3 (wanted_of (j := 9) (b := false) (d := 29) rfl rfl rfl rfl) rfl (r_move rfl (.t rfl rfl)) ?_
                by_cases c19 : ((strL s)).getD i 0 > 57
                · refine s_valg hS3 (wanted_of (j := 9) (b := false) (d := 29) rfl rfl rfl rfl) rfl (r_cmp_t rfl rfl (.t rfl rfl) .c (show ((((strL s)).getD i 0 : Nat) : Int) > 57 from by omega)) ?_
                  refine s_valg hS3 (wanted_of (j := 6) (b := true) (d := 26) rfl rfl rfl rfl) rfl (r_pick rfl (.t rfl rfl) (.t rfl rfl)) ?_
                  refine s_val hS3 rfl rfl (r_pick rfl (.t rfl rfl) (.t rfl rfl)) ?_
                  refine s_val hS3 rfl rfl (r_move rfl (.t rfl rfl)) ?_
                  refine s_valg hS3 (wanted_of (j := 14) (b := true) (d := 34) rfl rfl rfl rfl) rfl (r_move rfl (.t rfl rfl)) ?_
                  by_cases c20 : ((strL s)).getD i 0 ≠ 46
                  · refine s_valg hS3 (wanted_of (j := 14) (b := true) (d := 34) rfl rfl rfl rfl) rfl (r_cmp_t rfl rfl (.t rfl rfl) .c (show ¬ ((((strL s)).getD i 0 : Nat) : Int) = 46 from by omega)) ?_
                    refine s_val hS3 rfl rfl (r_pick rfl (.t rfl rfl) (.t rfl rfl)) ?_
                    refine s_val hS3 rfl rfl (r_move rfl (.t rfl rfl)) ?_
                    refine s_valg hS3 (wanted_of (j := 18) (b := true) (d := 38) rfl rfl rfl rfl) rfl (r_move rfl (.t rfl rfl)) ?_
                    by_cases c21 : ((strL s)).getD i 0 ≠ 45
                    · refine s_valg hS3 (wanted_of (j := 18) (b := true) (d := 38) rfl rfl rfl rfl) rfl (r_cmp_t rfl rfl (.t rfl rfl) .c (show ¬ ((((strL s)).getD i 0 : Nat) : Int) = 45 from by omega)) ?_
                      refine s_val hS3 rfl rfl (r_pick rfl (.t rfl rfl) (.t rfl rfl)) ?_
                      refine s_val hS3 rfl rfl (r_move rfl (.t rfl rfl)) ?_
                      refine s_valg hS3 (wanted_of (j := 22) (b := true) (d := 42) rfl rfl rfl rfl) rfl (r_move rfl (.t rfl rfl)) ?_
                      by_cases c22 : ((strL s)).getD i 0 ≠ 95
                      · refine s_valg hS3 (wanted_of (j := 22) (b := true) (d := 42) rfl rfl rfl rfl) rfl (r_cmp_t rfl rfl (.t rfl rfl) .c (show ¬ ((((strL s)).getD i 0 : Nat) : Int) = 95 from by omega)) ?_
                        refine s_val hS3 rfl rfl (r_pick rfl (.t rfl rfl) (.t rfl rfl)) ?_
                        refine wpList_nil ?_
                        refine x_tn ?_
                        refine k_reb [(2, .bool false), (14, .slice (some ⟨blk1, 0, none⟩) s.size c3), (15, .int .i64 (((s.size : Nat) : Int))), (16, .int .i64 (((i : Nat) : Int))), (45, .bool true)] ⟨rfl, rfl, rfl, rfl, rfl, trivial⟩ fun G37 => ?_
                        refine k_t (.t rfl rfl) ?_
                        refine wp_seq ?_
                        refine k_reg ?_
                        refine s_val hS3 rfl rfl (r_assign rfl .c) ?_
                        refine wpList_nil ?_
                        refine x_tn ?_
                        refine k_reb [(2, .bool false), (14, .slice (some ⟨blk1, 0, none⟩) s.size c3), (15, .int .i64 (((s.size : Nat) : Int))), (16, .int .i64 (((i : Nat) : Int)))] ⟨rfl, rfl, rfl, rfl, trivial⟩ fun G38 => ?_
                        refine wp_ret ?_
                        refine x_br ?_
                        refine x_tr ?_
                        refine x_tr ?_
                        refine x_br ?_
                        refine x_tr ?_
                        refine k_ret1 Try.results63 rfl rfl ?_
                        refine ⟨_, rfl, ?_⟩
                        have hS7 : St w0 [] (fl []) w2 := hS3.pick [] rfl (by decide)
                        exact ⟨by rw [okName_no (j := i) (by rw [strL_len]; omega) (by unfold okC; simp only [← Bool.not_eq_true, decide_eq_true_eq, Bool.or_eq_true, Bool.and_eq_true]; omega)], hS7⟩
                      · refine s_valg hS3 (wanted_of (j := 22) (b := true) (d := 42) rfl rfl rfl rfl) rfl (r_cmp_f rfl rfl (.t rfl rfl) .c (show ¬ (¬ ((((strL s)).getD i 0 : Nat) : Int) = 95) from by omega)) ?_
                        refine s_val hS3 rfl rfl (r_pick rfl (.t rfl rfl) (.t rfl rfl)) ?_
                        refine wpList_nil ?_
                        refine x_tn ?_
                        refine k_reb [(2, .bool false), (14, .slice (some ⟨blk1, 0, none⟩) s.size c3), (15, .int .i64 (((s.size : Nat) : Int))), (16, .int .i64 (((i : Nat) : Int))), (45, .bool false)] ⟨rfl, rfl, rfl, rfl, rfl, trivial⟩ fun G39 => ?_
                        refine k_f (.t rfl rfl) ?_
                        refine wp_skip ?_
                        refine x_bn ?_
                        refine x_tn ?_
                        refine k_reb [(2, .bool false), (14, .slice (some ⟨blk1, 0, none⟩) s.size c3), (15, .int .i64 (((s.size : Nat) : Int))), (16, .int .i64 (((i : Nat) : Int)))] ⟨rfl, rfl, rfl, rfl, trivial⟩ fun G40 => ?_
                        refine k_reg ?_
                        refine s_val hS3 rfl rfl (r_arith rfl rfl (.t rfl rfl) .c (c := ((i + 1 : Nat) : Int)) (wn_i64 (by show (((i : Nat) : Int) : Int) + 1 = _; omega) (by omega))) ?_
                        refine s_val hS3 rfl rfl (r_move rfl (.t rfl rfl)) ?_
                        refine wpList_nil ?_
                        refine x_tn ?_
                        refine ⟨s.size - (i + 1), by omega, _, i + 1, fr_reb _ ⟨rfl, rfl, rfl, rfl, trivial⟩, hS3, ?_⟩
                        exact ⟨by omega, by omega, by rw [List.take_succ_eq_append_getElem (by rw [strL_len]; omega), List.all_append, hr]; simp only [List.all_cons, List.all_nil, Bool.and_true, Bool.true_and]; rw [← getD_get (by rw [strL_len]; omega)]; unfold okC; simp only [decide_eq_true_eq, Bool.or_eq_true, Bool.and_eq_true]; omega⟩
                    · refine s_valg hS3 (wanted_of (j := 18) (b := true) (d := 38) rfl rfl rfl rfl) rfl (r_cmp_f rfl rfl (.t rfl rfl) .c (show ¬ (¬ ((((strL s)).getD i 0 : Nat) : Int) = 45) from by omega)) ?_
                      refine s_val hS3 rfl rfl (r_pick rfl (.t rfl rfl) (.t rfl rfl)) ?_
                      refine s_val hS3 rfl rfl (r_move rfl (.t rfl rfl)) ?_
                      refine s_skip (unwanted_of (j := 22) (b := true) (b' := false) (d := 42) rfl rfl rfl rfl rfl) rfl ?_
                      refine s_skip (unwanted_of (j := 22) (b := true) (b' := false) (d := 42) rfl rfl rfl rfl rfl) rfl ?_
                      refine s_val hS3 rfl rfl (r_pick rfl (.t rfl rfl) .c) ?_
                      refine wpList_nil ?_
                      refine x_tn ?_
                      refine k_reb [(2, .bool false), (14, .slice (some ⟨blk1, 0, none⟩) s.size c3), (15, .int .i64 (((s.size : Nat) : Int))), (16, .int .i64 (((i : Nat) : Int))), (45, .bool false)] ⟨rfl, rfl, rfl, rfl, rfl, trivial⟩ fun G41 => ?_
                      refine k_f (.t rfl rfl) ?_
                      refine wp_skip ?_
                      refine x_bn ?_
                      refine x_tn ?_
                      refine k_reb [(2, .bool false), (14, .slice (some ⟨blk1, 0, none⟩) s.size c3), (15, .int .i64 (((s.size : Nat) : Int))), (16, .int .i64 (((i : Nat) : Int)))] ⟨rfl, rfl, rfl, rfl, trivial⟩ fun G42 => ?_
                      refine k_reg ?_
                      refine s_val hS3 rfl rfl (r_arith rfl rfl (.t rfl rfl) .c (c := ((i + 1 : Nat) : Int)) (wn_i64 (by show (((i : Nat) : Int) : Int) + 1 = _; omega) (by omega))) ?_
                      refine s_val hS3 rfl rfl (r_move rfl (.t rfl rfl)) ?_
                      refine wpList_nil ?_
                      refine x_tn ?_
                      refine ⟨s.size - (i + 1), by omega, _, i + 1, fr_reb _ ⟨rfl, rfl, rfl, rfl, trivial⟩, hS3, ?_⟩
                      exact ⟨by omega, by omega, by rw [List.take_succ_eq_append_getElem (by rw [strL_len]; omega), List.all_append, hr]; simp only [List.all_cons, List.all_nil, Bool.and_true, Bool.true_and]; rw [← getD_get (by rw [strL_len]; omega)]; unfold okC; simp only [decide_eq_true_eq, Bool.or_eq_true, Bool.and_eq_true]; omega⟩
                  · refine s_valg hS3 (wanted_of (j := 14) (b := true) (d := 34) rfl rfl rfl rfl) rfl (r_cmp_f rfl rfl (.t rfl rfl) .c (show ¬ (¬ ((((strL s)).getD i 0 : Nat) : Int) = 46) from by omega)) ?_
                    refine s_val hS3 rfl rfl (r_pick rfl (.t rfl rfl) (.t rfl rfl)) ?_
                    refine s_val hS3 rfl rfl (r_move rfl (.t rfl rfl)) ?_
                    refine s_skip (unwanted_of (j := 18) (b := true) (b' := false) (d := 38) rfl rfl rfl rfl rfl) rfl ?_
                    refine s_skip (unwanted_of (j := 18) (b := true) (b' := false) (d := 38) rfl rfl rfl rfl rfl) rfl ?_
                    refine s_val hS3 rfl rfl (r_pick rfl (.t rfl rfl) .c) ?_
                    refine s_val hS3 rfl rfl (r_move rfl (.t rfl rfl)) ?_
                    refine s_skip (unwanted_of (j := 22) (b := true) (b' := false) (d := 42) rfl rfl rfl rfl rfl) rfl ?_
                    refine s_skip (unwanted_of (j := 22) (b := true) (b' := false) (d := 42) rfl rfl rfl rfl rfl) rfl ?_
                    refine s_val hS3 rfl rfl (r_pick rfl (.t rfl rfl) .c) ?_
                    refine wpList_nil ?_
                    refine x_tn ?_
                    refine k_reb [(2, .bool false), (14, .slice (some ⟨blk1, 0, none⟩) s.size c3), (15, .int .i64 (((s.size : Nat) : Int))), (16, .int .i64 (((i : Nat) : Int))), (45, .bool false)] ⟨rfl, rfl, rfl, rfl, rfl, trivial⟩ fun G43 => ?_
                    refine k_f (.t rfl rfl) ?_
                    refine wp_skip ?_
                    refine x_bn ?_
                    refine x_tn ?_
                    refine k_reb [(2, .bool false), (14, .slice (some ⟨blk1, 0, none⟩) s.size c3), (15, .int .i64 (((s.size : Nat) : Int))), (16, .int .i64 (((i : Nat) : Int)))] ⟨rfl, rfl, rfl, rfl, trivial⟩ fun G44 => ?_
                    refine k_reg ?_
                    refine s_val hS3 rfl rfl (r_arith rfl rfl (.t rfl rfl) .c (c := ((i + 1 : Nat) : Int)) (wn_i64 (by show (((i : Nat) : Int) : Int) + 1 = _; omega) (by omega))) ?_
                    refine s_val hS3 rfl rfl (r_move rfl (.t rfl rfl)) ?_
                    refine wpList_nil ?_
                    refine x_tn ?_
                    refine ⟨s.size - (i + 1), by omega, _, i + 1, fr_reb _ ⟨rfl, rfl, rfl, rfl, trivial⟩, hS3, ?_⟩
                    exact ⟨by omega, by omega, by rw [List.take_succ_eq_append_getElem (by rw [strL_len]; omega), List.all_append, hr]; simp only [List.all_cons, List.all_nil, Bool.and_true, Bool.true_and]; rw [← getD_get (by rw [strL_len]; omega)]; unfold okC; simp only [decide_eq_true_eq, Bool.or_eq_true, Bool.and_eq_true]; omega⟩
                · refine s_valg hS3 (wanted_of (j := 9) (b := false) (d := 29) rfl rfl rfl rfl) rfl (r_cmp_f rfl rfl (.t rfl rfl) .c (show ¬ (((((strL s)).getD i 0 : Nat) : Int) > 57) from by omega)) ?_
                  refine s_valg hS3 (wanted_of (j := 6) (b := true) (d := 26) rfl rfl rfl rfl) rfl (r_pick rfl (.t rfl rfl) (.t rfl rfl)) ?_
                  refine s_val hS3 rfl rfl (r_pick rfl (.t rfl rfl) (.t rfl rfl)) ?_
                  refine s_val hS3 rfl rfl (r_move rfl (.t rfl rfl)) ?_
                  refine s_skip (unwanted_of (j := 14) (b := true) (b' := false) (d := 34) rfl rfl rfl rfl rfl) rfl ?_
                  refine s_skip (unwanted_of (j := 14) (b := true) (b' := false) (d := 34) rfl rfl rfl rfl rfl) rfl ?_
                  refine s_val hS3 rfl rfl (r_pick rfl (.t rfl rfl) .c) ?_
                  refine s_val hS3 rfl rfl (r_move rfl (.t rfl rfl)) ?_
                  refine s_skip (unwanted_of (j := 18) (b := true) (b' := false) (d := 38) rfl rfl rfl rfl rfl) rfl ?_
                  refine s_skip (unwanted_of (j := 18) (b := true) (b' := false) (d := 38) rfl rfl rfl rfl rfl) rfl ?_
                  refine s_val hS3 rfl rfl (r_pick rfl (.t rfl rfl) .c) ?_
                  refine s_val hS3 rfl rfl (r_move rfl (.t rfl rfl)) ?_
                  refine s_skip (unwanted_of (j := 22) (b := true) (b' := false) (d := 42) rfl rfl rfl rfl rfl) rfl ?_
                  refine s_skip (unwanted_of (j := 22) (b := true) (b' := false) (d := 42) rfl rfl rfl rfl rfl) rfl ?_
                  refine s_val hS3 rfl rfl (r_pick rfl (.t rfl rfl) .c) ?_
                  refine wpList_nil ?_
                  refine x_tn ?_
                  refine k_reb [(2, .bool false), (14, .slice (some ⟨blk1, 0, none⟩) s.size c3), (15, .int .i64 (((s.size : Nat) : Int))), (16, .int .i64 (((i : Nat) : Int))), (45, .bool false)] ⟨rfl, rfl, rfl, rfl, rfl, trivial⟩ fun G45 => ?_
                  refine k_f (.t rfl rfl) ?_
                  refine wp_skip ?_
                  refine x_bn ?_
                  refine x_tn ?_
                  refine k_reb [(2, .bool false), (14, .slice (some ⟨blk1, 0, none⟩) s.size c3), (15, .int .i64 (((s.size : Nat) : Int))), (16, .int .i64 (((i : Nat) : Int)))] ⟨rfl, rfl, rfl, rfl, trivial⟩ fun G46 => ?_
                  refine k_reg ?_
                  refine s_val hS3 rfl rfl (r_arith rfl rfl (.t rfl rfl) .c (c := ((i + 1 : Nat) : Int)) (wn_i64 (by show (((i : Nat) : Int) : Int) + 1 = _; omega) (by omega))) ?_
                  refine s_val hS3 rfl rfl (r_move rfl (.t rfl rfl)) ?_
                  refine wpList_nil ?_
                  refine x_tn ?_
                  refine ⟨s.size - (i + 1), by omega, _, i + 1, fr_reb _ ⟨rfl, rfl, rfl, rfl, trivial⟩, hS3, ?_⟩
                  exact ⟨by omega, by omega, by rw [List.take_succ_eq_append_getElem (by rw [strL_len]; omega), List.all_append, hr]; simp only [List.all_cons, List.all_nil, Bool.and_true, Bool.true_and]; rw [← getD_get (by rw [strL_len]; omega)]; unfold okC; simp only [decide_eq_true_eq, Bool.or_eq_true, Bool.and_eq_true]; omega⟩
            · refine s_valg hS3 (wanted_of (j := 2) (b := false) (d := 22) rfl rfl rfl rfl) rfl (r_cmp_f rfl rfl (.t rfl rfl) .c (show ¬ (((((strL s)).getD i 0 : Nat) : Int) > 122) from by omega)) ?_
              refine s_val hS3 rfl rfl (r_pick rfl (.t rfl rfl) (.t rfl rfl)) ?_
              refine s_val hS3 rfl rfl (r_move rfl (.t rfl rfl)) ?_
              refine s_skip (unwanted_of (j := 6) (b := true) (b' := false) (d := 26) rfl rfl rfl rfl rfl) rfl ?_
              refine s_skip (unwanted_of (j := 6) (b := true) (b' := false) (d := 26) rfl rfl rfl rfl rfl) rfl ?_
              refine s_skip (unwanted_of (j := 6) (b := true) (b' := false) (d := 26) rfl rfl rfl rfl rfl) rfl ?_
              refine s_skip (unwanted_undef (j := 9) (b := false) (d := 29) rfl rfl rfl rfl) rfl ?_
              refine s_skip (unwanted_undef (j := 9) (b := false) (d := 29) rfl rfl rfl rfl) rfl ?_
              refine s_skip (unwanted_of (j := 6) (b := true) (b' := false) (d := 26) rfl rfl rfl rfl rfl) rfl ?_
              refine s_val hS3 rfl rfl (r_pick rfl (.t rfl rfl) .c) ?_
              refine s_val hS3 rfl rfl (r_move rfl (.t rfl rfl)) ?_
              refine s_skip (unwanted_of (j := 14) (b := true) (b' := false) (d := 34) rfl rfl rfl rfl rfl) rfl ?_
              refine s_skip (unwanted_of (j := 14) (b := true) (b' := false) (d := 34) rfl rfl rfl rfl rfl) rfl ?_
              refine s_val hS3 rfl rfl (r_pick rfl (.t rfl rfl) .c) ?_
              refine s_val hS3 rfl rfl (r_move rfl (.t rfl rfl)) ?_
              refine s_skip (unwanted_of (j := 18) (b := true) (b' := false) (d := 38) rfl rfl rfl rfl rfl) rfl ?_
              refine s_skip (unwanted_of (j := 18) (b := true) (b' := false) (d := 38) rfl rfl rfl rfl rfl) rfl ?_
              refine s_val hS3 rfl rfl (r_pick rfl (.t rfl rfl) .c) ?_
              refine s_val hS3 rfl rfl (r_move rfl (.t rfl rfl)) ?_
              refine s_skip (unwanted_of (j := 22) (b := true) (b' := false) (d := 42) rfl rfl rfl rfl rfl) rfl ?_
              refine s_skip (unwanted_of (j := 22) (b := true) (b' := false) (d := 42) rfl rfl rfl rfl rfl) rfl ?_
              refine s_val hS3 rfl rfl (r_pick rfl (.t rfl rfl) .c) ?_
              refine wpList_nil ?_
              refine x_tn ?_
              refine k_reb [(2, .bool false), (14, .slice (some ⟨blk1, 0, none⟩) s.size c3), (15, .int .i64 (((s.size : Nat) : Int))), (16, .int .i64 (((i : Nat) : Int))), (45, .bool false)] ⟨rfl, rfl, rfl, rfl, rfl, trivial⟩ fun G47 => ?_
              refine k_f (.t rfl rfl) ?_
              refine wp_skip ?_
              refine x_bn ?_
              refine x_tn ?_
              refine k_reb [(2, .bool false), (14, .slice (some ⟨blk1, 0, none⟩) s.size c3), (15, .int .i64 (((s.size : Nat) : Int))), (16, .int .i64 (((i : Nat) : Int)))] ⟨rfl, rfl, rfl, rfl, trivial⟩ fun G48 => ?_
              refine k_reg ?_
              refine s_val hS3 rfl rfl (r_arith rfl rfl (.t rfl rfl) .c (c := ((i + 1 : Nat) : Int)) (wn_i64 (by show (((i : Nat) : Int) : Int) + 1 = _; omega) (by omega))) ?_
              refine s_val hS3 rfl rfl (r_move rfl (.t rfl rfl)) ?_
              refine wpList_nil ?_
              refine x_tn ?_
              refine ⟨s.size - (i + 1), by omega, _, i + 1, fr_reb _ ⟨rfl, rfl, rfl, rfl, trivial⟩, hS3, ?_⟩
              exact ⟨by omega, by omega, by rw [List.take_succ_eq_append_getElem (by rw [strL_len]; omega), List.all_append, hr]; simp only [List.all_cons, List.all_nil, Bool.and_true, Bool.true_and]; rw [← getD_get (by rw [strL_len]; omega)]; unfold okC; simp only [decide_eq_true_eq, Bool.or_eq_true, Bool.and_eq_true]; omega⟩
        · refine s_val hS3 rfl rfl (r_cmp_f rfl rfl (.t rfl rfl) (.t rfl rfl) (show ¬ (((i : Nat) : Int) < ((s.size : Nat) : Int)) from by omega)) ?_
          refine wpList_nil ?_
          refine x_tn ?_
          refine wp_seq ?_
          refine k_f (.t rfl rfl) ?_
          refine wp_exit ?_
          refine x_te ?_
          refine x_te ?_
          refine x_be ?_
          refine x_tn ?_
          refine k_reb [(2, .bool false)] ⟨rfl, trivial⟩ fun G49 => ?_
          refine wp_seq ?_
          refine k_reg ?_
          refine s_val hS3 rfl rfl (r_assign rfl .c) ?_
          refine wpList_nil ?_
          refine x_tn ?_
          refine wp_ret ?_
          refine k_ret1 Try.results63 rfl rfl ?_
          refine ⟨_, rfl, ?_⟩
          have hS8 : St w0 [] (fl []) w2 := hS3.pick [] rfl (by decide)
          exact ⟨by rw [okName_yes (by omega) (by omega) (by obtain rfl : i = s.size := (by omega); rwa [List.take_of_length_le (by rw [strL_len]; omega)] at hr)], hS8⟩

theorem Within_ok (w0 : World) (x : Int) (n : Nat) (h0 : 0 < n) (hn : n ≤ 1000000000000) :
    Calls Try.prog 17 #[.int .i64 x, .int .i64 (((n : Nat) : Int))] w0 (Ret fun v w' => ∃ k : Nat, v = .int .i64 (k : Int) ∧ k < n ∧ St w0 [] (fl []) w') := by
  refine k_enter (vs := [.int .i64 x, .int .i64 (((n : Nat) : Int))]) Try.func17 rfl Try.ntmps17 rfl ?_
  have hS : St w0 [] (fl []) w0 := St.init w0
  refine wp_seq ?_
  refine k_reg ?_
  refine s_val hS rfl rfl (r_assign rfl .c) ?_
  refine wpList_nil ?_
  refine x_tn ?_
  refine wp_seq ?_
  refine k_reg ?_
  refine s_val hS rfl rfl (r_move rfl (.t rfl rfl)) ?_
  refine s_val hS rfl rfl (r_move rfl (.t rfl rfl)) ?_
  have hm1 := Int.tmod_lt_of_pos x (show (0 : Int) < (n : Int) by omega)
  have hm2 := Int.lt_tmod_of_pos x (show (0 : Int) < (n : Int) by omega)
  refine s_val hS rfl rfl (r_rem rfl (.t rfl rfl) (.t rfl rfl) (nz_nat (by omega)) (c := x.tmod (n : Int)) rfl) ?_
  refine s_val hS rfl rfl (r_assign rfl (.t rfl rfl)) ?_
  refine wpList_nil ?_
  refine x_tn ?_
  refine k_reb [(0, .int .i64 (x.tmod (n : Int))), (1, .int .i64 (((n : Nat) : Int))), (4, .int .i64 0)] ⟨rfl, rfl, rfl, trivial⟩ fun G1 => ?_
  refine wp_seq ?_
  refine wp_seq ?_
  refine k_reg ?_
  refine s_val hS rfl rfl (r_move rfl (.t rfl rfl)) ?_
  by_cases c1 : x.tmod (n : Int) < 0
  · refine s_val hS rfl rfl (r_cmp_t rfl rfl (.t rfl rfl) .c (show x.tmod (n : Int) < 0 from by omega)) ?_
    refine wpList_nil ?_
    refine x_tn ?_
    refine k_reb [(0, .int .i64 (x.tmod (n : Int))), (1, .int .i64 (((n : Nat) : Int))), (4, .int .i64 0), (9, .bool true)] ⟨rfl, rfl, rfl, rfl, trivial⟩ fun G2 => ?_
    refine k_t (.t rfl rfl) ?_
    refine k_reg ?_
    refine s_val hS rfl rfl (r_move rfl (.t rfl rfl)) ?_
    refine s_val hS rfl rfl (r_move rfl (.t rfl rfl)) ?_
    refine s_val hS rfl rfl (r_arith rfl rfl (.t rfl rfl) (.t rfl rfl) (c := (x.tmod (n : Int)) + (((n : Nat) : Int))) (w_i64 rfl (by omega) (by omega))) ?_
    refine s_val hS rfl rfl (r_assign rfl (.t rfl rfl)) ?_
    refine wpList_nil ?_
    refine x_tn ?_
    refine k_reb [(0, .int .i64 ((x.tmod (n : Int)) + (((n : Nat) : Int)))), (4, .int .i64 0)] ⟨rfl, rfl, trivial⟩ fun G3 => ?_
    refine wp_seq ?_
    refine k_reg ?_
    refine s_val hS rfl rfl (r_move rfl (.t rfl rfl)) ?_
    refine s_val hS rfl rfl (r_assign rfl (.t rfl rfl)) ?_
    refine wpList_nil ?_
    refine x_tn ?_
    refine k_reb [(4, .int .i64 ((x.tmod (n : Int)) + (((n : Nat) : Int))))] ⟨rfl, trivial⟩ fun G4 => ?_
    refine wp_ret ?_
    refine k_ret1 Try.results17 rfl rfl ?_
    refine ⟨_, rfl, ?_⟩
    exact ⟨((x.tmod (n : Int)) + (((n : Nat) : Int))).toNat, (by show Value.int _ _ = _; rw [Int.toNat_of_nonneg (by omega)]), by omega, hS⟩
  · refine s_val hS rfl rfl (r_cmp_f rfl rfl (.t rfl rfl) .c (show ¬ (x.tmod (n : Int) < 0) from by omega)) ?_
    refine wpList_nil ?_
    refine x_tn ?_
    refine k_reb [(0, .int .i64 (x.tmod (n : Int))), (1, .int .i64 (((n : Nat) : Int))), (4, .int .i64 0), (9, .bool false)] ⟨rfl, rfl, rfl, rfl, trivial⟩ fun G5 => ?_
    refine k_f (.t rfl rfl) ?_
    refine wp_skip ?_
    refine x_tn ?_
    refine k_reb [(0, .int .i64 (x.tmod (n : Int))), (4, .int .i64 0)] ⟨rfl, rfl, trivial⟩ fun G6 => ?_
    refine wp_seq ?_
    refine k_reg ?_
    refine s_val hS rfl rfl (r_move rfl (.t rfl rfl)) ?_
    refine s_val hS rfl rfl (r_assign rfl (.t rfl rfl)) ?_
    refine wpList_nil ?_
    refine x_tn ?_
    refine k_reb [(4, .int .i64 (x.tmod (n : Int)))] ⟨rfl, trivial⟩ fun G7 => ?_
    refine wp_ret ?_
    refine k_ret1 Try.results17 rfl rfl ?_
    refine ⟨_, rfl, ?_⟩
    exact ⟨(x.tmod (n : Int)).toNat, (by show Value.int _ _ = _; rw [Int.toNat_of_nonneg (by omega)]), by omega, hS⟩

theorem Eq_ok (w0 : World) (aA : Option Addr) (cA : Nat) (A : List Nat) (vA : Hp) (hA : Sl .u8 aA cA A vA) (oA : Old w0 [] vA) (aB : Option Addr) (cB : Nat) (B : List Nat) (vB : Hp) (hB : Sl .u8 aB cB B vB) (oB : Old w0 [] vB) :
    Calls Try.prog 20 #[.slice aA A.length cA, .slice aB B.length cB] w0 (Ret fun v w' => v = .bool (decide (A = B)) ∧ St w0 [] (fl []) w') := by
  refine k_enter (vs := [.slice aA A.length cA, .slice aB B.length cB]) Try.func20 rfl Try.ntmps20 rfl ?_
  have hS : St w0 [] (fl []) w0 := St.init w0
  have lA := hA.most
  have lB := hB.most
  refine wp_seq ?_
  refine k_reg ?_
  refine s_val hS rfl rfl (r_assign rfl .c) ?_
  refine wpList_nil ?_
  refine x_tn ?_
  refine wp_seq ?_
  refine wp_seq ?_
  refine k_reg ?_
  refine s_val hS rfl rfl (r_move rfl (.t rfl rfl)) ?_
  refine s_val hS rfl rfl (r_len rfl rfl Try.underlying22 (.t rfl rfl)) ?_
  refine s_val hS rfl rfl (r_move rfl (.t rfl rfl)) ?_
  refine s_val hS rfl rfl (r_len rfl rfl Try.underlying22 (.t rfl rfl)) ?_
  by_cases c1 : A.length ≠ B.length
  · refine s_val hS rfl rfl (r_cmp_t rfl rfl (.t rfl rfl) (.t rfl rfl) (show ¬ ((A.length : Nat) : Int) = ((B.length : Nat) : Int) from by omega)) ?_
    refine wpList_nil ?_
    refine x_tn ?_
    refine k_reb [(0, .slice aA A.length cA), (1, .slice aB B.length cB), (4, .bool false), (10, .bool true)] ⟨rfl, rfl, rfl, rfl, trivial⟩ fun G1 => ?_
    refine k_t (.t rfl rfl) ?_
    refine wp_seq ?_
    refine k_reg ?_
    refine s_val hS rfl rfl (r_assign rfl .c) ?_
    refine wpList_nil ?_
    refine x_tn ?_
    refine k_reb [(0, .slice aA A.length cA), (1, .slice aB B.length cB), (4, .bool false)] ⟨rfl, rfl, rfl, trivial⟩ fun G2 => ?_
    refine wp_ret ?_
    refine x_tr ?_
    refine k_ret1 Try.results20 rfl rfl ?_
    refine ⟨_, rfl, ?_⟩
    exact ⟨by rw [decide_eq_false (by rintro rfl; omega)], hS⟩
  · refine s_val hS rfl rfl (r_cmp_f rfl rfl (.t rfl rfl) (.t rfl rfl) (show ¬ (¬ ((A.length : Nat) : Int) = ((B.length : Nat) : Int)) from by omega)) ?_
    refine wpList_nil ?_
    refine x_tn ?_
    refine k_reb [(0, .slice aA A.length cA), (1, .slice aB B.length cB), (4, .bool false), (10, .bool false)] ⟨rfl, rfl, rfl, rfl, trivial⟩ fun G3 => ?_
    refine k_f (.t rfl rfl) ?_
    refine wp_skip ?_
    refine x_tn ?_
    refine k_reb [(0, .slice aA A.length cA), (1, .slice aB B.length cB), (4, .bool false)] ⟨rfl, rfl, rfl, trivial⟩ fun G4 => ?_
    refine wp_seq ?_
    refine wp_seq ?_
    refine k_reg ?_
    refine s_val hS rfl rfl (r_assign rfl .c) ?_
    refine wpList_nil ?_
    refine x_tn ?_
    refine wp_block ?_
    refine wp_loop_ghost (fun (m1 : Nat) a w => ∃ (G : Nat → Value) (i : Nat), a = fr 26 [(0, .slice aA A.length cA), (1, .slice aB B.length cB), (4, .bool false), (5, .int .i64 (((i : Nat) : Int)))] G ∧ St w0 [] (fl []) w ∧ (m1 = A.length - i ∧ i ≤ A.length ∧ A.take i = B.take i)) (A.length) ⟨_, 0, fr_reb _ ⟨rfl, rfl, rfl, rfl, trivial⟩, hS, ?_⟩ ?_
    · exact ⟨rfl, by omega, rfl⟩
    · intro m1 _ w1 hI1
      obtain ⟨G5, i, rfl, hS1, ⟨hm, hi, hr⟩⟩ := hI1
      refine wp_seq ?_
      refine wp_seq ?_
      refine k_reg ?_
      refine s_val hS1 rfl rfl (r_move rfl (.t rfl rfl)) ?_
      refine s_val hS1 rfl rfl (r_move rfl (.t rfl rfl)) ?_
      refine s_val hS1 rfl rfl (r_len rfl rfl Try.underlying22 (.t rfl rfl)) ?_
      by_cases c2 : i < A.length
      · refine s_val hS1 rfl rfl (r_cmp_t rfl rfl (.t rfl rfl) (.t rfl rfl) (show ((i : Nat) : Int) < ((A.length : Nat) : Int) from by omega)) ?_
        refine wpList_nil ?_
        refine x_tn ?_
        refine k_reb [(0, .slice aA A.length cA), (1, .slice aB B.length cB), (4, .bool false), (5, .int .i64 (((i : Nat) : Int))), (14, .bool true)] ⟨rfl, rfl, rfl, rfl, rfl, trivial⟩ fun G6 => ?_
        refine k_t (.t rfl rfl) ?_
        refine wp_skip ?_
        refine x_tn ?_
        refine k_reb [(0, .slice aA A.length cA), (1, .slice aB B.length cB), (4, .bool false), (5, .int .i64 (((i : Nat) : Int)))] ⟨rfl, rfl, rfl, rfl, trivial⟩ fun G7 => ?_
        refine wp_seq ?_
        refine wp_block ?_
        refine wp_seq ?_
        refine k_regq mixed (by kernel_rfl) hS1 ?_
        refine q_val rfl rfl (r_move rfl (.t rfl rfl)) ?_
        refine q_val rfl rfl (r_move rfl (.t rfl rfl)) ?_
        refine q_val rfl rfl (r_ixl (j := i) rfl Try.underlying22 ti5 (.t rfl rfl) (.t rfl rfl) hA rfl rfl (by omega)) ?_
        have b1 : A.getD i 0 ≤ 255 := hA.lt _
        refine q_val rfl rfl (r_load rfl one5 (.t rfl rfl) (hA.cell_o oA (by omega))) ?_
        refine q_val rfl rfl (r_move rfl (.t rfl rfl)) ?_
        refine q_val rfl rfl (r_move rfl (.t rfl rfl)) ?_
        refine q_val rfl rfl (r_ixl (j := i) rfl Try.underlying22 ti5 (.t rfl rfl) (.t rfl rfl) hB rfl rfl (by omega)) ?_
        have b2 : B.getD i 0 ≤ 255 := hB.lt _
        refine q_val rfl rfl (r_load rfl one5 (.t rfl rfl) (hB.cell_o oB (by omega))) ?_
        by_cases c3 : A.getD i 0 ≠ B.getD i 0
        · refine q_val rfl rfl (r_cmp_t rfl rfl (.t rfl rfl) (.t rfl rfl) (show ¬ ((A.getD i 0 : Nat) : Int) = ((B.getD i 0 : Nat) : Int) from by omega)) ?_
          refine q_nil ?_
          intro w2 hS2
          refine x_tn ?_
          refine k_reb [(0, .slice aA A.length cA), (1, .slice aB B.length cB), (4, .bool false), (5, .int .i64 (((i : Nat) : Int))), (25, .bool true)] ⟨rfl, rfl, rfl, rfl, rfl, trivial⟩ fun G8 => ?_
          refine k_t (.t rfl rfl) ?_
          refine wp_seq ?_
          refine k_reg ?_
          refine s_val hS2 rfl rfl (r_assign rfl .c) ?_
          refine wpList_nil ?_
          refine x_tn ?_
          refine k_reb [(0, .slice aA A.length cA), (1, .slice aB B.length cB), (4, .bool false), (5, .int .i64 (((i : Nat) : Int)))] ⟨rfl, rfl, rfl, rfl, trivial⟩ fun G9 => ?_
          refine wp_ret ?_
          refine x_br ?_
          refine x_tr ?_
          refine x_tr ?_
          refine x_br ?_
          refine x_tr ?_
          refine k_ret1 Try.results20 rfl rfl ?_
          refine ⟨_, rfl, ?_⟩
          exact ⟨by rw [decide_eq_false (by rintro rfl; omega)], hS2⟩
        · refine q_val rfl rfl (r_cmp_f rfl rfl (.t rfl rfl) (.t rfl rfl) (show ¬ (¬ ((A.getD i 0 : Nat) : Int) = ((B.getD i 0 : Nat) : Int)) from by omega)) ?_
          refine q_nil ?_
          intro w3 hS3
          refine x_tn ?_
          refine k_reb [(0, .slice aA A.length cA), (1, .slice aB B.length cB), (4, .bool false), (5, .int .i64 (((i : Nat) : Int))), (25, .bool false)] ⟨rfl, rfl, rfl, rfl, rfl, trivial⟩ fun G10 => ?_
          refine k_f (.t rfl rfl) ?_
          refine wp_skip ?_
          refine x_bn ?_
          refine x_tn ?_
          refine k_reb [(0, .slice aA A.length cA), (1, .slice aB B.length cB), (4, .bool false), (5, .int .i64 (((i : Nat) : Int)))] ⟨rfl, rfl, rfl, rfl, trivial⟩ fun G11 => ?_
          refine k_reg ?_
          refine s_val hS3 rfl rfl (r_move rfl (.t rfl rfl)) ?_
          refine s_val hS3 rfl rfl (r_arith rfl rfl (.t rfl rfl) .c (c := ((i + 1 : Nat) : Int)) (wn_i64 (by show (((i : Nat) : Int) : Int) + 1 = _; omega) (by omega))) ?_
          refine s_val hS3 rfl rfl (r_assign rfl (.t rfl rfl)) ?_
          refine wpList_nil ?_
          refine x_tn ?_
          refine ⟨A.length - (i + 1), by omega, _, i + 1, fr_reb _ ⟨rfl, rfl, rfl, rfl, trivial⟩, hS3, ?_⟩
          exact ⟨by omega, by omega, take_eq_succ (by omega) (by omega) hr (by omega)⟩
      · refine s_val hS1 rfl rfl (r_cmp_f rfl rfl (.t rfl rfl) (.t rfl rfl) (show ¬ (((i : Nat) : Int) < ((A.length : Nat) : Int)) from by omega)) ?_
        refine wpList_nil ?_
        refine x_tn ?_
        refine k_reb [(0, .slice aA A.length cA), (1, .slice aB B.length cB), (4, .bool false), (5, .int .i64 (((i : Nat) : Int))), (14, .bool false)] ⟨rfl, rfl, rfl, rfl, rfl, trivial⟩ fun G12 => ?_
        refine k_f (.t rfl rfl) ?_
        refine wp_exit ?_
        refine x_te ?_
        refine x_te ?_
        refine x_be ?_
        refine x_tn ?_
        refine k_reb [(4, .bool false)] ⟨rfl, trivial⟩ fun G13 => ?_
        refine wp_seq ?_
        refine k_reg ?_
        refine s_val hS1 rfl rfl (r_assign rfl .c) ?_
        refine wpList_nil ?_
        refine x_tn ?_
        refine wp_ret ?_
        refine k_ret1 Try.results20 rfl rfl ?_
        refine ⟨_, rfl, ?_⟩
        exact ⟨by rw [decide_eq_true (by
            have e : i = A.length := (by omega)
            rw [e, List.take_length, show A.length = B.length by omega, List.take_length] at hr
            exact hr)], hS1⟩

end Go.Proofs.Ytdmiklegahdafaa

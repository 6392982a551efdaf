/- Contracts of functions of the program, each walked once. -/
import Derived.Test.YtdmiklegahdafaaFnC
namespace Go.Proofs.Ytdmiklegahdafaa
open Go Go.RowKit K
namespace FD
theorem mixed : Try.prog.follows .mixedOrders = true := by kernel_rfl
theorem agg88 : (match Try.prog.underlying 88 with | some (.struct _) | some (.array ..) => true | _ => false) = true := by kernel_rfl
theorem cb42 : callable Try.prog 42 = true := by kernel_rfl
theorem cb43 : callable Try.prog 43 = true := by kernel_rfl
theorem cb44 : callable Try.prog 44 = true := by kernel_rfl
theorem cb45 : callable Try.prog 45 = true := by kernel_rfl
theorem cb51 : callable Try.prog 51 = true := by kernel_rfl
theorem cb54 : callable Try.prog 54 = true := by kernel_rfl
theorem cb55 : callable Try.prog 55 = true := by kernel_rfl
theorem cb56 : callable Try.prog 56 = true := by kernel_rfl
theorem one22 : One Try.prog 22 = true := by kernel_rfl
theorem one3 : One Try.prog 3 = true := by kernel_rfl
theorem one33 : One Try.prog 33 = true := by kernel_rfl
theorem one84 : One Try.prog 84 = true := by kernel_rfl
theorem one9 : One Try.prog 9 = true := by kernel_rfl
theorem ti22 : (Try.prog.info? 22).map (fun i => (i.zero, i.size, i.bytes)) = some (some (.slice none 0 0), 1, 24) := by kernel_rfl
theorem ti3 : (Try.prog.info? 3).map (fun i => (i.zero, i.size, i.bytes)) = some (some (.int .i64 0), 1, 8) := by kernel_rfl
theorem ti5 : (Try.prog.info? 5).map (fun i => (i.zero, i.size, i.bytes)) = some (some (.int .u8 0), 1, 1) := by kernel_rfl
theorem ti83 : (Try.prog.info? 83).map (fun i => (i.zero, i.size, i.bytes)) = some (some (.agg #[.int .i32 0, .int .u32 0]), 2, 8) := by kernel_rfl
theorem ti84 : (Try.prog.info? 84).map (fun i => (i.zero, i.size, i.bytes)) = some (some (.map none), 1, 8) := by kernel_rfl
theorem ti88 : (Try.prog.info? 88).map (fun i => (i.zero, i.size, i.bytes)) = some (some (.agg #[.slice none 0 0, .int .i64 0]), 2, 32) := by kernel_rfl
theorem ti9 : (Try.prog.info? 9).map (fun i => (i.zero, i.size, i.bytes)) = some (some (.string ⟨#[]⟩), 1, 16) := by kernel_rfl

end FD
open FD
attribute [local irreducible] Go.wpList Go.wpQuiet Go.wpStill Go.wpAny Go.Code.wp
set_option maxRecDepth 10000
set_option maxHeartbeats 8000000
set_option linter.unusedVariables false
set_option linter.unusedSimpArgs false
theorem Cut_ok (w0 : World) (K : List Nat) (d m : Nat) (D : Dk) (ok : D.ok) (sm : Hp) (hM : MapH U8 m none D.F sm) (s : ByteArray) (ls : s.size ≤ 1000000000000) (x : Int) (hx : -9223372036854775808 ≤ x ∧ x ≤ 9223372036854775807) (hw : D.writes ≤ 4611686018427387904) (hS0 : St w0 K (fl [[(d, .cells (dkC 0 m D) DT (0, 0))], sm]) w0) :
  Calls Try.prog 24 #[.pointer (some ⟨d, 0, none⟩), .string s, .int .i64 x] w0 (Ret fun v w' => ∃ sm', v = .int .i64 ((D.cut s x).1 : Nat) ∧ MapH U8 m none (D.cut s x).2.F sm' ∧ St w0 K (fl [[(d, .cells (dkC 0 m ((D.cut s x).2)) DT (0, 0))], sm']) w') := by
 refine k_enterd (vs := [.pointer (some ⟨d, 0, none⟩), .string s, .int .i64 x]) Try.func24 rfl Try.ntmps24 rfl ?_
 have hS : St w0 K (fl [(pk d m D), sm]) w0 := hS0
 have ok1 := ok.room
 have ok2 := ok.fits
 have ok3 := ok.len
 have ok4 := ok.armed
 have ok5 := ok.keep
 have ok6 := ok.lose
 have hnm0 := hM.names
 refine wp_seq ?_
 refine k_reg ?_
 refine s_box rfl rfl rfl (.t rfl rfl) (cs := #[.pointer (some ⟨d, 0, none⟩)]) rfl hS fun blk1 w1 hb1 hB1 hS1 => ?_
 have hS2 : St w0 K (fl [(pk d m D), [(blk1, .cells #[.pointer (some ⟨d, 0, none⟩)] 33 (0, 0))], sm]) w1 := hS1.push 1 rfl
 refine s_box rfl rfl rfl (.t rfl rfl) (cs := #[.string s]) rfl hS2 fun blk2 w2 hb2 hB2 hS3 => ?_
 have hS4 : St w0 K (fl [(pk d m D), [(blk1, .cells #[.pointer (some ⟨d, 0, none⟩)] 33 (0, 0))], [(blk2, .cells #[.string s] 9 (0, 0))], sm]) w2 := hS3.push 2 rfl
 refine s_box rfl rfl rfl (.t rfl rfl) (cs := #[.int .i64 x]) rfl hS4 fun blk3 w3 hb3 hB3 hS5 => ?_
 have hS6 : St w0 K (fl [(pk d m D), [(blk1, .cells #[.pointer (some ⟨d, 0, none⟩)] 33 (0, 0))], [(blk2, .cells #[.string s] 9 (0, 0))], [(blk3, .cells #[.int .i64 x] 3 (0, 0))], sm]) w3 := hS5.push 3 rfl
 refine s_val hS6 rfl rfl (r_assign rfl .c) ?_
 refine wpList_nil ?_
 refine x_tn ?_
 refine k_reb [(3, .pointer (some ⟨blk1, 0, none⟩)), (4, .pointer (some ⟨blk2, 0, none⟩)), (5, .pointer (some ⟨blk3, 0, none⟩)), (6, .int .i64 0)] ⟨rfl, rfl, rfl, rfl, trivial⟩ fun G1 => ?_
 refine wp_seq ?_
 refine k_reg ?_
 refine s_val hS6 rfl rfl (r_load rfl one33 (.t rfl rfl) (St.cell_own (m := 1) rfl rfl)) ?_
 refine s_val hS6 rfl rfl (r_nilCheck rfl (.t rfl rfl)) ?_
 refine s_val hS6 rfl rfl (r_fieldN rfl Try.underlying86 rfl ti83 (by decide) (.t rfl rfl) (qq := 0) rfl) ?_
 refine s_call rfl rfl rfl (vs := [.pointer (some ⟨d, 0, none⟩)]) ⟨(.t rfl rfl), trivial⟩ cb42 (lock_ok muLib (St.block (m := 0) rfl _ hS6) rfl (c' := #[.int .i32 1, .int .u32 0, .int .i64 (((D.room : Nat) : Int)), .int .i64 (((tot D.F : Nat) : Int)), .map (some m), .bool D.off, .int .i64 (((D.writes : Nat) : Int)), .int .i64 (((D.armed : Nat) : Int)), .int .i64 D.keep, .int .i64 D.lose]) rfl) ?_
 rintro _ w4 ⟨rfl, ht1⟩
 have hS7 : St w0 K (fl [(pk1 d m D), [(blk1, .cells #[.pointer (some ⟨d, 0, none⟩)] 33 (0, 0))], [(blk2, .cells #[.string s] 9 (0, 0))], [(blk3, .cells #[.int .i64 x] 3 (0, 0))], sm]) w4 := hS6.callL (xs := [(pk d m D)]) (xs' := [(pk1 d m D)]) (zs := []) [0] rfl (by decide) ht1 rfl rfl
 refine wpList_nil ?_
 refine x_tn ?_
 refine k_reb [(3, .pointer (some ⟨blk1, 0, none⟩)), (4, .pointer (some ⟨blk2, 0, none⟩)), (5, .pointer (some ⟨blk3, 0, none⟩)), (6, .int .i64 0)] ⟨rfl, rfl, rfl, rfl, trivial⟩ fun G2 => ?_
 refine wp_seq ?_
 refine k_reg ?_
 refine s_val hS7 rfl rfl (r_load rfl one33 (.t rfl rfl) (St.cell_own (m := 1) rfl rfl)) ?_
 refine s_val hS7 rfl rfl (r_nilCheck rfl (.t rfl rfl)) ?_
 refine s_val hS7 rfl rfl (r_fieldN rfl Try.underlying86 rfl ti83 (by decide) (.t rfl rfl) (qq := 0) rfl) ?_
 refine s_defer rfl rfl rfl (vs := [.pointer (some ⟨d, 0, none⟩)]) ⟨(.t rfl rfl), trivial⟩ ?_
 refine wpList_nil ?_
 refine x_tn ?_
 refine k_reb [(3, .pointer (some ⟨blk1, 0, none⟩)), (4, .pointer (some ⟨blk2, 0, none⟩)), (5, .pointer (some ⟨blk3, 0, none⟩)), (6, .int .i64 0)] ⟨rfl, rfl, rfl, rfl, trivial⟩ fun G3 => ?_
 refine wp_seq ?_
 refine k_reg ?_
 refine s_val hS7 rfl rfl (r_load rfl one33 (.t rfl rfl) (St.cell_own (m := 1) rfl rfl)) ?_
 refine s_val hS7 rfl rfl (r_load rfl one9 (.t rfl rfl) (St.cell_own (m := 2) rfl rfl)) ?_
 refine s_litV rfl rfl rfl Try.underlying107 ti9 rfl (vs := [(0, .string s)]) ⟨rfl, (.t rfl rfl), trivial⟩ (L := [.string s]) rfl (by decide) rfl hS7 fun blk4 w5 hb4 hB4 hS8 => ?_
 have hS9 : St w0 K (fl [(pk1 d m D), [(blk1, .cells #[.pointer (some ⟨d, 0, none⟩)] 33 (0, 0))], [(blk2, .cells #[.string s] 9 (0, 0))], [(blk3, .cells #[.int .i64 x] 3 (0, 0))], [(blk4, .cells #[.string s] 9 (0, 0))], sm]) w5 := hS8.push 4 rfl
 refine s_call rfl rfl rfl (vs := [.pointer (some ⟨d, 0, none⟩), .slice (some ⟨blk4, 0, none⟩) 1 1]) ⟨(.t rfl rfl), (.t rfl rfl), trivial⟩ cb44 (missing_ok w5 _ d m D ok sm hM blk4 s (by omega) (hS9.give (xs := [(pk1 d m D), [(blk4, .cells #[.string s] 9 (0, 0))], sm]) [0, 4, 5] rfl (by decide))) ?_
 rintro v1 w6 ⟨hp1, ht2⟩
 have hS10 : St w0 K (fl [(pk1 d m D), [(blk1, .cells #[.pointer (some ⟨d, 0, none⟩)] 33 (0, 0))], [(blk2, .cells #[.string s] 9 (0, 0))], [(blk3, .cells #[.int .i64 x] 3 (0, 0))], [(blk4, .cells #[.string s] 9 (0, 0))], sm]) w6 := hS9.callL (xs := [(pk1 d m D), [(blk4, .cells #[.string s] 9 (0, 0))], sm]) (xs' := [(pk1 d m D), [(blk4, .cells #[.string s] 9 (0, 0))], sm]) (zs := []) [0, 4, 5] rfl (by decide) ht2 rfl rfl
 rcases hp1 with ⟨hoff, rfl⟩ | ⟨hoff, hnm, rfl⟩ | ⟨hoff, hnm, hno, rfl⟩ | ⟨f, fa1, fc1, hoff, hnm, hA1, rfl⟩
 ·
  refine s_val hS10 rfl rfl (r_move rfl (.t rfl rfl)) ?_
  refine s_val hS10 rfl rfl (r_extract rfl (.t rfl rfl) rfl) ?_
  refine s_val hS10 rfl rfl (r_extract rfl (.t rfl rfl) rfl) ?_
  refine s_alloc rfl rfl rfl ti88 (cs := #[.slice none 0 0, .int .i64 0]) rfl hS10 fun blk5 w7 hb5 hB5 hS11 => ?_
  have hS12 : St w0 K (fl [(pk1 d m D), [(blk1, .cells #[.pointer (some ⟨d, 0, none⟩)] 33 (0, 0))], [(blk2, .cells #[.string s] 9 (0, 0))], [(blk3, .cells #[.int .i64 x] 3 (0, 0))], [(blk4, .cells #[.string s] 9 (0, 0))], [(blk5, .cells #[.slice none 0 0, .int .i64 0] 88 (0, 0))], sm]) w7 := hS11.push 5 rfl
  refine s_storeA (m := 5) rfl rfl rfl ti88 (.t rfl rfl) (vs := [.slice none 0 0, .int .i64 0]) (.t rfl rfl) rfl rfl hS12 rfl (show 2 ≤ 2 from by decide) (c' := #[.slice none 0 0, .int .i64 0]) rfl (h' := (fl [(pk1 d m D), [(blk1, .cells #[.pointer (some ⟨d, 0, none⟩)] 33 (0, 0))], [(blk2, .cells #[.string s] 9 (0, 0))], [(blk3, .cells #[.int .i64 x] 3 (0, 0))], [(blk4, .cells #[.string s] 9 (0, 0))], [(blk5, .cells #[.slice none 0 0, .int .i64 0] 88 (0, 0))], sm])) rfl fun w8 hS13 => ?_
  refine s_val hS13 rfl rfl (r_assign rfl (.t rfl rfl)) ?_
  refine wpList_nil ?_
  refine x_tn ?_
  refine k_reb [(3, .pointer (some ⟨blk1, 0, none⟩)), (4, .pointer (some ⟨blk2, 0, none⟩)), (5, .pointer (some ⟨blk3, 0, none⟩)), (6, .int .i64 0), (7, .pointer (some ⟨blk5, 0, none⟩)), (8, .int .i64 104)] ⟨rfl, rfl, rfl, rfl, rfl, rfl, trivial⟩ fun G4 => ?_
  refine wp_seq ?_
  refine wp_seq ?_
  refine k_reg ?_
  refine s_val hS13 rfl rfl (r_move rfl (.t rfl rfl)) ?_
  refine s_val hS13 rfl rfl (r_cmp_t rfl rfl (.t rfl rfl) .c (show ¬ 104 = 0 from by omega)) ?_
  refine wpList_nil ?_
  refine x_tn ?_
  refine k_reb [(3, .pointer (some ⟨blk1, 0, none⟩)), (4, .pointer (some ⟨blk2, 0, none⟩)), (5, .pointer (some ⟨blk3, 0, none⟩)), (6, .int .i64 0), (7, .pointer (some ⟨blk5, 0, none⟩)), (8, .int .i64 104), (24, .bool true)] ⟨rfl, rfl, rfl, rfl, rfl, rfl, rfl, trivial⟩ fun G5 => ?_
  refine k_t (.t rfl rfl) ?_
  refine wp_seq ?_
  refine k_reg ?_
  refine s_val hS13 rfl rfl (r_move rfl (.t rfl rfl)) ?_
  refine s_val hS13 rfl rfl (r_assign rfl (.t rfl rfl)) ?_
  refine wpList_nil ?_
  refine x_tn ?_
  refine k_reb [(3, .pointer (some ⟨blk1, 0, none⟩)), (4, .pointer (some ⟨blk2, 0, none⟩)), (5, .pointer (some ⟨blk3, 0, none⟩)), (6, .int .i64 104), (7, .pointer (some ⟨blk5, 0, none⟩))] ⟨rfl, rfl, rfl, rfl, rfl, trivial⟩ fun G6 => ?_
  refine wp_ret ?_
  refine x_tr ?_
  refine l_unlock (m := 0) muLib cb43 hS13 rfl rfl (c' := #[.int .i32 0, .int .u32 0, .int .i64 (((D.room : Nat) : Int)), .int .i64 (((tot D.F : Nat) : Int)), .map (some m), .bool D.off, .int .i64 (((D.writes : Nat) : Int)), .int .i64 (((D.armed : Nat) : Int)), .int .i64 D.keep, .int .i64 D.lose]) rfl (h' := (fl [(pk d m D), [(blk1, .cells #[.pointer (some ⟨d, 0, none⟩)] 33 (0, 0))], [(blk2, .cells #[.string s] 9 (0, 0))], [(blk3, .cells #[.int .i64 x] 3 (0, 0))], [(blk4, .cells #[.string s] 9 (0, 0))], [(blk5, .cells #[.slice none 0 0, .int .i64 0] 88 (0, 0))], sm])) rfl (fun _ => tells1 rfl rfl rfl) fun w9 hS14 => ?_
  refine ⟨_, rfl, ?_⟩
  have hS15 : St w0 K (fl [(pk d m D), sm]) w9 := hS14.pick [0, 6] rfl (by decide)
  rw [cut_off hoff]
  exact ⟨_, rfl, hM, hS15⟩
 ·
  refine s_val hS10 rfl rfl (r_move rfl (.t rfl rfl)) ?_
  refine s_val hS10 rfl rfl (r_extract rfl (.t rfl rfl) rfl) ?_
  refine s_val hS10 rfl rfl (r_extract rfl (.t rfl rfl) rfl) ?_
  refine s_alloc rfl rfl rfl ti88 (cs := #[.slice none 0 0, .int .i64 0]) rfl hS10 fun blk6 w10 hb6 hB6 hS16 => ?_
  have hS17 : St w0 K (fl [(pk1 d m D), [(blk1, .cells #[.pointer (some ⟨d, 0, none⟩)] 33 (0, 0))], [(blk2, .cells #[.string s] 9 (0, 0))], [(blk3, .cells #[.int .i64 x] 3 (0, 0))], [(blk4, .cells #[.string s] 9 (0, 0))], [(blk6, .cells #[.slice none 0 0, .int .i64 0] 88 (0, 0))], sm]) w10 := hS16.push 5 rfl
  refine s_storeA (m := 5) rfl rfl rfl ti88 (.t rfl rfl) (vs := [.slice none 0 0, .int .i64 0]) (.t rfl rfl) rfl rfl hS17 rfl (show 2 ≤ 2 from by decide) (c' := #[.slice none 0 0, .int .i64 0]) rfl (h' := (fl [(pk1 d m D), [(blk1, .cells #[.pointer (some ⟨d, 0, none⟩)] 33 (0, 0))], [(blk2, .cells #[.string s] 9 (0, 0))], [(blk3, .cells #[.int .i64 x] 3 (0, 0))], [(blk4, .cells #[.string s] 9 (0, 0))], [(blk6, .cells #[.slice none 0 0, .int .i64 0] 88 (0, 0))], sm])) rfl fun w11 hS18 => ?_
  refine s_val hS18 rfl rfl (r_assign rfl (.t rfl rfl)) ?_
  refine wpList_nil ?_
  refine x_tn ?_
  refine k_reb [(3, .pointer (some ⟨blk1, 0, none⟩)), (4, .pointer (some ⟨blk2, 0, none⟩)), (5, .pointer (some ⟨blk3, 0, none⟩)), (6, .int .i64 0), (7, .pointer (some ⟨blk6, 0, none⟩)), (8, .int .i64 101)] ⟨rfl, rfl, rfl, rfl, rfl, rfl, trivial⟩ fun G7 => ?_
  refine wp_seq ?_
  refine wp_seq ?_
  refine k_reg ?_
  refine s_val hS18 rfl rfl (r_move rfl (.t rfl rfl)) ?_
  refine s_val hS18 rfl rfl (r_cmp_t rfl rfl (.t rfl rfl) .c (show ¬ 101 = 0 from by omega)) ?_
  refine wpList_nil ?_
  refine x_tn ?_
  refine k_reb [(3, .pointer (some ⟨blk1, 0, none⟩)), (4, .pointer (some ⟨blk2, 0, none⟩)), (5, .pointer (some ⟨blk3, 0, none⟩)), (6, .int .i64 0), (7, .pointer (some ⟨blk6, 0, none⟩)), (8, .int .i64 101), (24, .bool true)] ⟨rfl, rfl, rfl, rfl, rfl, rfl, rfl, trivial⟩ fun G8 => ?_
  refine k_t (.t rfl rfl) ?_
  refine wp_seq ?_
  refine k_reg ?_
  refine s_val hS18 rfl rfl (r_move rfl (.t rfl rfl)) ?_
  refine s_val hS18 rfl rfl (r_assign rfl (.t rfl rfl)) ?_
  refine wpList_nil ?_
  refine x_tn ?_
  refine k_reb [(3, .pointer (some ⟨blk1, 0, none⟩)), (4, .pointer (some ⟨blk2, 0, none⟩)), (5, .pointer (some ⟨blk3, 0, none⟩)), (6, .int .i64 101), (7, .pointer (some ⟨blk6, 0, none⟩))] ⟨rfl, rfl, rfl, rfl, rfl, trivial⟩ fun G9 => ?_
  refine wp_ret ?_
  refine x_tr ?_
  refine l_unlock (m := 0) muLib cb43 hS18 rfl rfl (c' := #[.int .i32 0, .int .u32 0, .int .i64 (((D.room : Nat) : Int)), .int .i64 (((tot D.F : Nat) : Int)), .map (some m), .bool D.off, .int .i64 (((D.writes : Nat) : Int)), .int .i64 (((D.armed : Nat) : Int)), .int .i64 D.keep, .int .i64 D.lose]) rfl (h' := (fl [(pk d m D), [(blk1, .cells #[.pointer (some ⟨d, 0, none⟩)] 33 (0, 0))], [(blk2, .cells #[.string s] 9 (0, 0))], [(blk3, .cells #[.int .i64 x] 3 (0, 0))], [(blk4, .cells #[.string s] 9 (0, 0))], [(blk6, .cells #[.slice none 0 0, .int .i64 0] 88 (0, 0))], sm])) rfl (fun _ => tells1 rfl rfl rfl) fun w12 hS19 => ?_
  refine ⟨_, rfl, ?_⟩
  have hS20 : St w0 K (fl [(pk d m D), sm]) w12 := hS19.pick [0, 6] rfl (by decide)
  rw [cut_name hoff hnm]
  exact ⟨_, rfl, hM, hS20⟩
 ·
  refine s_val hS10 rfl rfl (r_move rfl (.t rfl rfl)) ?_
  refine s_val hS10 rfl rfl (r_extract rfl (.t rfl rfl) rfl) ?_
  refine s_val hS10 rfl rfl (r_extract rfl (.t rfl rfl) rfl) ?_
  refine s_alloc rfl rfl rfl ti88 (cs := #[.slice none 0 0, .int .i64 0]) rfl hS10 fun blk7 w13 hb7 hB7 hS21 => ?_
  have hS22 : St w0 K (fl [(pk1 d m D), [(blk1, .cells #[.pointer (some ⟨d, 0, none⟩)] 33 (0, 0))], [(blk2, .cells #[.string s] 9 (0, 0))], [(blk3, .cells #[.int .i64 x] 3 (0, 0))], [(blk4, .cells #[.string s] 9 (0, 0))], [(blk7, .cells #[.slice none 0 0, .int .i64 0] 88 (0, 0))], sm]) w13 := hS21.push 5 rfl
  refine s_storeA (m := 5) rfl rfl rfl ti88 (.t rfl rfl) (vs := [.slice none 0 0, .int .i64 0]) (.t rfl rfl) rfl rfl hS22 rfl (show 2 ≤ 2 from by decide) (c' := #[.slice none 0 0, .int .i64 0]) rfl (h' := (fl [(pk1 d m D), [(blk1, .cells #[.pointer (some ⟨d, 0, none⟩)] 33 (0, 0))], [(blk2, .cells #[.string s] 9 (0, 0))], [(blk3, .cells #[.int .i64 x] 3 (0, 0))], [(blk4, .cells #[.string s] 9 (0, 0))], [(blk7, .cells #[.slice none 0 0, .int .i64 0] 88 (0, 0))], sm])) rfl fun w14 hS23 => ?_
  refine s_val hS23 rfl rfl (r_assign rfl (.t rfl rfl)) ?_
  refine wpList_nil ?_
  refine x_tn ?_
  refine k_reb [(3, .pointer (some ⟨blk1, 0, none⟩)), (4, .pointer (some ⟨blk2, 0, none⟩)), (5, .pointer (some ⟨blk3, 0, none⟩)), (6, .int .i64 0), (7, .pointer (some ⟨blk7, 0, none⟩)), (8, .int .i64 102)] ⟨rfl, rfl, rfl, rfl, rfl, rfl, trivial⟩ fun G10 => ?_
  refine wp_seq ?_
  refine wp_seq ?_
  refine k_reg ?_
  refine s_val hS23 rfl rfl (r_move rfl (.t rfl rfl)) ?_
  refine s_val hS23 rfl rfl (r_cmp_t rfl rfl (.t rfl rfl) .c (show ¬ 102 = 0 from by omega)) ?_
  refine wpList_nil ?_
  refine x_tn ?_
  refine k_reb [(3, .pointer (some ⟨blk1, 0, none⟩)), (4, .pointer (some ⟨blk2, 0, none⟩)), (5, .pointer (some ⟨blk3, 0, none⟩)), (6, .int .i64 0), (7, .pointer (some ⟨blk7, 0, none⟩)), (8, .int .i64 102), (24, .bool true)] ⟨rfl, rfl, rfl, rfl, rfl, rfl, rfl, trivial⟩ fun G11 => ?_
  refine k_t (.t rfl rfl) ?_
  refine wp_seq ?_
  refine k_reg ?_
  refine s_val hS23 rfl rfl (r_move rfl (.t rfl rfl)) ?_
  refine s_val hS23 rfl rfl (r_assign rfl (.t rfl rfl)) ?_
  refine wpList_nil ?_
  refine x_tn ?_
  refine k_reb [(3, .pointer (some ⟨blk1, 0, none⟩)), (4, .pointer (some ⟨blk2, 0, none⟩)), (5, .pointer (some ⟨blk3, 0, none⟩)), (6, .int .i64 102), (7, .pointer (some ⟨blk7, 0, none⟩))] ⟨rfl, rfl, rfl, rfl, rfl, trivial⟩ fun G12 => ?_
  refine wp_ret ?_
  refine x_tr ?_
  refine l_unlock (m := 0) muLib cb43 hS23 rfl rfl (c' := #[.int .i32 0, .int .u32 0, .int .i64 (((D.room : Nat) : Int)), .int .i64 (((tot D.F : Nat) : Int)), .map (some m), .bool D.off, .int .i64 (((D.writes : Nat) : Int)), .int .i64 (((D.armed : Nat) : Int)), .int .i64 D.keep, .int .i64 D.lose]) rfl (h' := (fl [(pk d m D), [(blk1, .cells #[.pointer (some ⟨d, 0, none⟩)] 33 (0, 0))], [(blk2, .cells #[.string s] 9 (0, 0))], [(blk3, .cells #[.int .i64 x] 3 (0, 0))], [(blk4, .cells #[.string s] 9 (0, 0))], [(blk7, .cells #[.slice none 0 0, .int .i64 0] 88 (0, 0))], sm])) rfl (fun _ => tells1 rfl rfl rfl) fun w15 hS24 => ?_
  refine ⟨_, rfl, ?_⟩
  have hS25 : St w0 K (fl [(pk d m D), sm]) w15 := hS24.pick [0, 6] rfl (by decide)
  rw [cut_none hoff hnm hno]
  exact ⟨_, rfl, hM, hS25⟩
 ·
  have hlk := hA1.1
  obtain ⟨hf1, hf2, hf3, hf4⟩ := ok.file hlk
  have hx1 := hA1.sl (by omega) hf3
  refine s_val hS10 rfl rfl (r_move rfl (.t rfl rfl)) ?_
  refine s_val hS10 rfl rfl (r_extract rfl (.t rfl rfl) rfl) ?_
  refine s_val hS10 rfl rfl (r_extract rfl (.t rfl rfl) rfl) ?_
  refine s_alloc rfl rfl rfl ti88 (cs := #[.slice none 0 0, .int .i64 0]) rfl hS10 fun blk8 w16 hb8 hB8 hS26 => ?_
  have hS27 : St w0 K (fl [(pk1 d m D), [(blk1, .cells #[.pointer (some ⟨d, 0, none⟩)] 33 (0, 0))], [(blk2, .cells #[.string s] 9 (0, 0))], [(blk3, .cells #[.int .i64 x] 3 (0, 0))], [(blk4, .cells #[.string s] 9 (0, 0))], [(blk8, .cells #[.slice none 0 0, .int .i64 0] 88 (0, 0))], sm]) w16 := hS26.push 5 rfl
  refine s_storeA (m := 5) rfl rfl rfl ti88 (.t rfl rfl) (vs := [.slice fa1 f.bytes.length fc1, .int .i64 (((f.sure : Nat) : Int))]) (.t rfl rfl) rfl rfl hS27 rfl (show 2 ≤ 2 from by decide) (c' := #[.slice fa1 f.bytes.length fc1, .int .i64 (((f.sure : Nat) : Int))]) rfl (h' := (fl [(pk1 d m D), [(blk1, .cells #[.pointer (some ⟨d, 0, none⟩)] 33 (0, 0))], [(blk2, .cells #[.string s] 9 (0, 0))], [(blk3, .cells #[.int .i64 x] 3 (0, 0))], [(blk4, .cells #[.string s] 9 (0, 0))], [(blk8, .cells #[.slice fa1 f.bytes.length fc1, .int .i64 (((f.sure : Nat) : Int))] 88 (0, 0))], sm])) rfl fun w17 hS28 => ?_
  refine s_val hS28 rfl rfl (r_assign rfl (.t rfl rfl)) ?_
  refine wpList_nil ?_
  refine x_tn ?_
  refine k_reb [(3, .pointer (some ⟨blk1, 0, none⟩)), (4, .pointer (some ⟨blk2, 0, none⟩)), (5, .pointer (some ⟨blk3, 0, none⟩)), (6, .int .i64 0), (7, .pointer (some ⟨blk8, 0, none⟩)), (8, .int .i64 0)] ⟨rfl, rfl, rfl, rfl, rfl, rfl, trivial⟩ fun G13 => ?_
  refine wp_seq ?_
  refine wp_seq ?_
  refine k_reg ?_
  refine s_val hS28 rfl rfl (r_move rfl (.t rfl rfl)) ?_
  refine s_val hS28 rfl rfl (r_cmp_f rfl rfl (.t rfl rfl) .c (show ¬ (¬ 0 = 0) from by omega)) ?_
  refine wpList_nil ?_
  refine x_tn ?_
  refine k_reb [(3, .pointer (some ⟨blk1, 0, none⟩)), (4, .pointer (some ⟨blk2, 0, none⟩)), (5, .pointer (some ⟨blk3, 0, none⟩)), (6, .int .i64 0), (7, .pointer (some ⟨blk8, 0, none⟩)), (8, .int .i64 0), (24, .bool false)] ⟨rfl, rfl, rfl, rfl, rfl, rfl, rfl, trivial⟩ fun G14 => ?_
  refine k_f (.t rfl rfl) ?_
  refine wp_skip ?_
  refine x_tn ?_
  refine k_reb [(3, .pointer (some ⟨blk1, 0, none⟩)), (4, .pointer (some ⟨blk2, 0, none⟩)), (5, .pointer (some ⟨blk3, 0, none⟩)), (6, .int .i64 0), (7, .pointer (some ⟨blk8, 0, none⟩))] ⟨rfl, rfl, rfl, rfl, rfl, trivial⟩ fun G15 => ?_
  refine wp_seq ?_
  refine wp_seq ?_
  refine k_reg ?_
  refine s_val hS28 rfl rfl (r_load rfl one3 (.t rfl rfl) (St.cell_own (m := 3) rfl rfl)) ?_
  by_cases c1 : x < 0
  ·
   refine s_val hS28 rfl rfl (r_cmp_t rfl rfl (.t rfl rfl) .c (show x < 0 from by omega)) ?_
   refine s_val hS28 rfl rfl (r_move rfl (.t rfl rfl)) ?_
   refine s_skip (unwanted_of (j := 2) (b := false) (b' := true) (d := 28) rfl rfl rfl rfl rfl) rfl ?_
   refine s_skip (unwanted_of (j := 2) (b := false) (b' := true) (d := 28) rfl rfl rfl rfl rfl) rfl ?_
   refine s_skip (unwanted_of (j := 2) (b := false) (b' := true) (d := 28) rfl rfl rfl rfl rfl) rfl ?_
   refine s_skip (unwanted_of (j := 2) (b := false) (b' := true) (d := 28) rfl rfl rfl rfl rfl) rfl ?_
   refine s_skip (unwanted_of (j := 2) (b := false) (b' := true) (d := 28) rfl rfl rfl rfl rfl) rfl ?_
   refine s_val hS28 rfl rfl (r_pick rfl (.t rfl rfl) .c) ?_
   refine wpList_nil ?_
   refine x_tn ?_
   refine k_reb [(3, .pointer (some ⟨blk1, 0, none⟩)), (4, .pointer (some ⟨blk2, 0, none⟩)), (5, .pointer (some ⟨blk3, 0, none⟩)), (6, .int .i64 0), (7, .pointer (some ⟨blk8, 0, none⟩)), (34, .bool true)] ⟨rfl, rfl, rfl, rfl, rfl, rfl, trivial⟩ fun G16 => ?_
   refine k_t (.t rfl rfl) ?_
   refine wp_seq ?_
   refine k_reg ?_
   refine s_val hS28 rfl rfl (r_assign rfl .c) ?_
   refine wpList_nil ?_
   refine x_tn ?_
   refine k_reb [(3, .pointer (some ⟨blk1, 0, none⟩)), (4, .pointer (some ⟨blk2, 0, none⟩)), (5, .pointer (some ⟨blk3, 0, none⟩)), (6, .int .i64 105), (7, .pointer (some ⟨blk8, 0, none⟩))] ⟨rfl, rfl, rfl, rfl, rfl, trivial⟩ fun G17 => ?_
   refine wp_ret ?_
   refine x_tr ?_
   refine l_unlock (m := 0) muLib cb43 hS28 rfl rfl (c' := #[.int .i32 0, .int .u32 0, .int .i64 (((D.room : Nat) : Int)), .int .i64 (((tot D.F : Nat) : Int)), .map (some m), .bool D.off, .int .i64 (((D.writes : Nat) : Int)), .int .i64 (((D.armed : Nat) : Int)), .int .i64 D.keep, .int .i64 D.lose]) rfl (h' := (fl [(pk d m D), [(blk1, .cells #[.pointer (some ⟨d, 0, none⟩)] 33 (0, 0))], [(blk2, .cells #[.string s] 9 (0, 0))], [(blk3, .cells #[.int .i64 x] 3 (0, 0))], [(blk4, .cells #[.string s] 9 (0, 0))], [(blk8, .cells #[.slice fa1 f.bytes.length fc1, .int .i64 (((f.sure : Nat) : Int))] 88 (0, 0))], sm])) rfl (fun _ => tells1 rfl rfl rfl) fun w18 hS29 => ?_
   refine ⟨_, rfl, ?_⟩
   have hS30 : St w0 K (fl [(pk d m D), sm]) w18 := hS29.pick [0, 6] rfl (by decide)
   rw [cut_bad hoff hnm hlk (by omega)]
   exact ⟨_, rfl, hM, hS30⟩
  ·
   refine s_val hS28 rfl rfl (r_cmp_f rfl rfl (.t rfl rfl) .c (show ¬ (x < 0) from by omega)) ?_
   refine s_val hS28 rfl rfl (r_move rfl (.t rfl rfl)) ?_
   refine s_valg hS28 (wanted_of (j := 2) (b := false) (d := 28) rfl rfl rfl rfl) rfl (r_load rfl one3 (.t rfl rfl) (St.cell_own (m := 3) rfl rfl)) ?_
   refine s_valg hS28 (wanted_of (j := 2) (b := false) (d := 28) rfl rfl rfl rfl) rfl (r_fieldN rfl Try.underlying88 rfl ti22 (by decide) (.t rfl rfl) (qq := 0) rfl) ?_
   refine s_valg hS28 (wanted_of (j := 2) (b := false) (d := 28) rfl rfl rfl rfl) rfl (r_load rfl one22 (.t rfl rfl) (St.cell_own (m := 5) rfl rfl)) ?_
   refine s_valg hS28 (wanted_of (j := 2) (b := false) (d := 28) rfl rfl rfl rfl) rfl (r_len rfl rfl Try.underlying22 (.t rfl rfl)) ?_
   by_cases c2 : x > ((f.bytes.length : Nat) : Int)
   ·
    refine s_valg hS28 (wanted_of (j := 2) (b := false) (d := 28) rfl rfl rfl rfl) rfl (r_cmp_t rfl rfl (.t rfl rfl) (.t rfl rfl) (show x > ((f.bytes.length : Nat) : Int) from by omega)) ?_
    refine s_val hS28 rfl rfl (r_pick rfl (.t rfl rfl) (.t rfl rfl)) ?_
    refine wpList_nil ?_
    refine x_tn ?_
    refine k_reb [(3, .pointer (some ⟨blk1, 0, none⟩)), (4, .pointer (some ⟨blk2, 0, none⟩)), (5, .pointer (some ⟨blk3, 0, none⟩)), (6, .int .i64 0), (7, .pointer (some ⟨blk8, 0, none⟩)), (34, .bool true)] ⟨rfl, rfl, rfl, rfl, rfl, rfl, trivial⟩ fun G18 => ?_
    refine k_t (.t rfl rfl) ?_
    refine wp_seq ?_
    refine k_reg ?_
    refine s_val hS28 rfl rfl (r_assign rfl .c) ?_
    refine wpList_nil ?_
    refine x_tn ?_
    refine k_reb [(3, .pointer (some ⟨blk1, 0, none⟩)), (4, .pointer (some ⟨blk2, 0, none⟩)), (5, .pointer (some ⟨blk3, 0, none⟩)), (6, .int .i64 105), (7, .pointer (some ⟨blk8, 0, none⟩))] ⟨rfl, rfl, rfl, rfl, rfl, trivial⟩ fun G19 => ?_
    refine wp_ret ?_
    refine x_tr ?_
    refine l_unlock (m := 0) muLib cb43 hS28 rfl rfl (c' := #[.int .i32 0, .int .u32 0, .int .i64 (((D.room : Nat) : Int)), .int .i64 (((tot D.F : Nat) : Int)), .map (some m), .bool D.off, .int .i64 (((D.writes : Nat) : Int)), .int .i64 (((D.armed : Nat) : Int)), .int .i64 D.keep, .int .i64 D.lose]) rfl (h' := (fl [(pk d m D), [(blk1, .cells #[.pointer (some ⟨d, 0, none⟩)] 33 (0, 0))], [(blk2, .cells #[.string s] 9 (0, 0))], [(blk3, .cells #[.int .i64 x] 3 (0, 0))], [(blk4, .cells #[.string s] 9 (0, 0))], [(blk8, .cells #[.slice fa1 f.bytes.length fc1, .int .i64 (((f.sure : Nat) : Int))] 88 (0, 0))], sm])) rfl (fun _ => tells1 rfl rfl rfl) fun w19 hS31 => ?_
    refine ⟨_, rfl, ?_⟩
    have hS32 : St w0 K (fl [(pk d m D), sm]) w19 := hS31.pick [0, 6] rfl (by decide)
    rw [cut_bad hoff hnm hlk (by omega)]
    exact ⟨_, rfl, hM, hS32⟩
   ·
    refine s_valg hS28 (wanted_of (j := 2) (b := false) (d := 28) rfl rfl rfl rfl) rfl (r_cmp_f rfl rfl (.t rfl rfl) (.t rfl rfl) (show ¬ (x > ((f.bytes.length : Nat) : Int)) from by omega)) ?_
    refine s_val hS28 rfl rfl (r_pick rfl (.t rfl rfl) (.t rfl rfl)) ?_
    refine wpList_nil ?_
    refine x_tn ?_
    refine k_reb [(3, .pointer (some ⟨blk1, 0, none⟩)), (4, .pointer (some ⟨blk2, 0, none⟩)), (5, .pointer (some ⟨blk3, 0, none⟩)), (6, .int .i64 0), (7, .pointer (some ⟨blk8, 0, none⟩)), (34, .bool false)] ⟨rfl, rfl, rfl, rfl, rfl, rfl, trivial⟩ fun G20 => ?_
    refine k_f (.t rfl rfl) ?_
    refine wp_skip ?_
    refine x_tn ?_
    refine k_reb [(3, .pointer (some ⟨blk1, 0, none⟩)), (4, .pointer (some ⟨blk2, 0, none⟩)), (5, .pointer (some ⟨blk3, 0, none⟩)), (6, .int .i64 0), (7, .pointer (some ⟨blk8, 0, none⟩))] ⟨rfl, rfl, rfl, rfl, rfl, trivial⟩ fun G21 => ?_
    refine wp_seq ?_
    refine k_reg ?_
    obtain ⟨n, rfl⟩ : ∃ n : Nat, x = (n : Int) := ⟨x.toNat, by omega⟩
    have hfit : Fits D.room (putF D.F s (f.bytes.take n) (min f.sure n)) := fits_put ok hnm0 hlk (by rw [List.length_take]; omega) (by rw [List.length_take]; omega) (fun y hy => hf3 y (List.mem_of_mem_take hy))
    refine s_val hS28 rfl rfl (r_load rfl one33 (.t rfl rfl) (St.cell_own (m := 1) rfl rfl)) ?_
    refine s_val hS28 rfl rfl (r_makeFunc rfl (vs := [.pointer (some ⟨blk1, 0, none⟩), .pointer (some ⟨blk8, 0, none⟩), .pointer (some ⟨blk3, 0, none⟩), .pointer (some ⟨blk2, 0, none⟩)]) ⟨(.t rfl rfl), (.t rfl rfl), (.t rfl rfl), (.t rfl rfl), trivial⟩) ?_
    refine s_call rfl rfl rfl (vs := [.pointer (some ⟨d, 0, none⟩), .func (.func 52) #[] #[.pointer (some ⟨blk1, 0, none⟩), .pointer (some ⟨blk8, 0, none⟩), .pointer (some ⟨blk3, 0, none⟩), .pointer (some ⟨blk2, 0, none⟩)]]) ⟨(.t rfl rfl), (.t rfl rfl), trivial⟩ cb51 (write_cut w17 _ d m D ok sm hM s ls f fa1 fc1 hA1 blk1 blk8 blk3 blk2 n (by omega) hfit hw (hS28.give (xs := [(pk1 d m D), [(blk1, .cells #[.pointer (some ⟨d, 0, none⟩)] 33 (0, 0))], [(blk8, .cells #[.slice fa1 f.bytes.length fc1, .int .i64 (((f.sure : Nat) : Int))] 88 (0, 0))], [(blk3, .cells #[.int .i64 (((n : Nat) : Int))] 3 (0, 0))], [(blk2, .cells #[.string s] 9 (0, 0))], sm]) [0, 1, 5, 3, 2, 6] rfl (by decide))) ?_
    rintro _ w20 ⟨sm1, rfl, hM1, ht3⟩
    have hS33 : St w0 K (fl [(pa d 1 ((((D.wr (putF D.F s (f.bytes.take n) (min f.sure n))).2.room : Nat) : Int)) (((tot ((D.wr (putF D.F s (f.bytes.take n) (min f.sure n))).2.F) : Nat) : Int)) m ((D.wr (putF D.F s (f.bytes.take n) (min f.sure n))).2.off) ((((D.wr (putF D.F s (f.bytes.take n) (min f.sure n))).2.writes : Nat) : Int)) ((((D.wr (putF D.F s (f.bytes.take n) (min f.sure n))).2.armed : Nat) : Int)) ((D.wr (putF D.F s (f.bytes.take n) (min f.sure n))).2.keep) ((D.wr (putF D.F s (f.bytes.take n) (min f.sure n))).2.lose)), [(blk1, .cells #[.pointer (some ⟨d, 0, none⟩)] 33 (0, 0))], [(blk2, .cells #[.string s] 9 (0, 0))], [(blk3, .cells #[.int .i64 (((n : Nat) : Int))] 3 (0, 0))], [(blk4, .cells #[.string s] 9 (0, 0))], [(blk8, .cells #[.slice fa1 f.bytes.length fc1, .int .i64 (((f.sure : Nat) : Int))] 88 (0, 0))], sm1]) w20 := hS28.callL (xs := [(pk1 d m D), [(blk1, .cells #[.pointer (some ⟨d, 0, none⟩)] 33 (0, 0))], [(blk8, .cells #[.slice fa1 f.bytes.length fc1, .int .i64 (((f.sure : Nat) : Int))] 88 (0, 0))], [(blk3, .cells #[.int .i64 (((n : Nat) : Int))] 3 (0, 0))], [(blk2, .cells #[.string s] 9 (0, 0))], sm]) (xs' := [(pa d 1 ((((D.wr (putF D.F s (f.bytes.take n) (min f.sure n))).2.room : Nat) : Int)) (((tot ((D.wr (putF D.F s (f.bytes.take n) (min f.sure n))).2.F) : Nat) : Int)) m ((D.wr (putF D.F s (f.bytes.take n) (min f.sure n))).2.off) ((((D.wr (putF D.F s (f.bytes.take n) (min f.sure n))).2.writes : Nat) : Int)) ((((D.wr (putF D.F s (f.bytes.take n) (min f.sure n))).2.armed : Nat) : Int)) ((D.wr (putF D.F s (f.bytes.take n) (min f.sure n))).2.keep) ((D.wr (putF D.F s (f.bytes.take n) (min f.sure n))).2.lose)), [(blk1, .cells #[.pointer (some ⟨d, 0, none⟩)] 33 (0, 0))], [(blk8, .cells #[.slice fa1 f.bytes.length fc1, .int .i64 (((f.sure : Nat) : Int))] 88 (0, 0))], [(blk3, .cells #[.int .i64 (((n : Nat) : Int))] 3 (0, 0))], [(blk2, .cells #[.string s] 9 (0, 0))], sm1]) (zs := []) [0, 1, 5, 3, 2, 6] rfl (by decide) ht3 rfl rfl
    refine s_val hS33 rfl rfl (r_assign rfl (.t rfl rfl)) ?_
    refine wpList_nil ?_
    refine x_tn ?_
    refine k_reb [(6, .int .i64 ((((D.wr (putF D.F s (f.bytes.take n) (min f.sure n))).1 : Nat) : Int)))] ⟨rfl, trivial⟩ fun G22 => ?_
    refine wp_ret ?_
    refine l_unlock (m := 0) muLib cb43 hS33 rfl rfl (c' := #[.int .i32 0, .int .u32 0, .int .i64 ((((D.wr (putF D.F s (f.bytes.take n) (min f.sure n))).2.room : Nat) : Int)), .int .i64 (((tot ((D.wr (putF D.F s (f.bytes.take n) (min f.sure n))).2.F) : Nat) : Int)), .map (some m), .bool ((D.wr (putF D.F s (f.bytes.take n) (min f.sure n))).2.off), .int .i64 ((((D.wr (putF D.F s (f.bytes.take n) (min f.sure n))).2.writes : Nat) : Int)), .int .i64 ((((D.wr (putF D.F s (f.bytes.take n) (min f.sure n))).2.armed : Nat) : Int)), .int .i64 ((D.wr (putF D.F s (f.bytes.take n) (min f.sure n))).2.keep), .int .i64 ((D.wr (putF D.F s (f.bytes.take n) (min f.sure n))).2.lose)]) rfl (h' := (fl [(pa d 0 ((((D.wr (putF D.F s (f.bytes.take n) (min f.sure n))).2.room : Nat) : Int)) (((tot ((D.wr (putF D.F s (f.bytes.take n) (min f.sure n))).2.F) : Nat) : Int)) m ((D.wr (putF D.F s (f.bytes.take n) (min f.sure n))).2.off) ((((D.wr (putF D.F s (f.bytes.take n) (min f.sure n))).2.writes : Nat) : Int)) ((((D.wr (putF D.F s (f.bytes.take n) (min f.sure n))).2.armed : Nat) : Int)) ((D.wr (putF D.F s (f.bytes.take n) (min f.sure n))).2.keep) ((D.wr (putF D.F s (f.bytes.take n) (min f.sure n))).2.lose)), [(blk1, .cells #[.pointer (some ⟨d, 0, none⟩)] 33 (0, 0))], [(blk2, .cells #[.string s] 9 (0, 0))], [(blk3, .cells #[.int .i64 (((n : Nat) : Int))] 3 (0, 0))], [(blk4, .cells #[.string s] 9 (0, 0))], [(blk8, .cells #[.slice fa1 f.bytes.length fc1, .int .i64 (((f.sure : Nat) : Int))] 88 (0, 0))], sm1])) rfl (fun _ => tells1 rfl rfl rfl) fun w21 hS34 => ?_
    refine ⟨_, rfl, ?_⟩
    have hS35 : St w0 K (fl [(pa d 0 ((((D.wr (putF D.F s (f.bytes.take n) (min f.sure n))).2.room : Nat) : Int)) (((tot ((D.wr (putF D.F s (f.bytes.take n) (min f.sure n))).2.F) : Nat) : Int)) m ((D.wr (putF D.F s (f.bytes.take n) (min f.sure n))).2.off) ((((D.wr (putF D.F s (f.bytes.take n) (min f.sure n))).2.writes : Nat) : Int)) ((((D.wr (putF D.F s (f.bytes.take n) (min f.sure n))).2.armed : Nat) : Int)) ((D.wr (putF D.F s (f.bytes.take n) (min f.sure n))).2.keep) ((D.wr (putF D.F s (f.bytes.take n) (min f.sure n))).2.lose)), sm1]) w21 := hS34.pick [0, 6] rfl (by decide)
    rw [cut_fine hoff hnm hlk (by omega)]
    exact ⟨_, rfl, hM1, hS35⟩

theorem Sync_ok (w0 : World) (K : List Nat) (d m : Nat) (D : Dk) (ok : D.ok) (sm : Hp) (hM : MapH U8 m none D.F sm) (s : ByteArray) (ls : s.size ≤ 1000000000000) (hw : D.writes ≤ 4611686018427387904) (hS0 : St w0 K (fl [[(d, .cells (dkC 0 m D) DT (0, 0))], sm]) w0) :
  Calls Try.prog 58 #[.pointer (some ⟨d, 0, none⟩), .string s] w0 (Ret fun v w' => ∃ sm', v = .int .i64 ((D.sync s).1 : Nat) ∧ MapH U8 m none (D.sync s).2.F sm' ∧ St w0 K (fl [[(d, .cells (dkC 0 m ((D.sync s).2)) DT (0, 0))], sm']) w') := by
 refine k_enterd (vs := [.pointer (some ⟨d, 0, none⟩), .string s]) Try.func58 rfl Try.ntmps58 rfl ?_
 have hS : St w0 K (fl [(pk d m D), sm]) w0 := hS0
 have ok1 := ok.room
 have ok2 := ok.fits
 have ok3 := ok.len
 have ok4 := ok.armed
 have ok5 := ok.keep
 have ok6 := ok.lose
 have hnm0 := hM.names
 refine wp_seq ?_
 refine k_reg ?_
 refine s_box rfl rfl rfl (.t rfl rfl) (cs := #[.pointer (some ⟨d, 0, none⟩)]) rfl hS fun blk1 w1 hb1 hB1 hS1 => ?_
 have hS2 : St w0 K (fl [(pk d m D), [(blk1, .cells #[.pointer (some ⟨d, 0, none⟩)] 33 (0, 0))], sm]) w1 := hS1.push 1 rfl
 refine s_box rfl rfl rfl (.t rfl rfl) (cs := #[.string s]) rfl hS2 fun blk2 w2 hb2 hB2 hS3 => ?_
 have hS4 : St w0 K (fl [(pk d m D), [(blk1, .cells #[.pointer (some ⟨d, 0, none⟩)] 33 (0, 0))], [(blk2, .cells #[.string s] 9 (0, 0))], sm]) w2 := hS3.push 2 rfl
 refine s_val hS4 rfl rfl (r_assign rfl .c) ?_
 refine wpList_nil ?_
 refine x_tn ?_
 refine k_reb [(2, .pointer (some ⟨blk1, 0, none⟩)), (3, .pointer (some ⟨blk2, 0, none⟩)), (4, .int .i64 0)] ⟨rfl, rfl, rfl, trivial⟩ fun G1 => ?_
 refine wp_seq ?_
 refine k_reg ?_
 refine s_val hS4 rfl rfl (r_load rfl one33 (.t rfl rfl) (St.cell_own (m := 1) rfl rfl)) ?_
 refine s_val hS4 rfl rfl (r_nilCheck rfl (.t rfl rfl)) ?_
 refine s_val hS4 rfl rfl (r_fieldN rfl Try.underlying86 rfl ti83 (by decide) (.t rfl rfl) (qq := 0) rfl) ?_
 refine s_call rfl rfl rfl (vs := [.pointer (some ⟨d, 0, none⟩)]) ⟨(.t rfl rfl), trivial⟩ cb42 (lock_ok muLib (St.block (m := 0) rfl _ hS4) rfl (c' := #[.int .i32 1, .int .u32 0, .int .i64 (((D.room : Nat) : Int)), .int .i64 (((tot D.F : Nat) : Int)), .map (some m), .bool D.off, .int .i64 (((D.writes : Nat) : Int)), .int .i64 (((D.armed : Nat) : Int)), .int .i64 D.keep, .int .i64 D.lose]) rfl) ?_
 rintro _ w3 ⟨rfl, ht1⟩
 have hS5 : St w0 K (fl [(pk1 d m D), [(blk1, .cells #[.pointer (some ⟨d, 0, none⟩)] 33 (0, 0))], [(blk2, .cells #[.string s] 9 (0, 0))], sm]) w3 := hS4.callL (xs := [(pk d m D)]) (xs' := [(pk1 d m D)]) (zs := []) [0] rfl (by decide) ht1 rfl rfl
 refine wpList_nil ?_
 refine x_tn ?_
 refine k_reb [(2, .pointer (some ⟨blk1, 0, none⟩)), (3, .pointer (some ⟨blk2, 0, none⟩)), (4, .int .i64 0)] ⟨rfl, rfl, rfl, trivial⟩ fun G2 => ?_
 refine wp_seq ?_
 refine k_reg ?_
 refine s_val hS5 rfl rfl (r_load rfl one33 (.t rfl rfl) (St.cell_own (m := 1) rfl rfl)) ?_
 refine s_val hS5 rfl rfl (r_nilCheck rfl (.t rfl rfl)) ?_
 refine s_val hS5 rfl rfl (r_fieldN rfl Try.underlying86 rfl ti83 (by decide) (.t rfl rfl) (qq := 0) rfl) ?_
 refine s_defer rfl rfl rfl (vs := [.pointer (some ⟨d, 0, none⟩)]) ⟨(.t rfl rfl), trivial⟩ ?_
 refine wpList_nil ?_
 refine x_tn ?_
 refine k_reb [(2, .pointer (some ⟨blk1, 0, none⟩)), (3, .pointer (some ⟨blk2, 0, none⟩)), (4, .int .i64 0)] ⟨rfl, rfl, rfl, trivial⟩ fun G3 => ?_
 refine wp_seq ?_
 refine k_reg ?_
 refine s_val hS5 rfl rfl (r_load rfl one33 (.t rfl rfl) (St.cell_own (m := 1) rfl rfl)) ?_
 refine s_val hS5 rfl rfl (r_load rfl one9 (.t rfl rfl) (St.cell_own (m := 2) rfl rfl)) ?_
 refine s_litV rfl rfl rfl Try.underlying107 ti9 rfl (vs := [(0, .string s)]) ⟨rfl, (.t rfl rfl), trivial⟩ (L := [.string s]) rfl (by decide) rfl hS5 fun blk3 w4 hb3 hB3 hS6 => ?_
 have hS7 : St w0 K (fl [(pk1 d m D), [(blk1, .cells #[.pointer (some ⟨d, 0, none⟩)] 33 (0, 0))], [(blk2, .cells #[.string s] 9 (0, 0))], [(blk3, .cells #[.string s] 9 (0, 0))], sm]) w4 := hS6.push 3 rfl
 refine s_call rfl rfl rfl (vs := [.pointer (some ⟨d, 0, none⟩), .slice (some ⟨blk3, 0, none⟩) 1 1]) ⟨(.t rfl rfl), (.t rfl rfl), trivial⟩ cb44 (missing_ok w4 _ d m D ok sm hM blk3 s (by omega) (hS7.give (xs := [(pk1 d m D), [(blk3, .cells #[.string s] 9 (0, 0))], sm]) [0, 3, 4] rfl (by decide))) ?_
 rintro v1 w5 ⟨hp1, ht2⟩
 have hS8 : St w0 K (fl [(pk1 d m D), [(blk1, .cells #[.pointer (some ⟨d, 0, none⟩)] 33 (0, 0))], [(blk2, .cells #[.string s] 9 (0, 0))], [(blk3, .cells #[.string s] 9 (0, 0))], sm]) w5 := hS7.callL (xs := [(pk1 d m D), [(blk3, .cells #[.string s] 9 (0, 0))], sm]) (xs' := [(pk1 d m D), [(blk3, .cells #[.string s] 9 (0, 0))], sm]) (zs := []) [0, 3, 4] rfl (by decide) ht2 rfl rfl
 rcases hp1 with ⟨hoff, rfl⟩ | ⟨hoff, hnm, rfl⟩ | ⟨hoff, hnm, hno, rfl⟩ | ⟨f, fa1, fc1, hoff, hnm, hA1, rfl⟩
 ·
  refine s_val hS8 rfl rfl (r_move rfl (.t rfl rfl)) ?_
  refine s_val hS8 rfl rfl (r_extract rfl (.t rfl rfl) rfl) ?_
  refine s_val hS8 rfl rfl (r_extract rfl (.t rfl rfl) rfl) ?_
  refine s_alloc rfl rfl rfl ti88 (cs := #[.slice none 0 0, .int .i64 0]) rfl hS8 fun blk4 w6 hb4 hB4 hS9 => ?_
  have hS10 : St w0 K (fl [(pk1 d m D), [(blk1, .cells #[.pointer (some ⟨d, 0, none⟩)] 33 (0, 0))], [(blk2, .cells #[.string s] 9 (0, 0))], [(blk3, .cells #[.string s] 9 (0, 0))], [(blk4, .cells #[.slice none 0 0, .int .i64 0] 88 (0, 0))], sm]) w6 := hS9.push 4 rfl
  refine s_storeA (m := 4) rfl rfl rfl ti88 (.t rfl rfl) (vs := [.slice none 0 0, .int .i64 0]) (.t rfl rfl) rfl rfl hS10 rfl (show 2 ≤ 2 from by decide) (c' := #[.slice none 0 0, .int .i64 0]) rfl (h' := (fl [(pk1 d m D), [(blk1, .cells #[.pointer (some ⟨d, 0, none⟩)] 33 (0, 0))], [(blk2, .cells #[.string s] 9 (0, 0))], [(blk3, .cells #[.string s] 9 (0, 0))], [(blk4, .cells #[.slice none 0 0, .int .i64 0] 88 (0, 0))], sm])) rfl fun w7 hS11 => ?_
  refine s_val hS11 rfl rfl (r_assign rfl (.t rfl rfl)) ?_
  refine wpList_nil ?_
  refine x_tn ?_
  refine k_reb [(2, .pointer (some ⟨blk1, 0, none⟩)), (3, .pointer (some ⟨blk2, 0, none⟩)), (4, .int .i64 0), (5, .pointer (some ⟨blk4, 0, none⟩)), (6, .int .i64 104)] ⟨rfl, rfl, rfl, rfl, rfl, trivial⟩ fun G4 => ?_
  refine wp_seq ?_
  refine wp_seq ?_
  refine k_reg ?_
  refine s_val hS11 rfl rfl (r_move rfl (.t rfl rfl)) ?_
  refine s_val hS11 rfl rfl (r_cmp_t rfl rfl (.t rfl rfl) .c (show ¬ 104 = 0 from by omega)) ?_
  refine wpList_nil ?_
  refine x_tn ?_
  refine k_reb [(2, .pointer (some ⟨blk1, 0, none⟩)), (3, .pointer (some ⟨blk2, 0, none⟩)), (4, .int .i64 0), (5, .pointer (some ⟨blk4, 0, none⟩)), (6, .int .i64 104), (22, .bool true)] ⟨rfl, rfl, rfl, rfl, rfl, rfl, trivial⟩ fun G5 => ?_
  refine k_t (.t rfl rfl) ?_
  refine wp_seq ?_
  refine k_reg ?_
  refine s_val hS11 rfl rfl (r_move rfl (.t rfl rfl)) ?_
  refine s_val hS11 rfl rfl (r_assign rfl (.t rfl rfl)) ?_
  refine wpList_nil ?_
  refine x_tn ?_
  refine k_reb [(2, .pointer (some ⟨blk1, 0, none⟩)), (3, .pointer (some ⟨blk2, 0, none⟩)), (4, .int .i64 104), (5, .pointer (some ⟨blk4, 0, none⟩))] ⟨rfl, rfl, rfl, rfl, trivial⟩ fun G6 => ?_
  refine wp_ret ?_
  refine x_tr ?_
  refine l_unlock (m := 0) muLib cb43 hS11 rfl rfl (c' := #[.int .i32 0, .int .u32 0, .int .i64 (((D.room : Nat) : Int)), .int .i64 (((tot D.F : Nat) : Int)), .map (some m), .bool D.off, .int .i64 (((D.writes : Nat) : Int)), .int .i64 (((D.armed : Nat) : Int)), .int .i64 D.keep, .int .i64 D.lose]) rfl (h' := (fl [(pk d m D), [(blk1, .cells #[.pointer (some ⟨d, 0, none⟩)] 33 (0, 0))], [(blk2, .cells #[.string s] 9 (0, 0))], [(blk3, .cells #[.string s] 9 (0, 0))], [(blk4, .cells #[.slice none 0 0, .int .i64 0] 88 (0, 0))], sm])) rfl (fun _ => tells1 rfl rfl rfl) fun w8 hS12 => ?_
  refine ⟨_, rfl, ?_⟩
  have hS13 : St w0 K (fl [(pk d m D), sm]) w8 := hS12.pick [0, 5] rfl (by decide)
  rw [sync_off hoff]
  exact ⟨_, rfl, hM, hS13⟩
 ·
  refine s_val hS8 rfl rfl (r_move rfl (.t rfl rfl)) ?_
  refine s_val hS8 rfl rfl (r_extract rfl (.t rfl rfl) rfl) ?_
  refine s_val hS8 rfl rfl (r_extract rfl (.t rfl rfl) rfl) ?_
  refine s_alloc rfl rfl rfl ti88 (cs := #[.slice none 0 0, .int .i64 0]) rfl hS8 fun blk5 w9 hb5 hB5 hS14 => ?_
  have hS15 : St w0 K (fl [(pk1 d m D), [(blk1, .cells #[.pointer (some ⟨d, 0, none⟩)] 33 (0, 0))], [(blk2, .cells #[.string s] 9 (0, 0))], [(blk3, .cells #[.string s] 9 (0, 0))], [(blk5, .cells #[.slice none 0 0, .int .i64 0] 88 (0, 0))], sm]) w9 := hS14.push 4 rfl
  refine s_storeA (m := 4) rfl rfl rfl ti88 (.t rfl rfl) (vs := [.slice none 0 0, .int .i64 0]) (.t rfl rfl) rfl rfl hS15 rfl (show 2 ≤ 2 from by decide) (c' := #[.slice none 0 0, .int .i64 0]) rfl (h' := (fl [(pk1 d m D), [(blk1, .cells #[.pointer (some ⟨d, 0, none⟩)] 33 (0, 0))], [(blk2, .cells #[.string s] 9 (0, 0))], [(blk3, .cells #[.string s] 9 (0, 0))], [(blk5, .cells #[.slice none 0 0, .int .i64 0] 88 (0, 0))], sm])) rfl fun w10 hS16 => ?_
  refine s_val hS16 rfl rfl (r_assign rfl (.t rfl rfl)) ?_
  refine wpList_nil ?_
  refine x_tn ?_
  refine k_reb [(2, .pointer (some ⟨blk1, 0, none⟩)), (3, .pointer (some ⟨blk2, 0, none⟩)), (4, .int .i64 0), (5, .pointer (some ⟨blk5, 0, none⟩)), (6, .int .i64 101)] ⟨rfl, rfl, rfl, rfl, rfl, trivial⟩ fun G7 => ?_
  refine wp_seq ?_
  refine wp_seq ?_
  refine k_reg ?_
  refine s_val hS16 rfl rfl (r_move rfl (.t rfl rfl)) ?_
  refine s_val hS16 rfl rfl (r_cmp_t rfl rfl (.t rfl rfl) .c (show ¬ 101 = 0 from by omega)) ?_
  refine wpList_nil ?_
  refine x_tn ?_
  refine k_reb [(2, .pointer (some ⟨blk1, 0, none⟩)), (3, .pointer (some ⟨blk2, 0, none⟩)), (4, .int .i64 0), (5, .pointer (some ⟨blk5, 0, none⟩)), (6, .int .i64 101), (22, .bool true)] ⟨rfl, rfl, rfl, rfl, rfl, rfl, trivial⟩ fun G8 => ?_
  refine k_t (.t rfl rfl) ?_
  refine wp_seq ?_
  refine k_reg ?_
  refine s_val hS16 rfl rfl (r_move rfl (.t rfl rfl)) ?_
  refine s_val hS16 rfl rfl (r_assign rfl (.t rfl rfl)) ?_
  refine wpList_nil ?_
  refine x_tn ?_
  refine k_reb [(2, .pointer (some ⟨blk1, 0, none⟩)), (3, .pointer (some ⟨blk2, 0, none⟩)), (4, .int .i64 101), (5, .pointer (some ⟨blk5, 0, none⟩))] ⟨rfl, rfl, rfl, rfl, trivial⟩ fun G9 => ?_
  refine wp_ret ?_
  refine x_tr ?_
  refine l_unlock (m := 0) muLib cb43 hS16 rfl rfl (c' := #[.int .i32 0, .int .u32 0, .int .i64 (((D.room : Nat) : Int)), .int .i64 (((tot D.F : Nat) : Int)), .map (some m), .bool D.off, .int .i64 (((D.writes : Nat) : Int)), .int .i64 (((D.armed : Nat) : Int)), .int .i64 D.keep, .int .i64 D.lose]) rfl (h' := (fl [(pk d m D), [(blk1, .cells #[.pointer (some ⟨d, 0, none⟩)] 33 (0, 0))], [(blk2, .cells #[.string s] 9 (0, 0))], [(blk3, .cells #[.string s] 9 (0, 0))], [(blk5, .cells #[.slice none 0 0, .int .i64 0] 88 (0, 0))], sm])) rfl (fun _ => tells1 rfl rfl rfl) fun w11 hS17 => ?_
  refine ⟨_, rfl, ?_⟩
  have hS18 : St w0 K (fl [(pk d m D), sm]) w11 := hS17.pick [0, 5] rfl (by decide)
  rw [sync_name hoff hnm]
  exact ⟨_, rfl, hM, hS18⟩
 ·
  refine s_val hS8 rfl rfl (r_move rfl (.t rfl rfl)) ?_
  refine s_val hS8 rfl rfl (r_extract rfl (.t rfl rfl) rfl) ?_
  refine s_val hS8 rfl rfl (r_extract rfl (.t rfl rfl) rfl) ?_
  refine s_alloc rfl rfl rfl ti88 (cs := #[.slice none 0 0, .int .i64 0]) rfl hS8 fun blk6 w12 hb6 hB6 hS19 => ?_
  have hS20 : St w0 K (fl [(pk1 d m D), [(blk1, .cells #[.pointer (some ⟨d, 0, none⟩)] 33 (0, 0))], [(blk2, .cells #[.string s] 9 (0, 0))], [(blk3, .cells #[.string s] 9 (0, 0))], [(blk6, .cells #[.slice none 0 0, .int .i64 0] 88 (0, 0))], sm]) w12 := hS19.push 4 rfl
  refine s_storeA (m := 4) rfl rfl rfl ti88 (.t rfl rfl) (vs := [.slice none 0 0, .int .i64 0]) (.t rfl rfl) rfl rfl hS20 rfl (show 2 ≤ 2 from by decide) (c' := #[.slice none 0 0, .int .i64 0]) rfl (h' := (fl [(pk1 d m D), [(blk1, .cells #[.pointer (some ⟨d, 0, none⟩)] 33 (0, 0))], [(blk2, .cells #[.string s] 9 (0, 0))], [(blk3, .cells #[.string s] 9 (0, 0))], [(blk6, .cells #[.slice none 0 0, .int .i64 0] 88 (0, 0))], sm])) rfl fun w13 hS21 => ?_
  refine s_val hS21 rfl rfl (r_assign rfl (.t rfl rfl)) ?_
  refine wpList_nil ?_
  refine x_tn ?_
  refine k_reb [(2, .pointer (some ⟨blk1, 0, none⟩)), (3, .pointer (some ⟨blk2, 0, none⟩)), (4, .int .i64 0), (5, .pointer (some ⟨blk6, 0, none⟩)), (6, .int .i64 102)] ⟨rfl, rfl, rfl, rfl, rfl, trivial⟩ fun G10 => ?_
  refine wp_seq ?_
  refine wp_seq ?_
  refine k_reg ?_
  refine s_val hS21 rfl rfl (r_move rfl (.t rfl rfl)) ?_
  refine s_val hS21 rfl rfl (r_cmp_t rfl rfl (.t rfl rfl) .c (show ¬ 102 = 0 from by omega)) ?_
  refine wpList_nil ?_
  refine x_tn ?_
  refine k_reb [(2, .pointer (some ⟨blk1, 0, none⟩)), (3, .pointer (some ⟨blk2, 0, none⟩)), (4, .int .i64 0), (5, .pointer (some ⟨blk6, 0, none⟩)), (6, .int .i64 102), (22, .bool true)] ⟨rfl, rfl, rfl, rfl, rfl, rfl, trivial⟩ fun G11 => ?_
  refine k_t (.t rfl rfl) ?_
  refine wp_seq ?_
  refine k_reg ?_
  refine s_val hS21 rfl rfl (r_move rfl (.t rfl rfl)) ?_
  refine s_val hS21 rfl rfl (r_assign rfl (.t rfl rfl)) ?_
  refine wpList_nil ?_
  refine x_tn ?_
  refine k_reb [(2, .pointer (some ⟨blk1, 0, none⟩)), (3, .pointer (some ⟨blk2, 0, none⟩)), (4, .int .i64 102), (5, .pointer (some ⟨blk6, 0, none⟩))] ⟨rfl, rfl, rfl, rfl, trivial⟩ fun G12 => ?_
  refine wp_ret ?_
  refine x_tr ?_
  refine l_unlock (m := 0) muLib cb43 hS21 rfl rfl (c' := #[.int .i32 0, .int .u32 0, .int .i64 (((D.room : Nat) : Int)), .int .i64 (((tot D.F : Nat) : Int)), .map (some m), .bool D.off, .int .i64 (((D.writes : Nat) : Int)), .int .i64 (((D.armed : Nat) : Int)), .int .i64 D.keep, .int .i64 D.lose]) rfl (h' := (fl [(pk d m D), [(blk1, .cells #[.pointer (some ⟨d, 0, none⟩)] 33 (0, 0))], [(blk2, .cells #[.string s] 9 (0, 0))], [(blk3, .cells #[.string s] 9 (0, 0))], [(blk6, .cells #[.slice none 0 0, .int .i64 0] 88 (0, 0))], sm])) rfl (fun _ => tells1 rfl rfl rfl) fun w14 hS22 => ?_
  refine ⟨_, rfl, ?_⟩
  have hS23 : St w0 K (fl [(pk d m D), sm]) w14 := hS22.pick [0, 5] rfl (by decide)
  rw [sync_none hoff hnm hno]
  exact ⟨_, rfl, hM, hS23⟩
 ·
  have hlk := hA1.1
  obtain ⟨hf1, hf2, hf3, hf4⟩ := ok.file hlk
  have hx1 := hA1.sl (by omega) hf3
  refine s_val hS8 rfl rfl (r_move rfl (.t rfl rfl)) ?_
  refine s_val hS8 rfl rfl (r_extract rfl (.t rfl rfl) rfl) ?_
  refine s_val hS8 rfl rfl (r_extract rfl (.t rfl rfl) rfl) ?_
  refine s_alloc rfl rfl rfl ti88 (cs := #[.slice none 0 0, .int .i64 0]) rfl hS8 fun blk7 w15 hb7 hB7 hS24 => ?_
  have hS25 : St w0 K (fl [(pk1 d m D), [(blk1, .cells #[.pointer (some ⟨d, 0, none⟩)] 33 (0, 0))], [(blk2, .cells #[.string s] 9 (0, 0))], [(blk3, .cells #[.string s] 9 (0, 0))], [(blk7, .cells #[.slice none 0 0, .int .i64 0] 88 (0, 0))], sm]) w15 := hS24.push 4 rfl
  refine s_storeA (m := 4) rfl rfl rfl ti88 (.t rfl rfl) (vs := [.slice fa1 f.bytes.length fc1, .int .i64 (((f.sure : Nat) : Int))]) (.t rfl rfl) rfl rfl hS25 rfl (show 2 ≤ 2 from by decide) (c' := #[.slice fa1 f.bytes.length fc1, .int .i64 (((f.sure : Nat) : Int))]) rfl (h' := (fl [(pk1 d m D), [(blk1, .cells #[.pointer (some ⟨d, 0, none⟩)] 33 (0, 0))], [(blk2, .cells #[.string s] 9 (0, 0))], [(blk3, .cells #[.string s] 9 (0, 0))], [(blk7, .cells #[.slice fa1 f.bytes.length fc1, .int .i64 (((f.sure : Nat) : Int))] 88 (0, 0))], sm])) rfl fun w16 hS26 => ?_
  refine s_val hS26 rfl rfl (r_assign rfl (.t rfl rfl)) ?_
  refine wpList_nil ?_
  refine x_tn ?_
  refine k_reb [(2, .pointer (some ⟨blk1, 0, none⟩)), (3, .pointer (some ⟨blk2, 0, none⟩)), (4, .int .i64 0), (5, .pointer (some ⟨blk7, 0, none⟩)), (6, .int .i64 0)] ⟨rfl, rfl, rfl, rfl, rfl, trivial⟩ fun G13 => ?_
  refine wp_seq ?_
  refine wp_seq ?_
  refine k_reg ?_
  refine s_val hS26 rfl rfl (r_move rfl (.t rfl rfl)) ?_
  refine s_val hS26 rfl rfl (r_cmp_f rfl rfl (.t rfl rfl) .c (show ¬ (¬ 0 = 0) from by omega)) ?_
  refine wpList_nil ?_
  refine x_tn ?_
  refine k_reb [(2, .pointer (some ⟨blk1, 0, none⟩)), (3, .pointer (some ⟨blk2, 0, none⟩)), (4, .int .i64 0), (5, .pointer (some ⟨blk7, 0, none⟩)), (6, .int .i64 0), (22, .bool false)] ⟨rfl, rfl, rfl, rfl, rfl, rfl, trivial⟩ fun G14 => ?_
  refine k_f (.t rfl rfl) ?_
  refine wp_skip ?_
  refine x_tn ?_
  refine k_reb [(2, .pointer (some ⟨blk1, 0, none⟩)), (3, .pointer (some ⟨blk2, 0, none⟩)), (4, .int .i64 0), (5, .pointer (some ⟨blk7, 0, none⟩))] ⟨rfl, rfl, rfl, rfl, trivial⟩ fun G15 => ?_
  refine wp_seq ?_
  refine k_reg ?_
  have hfit : Fits D.room (putF D.F s f.bytes f.bytes.length) := fits_put ok hnm0 hlk (by omega) (by omega) hf3
  refine s_val hS26 rfl rfl (r_load rfl one33 (.t rfl rfl) (St.cell_own (m := 1) rfl rfl)) ?_
  refine s_val hS26 rfl rfl (r_makeFunc rfl (vs := [.pointer (some ⟨blk7, 0, none⟩), .pointer (some ⟨blk1, 0, none⟩), .pointer (some ⟨blk2, 0, none⟩)]) ⟨(.t rfl rfl), (.t rfl rfl), (.t rfl rfl), trivial⟩) ?_
  have hS27 : St w0 K (fl [(pk1 d m D), [(blk7, .cells #[.slice fa1 f.bytes.length fc1, .int .i64 (((f.sure : Nat) : Int))] 88 (0, 0))], [(blk1, .cells #[.pointer (some ⟨d, 0, none⟩)] 33 (0, 0))], [(blk2, .cells #[.string s] 9 (0, 0))], sm]) w16 := hS26.pick [0, 4, 1, 2, 5] rfl (by decide)
  refine s_call rfl rfl rfl (vs := [.pointer (some ⟨d, 0, none⟩), .func (.func 65) #[] #[.pointer (some ⟨blk7, 0, none⟩), .pointer (some ⟨blk1, 0, none⟩), .pointer (some ⟨blk2, 0, none⟩)]]) ⟨(.t rfl rfl), (.t rfl rfl), trivial⟩ cb51 (write_sync w16 _ d m D ok sm hM s ls f fa1 fc1 hA1 blk7 blk1 blk2 hfit hw (hS27.give (xs := [(pk1 d m D), [(blk7, .cells #[.slice fa1 f.bytes.length fc1, .int .i64 (((f.sure : Nat) : Int))] 88 (0, 0))], [(blk1, .cells #[.pointer (some ⟨d, 0, none⟩)] 33 (0, 0))], [(blk2, .cells #[.string s] 9 (0, 0))], sm]) [0, 1, 2, 3, 4] rfl (by decide))) ?_
  rintro _ w17 ⟨sm1, rfl, hM1, ht3⟩
  have hS28 : St w0 K (fl [(pa d 1 ((((D.wr (putF D.F s f.bytes f.bytes.length)).2.room : Nat) : Int)) (((tot ((D.wr (putF D.F s f.bytes f.bytes.length)).2.F) : Nat) : Int)) m ((D.wr (putF D.F s f.bytes f.bytes.length)).2.off) ((((D.wr (putF D.F s f.bytes f.bytes.length)).2.writes : Nat) : Int)) ((((D.wr (putF D.F s f.bytes f.bytes.length)).2.armed : Nat) : Int)) ((D.wr (putF D.F s f.bytes f.bytes.length)).2.keep) ((D.wr (putF D.F s f.bytes f.bytes.length)).2.lose)), sm1]) w17 := (hS27.callL (xs := [(pk1 d m D), [(blk7, .cells #[.slice fa1 f.bytes.length fc1, .int .i64 (((f.sure : Nat) : Int))] 88 (0, 0))], [(blk1, .cells #[.pointer (some ⟨d, 0, none⟩)] 33 (0, 0))], [(blk2, .cells #[.string s] 9 (0, 0))], sm]) (xs' := [(pa d 1 ((((D.wr (putF D.F s f.bytes f.bytes.length)).2.room : Nat) : Int)) (((tot ((D.wr (putF D.F s f.bytes f.bytes.length)).2.F) : Nat) : Int)) m ((D.wr (putF D.F s f.bytes f.bytes.length)).2.off) ((((D.wr (putF D.F s f.bytes f.bytes.length)).2.writes : Nat) : Int)) ((((D.wr (putF D.F s f.bytes f.bytes.length)).2.armed : Nat) : Int)) ((D.wr (putF D.F s f.bytes f.bytes.length)).2.keep) ((D.wr (putF D.F s f.bytes f.bytes.length)).2.lose)), [], [], [], sm1]) (zs := []) (L' := [(pa d 1 ((((D.wr (putF D.F s f.bytes f.bytes.length)).2.room : Nat) : Int)) (((tot ((D.wr (putF D.F s f.bytes f.bytes.length)).2.F) : Nat) : Int)) m ((D.wr (putF D.F s f.bytes f.bytes.length)).2.off) ((((D.wr (putF D.F s f.bytes f.bytes.length)).2.writes : Nat) : Int)) ((((D.wr (putF D.F s f.bytes f.bytes.length)).2.armed : Nat) : Int)) ((D.wr (putF D.F s f.bytes f.bytes.length)).2.keep) ((D.wr (putF D.F s f.bytes f.bytes.length)).2.lose)), [], [], [], sm1]) [0, 1, 2, 3, 4] rfl (by decide) ht3 rfl rfl).pick [0, 4] rfl (by decide)
  refine s_val hS28 rfl rfl (r_assign rfl (.t rfl rfl)) ?_
  refine wpList_nil ?_
  refine x_tn ?_
  refine k_reb [(4, .int .i64 ((((D.wr (putF D.F s f.bytes f.bytes.length)).1 : Nat) : Int)))] ⟨rfl, trivial⟩ fun G16 => ?_
  refine wp_ret ?_
  refine l_unlock (m := 0) muLib cb43 hS28 rfl rfl (c' := #[.int .i32 0, .int .u32 0, .int .i64 ((((D.wr (putF D.F s f.bytes f.bytes.length)).2.room : Nat) : Int)), .int .i64 (((tot ((D.wr (putF D.F s f.bytes f.bytes.length)).2.F) : Nat) : Int)), .map (some m), .bool ((D.wr (putF D.F s f.bytes f.bytes.length)).2.off), .int .i64 ((((D.wr (putF D.F s f.bytes f.bytes.length)).2.writes : Nat) : Int)), .int .i64 ((((D.wr (putF D.F s f.bytes f.bytes.length)).2.armed : Nat) : Int)), .int .i64 ((D.wr (putF D.F s f.bytes f.bytes.length)).2.keep), .int .i64 ((D.wr (putF D.F s f.bytes f.bytes.length)).2.lose)]) rfl (h' := (fl [(pa d 0 ((((D.wr (putF D.F s f.bytes f.bytes.length)).2.room : Nat) : Int)) (((tot ((D.wr (putF D.F s f.bytes f.bytes.length)).2.F) : Nat) : Int)) m ((D.wr (putF D.F s f.bytes f.bytes.length)).2.off) ((((D.wr (putF D.F s f.bytes f.bytes.length)).2.writes : Nat) : Int)) ((((D.wr (putF D.F s f.bytes f.bytes.length)).2.armed : Nat) : Int)) ((D.wr (putF D.F s f.bytes f.bytes.length)).2.keep) ((D.wr (putF D.F s f.bytes f.bytes.length)).2.lose)), sm1])) rfl (fun _ => tells1 rfl rfl rfl) fun w18 hS29 => ?_
  refine ⟨_, rfl, ?_⟩
  rw [sync_fine hoff hnm hlk]
  exact ⟨_, rfl, hM1, hS29⟩

theorem Sure_ok (w0 : World) (K : List Nat) (d m : Nat) (D : Dk) (ok : D.ok) (sm : Hp) (hM : MapH U8 m none D.F sm) (s : ByteArray) (ls : s.size ≤ 1000000000000) (hS0 : St w0 K (fl [[(d, .cells (dkC 0 m D) DT (0, 0))], sm]) w0) :
  Calls Try.prog 37 #[.pointer (some ⟨d, 0, none⟩), .string s] w0 (Ret fun v w' => v = .tuple #[.int .i64 ((D.sure s).1 : Nat), .int .i64 ((D.sure s).2 : Nat)] ∧ St w0 K (fl [[(d, .cells (dkC 0 m D) DT (0, 0))], sm]) w') := by
 refine k_enterd (vs := [.pointer (some ⟨d, 0, none⟩), .string s]) Try.func37 rfl Try.ntmps37 rfl ?_
 have hS : St w0 K (fl [(pk d m D), sm]) w0 := hS0
 have ok1 := ok.room
 have ok2 := ok.fits
 have ok3 := ok.len
 have ok4 := ok.armed
 have ok5 := ok.keep
 have ok6 := ok.lose
 refine wp_seq ?_
 refine k_reg ?_
 refine s_val hS rfl rfl (r_assign rfl .c) ?_
 refine s_val hS rfl rfl (r_assign rfl .c) ?_
 refine wpList_nil ?_
 refine x_tn ?_
 refine wp_seq ?_
 refine k_reg ?_
 refine s_val hS rfl rfl (r_move rfl (.t rfl rfl)) ?_
 refine s_val hS rfl rfl (r_nilCheck rfl (.t rfl rfl)) ?_
 refine s_val hS rfl rfl (r_fieldN rfl Try.underlying86 rfl ti83 (by decide) (.t rfl rfl) (qq := 0) rfl) ?_
 refine s_call rfl rfl rfl (vs := [.pointer (some ⟨d, 0, none⟩)]) ⟨(.t rfl rfl), trivial⟩ cb42 (lock_ok muLib (St.block (m := 0) rfl _ hS) rfl (c' := #[.int .i32 1, .int .u32 0, .int .i64 (((D.room : Nat) : Int)), .int .i64 (((tot D.F : Nat) : Int)), .map (some m), .bool D.off, .int .i64 (((D.writes : Nat) : Int)), .int .i64 (((D.armed : Nat) : Int)), .int .i64 D.keep, .int .i64 D.lose]) rfl) ?_
 rintro _ w1 ⟨rfl, ht1⟩
 have hS1 : St w0 K (fl [(pk1 d m D), sm]) w1 := hS.callL (xs := [(pk d m D)]) (xs' := [(pk1 d m D)]) (zs := []) [0] rfl (by decide) ht1 rfl rfl
 refine wpList_nil ?_
 refine x_tn ?_
 refine k_reb [(0, .pointer (some ⟨d, 0, none⟩)), (1, .string s), (4, .int .i64 0), (5, .int .i64 0)] ⟨rfl, rfl, rfl, rfl, trivial⟩ fun G1 => ?_
 refine wp_seq ?_
 refine k_reg ?_
 refine s_val hS1 rfl rfl (r_move rfl (.t rfl rfl)) ?_
 refine s_val hS1 rfl rfl (r_nilCheck rfl (.t rfl rfl)) ?_
 refine s_val hS1 rfl rfl (r_fieldN rfl Try.underlying86 rfl ti83 (by decide) (.t rfl rfl) (qq := 0) rfl) ?_
 refine s_defer rfl rfl rfl (vs := [.pointer (some ⟨d, 0, none⟩)]) ⟨(.t rfl rfl), trivial⟩ ?_
 refine wpList_nil ?_
 refine x_tn ?_
 refine k_reb [(0, .pointer (some ⟨d, 0, none⟩)), (1, .string s), (4, .int .i64 0), (5, .int .i64 0)] ⟨rfl, rfl, rfl, rfl, trivial⟩ fun G2 => ?_
 refine wp_seq ?_
 refine k_reg ?_
 refine s_val hS1 rfl rfl (r_move rfl (.t rfl rfl)) ?_
 refine s_val hS1 rfl rfl (r_move rfl (.t rfl rfl)) ?_
 refine s_litV rfl rfl rfl Try.underlying107 ti9 rfl (vs := [(0, .string s)]) ⟨rfl, (.t rfl rfl), trivial⟩ (L := [.string s]) rfl (by decide) rfl hS1 fun blk1 w2 hb1 hB1 hS2 => ?_
 have hS3 : St w0 K (fl [(pk1 d m D), [(blk1, .cells #[.string s] 9 (0, 0))], sm]) w2 := hS2.push 1 rfl
 refine s_call rfl rfl rfl (vs := [.pointer (some ⟨d, 0, none⟩), .slice (some ⟨blk1, 0, none⟩) 1 1]) ⟨(.t rfl rfl), (.t rfl rfl), trivial⟩ cb44 (missing_ok w2 _ d m D ok sm hM blk1 s (by omega) (hS3.give (xs := [(pk1 d m D), [(blk1, .cells #[.string s] 9 (0, 0))], sm]) [0, 1, 2] rfl (by decide))) ?_
 rintro v1 w3 ⟨hp1, ht2⟩
 have hS4 : St w0 K (fl [(pk1 d m D), [(blk1, .cells #[.string s] 9 (0, 0))], sm]) w3 := hS3.callL (xs := [(pk1 d m D), [(blk1, .cells #[.string s] 9 (0, 0))], sm]) (xs' := [(pk1 d m D), [(blk1, .cells #[.string s] 9 (0, 0))], sm]) (zs := []) [0, 1, 2] rfl (by decide) ht2 rfl rfl
 rcases hp1 with ⟨hoff, rfl⟩ | ⟨hoff, hnm, rfl⟩ | ⟨hoff, hnm, hno, rfl⟩ | ⟨f, fa1, fc1, hoff, hnm, hA1, rfl⟩
 ·
  refine s_val hS4 rfl rfl (r_move rfl (.t rfl rfl)) ?_
  refine s_val hS4 rfl rfl (r_extract rfl (.t rfl rfl) rfl) ?_
  refine s_val hS4 rfl rfl (r_extract rfl (.t rfl rfl) rfl) ?_
  refine s_alloc rfl rfl rfl ti88 (cs := #[.slice none 0 0, .int .i64 0]) rfl hS4 fun blk2 w4 hb2 hB2 hS5 => ?_
  have hS6 : St w0 K (fl [(pk1 d m D), [(blk1, .cells #[.string s] 9 (0, 0))], [(blk2, .cells #[.slice none 0 0, .int .i64 0] 88 (0, 0))], sm]) w4 := hS5.push 2 rfl
  refine s_storeA (m := 2) rfl rfl rfl ti88 (.t rfl rfl) (vs := [.slice none 0 0, .int .i64 0]) (.t rfl rfl) rfl rfl hS6 rfl (show 2 ≤ 2 from by decide) (c' := #[.slice none 0 0, .int .i64 0]) rfl (h' := (fl [(pk1 d m D), [(blk1, .cells #[.string s] 9 (0, 0))], [(blk2, .cells #[.slice none 0 0, .int .i64 0] 88 (0, 0))], sm])) rfl fun w5 hS7 => ?_
  refine s_val hS7 rfl rfl (r_assign rfl (.t rfl rfl)) ?_
  refine wpList_nil ?_
  refine x_tn ?_
  refine k_reb [(4, .int .i64 0), (5, .int .i64 0), (6, .pointer (some ⟨blk2, 0, none⟩)), (7, .int .i64 104)] ⟨rfl, rfl, rfl, rfl, trivial⟩ fun G3 => ?_
  refine wp_seq ?_
  refine k_reg ?_
  refine s_val hS7 rfl rfl (r_fieldN rfl Try.underlying88 rfl ti3 (by decide) (.t rfl rfl) (qq := 1) rfl) ?_
  refine s_val hS7 rfl rfl (r_load rfl one3 (.t rfl rfl) (St.cell_own (m := 2) rfl rfl)) ?_
  refine s_val hS7 rfl rfl (r_move rfl (.t rfl rfl)) ?_
  refine s_val hS7 rfl rfl (r_assign rfl (.t rfl rfl)) ?_
  refine s_val hS7 rfl rfl (r_assign rfl (.t rfl rfl)) ?_
  refine wpList_nil ?_
  refine x_tn ?_
  refine k_reb [(4, .int .i64 0), (5, .int .i64 104)] ⟨rfl, rfl, trivial⟩ fun G4 => ?_
  refine wp_ret ?_
  refine l_unlock (m := 0) muLib cb43 hS7 rfl rfl (c' := #[.int .i32 0, .int .u32 0, .int .i64 (((D.room : Nat) : Int)), .int .i64 (((tot D.F : Nat) : Int)), .map (some m), .bool D.off, .int .i64 (((D.writes : Nat) : Int)), .int .i64 (((D.armed : Nat) : Int)), .int .i64 D.keep, .int .i64 D.lose]) rfl (h' := (fl [(pk d m D), [(blk1, .cells #[.string s] 9 (0, 0))], [(blk2, .cells #[.slice none 0 0, .int .i64 0] 88 (0, 0))], sm])) rfl (fun _ => tells2 rfl rfl rfl rfl rfl) fun w6 hS8 => ?_
  refine ⟨_, rfl, ?_⟩
  have hS9 : St w0 K (fl [(pk d m D), sm]) w6 := hS8.pick [0, 3] rfl (by decide)
  rw [(read_off hoff).2]
  exact ⟨rfl, hS9⟩
 ·
  refine s_val hS4 rfl rfl (r_move rfl (.t rfl rfl)) ?_
  refine s_val hS4 rfl rfl (r_extract rfl (.t rfl rfl) rfl) ?_
  refine s_val hS4 rfl rfl (r_extract rfl (.t rfl rfl) rfl) ?_
  refine s_alloc rfl rfl rfl ti88 (cs := #[.slice none 0 0, .int .i64 0]) rfl hS4 fun blk3 w7 hb3 hB3 hS10 => ?_
  have hS11 : St w0 K (fl [(pk1 d m D), [(blk1, .cells #[.string s] 9 (0, 0))], [(blk3, .cells #[.slice none 0 0, .int .i64 0] 88 (0, 0))], sm]) w7 := hS10.push 2 rfl
  refine s_storeA (m := 2) rfl rfl rfl ti88 (.t rfl rfl) (vs := [.slice none 0 0, .int .i64 0]) (.t rfl rfl) rfl rfl hS11 rfl (show 2 ≤ 2 from by decide) (c' := #[.slice none 0 0, .int .i64 0]) rfl (h' := (fl [(pk1 d m D), [(blk1, .cells #[.string s] 9 (0, 0))], [(blk3, .cells #[.slice none 0 0, .int .i64 0] 88 (0, 0))], sm])) rfl fun w8 hS12 => ?_
  refine s_val hS12 rfl rfl (r_assign rfl (.t rfl rfl)) ?_
  refine wpList_nil ?_
  refine x_tn ?_
  refine k_reb [(4, .int .i64 0), (5, .int .i64 0), (6, .pointer (some ⟨blk3, 0, none⟩)), (7, .int .i64 101)] ⟨rfl, rfl, rfl, rfl, trivial⟩ fun G5 => ?_
  refine wp_seq ?_
  refine k_reg ?_
  refine s_val hS12 rfl rfl (r_fieldN rfl Try.underlying88 rfl ti3 (by decide) (.t rfl rfl) (qq := 1) rfl) ?_
  refine s_val hS12 rfl rfl (r_load rfl one3 (.t rfl rfl) (St.cell_own (m := 2) rfl rfl)) ?_
  refine s_val hS12 rfl rfl (r_move rfl (.t rfl rfl)) ?_
  refine s_val hS12 rfl rfl (r_assign rfl (.t rfl rfl)) ?_
  refine s_val hS12 rfl rfl (r_assign rfl (.t rfl rfl)) ?_
  refine wpList_nil ?_
  refine x_tn ?_
  refine k_reb [(4, .int .i64 0), (5, .int .i64 101)] ⟨rfl, rfl, trivial⟩ fun G6 => ?_
  refine wp_ret ?_
  refine l_unlock (m := 0) muLib cb43 hS12 rfl rfl (c' := #[.int .i32 0, .int .u32 0, .int .i64 (((D.room : Nat) : Int)), .int .i64 (((tot D.F : Nat) : Int)), .map (some m), .bool D.off, .int .i64 (((D.writes : Nat) : Int)), .int .i64 (((D.armed : Nat) : Int)), .int .i64 D.keep, .int .i64 D.lose]) rfl (h' := (fl [(pk d m D), [(blk1, .cells #[.string s] 9 (0, 0))], [(blk3, .cells #[.slice none 0 0, .int .i64 0] 88 (0, 0))], sm])) rfl (fun _ => tells2 rfl rfl rfl rfl rfl) fun w9 hS13 => ?_
  refine ⟨_, rfl, ?_⟩
  have hS14 : St w0 K (fl [(pk d m D), sm]) w9 := hS13.pick [0, 3] rfl (by decide)
  rw [(read_name hoff hnm).2]
  exact ⟨rfl, hS14⟩
 ·
  refine s_val hS4 rfl rfl (r_move rfl (.t rfl rfl)) ?_
  refine s_val hS4 rfl rfl (r_extract rfl (.t rfl rfl) rfl) ?_
  refine s_val hS4 rfl rfl (r_extract rfl (.t rfl rfl) rfl) ?_
  refine s_alloc rfl rfl rfl ti88 (cs := #[.slice none 0 0, .int .i64 0]) rfl hS4 fun blk4 w10 hb4 hB4 hS15 => ?_
  have hS16 : St w0 K (fl [(pk1 d m D), [(blk1, .cells #[.string s] 9 (0, 0))], [(blk4, .cells #[.slice none 0 0, .int .i64 0] 88 (0, 0))], sm]) w10 := hS15.push 2 rfl
  refine s_storeA (m := 2) rfl rfl rfl ti88 (.t rfl rfl) (vs := [.slice none 0 0, .int .i64 0]) (.t rfl rfl) rfl rfl hS16 rfl (show 2 ≤ 2 from by decide) (c' := #[.slice none 0 0, .int .i64 0]) rfl (h' := (fl [(pk1 d m D), [(blk1, .cells #[.string s] 9 (0, 0))], [(blk4, .cells #[.slice none 0 0, .int .i64 0] 88 (0, 0))], sm])) rfl fun w11 hS17 => ?_
  refine s_val hS17 rfl rfl (r_assign rfl (.t rfl rfl)) ?_
  refine wpList_nil ?_
  refine x_tn ?_
  refine k_reb [(4, .int .i64 0), (5, .int .i64 0), (6, .pointer (some ⟨blk4, 0, none⟩)), (7, .int .i64 102)] ⟨rfl, rfl, rfl, rfl, trivial⟩ fun G7 => ?_
  refine wp_seq ?_
  refine k_reg ?_
  refine s_val hS17 rfl rfl (r_fieldN rfl Try.underlying88 rfl ti3 (by decide) (.t rfl rfl) (qq := 1) rfl) ?_
  refine s_val hS17 rfl rfl (r_load rfl one3 (.t rfl rfl) (St.cell_own (m := 2) rfl rfl)) ?_
  refine s_val hS17 rfl rfl (r_move rfl (.t rfl rfl)) ?_
  refine s_val hS17 rfl rfl (r_assign rfl (.t rfl rfl)) ?_
  refine s_val hS17 rfl rfl (r_assign rfl (.t rfl rfl)) ?_
  refine wpList_nil ?_
  refine x_tn ?_
  refine k_reb [(4, .int .i64 0), (5, .int .i64 102)] ⟨rfl, rfl, trivial⟩ fun G8 => ?_
  refine wp_ret ?_
  refine l_unlock (m := 0) muLib cb43 hS17 rfl rfl (c' := #[.int .i32 0, .int .u32 0, .int .i64 (((D.room : Nat) : Int)), .int .i64 (((tot D.F : Nat) : Int)), .map (some m), .bool D.off, .int .i64 (((D.writes : Nat) : Int)), .int .i64 (((D.armed : Nat) : Int)), .int .i64 D.keep, .int .i64 D.lose]) rfl (h' := (fl [(pk d m D), [(blk1, .cells #[.string s] 9 (0, 0))], [(blk4, .cells #[.slice none 0 0, .int .i64 0] 88 (0, 0))], sm])) rfl (fun _ => tells2 rfl rfl rfl rfl rfl) fun w12 hS18 => ?_
  refine ⟨_, rfl, ?_⟩
  have hS19 : St w0 K (fl [(pk d m D), sm]) w12 := hS18.pick [0, 3] rfl (by decide)
  rw [(read_none hoff hnm hno).2]
  exact ⟨rfl, hS19⟩
 ·
  have hlk := hA1.1
  obtain ⟨hf1, hf2, hf3, hf4⟩ := ok.file hlk
  have hx1 := hA1.sl (by omega) hf3
  refine s_val hS4 rfl rfl (r_move rfl (.t rfl rfl)) ?_
  refine s_val hS4 rfl rfl (r_extract rfl (.t rfl rfl) rfl) ?_
  refine s_val hS4 rfl rfl (r_extract rfl (.t rfl rfl) rfl) ?_
  refine s_alloc rfl rfl rfl ti88 (cs := #[.slice none 0 0, .int .i64 0]) rfl hS4 fun blk5 w13 hb5 hB5 hS20 => ?_
  have hS21 : St w0 K (fl [(pk1 d m D), [(blk1, .cells #[.string s] 9 (0, 0))], [(blk5, .cells #[.slice none 0 0, .int .i64 0] 88 (0, 0))], sm]) w13 := hS20.push 2 rfl
  refine s_storeA (m := 2) rfl rfl rfl ti88 (.t rfl rfl) (vs := [.slice fa1 f.bytes.length fc1, .int .i64 (((f.sure : Nat) : Int))]) (.t rfl rfl) rfl rfl hS21 rfl (show 2 ≤ 2 from by decide) (c' := #[.slice fa1 f.bytes.length fc1, .int .i64 (((f.sure : Nat) : Int))]) rfl (h' := (fl [(pk1 d m D), [(blk1, .cells #[.string s] 9 (0, 0))], [(blk5, .cells #[.slice fa1 f.bytes.length fc1, .int .i64 (((f.sure : Nat) : Int))] 88 (0, 0))], sm])) rfl fun w14 hS22 => ?_
  refine s_val hS22 rfl rfl (r_assign rfl (.t rfl rfl)) ?_
  refine wpList_nil ?_
  refine x_tn ?_
  refine k_reb [(4, .int .i64 0), (5, .int .i64 0), (6, .pointer (some ⟨blk5, 0, none⟩)), (7, .int .i64 0)] ⟨rfl, rfl, rfl, rfl, trivial⟩ fun G9 => ?_
  refine wp_seq ?_
  refine k_reg ?_
  refine s_val hS22 rfl rfl (r_fieldN rfl Try.underlying88 rfl ti3 (by decide) (.t rfl rfl) (qq := 1) rfl) ?_
  refine s_val hS22 rfl rfl (r_load rfl one3 (.t rfl rfl) (St.cell_own (m := 2) rfl rfl)) ?_
  refine s_val hS22 rfl rfl (r_move rfl (.t rfl rfl)) ?_
  refine s_val hS22 rfl rfl (r_assign rfl (.t rfl rfl)) ?_
  refine s_val hS22 rfl rfl (r_assign rfl (.t rfl rfl)) ?_
  refine wpList_nil ?_
  refine x_tn ?_
  refine k_reb [(4, .int .i64 (((f.sure : Nat) : Int))), (5, .int .i64 0)] ⟨rfl, rfl, trivial⟩ fun G10 => ?_
  refine wp_ret ?_
  refine l_unlock (m := 0) muLib cb43 hS22 rfl rfl (c' := #[.int .i32 0, .int .u32 0, .int .i64 (((D.room : Nat) : Int)), .int .i64 (((tot D.F : Nat) : Int)), .map (some m), .bool D.off, .int .i64 (((D.writes : Nat) : Int)), .int .i64 (((D.armed : Nat) : Int)), .int .i64 D.keep, .int .i64 D.lose]) rfl (h' := (fl [(pk d m D), [(blk1, .cells #[.string s] 9 (0, 0))], [(blk5, .cells #[.slice fa1 f.bytes.length fc1, .int .i64 (((f.sure : Nat) : Int))] 88 (0, 0))], sm])) rfl (fun _ => tells2 rfl rfl rfl rfl rfl) fun w15 hS23 => ?_
  refine ⟨_, rfl, ?_⟩
  have hS24 : St w0 K (fl [(pk d m D), sm]) w15 := hS23.pick [0, 3] rfl (by decide)
  rw [(read_fine hoff hnm hlk).2]
  exact ⟨rfl, hS24⟩

theorem Read_ok (w0 : World) (K : List Nat) (d m : Nat) (D : Dk) (ok : D.ok) (sm : Hp) (hM : MapH U8 m none D.F sm) (s : ByteArray) (ls : s.size ≤ 1000000000000) (hS0 : St w0 K (fl [[(d, .cells (dkC 0 m D) DT (0, 0))], sm]) w0) :
  Calls Try.prog 15 #[.pointer (some ⟨d, 0, none⟩), .string s] w0 (Ret fun v w' => ∃ a c sg, v = .tuple #[.slice a (D.read s).1.length c, .int .i64 ((D.read s).2 : Nat)] ∧ Gr .u8 U8 a c (D.read s).1 sg ∧ St w0 K (fl [[(d, .cells (dkC 0 m D) DT (0, 0))], sm, sg]) w') := by
 refine k_enterd (vs := [.pointer (some ⟨d, 0, none⟩), .string s]) Try.func15 rfl Try.ntmps15 rfl ?_
 have hS : St w0 K (fl [(pk d m D), sm]) w0 := hS0
 have ok1 := ok.room
 have ok2 := ok.fits
 have ok3 := ok.len
 have ok4 := ok.armed
 have ok5 := ok.keep
 have ok6 := ok.lose
 refine wp_seq ?_
 refine k_reg ?_
 refine s_val hS rfl rfl (r_assign rfl .c) ?_
 refine s_val hS rfl rfl (r_assign rfl .c) ?_
 refine wpList_nil ?_
 refine x_tn ?_
 refine wp_seq ?_
 refine k_reg ?_
 refine s_val hS rfl rfl (r_move rfl (.t rfl rfl)) ?_
 refine s_val hS rfl rfl (r_nilCheck rfl (.t rfl rfl)) ?_
 refine s_val hS rfl rfl (r_fieldN rfl Try.underlying86 rfl ti83 (by decide) (.t rfl rfl) (qq := 0) rfl) ?_
 refine s_call rfl rfl rfl (vs := [.pointer (some ⟨d, 0, none⟩)]) ⟨(.t rfl rfl), trivial⟩ cb42 (lock_ok muLib (St.block (m := 0) rfl _ hS) rfl (c' := #[.int .i32 1, .int .u32 0, .int .i64 (((D.room : Nat) : Int)), .int .i64 (((tot D.F : Nat) : Int)), .map (some m), .bool D.off, .int .i64 (((D.writes : Nat) : Int)), .int .i64 (((D.armed : Nat) : Int)), .int .i64 D.keep, .int .i64 D.lose]) rfl) ?_
 rintro _ w1 ⟨rfl, ht1⟩
 have hS1 : St w0 K (fl [(pk1 d m D), sm]) w1 := hS.callL (xs := [(pk d m D)]) (xs' := [(pk1 d m D)]) (zs := []) [0] rfl (by decide) ht1 rfl rfl
 refine wpList_nil ?_
 refine x_tn ?_
 refine k_reb [(0, .pointer (some ⟨d, 0, none⟩)), (1, .string s), (4, .slice none 0 0), (5, .int .i64 0)] ⟨rfl, rfl, rfl, rfl, trivial⟩ fun G1 => ?_
 refine wp_seq ?_
 refine k_reg ?_
 refine s_val hS1 rfl rfl (r_move rfl (.t rfl rfl)) ?_
 refine s_val hS1 rfl rfl (r_nilCheck rfl (.t rfl rfl)) ?_
 refine s_val hS1 rfl rfl (r_fieldN rfl Try.underlying86 rfl ti83 (by decide) (.t rfl rfl) (qq := 0) rfl) ?_
 refine s_defer rfl rfl rfl (vs := [.pointer (some ⟨d, 0, none⟩)]) ⟨(.t rfl rfl), trivial⟩ ?_
 refine wpList_nil ?_
 refine x_tn ?_
 refine k_reb [(0, .pointer (some ⟨d, 0, none⟩)), (1, .string s), (4, .slice none 0 0), (5, .int .i64 0)] ⟨rfl, rfl, rfl, rfl, trivial⟩ fun G2 => ?_
 refine wp_seq ?_
 refine k_reg ?_
 refine s_val hS1 rfl rfl (r_move rfl (.t rfl rfl)) ?_
 refine s_val hS1 rfl rfl (r_move rfl (.t rfl rfl)) ?_
 refine s_litV rfl rfl rfl Try.underlying107 ti9 rfl (vs := [(0, .string s)]) ⟨rfl, (.t rfl rfl), trivial⟩ (L := [.string s]) rfl (by decide) rfl hS1 fun blk1 w2 hb1 hB1 hS2 => ?_
 have hS3 : St w0 K (fl [(pk1 d m D), [(blk1, .cells #[.string s] 9 (0, 0))], sm]) w2 := hS2.push 1 rfl
 refine s_call rfl rfl rfl (vs := [.pointer (some ⟨d, 0, none⟩), .slice (some ⟨blk1, 0, none⟩) 1 1]) ⟨(.t rfl rfl), (.t rfl rfl), trivial⟩ cb44 (missing_ok w2 _ d m D ok sm hM blk1 s (by omega) (hS3.give (xs := [(pk1 d m D), [(blk1, .cells #[.string s] 9 (0, 0))], sm]) [0, 1, 2] rfl (by decide))) ?_
 rintro v1 w3 ⟨hp1, ht2⟩
 have hS4 : St w0 K (fl [(pk1 d m D), [(blk1, .cells #[.string s] 9 (0, 0))], sm]) w3 := hS3.callL (xs := [(pk1 d m D), [(blk1, .cells #[.string s] 9 (0, 0))], sm]) (xs' := [(pk1 d m D), [(blk1, .cells #[.string s] 9 (0, 0))], sm]) (zs := []) [0, 1, 2] rfl (by decide) ht2 rfl rfl
 rcases hp1 with ⟨hoff, rfl⟩ | ⟨hoff, hnm, rfl⟩ | ⟨hoff, hnm, hno, rfl⟩ | ⟨f, fa1, fc1, hoff, hnm, hA1, rfl⟩
 ·
  refine s_val hS4 rfl rfl (r_move rfl (.t rfl rfl)) ?_
  refine s_val hS4 rfl rfl (r_extract rfl (.t rfl rfl) rfl) ?_
  refine s_val hS4 rfl rfl (r_extract rfl (.t rfl rfl) rfl) ?_
  refine s_alloc rfl rfl rfl ti88 (cs := #[.slice none 0 0, .int .i64 0]) rfl hS4 fun blk2 w4 hb2 hB2 hS5 => ?_
  have hS6 : St w0 K (fl [(pk1 d m D), [(blk1, .cells #[.string s] 9 (0, 0))], [(blk2, .cells #[.slice none 0 0, .int .i64 0] 88 (0, 0))], sm]) w4 := hS5.push 2 rfl
  refine s_storeA (m := 2) rfl rfl rfl ti88 (.t rfl rfl) (vs := [.slice none 0 0, .int .i64 0]) (.t rfl rfl) rfl rfl hS6 rfl (show 2 ≤ 2 from by decide) (c' := #[.slice none 0 0, .int .i64 0]) rfl (h' := (fl [(pk1 d m D), [(blk1, .cells #[.string s] 9 (0, 0))], [(blk2, .cells #[.slice none 0 0, .int .i64 0] 88 (0, 0))], sm])) rfl fun w5 hS7 => ?_
  refine s_val hS7 rfl rfl (r_assign rfl (.t rfl rfl)) ?_
  refine wpList_nil ?_
  refine x_tn ?_
  refine k_reb [(4, .slice none 0 0), (5, .int .i64 0), (6, .pointer (some ⟨blk2, 0, none⟩)), (7, .int .i64 104)] ⟨rfl, rfl, rfl, rfl, trivial⟩ fun G3 => ?_
  refine wp_seq ?_
  refine k_reg ?_
  refine s_val hS7 rfl rfl (r_fieldN rfl Try.underlying88 rfl ti22 (by decide) (.t rfl rfl) (qq := 0) rfl) ?_
  refine s_val hS7 rfl rfl (r_load rfl one22 (.t rfl rfl) (St.cell_own (m := 2) rfl rfl)) ?_
  refine s_call rfl rfl rfl (vs := [.slice none 0 0]) ⟨(.t rfl rfl), trivial⟩ cb45 (Clone_ok w5 none 0 [] [] Sl.nil Old.none (by first | omega | simp) ) ?_
  rintro _ w6 ⟨ra1, rc1, sg1, rfl, hG1, ht3⟩
  have hS8 : St w0 K (fl [(pk1 d m D), [(blk1, .cells #[.string s] 9 (0, 0))], [(blk2, .cells #[.slice none 0 0, .int .i64 0] 88 (0, 0))], sm, sg1]) w6 := hS7.callL (xs := []) (xs' := []) (zs := [sg1]) [] rfl (by decide) ht3 rfl rfl
  refine s_val hS8 rfl rfl (r_move rfl (.t rfl rfl)) ?_
  refine s_val hS8 rfl rfl (r_assign rfl (.t rfl rfl)) ?_
  refine s_val hS8 rfl rfl (r_assign rfl (.t rfl rfl)) ?_
  refine wpList_nil ?_
  refine x_tn ?_
  refine k_reb [(4, .slice ra1 (([]).length) rc1), (5, .int .i64 104)] ⟨rfl, rfl, trivial⟩ fun G4 => ?_
  refine wp_ret ?_
  refine l_unlock (m := 0) muLib cb43 hS8 rfl rfl (c' := #[.int .i32 0, .int .u32 0, .int .i64 (((D.room : Nat) : Int)), .int .i64 (((tot D.F : Nat) : Int)), .map (some m), .bool D.off, .int .i64 (((D.writes : Nat) : Int)), .int .i64 (((D.armed : Nat) : Int)), .int .i64 D.keep, .int .i64 D.lose]) rfl (h' := (fl [(pk d m D), [(blk1, .cells #[.string s] 9 (0, 0))], [(blk2, .cells #[.slice none 0 0, .int .i64 0] 88 (0, 0))], sm, sg1])) rfl (fun _ => tells2 rfl rfl rfl rfl rfl) fun w7 hS9 => ?_
  refine ⟨_, rfl, ?_⟩
  have hS10 : St w0 K (fl [(pk d m D), sm, sg1]) w7 := hS9.pick [0, 3, 4] rfl (by decide)
  rw [(read_off hoff).1]
  exact ⟨_, _, _, rfl, hG1, hS10⟩
 ·
  refine s_val hS4 rfl rfl (r_move rfl (.t rfl rfl)) ?_
  refine s_val hS4 rfl rfl (r_extract rfl (.t rfl rfl) rfl) ?_
  refine s_val hS4 rfl rfl (r_extract rfl (.t rfl rfl) rfl) ?_
  refine s_alloc rfl rfl rfl ti88 (cs := #[.slice none 0 0, .int .i64 0]) rfl hS4 fun blk3 w8 hb3 hB3 hS11 => ?_
  have hS12 : St w0 K (fl [(pk1 d m D), [(blk1, .cells #[.string s] 9 (0, 0))], [(blk3, .cells #[.slice none 0 0, .int .i64 0] 88 (0, 0))], sm]) w8 := hS11.push 2 rfl
  refine s_storeA (m := 2) rfl rfl rfl ti88 (.t rfl rfl) (vs := [.slice none 0 0, .int .i64 0]) (.t rfl rfl) rfl rfl hS12 rfl (show 2 ≤ 2 from by decide) (c' := #[.slice none 0 0, .int .i64 0]) rfl (h' := (fl [(pk1 d m D), [(blk1, .cells #[.string s] 9 (0, 0))], [(blk3, .cells #[.slice none 0 0, .int .i64 0] 88 (0, 0))], sm])) rfl fun w9 hS13 => ?_
  refine s_val hS13 rfl rfl (r_assign rfl (.t rfl rfl)) ?_
  refine wpList_nil ?_
  refine x_tn ?_
  refine k_reb [(4, .slice none 0 0), (5, .int .i64 0), (6, .pointer (some ⟨blk3, 0, none⟩)), (7, .int .i64 101)] ⟨rfl, rfl, rfl, rfl, trivial⟩ fun G5 => ?_
  refine wp_seq ?_
  refine k_reg ?_
  refine s_val hS13 rfl rfl (r_fieldN rfl Try.underlying88 rfl ti22 (by decide) (.t rfl rfl) (qq := 0) rfl) ?_
  refine s_val hS13 rfl rfl (r_load rfl one22 (.t rfl rfl) (St.cell_own (m := 2) rfl rfl)) ?_
  refine s_call rfl rfl rfl (vs := [.slice none 0 0]) ⟨(.t rfl rfl), trivial⟩ cb45 (Clone_ok w9 none 0 [] [] Sl.nil Old.none (by first | omega | simp) ) ?_
  rintro _ w10 ⟨ra2, rc2, sg2, rfl, hG2, ht4⟩
  have hS14 : St w0 K (fl [(pk1 d m D), [(blk1, .cells #[.string s] 9 (0, 0))], [(blk3, .cells #[.slice none 0 0, .int .i64 0] 88 (0, 0))], sm, sg2]) w10 := hS13.callL (xs := []) (xs' := []) (zs := [sg2]) [] rfl (by decide) ht4 rfl rfl
  refine s_val hS14 rfl rfl (r_move rfl (.t rfl rfl)) ?_
  refine s_val hS14 rfl rfl (r_assign rfl (.t rfl rfl)) ?_
  refine s_val hS14 rfl rfl (r_assign rfl (.t rfl rfl)) ?_
  refine wpList_nil ?_
  refine x_tn ?_
  refine k_reb [(4, .slice ra2 (([]).length) rc2), (5, .int .i64 101)] ⟨rfl, rfl, trivial⟩ fun G6 => ?_
  refine wp_ret ?_
  refine l_unlock (m := 0) muLib cb43 hS14 rfl rfl (c' := #[.int .i32 0, .int .u32 0, .int .i64 (((D.room : Nat) : Int)), .int .i64 (((tot D.F : Nat) : Int)), .map (some m), .bool D.off, .int .i64 (((D.writes : Nat) : Int)), .int .i64 (((D.armed : Nat) : Int)), .int .i64 D.keep, .int .i64 D.lose]) rfl (h' := (fl [(pk d m D), [(blk1, .cells #[.string s] 9 (0, 0))], [(blk3, .cells #[.slice none 0 0, .int .i64 0] 88 (0, 0))], sm, sg2])) rfl (fun _ => tells2 rfl rfl rfl rfl rfl) fun w11 hS15 => ?_
  refine ⟨_, rfl, ?_⟩
  have hS16 : St w0 K (fl [(pk d m D), sm, sg2]) w11 := hS15.pick [0, 3, 4] rfl (by decide)
  rw [(read_name hoff hnm).1]
  exact ⟨_, _, _, rfl, hG2, hS16⟩
 ·
  refine s_val hS4 rfl rfl (r_move rfl (.t rfl rfl)) ?_
  refine s_val hS4 rfl rfl (r_extract rfl (.t rfl rfl) rfl) ?_
  refine s_val hS4 rfl rfl (r_extract rfl (.t rfl rfl) rfl) ?_
  refine s_alloc rfl rfl rfl ti88 (cs := #[.slice none 0 0, .int .i64 0]) rfl hS4 fun blk4 w12 hb4 hB4 hS17 => ?_
  have hS18 : St w0 K (fl [(pk1 d m D), [(blk1, .cells #[.string s] 9 (0, 0))], [(blk4, .cells #[.slice none 0 0, .int .i64 0] 88 (0, 0))], sm]) w12 := hS17.push 2 rfl
  refine s_storeA (m := 2) rfl rfl rfl ti88 (.t rfl rfl) (vs := [.slice none 0 0, .int .i64 0]) (.t rfl rfl) rfl rfl hS18 rfl (show 2 ≤ 2 from by decide) (c' := #[.slice none 0 0, .int .i64 0]) rfl (h' := (fl [(pk1 d m D), [(blk1, .cells #[.string s] 9 (0, 0))], [(blk4, .cells #[.slice none 0 0, .int .i64 0] 88 (0, 0))], sm])) rfl fun w13 hS19 => ?_
  refine s_val hS19 rfl rfl (r_assign rfl (.t rfl rfl)) ?_
  refine wpList_nil ?_
  refine x_tn ?_
  refine k_reb [(4, .slice none 0 0), (5, .int .i64 0), (6, .pointer (some ⟨blk4, 0, none⟩)), (7, .int .i64 102)] ⟨rfl, rfl, rfl, rfl, trivial⟩ fun G7 => ?_
  refine wp_seq ?_
  refine k_reg ?_
  refine s_val hS19 rfl rfl (r_fieldN rfl Try.underlying88 rfl ti22 (by decide) (.t rfl rfl) (qq := 0) rfl) ?_
  refine s_val hS19 rfl rfl (r_load rfl one22 (.t rfl rfl) (St.cell_own (m := 2) rfl rfl)) ?_
  refine s_call rfl rfl rfl (vs := [.slice none 0 0]) ⟨(.t rfl rfl), trivial⟩ cb45 (Clone_ok w13 none 0 [] [] Sl.nil Old.none (by first | omega | simp) ) ?_
  rintro _ w14 ⟨ra3, rc3, sg3, rfl, hG3, ht5⟩
  have hS20 : St w0 K (fl [(pk1 d m D), [(blk1, .cells #[.string s] 9 (0, 0))], [(blk4, .cells #[.slice none 0 0, .int .i64 0] 88 (0, 0))], sm, sg3]) w14 := hS19.callL (xs := []) (xs' := []) (zs := [sg3]) [] rfl (by decide) ht5 rfl rfl
  refine s_val hS20 rfl rfl (r_move rfl (.t rfl rfl)) ?_
  refine s_val hS20 rfl rfl (r_assign rfl (.t rfl rfl)) ?_
  refine s_val hS20 rfl rfl (r_assign rfl (.t rfl rfl)) ?_
  refine wpList_nil ?_
  refine x_tn ?_
  refine k_reb [(4, .slice ra3 (([]).length) rc3), (5, .int .i64 102)] ⟨rfl, rfl, trivial⟩ fun G8 => ?_
  refine wp_ret ?_
  refine l_unlock (m := 0) muLib cb43 hS20 rfl rfl (c' := #[.int .i32 0, .int .u32 0, .int .i64 (((D.room : Nat) : Int)), .int .i64 (((tot D.F : Nat) : Int)), .map (some m), .bool D.off, .int .i64 (((D.writes : Nat) : Int)), .int .i64 (((D.armed : Nat) : Int)), .int .i64 D.keep, .int .i64 D.lose]) rfl (h' := (fl [(pk d m D), [(blk1, .cells #[.string s] 9 (0, 0))], [(blk4, .cells #[.slice none 0 0, .int .i64 0] 88 (0, 0))], sm, sg3])) rfl (fun _ => tells2 rfl rfl rfl rfl rfl) fun w15 hS21 => ?_
  refine ⟨_, rfl, ?_⟩
  have hS22 : St w0 K (fl [(pk d m D), sm, sg3]) w15 := hS21.pick [0, 3, 4] rfl (by decide)
  rw [(read_none hoff hnm hno).1]
  exact ⟨_, _, _, rfl, hG3, hS22⟩
 ·
  have hlk := hA1.1
  obtain ⟨hf1, hf2, hf3, hf4⟩ := ok.file hlk
  have hx1 := hA1.sl (by omega) hf3
  refine s_val hS4 rfl rfl (r_move rfl (.t rfl rfl)) ?_
  refine s_val hS4 rfl rfl (r_extract rfl (.t rfl rfl) rfl) ?_
  refine s_val hS4 rfl rfl (r_extract rfl (.t rfl rfl) rfl) ?_
  refine s_alloc rfl rfl rfl ti88 (cs := #[.slice none 0 0, .int .i64 0]) rfl hS4 fun blk5 w16 hb5 hB5 hS23 => ?_
  have hS24 : St w0 K (fl [(pk1 d m D), [(blk1, .cells #[.string s] 9 (0, 0))], [(blk5, .cells #[.slice none 0 0, .int .i64 0] 88 (0, 0))], sm]) w16 := hS23.push 2 rfl
  refine s_storeA (m := 2) rfl rfl rfl ti88 (.t rfl rfl) (vs := [.slice fa1 f.bytes.length fc1, .int .i64 (((f.sure : Nat) : Int))]) (.t rfl rfl) rfl rfl hS24 rfl (show 2 ≤ 2 from by decide) (c' := #[.slice fa1 f.bytes.length fc1, .int .i64 (((f.sure : Nat) : Int))]) rfl (h' := (fl [(pk1 d m D), [(blk1, .cells #[.string s] 9 (0, 0))], [(blk5, .cells #[.slice fa1 f.bytes.length fc1, .int .i64 (((f.sure : Nat) : Int))] 88 (0, 0))], sm])) rfl fun w17 hS25 => ?_
  refine s_val hS25 rfl rfl (r_assign rfl (.t rfl rfl)) ?_
  refine wpList_nil ?_
  refine x_tn ?_
  refine k_reb [(4, .slice none 0 0), (5, .int .i64 0), (6, .pointer (some ⟨blk5, 0, none⟩)), (7, .int .i64 0)] ⟨rfl, rfl, rfl, rfl, trivial⟩ fun G9 => ?_
  refine wp_seq ?_
  refine k_reg ?_
  refine s_val hS25 rfl rfl (r_fieldN rfl Try.underlying88 rfl ti22 (by decide) (.t rfl rfl) (qq := 0) rfl) ?_
  refine s_val hS25 rfl rfl (r_load rfl one22 (.t rfl rfl) (St.cell_own (m := 2) rfl rfl)) ?_
  refine s_call rfl rfl rfl (vs := [.slice fa1 f.bytes.length fc1]) ⟨(.t rfl rfl), trivial⟩ cb45 (Clone_ok w17 fa1 fc1 f.bytes sm hx1 (Old.of_piece (i := 3) (xs := []) [] hS25 rfl rfl (by decide)) (by first | omega | simp) ) ?_
  rintro _ w18 ⟨ra4, rc4, sg4, rfl, hG4, ht6⟩
  have hS26 : St w0 K (fl [(pk1 d m D), [(blk1, .cells #[.string s] 9 (0, 0))], [(blk5, .cells #[.slice fa1 f.bytes.length fc1, .int .i64 (((f.sure : Nat) : Int))] 88 (0, 0))], sm, sg4]) w18 := hS25.callL (xs := []) (xs' := []) (zs := [sg4]) [] rfl (by decide) ht6 rfl rfl
  refine s_val hS26 rfl rfl (r_move rfl (.t rfl rfl)) ?_
  refine s_val hS26 rfl rfl (r_assign rfl (.t rfl rfl)) ?_
  refine s_val hS26 rfl rfl (r_assign rfl (.t rfl rfl)) ?_
  refine wpList_nil ?_
  refine x_tn ?_
  refine k_reb [(4, .slice ra4 f.bytes.length rc4), (5, .int .i64 0)] ⟨rfl, rfl, trivial⟩ fun G10 => ?_
  refine wp_ret ?_
  refine l_unlock (m := 0) muLib cb43 hS26 rfl rfl (c' := #[.int .i32 0, .int .u32 0, .int .i64 (((D.room : Nat) : Int)), .int .i64 (((tot D.F : Nat) : Int)), .map (some m), .bool D.off, .int .i64 (((D.writes : Nat) : Int)), .int .i64 (((D.armed : Nat) : Int)), .int .i64 D.keep, .int .i64 D.lose]) rfl (h' := (fl [(pk d m D), [(blk1, .cells #[.string s] 9 (0, 0))], [(blk5, .cells #[.slice fa1 f.bytes.length fc1, .int .i64 (((f.sure : Nat) : Int))] 88 (0, 0))], sm, sg4])) rfl (fun _ => tells2 rfl rfl rfl rfl rfl) fun w19 hS27 => ?_
  refine ⟨_, rfl, ?_⟩
  have hS28 : St w0 K (fl [(pk d m D), sm, sg4]) w19 := hS27.pick [0, 3, 4] rfl (by decide)
  rw [(read_fine hoff hnm hlk).1]
  exact ⟨_, _, _, rfl, hG4, hS28⟩

theorem Writes_ok (w0 : World) (K : List Nat) (d m : Nat) (D : Dk) (ok : D.ok) (sm : Hp) (hM : MapH U8 m none D.F sm) (hS0 : St w0 K (fl [[(d, .cells (dkC 0 m D) DT (0, 0))], sm]) w0) :
  Calls Try.prog 33 #[.pointer (some ⟨d, 0, none⟩)] w0 (Ret fun v w' => v = .int .i64 (D.writes : Nat) ∧ St w0 K (fl [[(d, .cells (dkC 0 m D) DT (0, 0))], sm]) w') := by
 refine k_enterd (vs := [.pointer (some ⟨d, 0, none⟩)]) Try.func33 rfl Try.ntmps33 rfl ?_
 have hS : St w0 K (fl [(pk d m D), sm]) w0 := hS0
 have ok1 := ok.room
 have ok2 := ok.fits
 have ok3 := ok.len
 have ok4 := ok.armed
 have ok5 := ok.keep
 have ok6 := ok.lose
 refine wp_seq ?_
 refine k_reg ?_
 refine s_val hS rfl rfl (r_assign rfl .c) ?_
 refine wpList_nil ?_
 refine x_tn ?_
 refine wp_seq ?_
 refine k_reg ?_
 refine s_val hS rfl rfl (r_move rfl (.t rfl rfl)) ?_
 refine s_val hS rfl rfl (r_nilCheck rfl (.t rfl rfl)) ?_
 refine s_val hS rfl rfl (r_fieldN rfl Try.underlying86 rfl ti83 (by decide) (.t rfl rfl) (qq := 0) rfl) ?_
 refine s_call rfl rfl rfl (vs := [.pointer (some ⟨d, 0, none⟩)]) ⟨(.t rfl rfl), trivial⟩ cb42 (lock_ok muLib (St.block (m := 0) rfl _ hS) rfl (c' := #[.int .i32 1, .int .u32 0, .int .i64 (((D.room : Nat) : Int)), .int .i64 (((tot D.F : Nat) : Int)), .map (some m), .bool D.off, .int .i64 (((D.writes : Nat) : Int)), .int .i64 (((D.armed : Nat) : Int)), .int .i64 D.keep, .int .i64 D.lose]) rfl) ?_
 rintro _ w1 ⟨rfl, ht1⟩
 have hS1 : St w0 K (fl [(pk1 d m D), sm]) w1 := hS.callL (xs := [(pk d m D)]) (xs' := [(pk1 d m D)]) (zs := []) [0] rfl (by decide) ht1 rfl rfl
 refine wpList_nil ?_
 refine x_tn ?_
 refine k_reb [(0, .pointer (some ⟨d, 0, none⟩)), (2, .int .i64 0)] ⟨rfl, rfl, trivial⟩ fun G1 => ?_
 refine wp_seq ?_
 refine k_reg ?_
 refine s_val hS1 rfl rfl (r_move rfl (.t rfl rfl)) ?_
 refine s_val hS1 rfl rfl (r_nilCheck rfl (.t rfl rfl)) ?_
 refine s_val hS1 rfl rfl (r_fieldN rfl Try.underlying86 rfl ti83 (by decide) (.t rfl rfl) (qq := 0) rfl) ?_
 refine s_defer rfl rfl rfl (vs := [.pointer (some ⟨d, 0, none⟩)]) ⟨(.t rfl rfl), trivial⟩ ?_
 refine wpList_nil ?_
 refine x_tn ?_
 refine k_reb [(0, .pointer (some ⟨d, 0, none⟩)), (2, .int .i64 0)] ⟨rfl, rfl, trivial⟩ fun G2 => ?_
 refine wp_seq ?_
 refine k_reg ?_
 refine s_val hS1 rfl rfl (r_move rfl (.t rfl rfl)) ?_
 refine s_val hS1 rfl rfl (r_nilCheck rfl (.t rfl rfl)) ?_
 refine s_val hS1 rfl rfl (r_fieldN rfl Try.underlying86 rfl ti3 (by decide) (.t rfl rfl) (qq := 6) rfl) ?_
 refine s_val hS1 rfl rfl (r_load rfl one3 (.t rfl rfl) (St.cell_own (m := 0) rfl rfl)) ?_
 refine s_val hS1 rfl rfl (r_assign rfl (.t rfl rfl)) ?_
 refine wpList_nil ?_
 refine x_tn ?_
 refine k_reb [(2, .int .i64 (((D.writes : Nat) : Int)))] ⟨rfl, trivial⟩ fun G3 => ?_
 refine wp_ret ?_
 refine l_unlock (m := 0) muLib cb43 hS1 rfl rfl (c' := #[.int .i32 0, .int .u32 0, .int .i64 (((D.room : Nat) : Int)), .int .i64 (((tot D.F : Nat) : Int)), .map (some m), .bool D.off, .int .i64 (((D.writes : Nat) : Int)), .int .i64 (((D.armed : Nat) : Int)), .int .i64 D.keep, .int .i64 D.lose]) rfl (h' := (fl [(pk d m D), sm])) rfl (fun _ => tells1 rfl rfl rfl) fun w2 hS2 => ?_
 refine ⟨_, rfl, ?_⟩
 exact ⟨rfl, hS2⟩

theorem DAppend_ok (w0 : World) (K : List Nat) (d m : Nat) (D : Dk) (ok : D.ok) (sm : Hp) (hM : MapH U8 m none D.F sm) (s : ByteArray) (ls : s.size ≤ 1000000000000) (aB : Option Addr) (cB : Nat) (B : List Nat) (vB : Hp) (hB : Sl .u8 aB cB B vB) (oB : Old w0 K vB) (hw : D.writes ≤ 4611686018427387904) (hS0 : St w0 K (fl [[(d, .cells (dkC 0 m D) DT (0, 0))], sm]) w0) :
  Calls Try.prog 26 #[.pointer (some ⟨d, 0, none⟩), .string s, .slice aB B.length cB] w0 (Ret fun v w' => ∃ sm', v = .int .i64 ((D.append s B).1 : Nat) ∧ MapH U8 m none (D.append s B).2.F sm' ∧ St w0 K (fl [[(d, .cells (dkC 0 m ((D.append s B).2)) DT (0, 0))], sm']) w') := by
 refine k_enterd (vs := [.pointer (some ⟨d, 0, none⟩), .string s, .slice aB B.length cB]) Try.func26 rfl Try.ntmps26 rfl ?_
 have hS : St w0 K (fl [(pk d m D), sm]) w0 := hS0
 have ok1 := ok.room
 have ok2 := ok.fits
 have ok3 := ok.len
 have ok4 := ok.armed
 have ok5 := ok.keep
 have ok6 := ok.lose
 have hnm0 := hM.names
 have lB := hB.most
 refine wp_seq ?_
 refine k_reg ?_
 refine s_val hS rfl rfl (r_assign rfl .c) ?_
 refine wpList_nil ?_
 refine x_tn ?_
 refine wp_seq ?_
 refine k_reg ?_
 refine s_val hS rfl rfl (r_move rfl (.t rfl rfl)) ?_
 refine s_val hS rfl rfl (r_nilCheck rfl (.t rfl rfl)) ?_
 refine s_val hS rfl rfl (r_fieldN rfl Try.underlying86 rfl ti83 (by decide) (.t rfl rfl) (qq := 0) rfl) ?_
 refine s_call rfl rfl rfl (vs := [.pointer (some ⟨d, 0, none⟩)]) ⟨(.t rfl rfl), trivial⟩ cb42 (lock_ok muLib (St.block (m := 0) rfl _ hS) rfl (c' := #[.int .i32 1, .int .u32 0, .int .i64 (((D.room : Nat) : Int)), .int .i64 (((tot D.F : Nat) : Int)), .map (some m), .bool D.off, .int .i64 (((D.writes : Nat) : Int)), .int .i64 (((D.armed : Nat) : Int)), .int .i64 D.keep, .int .i64 D.lose]) rfl) ?_
 rintro _ w1 ⟨rfl, ht1⟩
 have hS1 : St w0 K (fl [(pk1 d m D), sm]) w1 := hS.callL (xs := [(pk d m D)]) (xs' := [(pk1 d m D)]) (zs := []) [0] rfl (by decide) ht1 rfl rfl
 refine wpList_nil ?_
 refine x_tn ?_
 refine k_reb [(0, .pointer (some ⟨d, 0, none⟩)), (1, .string s), (2, .slice aB B.length cB), (6, .int .i64 0)] ⟨rfl, rfl, rfl, rfl, trivial⟩ fun G1 => ?_
 refine wp_seq ?_
 refine k_reg ?_
 refine s_val hS1 rfl rfl (r_move rfl (.t rfl rfl)) ?_
 refine s_val hS1 rfl rfl (r_nilCheck rfl (.t rfl rfl)) ?_
 refine s_val hS1 rfl rfl (r_fieldN rfl Try.underlying86 rfl ti83 (by decide) (.t rfl rfl) (qq := 0) rfl) ?_
 refine s_defer rfl rfl rfl (vs := [.pointer (some ⟨d, 0, none⟩)]) ⟨(.t rfl rfl), trivial⟩ ?_
 refine wpList_nil ?_
 refine x_tn ?_
 refine k_reb [(0, .pointer (some ⟨d, 0, none⟩)), (1, .string s), (2, .slice aB B.length cB), (6, .int .i64 0)] ⟨rfl, rfl, rfl, rfl, trivial⟩ fun G2 => ?_
 refine wp_seq ?_
 refine wp_seq ?_
 refine k_reg ?_
 refine s_val hS1 rfl rfl (r_move rfl (.t rfl rfl)) ?_
 refine s_val hS1 rfl rfl (r_move rfl (.t rfl rfl)) ?_
 refine s_litV rfl rfl rfl Try.underlying107 ti9 rfl (vs := [(0, .string s)]) ⟨rfl, (.t rfl rfl), trivial⟩ (L := [.string s]) rfl (by decide) rfl hS1 fun blk1 w2 hb1 hB1 hS2 => ?_
 have hS3 : St w0 K (fl [(pk1 d m D), [(blk1, .cells #[.string s] 9 (0, 0))], sm]) w2 := hS2.push 1 rfl
 refine s_call rfl rfl rfl (vs := [.pointer (some ⟨d, 0, none⟩), .slice (some ⟨blk1, 0, none⟩) 1 1]) ⟨(.t rfl rfl), (.t rfl rfl), trivial⟩ cb54 (refused_ok w2 _ d m D ok blk1 s (by omega) (hS3.give (xs := [(pk1 d m D), [(blk1, .cells #[.string s] 9 (0, 0))]]) [0, 1] rfl (by decide))) ?_
 rintro v1 w3 ⟨hp1, ht2⟩
 have hS4 : St w0 K (fl [(pk1 d m D), [(blk1, .cells #[.string s] 9 (0, 0))], sm]) w3 := hS3.callL (xs := [(pk1 d m D), [(blk1, .cells #[.string s] 9 (0, 0))]]) (xs' := [(pk1 d m D), [(blk1, .cells #[.string s] 9 (0, 0))]]) (zs := []) [0, 1] rfl (by decide) ht2 rfl rfl
 rcases hp1 with ⟨hoff, rfl⟩ | ⟨hoff, hnm, rfl⟩ | ⟨hoff, hnm, rfl⟩
 ·
  refine s_val hS4 rfl rfl (r_assign rfl (.t rfl rfl)) ?_
  refine wpList_nil ?_
  refine x_tn ?_
  refine k_reb [(0, .pointer (some ⟨d, 0, none⟩)), (1, .string s), (2, .slice aB B.length cB), (6, .int .i64 0), (7, .int .i64 104)] ⟨rfl, rfl, rfl, rfl, rfl, trivial⟩ fun G3 => ?_
  refine wp_seq ?_
  refine k_reg ?_
  refine s_val hS4 rfl rfl (r_move rfl (.t rfl rfl)) ?_
  refine s_val hS4 rfl rfl (r_cmp_t rfl rfl (.t rfl rfl) .c (show ¬ 104 = 0 from by omega)) ?_
  refine wpList_nil ?_
  refine x_tn ?_
  refine k_reb [(0, .pointer (some ⟨d, 0, none⟩)), (1, .string s), (2, .slice aB B.length cB), (6, .int .i64 0), (7, .int .i64 104), (23, .bool true)] ⟨rfl, rfl, rfl, rfl, rfl, rfl, trivial⟩ fun G4 => ?_
  refine k_t (.t rfl rfl) ?_
  refine wp_seq ?_
  refine k_reg ?_
  refine s_val hS4 rfl rfl (r_move rfl (.t rfl rfl)) ?_
  refine s_val hS4 rfl rfl (r_assign rfl (.t rfl rfl)) ?_
  refine wpList_nil ?_
  refine x_tn ?_
  refine k_reb [(0, .pointer (some ⟨d, 0, none⟩)), (1, .string s), (2, .slice aB B.length cB), (6, .int .i64 104)] ⟨rfl, rfl, rfl, rfl, trivial⟩ fun G5 => ?_
  refine wp_ret ?_
  refine x_tr ?_
  refine l_unlock (m := 0) muLib cb43 hS4 rfl rfl (c' := #[.int .i32 0, .int .u32 0, .int .i64 (((D.room : Nat) : Int)), .int .i64 (((tot D.F : Nat) : Int)), .map (some m), .bool D.off, .int .i64 (((D.writes : Nat) : Int)), .int .i64 (((D.armed : Nat) : Int)), .int .i64 D.keep, .int .i64 D.lose]) rfl (h' := (fl [(pk d m D), [(blk1, .cells #[.string s] 9 (0, 0))], sm])) rfl (fun _ => tells1 rfl rfl rfl) fun w4 hS5 => ?_
  refine ⟨_, rfl, ?_⟩
  have hS6 : St w0 K (fl [(pk d m D), sm]) w4 := hS5.pick [0, 2] rfl (by decide)
  rw [append_off hoff]
  exact ⟨_, rfl, hM, hS6⟩
 ·
  refine s_val hS4 rfl rfl (r_assign rfl (.t rfl rfl)) ?_
  refine wpList_nil ?_
  refine x_tn ?_
  refine k_reb [(0, .pointer (some ⟨d, 0, none⟩)), (1, .string s), (2, .slice aB B.length cB), (6, .int .i64 0), (7, .int .i64 101)] ⟨rfl, rfl, rfl, rfl, rfl, trivial⟩ fun G6 => ?_
  refine wp_seq ?_
  refine k_reg ?_
  refine s_val hS4 rfl rfl (r_move rfl (.t rfl rfl)) ?_
  refine s_val hS4 rfl rfl (r_cmp_t rfl rfl (.t rfl rfl) .c (show ¬ 101 = 0 from by omega)) ?_
  refine wpList_nil ?_
  refine x_tn ?_
  refine k_reb [(0, .pointer (some ⟨d, 0, none⟩)), (1, .string s), (2, .slice aB B.length cB), (6, .int .i64 0), (7, .int .i64 101), (23, .bool true)] ⟨rfl, rfl, rfl, rfl, rfl, rfl, trivial⟩ fun G7 => ?_
  refine k_t (.t rfl rfl) ?_
  refine wp_seq ?_
  refine k_reg ?_
  refine s_val hS4 rfl rfl (r_move rfl (.t rfl rfl)) ?_
  refine s_val hS4 rfl rfl (r_assign rfl (.t rfl rfl)) ?_
  refine wpList_nil ?_
  refine x_tn ?_
  refine k_reb [(0, .pointer (some ⟨d, 0, none⟩)), (1, .string s), (2, .slice aB B.length cB), (6, .int .i64 101)] ⟨rfl, rfl, rfl, rfl, trivial⟩ fun G8 => ?_
  refine wp_ret ?_
  refine x_tr ?_
  refine l_unlock (m := 0) muLib cb43 hS4 rfl rfl (c' := #[.int .i32 0, .int .u32 0, .int .i64 (((D.room : Nat) : Int)), .int .i64 (((tot D.F : Nat) : Int)), .map (some m), .bool D.off, .int .i64 (((D.writes : Nat) : Int)), .int .i64 (((D.armed : Nat) : Int)), .int .i64 D.keep, .int .i64 D.lose]) rfl (h' := (fl [(pk d m D), [(blk1, .cells #[.string s] 9 (0, 0))], sm])) rfl (fun _ => tells1 rfl rfl rfl) fun w5 hS7 => ?_
  refine ⟨_, rfl, ?_⟩
  have hS8 : St w0 K (fl [(pk d m D), sm]) w5 := hS7.pick [0, 2] rfl (by decide)
  rw [append_name hoff hnm]
  exact ⟨_, rfl, hM, hS8⟩
 ·
  refine s_val hS4 rfl rfl (r_assign rfl (.t rfl rfl)) ?_
  refine wpList_nil ?_
  refine x_tn ?_
  refine k_reb [(0, .pointer (some ⟨d, 0, none⟩)), (1, .string s), (2, .slice aB B.length cB), (6, .int .i64 0), (7, .int .i64 0)] ⟨rfl, rfl, rfl, rfl, rfl, trivial⟩ fun G9 => ?_
  refine wp_seq ?_
  refine k_reg ?_
  refine s_val hS4 rfl rfl (r_move rfl (.t rfl rfl)) ?_
  refine s_val hS4 rfl rfl (r_cmp_f rfl rfl (.t rfl rfl) .c (show ¬ (¬ 0 = 0) from by omega)) ?_
  refine wpList_nil ?_
  refine x_tn ?_
  refine k_reb [(0, .pointer (some ⟨d, 0, none⟩)), (1, .string s), (2, .slice aB B.length cB), (6, .int .i64 0), (7, .int .i64 0), (23, .bool false)] ⟨rfl, rfl, rfl, rfl, rfl, rfl, trivial⟩ fun G10 => ?_
  refine k_f (.t rfl rfl) ?_
  refine wp_skip ?_
  refine x_tn ?_
  refine k_reb [(0, .pointer (some ⟨d, 0, none⟩)), (1, .string s), (2, .slice aB B.length cB), (6, .int .i64 0)] ⟨rfl, rfl, rfl, rfl, trivial⟩ fun G11 => ?_
  refine wp_seq ?_
  refine k_reg ?_
  refine s_val hS4 rfl rfl (r_move rfl (.t rfl rfl)) ?_
  refine s_val hS4 rfl rfl (r_nilCheck rfl (.t rfl rfl)) ?_
  refine s_val hS4 rfl rfl (r_fieldN rfl Try.underlying86 rfl ti84 (by decide) (.t rfl rfl) (qq := 4) rfl) ?_
  refine s_val hS4 rfl rfl (r_load rfl one84 (.t rfl rfl) (St.cell_own (m := 0) rfl rfl)) ?_
  refine s_val hS4 rfl rfl (r_move rfl (.t rfl rfl)) ?_
  rcases hM.look s with hno1 | ⟨f, fa1, fc1, hA1⟩
  ·
   have hno := hno1
   refine s_val hS4 rfl rfl (r_look_no rfl Try.underlying84 Try.underlying9 ti88 (.t rfl rfl) (.t rfl rfl) hM hno1 (fun _ s_ => s_.has (i := 2) rfl)) ?_
   refine s_val hS4 rfl rfl (r_move rfl (.t rfl rfl)) ?_
   refine s_val hS4 rfl rfl (r_extract rfl (.t rfl rfl) rfl) ?_
   refine s_val hS4 rfl rfl (r_extract rfl (.t rfl rfl) rfl) ?_
   refine s_alloc rfl rfl rfl ti88 (cs := #[.slice none 0 0, .int .i64 0]) rfl hS4 fun blk2 w6 hb2 hB2 hS9 => ?_
   have hS10 : St w0 K (fl [(pk1 d m D), [(blk1, .cells #[.string s] 9 (0, 0))], [(blk2, .cells #[.slice none 0 0, .int .i64 0] 88 (0, 0))], sm]) w6 := hS9.push 2 rfl
   refine s_storeA (m := 2) rfl rfl rfl ti88 (.t rfl rfl) (vs := [.slice none 0 0, .int .i64 0]) (.t rfl rfl) rfl rfl hS10 rfl (show 2 ≤ 2 from by decide) (c' := #[.slice none 0 0, .int .i64 0]) rfl (h' := (fl [(pk1 d m D), [(blk1, .cells #[.string s] 9 (0, 0))], [(blk2, .cells #[.slice none 0 0, .int .i64 0] 88 (0, 0))], sm])) rfl fun w7 hS11 => ?_
   refine s_val hS11 rfl rfl (r_assign rfl (.t rfl rfl)) ?_
   refine wpList_nil ?_
   refine x_tn ?_
   refine k_reb [(0, .pointer (some ⟨d, 0, none⟩)), (1, .string s), (2, .slice aB B.length cB), (6, .int .i64 0), (8, .pointer (some ⟨blk2, 0, none⟩)), (9, .bool false)] ⟨rfl, rfl, rfl, rfl, rfl, rfl, trivial⟩ fun G12 => ?_
   refine wp_seq ?_
   refine wp_seq ?_
   refine k_regq mixed (by kernel_rfl) hS11 ?_
   refine q_val rfl rfl (r_move rfl (.t rfl rfl)) ?_
   refine q_val rfl rfl (r_lnot rfl (.t rfl rfl)) ?_
   refine q_val rfl rfl (r_move rfl (.t rfl rfl)) ?_
   refine q_valg (wanted_of (j := 2) (b := true) (d := 36) rfl rfl rfl rfl) rfl (r_move rfl (.t rfl rfl)) ?_
   refine q_valg (wanted_of (j := 2) (b := true) (d := 36) rfl rfl rfl rfl) rfl (r_nilCheck rfl (.t rfl rfl)) ?_
   refine q_valg (wanted_of (j := 2) (b := true) (d := 36) rfl rfl rfl rfl) rfl (r_fieldN rfl Try.underlying86 rfl ti84 (by decide) (.t rfl rfl) (qq := 4) rfl) ?_
   refine q_valg (wanted_of (j := 2) (b := true) (d := 36) rfl rfl rfl rfl) rfl (r_load rfl one84 (.t rfl rfl) (St.cell_own (m := 0) rfl rfl)) ?_
   refine q_valg (wanted_of (j := 2) (b := true) (d := 36) rfl rfl rfl rfl) rfl (r_lenM rfl rfl Try.underlying84 (.t rfl rfl) hM (fun _ s_ => s_.has (i := 3) rfl)) ?_
   by_cases cL : D.F.length ≥ 256
   ·
    refine q_valg (wanted_of (j := 2) (b := true) (d := 36) rfl rfl rfl rfl) rfl (r_cmp_t rfl rfl (.t rfl rfl) .c (show ((D.F.length : Nat) : Int) ≥ 256 from by omega)) ?_
    refine q_val rfl rfl (r_pick rfl (.t rfl rfl) (.t rfl rfl)) ?_
    refine q_val rfl rfl (r_move rfl (.t rfl rfl)) ?_
    refine q_skip (unwanted_of (j := 10) (b := false) (b' := true) (d := 44) rfl rfl rfl rfl rfl) rfl ?_
    refine q_skip (unwanted_of (j := 10) (b := false) (b' := true) (d := 44) rfl rfl rfl rfl rfl) rfl ?_
    refine q_skip (unwanted_of (j := 10) (b := false) (b' := true) (d := 44) rfl rfl rfl rfl rfl) rfl ?_
    refine q_skip (unwanted_of (j := 10) (b := false) (b' := true) (d := 44) rfl rfl rfl rfl rfl) rfl ?_
    refine q_skip (unwanted_of (j := 10) (b := false) (b' := true) (d := 44) rfl rfl rfl rfl rfl) rfl ?_
    refine q_skip (unwanted_of (j := 10) (b := false) (b' := true) (d := 44) rfl rfl rfl rfl rfl) rfl ?_
    refine q_skip (unwanted_of (j := 10) (b := false) (b' := true) (d := 44) rfl rfl rfl rfl rfl) rfl ?_
    refine q_skip (unwanted_of (j := 10) (b := false) (b' := true) (d := 44) rfl rfl rfl rfl rfl) rfl ?_
    refine q_skip (unwanted_of (j := 10) (b := false) (b' := true) (d := 44) rfl rfl rfl rfl rfl) rfl ?_
    refine q_skip (unwanted_of (j := 10) (b := false) (b' := true) (d := 44) rfl rfl rfl rfl rfl) rfl ?_
    refine q_skip (unwanted_of (j := 10) (b := false) (b' := true) (d := 44) rfl rfl rfl rfl rfl) rfl ?_
    refine q_skip (unwanted_of (j := 10) (b := false) (b' := true) (d := 44) rfl rfl rfl rfl rfl) rfl ?_
    refine q_val rfl rfl (r_pick rfl (.t rfl rfl) .c) ?_
    refine q_nil ?_
    intro w8 hS12
    refine x_tn ?_
    refine k_reb [(0, .pointer (some ⟨d, 0, none⟩)), (1, .string s), (2, .slice aB B.length cB), (6, .int .i64 0), (8, .pointer (some ⟨blk2, 0, none⟩)), (9, .bool false), (57, .bool true)] ⟨rfl, rfl, rfl, rfl, rfl, rfl, rfl, trivial⟩ fun G13 => ?_
    refine k_t (.t rfl rfl) ?_
    refine wp_seq ?_
    refine k_reg ?_
    refine s_val hS12 rfl rfl (r_assign rfl .c) ?_
    refine wpList_nil ?_
    refine x_tn ?_
    refine k_reb [(0, .pointer (some ⟨d, 0, none⟩)), (1, .string s), (2, .slice aB B.length cB), (6, .int .i64 103), (8, .pointer (some ⟨blk2, 0, none⟩)), (9, .bool false)] ⟨rfl, rfl, rfl, rfl, rfl, rfl, trivial⟩ fun G14 => ?_
    refine wp_ret ?_
    refine x_tr ?_
    refine l_unlock (m := 0) muLib cb43 hS12 rfl rfl (c' := #[.int .i32 0, .int .u32 0, .int .i64 (((D.room : Nat) : Int)), .int .i64 (((tot D.F : Nat) : Int)), .map (some m), .bool D.off, .int .i64 (((D.writes : Nat) : Int)), .int .i64 (((D.armed : Nat) : Int)), .int .i64 D.keep, .int .i64 D.lose]) rfl (h' := (fl [(pk d m D), [(blk1, .cells #[.string s] 9 (0, 0))], [(blk2, .cells #[.slice none 0 0, .int .i64 0] 88 (0, 0))], sm])) rfl (fun _ => tells1 rfl rfl rfl) fun w9 hS13 => ?_
    refine ⟨_, rfl, ?_⟩
    have hS14 : St w0 K (fl [(pk d m D), sm]) w9 := hS13.pick [0, 3] rfl (by decide)
    rw [append_full hoff hnm (by rw [hno]; simp; omega)]
    exact ⟨_, rfl, hM, hS14⟩
   ·
    refine q_valg (wanted_of (j := 2) (b := true) (d := 36) rfl rfl rfl rfl) rfl (r_cmp_f rfl rfl (.t rfl rfl) .c (show ¬ (((D.F.length : Nat) : Int) ≥ 256) from by omega)) ?_
    refine q_val rfl rfl (r_pick rfl (.t rfl rfl) (.t rfl rfl)) ?_
    refine q_val rfl rfl (r_move rfl (.t rfl rfl)) ?_
    refine q_valg (wanted_of (j := 10) (b := false) (d := 44) rfl rfl rfl rfl) rfl (r_move rfl (.t rfl rfl)) ?_
    refine q_valg (wanted_of (j := 10) (b := false) (d := 44) rfl rfl rfl rfl) rfl (r_len rfl rfl Try.underlying22 (.t rfl rfl)) ?_
    refine q_valg (wanted_of (j := 10) (b := false) (d := 44) rfl rfl rfl rfl) rfl (r_move rfl (.t rfl rfl)) ?_
    refine q_valg (wanted_of (j := 10) (b := false) (d := 44) rfl rfl rfl rfl) rfl (r_nilCheck rfl (.t rfl rfl)) ?_
    refine q_valg (wanted_of (j := 10) (b := false) (d := 44) rfl rfl rfl rfl) rfl (r_fieldN rfl Try.underlying86 rfl ti3 (by decide) (.t rfl rfl) (qq := 2) rfl) ?_
    refine q_valg (wanted_of (j := 10) (b := false) (d := 44) rfl rfl rfl rfl) rfl (r_load rfl one3 (.t rfl rfl) (St.cell_own (m := 0) rfl rfl)) ?_
    refine q_valg (wanted_of (j := 10) (b := false) (d := 44) rfl rfl rfl rfl) rfl (r_move rfl (.t rfl rfl)) ?_
    refine q_valg (wanted_of (j := 10) (b := false) (d := 44) rfl rfl rfl rfl) rfl (r_nilCheck rfl (.t rfl rfl)) ?_
    refine q_valg (wanted_of (j := 10) (b := false) (d := 44) rfl rfl rfl rfl) rfl (r_fieldN rfl Try.underlying86 rfl ti3 (by decide) (.t rfl rfl) (qq := 3) rfl) ?_
    refine q_valg (wanted_of (j := 10) (b := false) (d := 44) rfl rfl rfl rfl) rfl (r_load rfl one3 (.t rfl rfl) (St.cell_own (m := 0) rfl rfl)) ?_
    refine q_valg (wanted_of (j := 10) (b := false) (d := 44) rfl rfl rfl rfl) rfl (r_arith rfl rfl (.t rfl rfl) (.t rfl rfl) (c := ((D.room - (tot D.F) : Nat) : Int)) (wn_i64 (by show (((D.room : Nat) : Int) : Int) - ((tot D.F : Nat) : Int) = _; omega) (by omega))) ?_
    by_cases cF : B.length > D.room - (tot D.F)
    ·
     refine q_valg (wanted_of (j := 10) (b := false) (d := 44) rfl rfl rfl rfl) rfl (r_cmp_t rfl rfl (.t rfl rfl) (.t rfl rfl) (show ((B.length : Nat) : Int) > ((D.room - (tot D.F) : Nat) : Int) from by omega)) ?_
     refine q_val rfl rfl (r_pick rfl (.t rfl rfl) (.t rfl rfl)) ?_
     refine q_nil ?_
     intro w10 hS15
     refine x_tn ?_
     refine k_reb [(0, .pointer (some ⟨d, 0, none⟩)), (1, .string s), (2, .slice aB B.length cB), (6, .int .i64 0), (8, .pointer (some ⟨blk2, 0, none⟩)), (9, .bool false), (57, .bool true)] ⟨rfl, rfl, rfl, rfl, rfl, rfl, rfl, trivial⟩ fun G15 => ?_
     refine k_t (.t rfl rfl) ?_
     refine wp_seq ?_
     refine k_reg ?_
     refine s_val hS15 rfl rfl (r_assign rfl .c) ?_
     refine wpList_nil ?_
     refine x_tn ?_
     refine k_reb [(0, .pointer (some ⟨d, 0, none⟩)), (1, .string s), (2, .slice aB B.length cB), (6, .int .i64 103), (8, .pointer (some ⟨blk2, 0, none⟩)), (9, .bool false)] ⟨rfl, rfl, rfl, rfl, rfl, rfl, trivial⟩ fun G16 => ?_
     refine wp_ret ?_
     refine x_tr ?_
     refine l_unlock (m := 0) muLib cb43 hS15 rfl rfl (c' := #[.int .i32 0, .int .u32 0, .int .i64 (((D.room : Nat) : Int)), .int .i64 (((tot D.F : Nat) : Int)), .map (some m), .bool D.off, .int .i64 (((D.writes : Nat) : Int)), .int .i64 (((D.armed : Nat) : Int)), .int .i64 D.keep, .int .i64 D.lose]) rfl (h' := (fl [(pk d m D), [(blk1, .cells #[.string s] 9 (0, 0))], [(blk2, .cells #[.slice none 0 0, .int .i64 0] 88 (0, 0))], sm])) rfl (fun _ => tells1 rfl rfl rfl) fun w11 hS16 => ?_
     refine ⟨_, rfl, ?_⟩
     have hS17 : St w0 K (fl [(pk d m D), sm]) w11 := hS16.pick [0, 3] rfl (by decide)
     rw [append_full hoff hnm (by rw [hno]; simp; omega)]
     exact ⟨_, rfl, hM, hS17⟩
    ·
     have hlen3 : lookF D.F s = none → D.F.length < 256 := fun q => by first | (rw [hlk] at q; cases q) | omega
     have hful : ¬ (((lookF D.F s).isNone = true ∧ 256 ≤ D.F.length) ∨ D.room - tot D.F < B.length) := by
      first | (rw [hlk]; simp; omega) | (rw [hno]; simp; omega)
     refine q_valg (wanted_of (j := 10) (b := false) (d := 44) rfl rfl rfl rfl) rfl (r_cmp_f rfl rfl (.t rfl rfl) (.t rfl rfl) (show ¬ (((B.length : Nat) : Int) > ((D.room - (tot D.F) : Nat) : Int)) from by omega)) ?_
     refine q_val rfl rfl (r_pick rfl (.t rfl rfl) (.t rfl rfl)) ?_
     refine q_nil ?_
     intro w12 hS18
     refine x_tn ?_
     refine k_reb [(0, .pointer (some ⟨d, 0, none⟩)), (1, .string s), (2, .slice aB B.length cB), (6, .int .i64 0), (8, .pointer (some ⟨blk2, 0, none⟩)), (9, .bool false), (57, .bool false)] ⟨rfl, rfl, rfl, rfl, rfl, rfl, rfl, trivial⟩ fun G17 => ?_
     refine k_f (.t rfl rfl) ?_
     refine wp_skip ?_
     refine x_tn ?_
     refine k_reb [(0, .pointer (some ⟨d, 0, none⟩)), (1, .string s), (2, .slice aB B.length cB), (6, .int .i64 0), (8, .pointer (some ⟨blk2, 0, none⟩)), (9, .bool false)] ⟨rfl, rfl, rfl, rfl, rfl, rfl, trivial⟩ fun G18 => ?_
     refine wp_seq ?_
     refine k_reg ?_
     refine s_val hS18 rfl rfl (r_move rfl (.t rfl rfl)) ?_
     refine s_call rfl rfl rfl (vs := [.pointer (some ⟨d, 0, none⟩)]) ⟨(.t rfl rfl), trivial⟩ cb55 (torn_ok w12 _ d m D ok hw (hS18.give (xs := [(pk1 d m D)]) [0] rfl (by decide))) ?_
     rintro _ w13 ⟨rfl, ht3⟩
     have hS19 : St w0 K (fl [(pa d 1 (((D.room : Nat) : Int)) (((tot D.F : Nat) : Int)) m D.off (((D.writes + 1 : Nat) : Int)) (((D.armed - 1 : Nat) : Int)) D.keep D.lose), [(blk1, .cells #[.string s] 9 (0, 0))], [(blk2, .cells #[.slice none 0 0, .int .i64 0] 88 (0, 0))], sm]) w13 := hS18.callL (xs := [(pk1 d m D)]) (xs' := [(pa d 1 (((D.room : Nat) : Int)) (((tot D.F : Nat) : Int)) m D.off (((D.writes + 1 : Nat) : Int)) (((D.armed - 1 : Nat) : Int)) D.keep D.lose)]) (zs := []) [0] rfl (by decide) ht3 rfl rfl
     by_cases hT : D.armed = 1
     ·
      refine s_asb (b' := true) (decide_eq_true hT) ?_
      refine s_val hS19 rfl rfl (r_assign rfl (.t rfl rfl)) ?_
      refine wpList_nil ?_
      refine x_tn ?_
      refine k_reb [(0, .pointer (some ⟨d, 0, none⟩)), (1, .string s), (2, .slice aB B.length cB), (6, .int .i64 0), (8, .pointer (some ⟨blk2, 0, none⟩)), (9, .bool false), (10, .bool true)] ⟨rfl, rfl, rfl, rfl, rfl, rfl, rfl, trivial⟩ fun G19 => ?_
      refine wp_seq ?_
      refine wp_seq ?_
      refine k_reg ?_
      refine s_val hS19 rfl rfl (r_move rfl (.t rfl rfl)) ?_
      refine wpList_nil ?_
      refine x_tn ?_
      refine k_t (.t rfl rfl) ?_
      refine k_reg ?_
      refine s_val hS19 rfl rfl (r_move rfl (.t rfl rfl)) ?_
      refine s_val hS19 rfl rfl (r_move rfl (.t rfl rfl)) ?_
      refine s_val hS19 rfl rfl (r_nilCheck rfl (.t rfl rfl)) ?_
      refine s_val hS19 rfl rfl (r_fieldN rfl Try.underlying86 rfl ti3 (by decide) (.t rfl rfl) (qq := 8) rfl) ?_
      refine s_val hS19 rfl rfl (r_load rfl one3 (.t rfl rfl) (St.cell_own (m := 0) rfl rfl)) ?_
      refine s_val hS19 rfl rfl (r_max rfl (.t rfl rfl) .c (c := ((D.keep.toNat : Nat) : Int)) (by split <;> omega)) ?_
      refine s_val hS19 rfl rfl (r_move rfl (.t rfl rfl)) ?_
      refine s_val hS19 rfl rfl (r_len rfl rfl Try.underlying22 (.t rfl rfl)) ?_
      refine s_val hS19 rfl rfl (r_min rfl (.t rfl rfl) (.t rfl rfl) (c := ((min D.keep.toNat B.length : Nat) : Int)) (by split <;> omega)) ?_
      have hq1 := (hB).le
      have hx1 : Sl .u8 aB cB (B.take (min D.keep.toNat B.length)) vB := hB.take_ (by omega) (by omega) (by omega)
      have hn1 : (B.take (min D.keep.toNat B.length)).length = min D.keep.toNat B.length := by rw [List.length_take]; omega
      refine s_val hS19 rfl rfl (Rn.asSl (ad' := aB) (p' := (B.take (min D.keep.toNat B.length)).length) (q' := cB) (by simp [cutA]) (by omega) (by omega) (r_cutl rfl Try.underlying22 ti5 (.t rfl rfl) hB rfl .n (.s (.t rfl rfl)) .n (lw := 0) (hh := min D.keep.toNat B.length) (m := cB) (by omega) (by omega) (by omega) (by omega))) ?_
      refine s_val hS19 rfl rfl (r_assign rfl (.t rfl rfl)) ?_
      refine wpList_nil ?_
      refine x_tn ?_
      refine k_reb [(0, .pointer (some ⟨d, 0, none⟩)), (1, .string s), (2, .slice aB ((B.take (min D.keep.toNat B.length)).length) cB), (6, .int .i64 0), (8, .pointer (some ⟨blk2, 0, none⟩)), (9, .bool false), (10, .bool true)] ⟨rfl, rfl, rfl, rfl, rfl, rfl, rfl, trivial⟩ fun G20 => ?_
      refine wp_seq ?_
      refine wp_seq ?_
      refine k_reg ?_
      refine s_val hS19 rfl rfl (r_move rfl (.t rfl rfl)) ?_
      refine s_val hS19 rfl rfl (r_move rfl (.t rfl rfl)) ?_
      refine s_valg hS19 (wanted_of (j := 1) (b := false) (d := 72) rfl rfl rfl rfl) rfl (r_move rfl (.t rfl rfl)) ?_
      refine s_valg hS19 (wanted_of (j := 1) (b := false) (d := 72) rfl rfl rfl rfl) rfl (r_lnot rfl (.t rfl rfl)) ?_
      refine s_val hS19 rfl rfl (r_pick rfl (.t rfl rfl) (.t rfl rfl)) ?_
      refine s_val hS19 rfl rfl (r_move rfl (.t rfl rfl)) ?_
      refine s_valg hS19 (wanted_of (j := 5) (b := false) (d := 76) rfl rfl rfl rfl) rfl (r_move rfl (.t rfl rfl)) ?_
      refine s_valg hS19 (wanted_of (j := 5) (b := false) (d := 76) rfl rfl rfl rfl) rfl (r_nilCheck rfl (.t rfl rfl)) ?_
      refine s_valg hS19 (wanted_of (j := 5) (b := false) (d := 76) rfl rfl rfl rfl) rfl (r_fieldN rfl Try.underlying86 rfl ti3 (by decide) (.t rfl rfl) (qq := 8) rfl) ?_
      refine s_valg hS19 (wanted_of (j := 5) (b := false) (d := 76) rfl rfl rfl rfl) rfl (r_load rfl one3 (.t rfl rfl) (St.cell_own (m := 0) rfl rfl)) ?_
      by_cases hK : D.keep > 0
      ·
       refine s_valg hS19 (wanted_of (j := 5) (b := false) (d := 76) rfl rfl rfl rfl) rfl (r_cmp_t rfl rfl (.t rfl rfl) .c (show D.keep > 0 from by omega)) ?_
       refine s_val hS19 rfl rfl (r_pick rfl (.t rfl rfl) (.t rfl rfl)) ?_
       refine wpList_nil ?_
       refine x_tn ?_
       refine k_reb [(0, .pointer (some ⟨d, 0, none⟩)), (1, .string s), (2, .slice aB ((B.take (min D.keep.toNat B.length)).length) cB), (6, .int .i64 0), (8, .pointer (some ⟨blk2, 0, none⟩)), (10, .bool true), (82, .bool true)] ⟨rfl, rfl, rfl, rfl, rfl, rfl, rfl, trivial⟩ fun G21 => ?_
       refine k_t (.t rfl rfl) ?_
       refine wp_seq ?_
       refine k_reg ?_
       refine s_val hS19 rfl rfl (r_fieldN rfl Try.underlying88 rfl ti22 (by decide) (.t rfl rfl) (qq := 0) rfl) ?_
       refine s_val hS19 rfl rfl (r_load rfl one22 (.t rfl rfl) (St.cell_own (m := 2) rfl rfl)) ?_
       refine s_val hS19 rfl rfl (r_move rfl (.t rfl rfl)) ?_
       obtain ⟨hfit, htp⟩ := fits_append (B := B.take (min D.keep.toNat B.length)) ok hnm0 hnm hlen3 (by rw [List.length_take]; omega) (fun y hy => hB.fit y (List.mem_of_mem_take hy))
       obtain ⟨hb1, hb2⟩ := bytesOf_none hno
       rw [hb1, hb2] at hfit htp
       have hS20 : St w0 K (fl [(pa d 1 (((D.room : Nat) : Int)) (((tot D.F : Nat) : Int)) m D.off (((D.writes + 1 : Nat) : Int)) (((D.armed - 1 : Nat) : Int)) D.keep D.lose), [(blk1, .cells #[.string s] 9 (0, 0))], [(blk2, .cells #[.slice none 0 0, .int .i64 0] 88 (0, 0))], sm, []]) w13 := St.re hS19 (by simp)
       refine s_appendG (i := 4) rfl rfl rfl rfl ⟨_, _, rfl, Try.underlying22⟩ Try.underlying22 ti5 (by omega) (by omega) (.t rfl rfl) (.t rfl rfl) rfl Gr.nil hS20 (by first | rfl | assumption | omega | (simp; done) | (simp; omega)) hx1 (oB.has hS20) rfl (by (try simp only [List.length_append, List.length_take, List.length_nil]); omega) fun ga1 gc1 sg1 w14 hG1 hS21 => ?_
       have hS22 : St w0 K (fl [(pa d 1 (((D.room : Nat) : Int)) (((tot D.F : Nat) : Int)) m D.off (((D.writes + 1 : Nat) : Int)) (((D.armed - 1 : Nat) : Int)) D.keep D.lose), [(blk1, .cells #[.string s] 9 (0, 0))], [(blk2, .cells #[.slice none 0 0, .int .i64 0] 88 (0, 0))], sm, sg1]) w14 := hS21
       rw [List.nil_append] at hG1
       refine s_val hS22 rfl rfl (r_fieldN rfl Try.underlying88 rfl ti22 (by decide) (.t rfl rfl) (qq := 0) rfl) ?_
       refine s_storeB (m := 2) rfl rfl rfl one22 (.t rfl rfl) (.t rfl rfl) rfl hS22 rfl rfl (c' := #[.slice ga1 (0 + (B.take (min D.keep.toNat B.length)).length) gc1, .int .i64 0]) rfl (h' := (fl [(pa d 1 (((D.room : Nat) : Int)) (((tot D.F : Nat) : Int)) m D.off (((D.writes + 1 : Nat) : Int)) (((D.armed - 1 : Nat) : Int)) D.keep D.lose), [(blk1, .cells #[.string s] 9 (0, 0))], [(blk2, .cells #[.slice ga1 (0 + (B.take (min D.keep.toNat B.length)).length) gc1, .int .i64 0] 88 (0, 0))], sm, sg1])) rfl fun w15 hS23 hB3 => ?_
       refine wpList_nil ?_
       refine x_tn ?_
       refine k_reb [(0, .pointer (some ⟨d, 0, none⟩)), (1, .string s), (2, .slice aB ((B.take (min D.keep.toNat B.length)).length) cB), (6, .int .i64 0), (8, .pointer (some ⟨blk2, 0, none⟩)), (10, .bool true)] ⟨rfl, rfl, rfl, rfl, rfl, rfl, trivial⟩ fun G22 => ?_
       refine wp_seq ?_
       refine k_reg ?_
       refine s_val hS23 rfl rfl (r_move rfl (.t rfl rfl)) ?_
       refine s_val hS23 rfl rfl (r_nilCheck rfl (.t rfl rfl)) ?_
       refine s_val hS23 rfl rfl (r_fieldN rfl Try.underlying86 rfl ti3 (by decide) (.t rfl rfl) (qq := 3) rfl) ?_
       refine s_val hS23 rfl rfl (r_load rfl one3 (.t rfl rfl) (St.cell_own (m := 0) rfl rfl)) ?_
       refine s_val hS23 rfl rfl (r_move rfl (.t rfl rfl)) ?_
       refine s_val hS23 rfl rfl (r_len rfl rfl Try.underlying22 (.t rfl rfl)) ?_
       refine s_val hS23 rfl rfl (r_arith rfl rfl (.t rfl rfl) (.t rfl rfl) (c := ((tot (putF D.F s ([] ++ (B.take (min D.keep.toNat B.length))) 0) : Nat) : Int)) (wn_i64 (by show ((_ : Nat) : Int) + ((_ : Nat) : Int) = _; rw [htp]; (try simp only [List.length_take]); omega) (by omega))) ?_
       refine s_val hS23 rfl rfl (r_nilCheck rfl (.t rfl rfl)) ?_
       refine s_val hS23 rfl rfl (r_fieldN rfl Try.underlying86 rfl ti3 (by decide) (.t rfl rfl) (qq := 3) rfl) ?_
       refine s_storeB (m := 0) rfl rfl rfl one3 (.t rfl rfl) (.t rfl rfl) rfl hS23 rfl rfl (c' := #[.int .i32 1, .int .u32 0, .int .i64 (((D.room : Nat) : Int)), .int .i64 (((tot (putF D.F s ([] ++ (B.take (min D.keep.toNat B.length))) 0) : Nat) : Int)), .map (some m), .bool D.off, .int .i64 (((D.writes + 1 : Nat) : Int)), .int .i64 (((D.armed - 1 : Nat) : Int)), .int .i64 D.keep, .int .i64 D.lose]) rfl (h' := (fl [(pa d 1 (((D.room : Nat) : Int)) (((tot (putF D.F s ([] ++ (B.take (min D.keep.toNat B.length))) 0) : Nat) : Int)) m D.off (((D.writes + 1 : Nat) : Int)) (((D.armed - 1 : Nat) : Int)) D.keep D.lose), [(blk1, .cells #[.string s] 9 (0, 0))], [(blk2, .cells #[.slice ga1 (0 + (B.take (min D.keep.toNat B.length)).length) gc1, .int .i64 0] 88 (0, 0))], sm, sg1])) rfl fun w16 hS24 hB4 => ?_
       refine wpList_nil ?_
       refine x_tn ?_
       refine k_reb [(0, .pointer (some ⟨d, 0, none⟩)), (1, .string s), (6, .int .i64 0), (8, .pointer (some ⟨blk2, 0, none⟩)), (10, .bool true)] ⟨rfl, rfl, rfl, rfl, rfl, trivial⟩ fun G23 => ?_
       refine k_regt 6 mixed (by kernel_rfl) hS24 fun w17 hS25 hB5 => ?_
       refine t_val hS25 rfl rfl (r_move rfl (.t rfl rfl)) ?_
       refine t_val hS25 rfl rfl (r_nilCheck rfl (.t rfl rfl)) ?_
       refine t_val hS25 rfl rfl (r_fieldN rfl Try.underlying86 rfl ti84 (by decide) (.t rfl rfl) (qq := 4) rfl) ?_
       refine t_val hS25 rfl rfl (r_load rfl one84 (.t rfl rfl) (St.cell_own (m := 0) rfl rfl)) ?_
       refine t_val hS25 rfl rfl (r_move rfl (.t rfl rfl)) ?_
       refine t_val hS25 rfl rfl (r_loadA rfl agg88 ti88 rfl (.t rfl rfl) (St.block (m := 2) rfl)) ?_
       refine t_nil ?_
       refine s_put (B := ((B.take (min D.keep.toNat B.length)))) (k := 0) (i := 3) (j := 4) rfl rfl rfl Try.underlying84 Try.underlying9 (.t rfl rfl) (.t rfl rfl) (by first | exact (.t rfl rfl) | (rw [show 0 + (B.take (min D.keep.toNat B.length)).length = ((B.take (min D.keep.toNat B.length))).length from by first | omega | (simp; done) | (simp; omega)]; exact (.t rfl rfl))) hM.absent hG1 hS25 rfl rfl rfl fun sm1 w18 hM1 hS26 => ?_
       have hS27 : St w0 K (fl [(pa d 1 (((D.room : Nat) : Int)) (((tot (putF D.F s ([] ++ (B.take (min D.keep.toNat B.length))) 0) : Nat) : Int)) m D.off (((D.writes + 1 : Nat) : Int)) (((D.armed - 1 : Nat) : Int)) D.keep D.lose), [(blk1, .cells #[.string s] 9 (0, 0))], [(blk2, .cells #[.slice ga1 (0 + (B.take (min D.keep.toNat B.length)).length) gc1, .int .i64 0] 88 (0, 0))], sm1]) w18 := St.pick (L := [(pa d 1 (((D.room : Nat) : Int)) (((tot (putF D.F s ([] ++ (B.take (min D.keep.toNat B.length))) 0) : Nat) : Int)) m D.off (((D.writes + 1 : Nat) : Int)) (((D.armed - 1 : Nat) : Int)) D.keep D.lose), [(blk1, .cells #[.string s] 9 (0, 0))], [(blk2, .cells #[.slice ga1 (0 + (B.take (min D.keep.toNat B.length)).length) gc1, .int .i64 0] 88 (0, 0))], sm1, []]) [0, 1, 2, 3] hS26 rfl (by decide)
       refine wpList_nil ?_
       refine x_tn ?_
       refine k_reb [(0, .pointer (some ⟨d, 0, none⟩)), (6, .int .i64 0), (10, .bool true)] ⟨rfl, rfl, rfl, trivial⟩ fun G24 => ?_
       refine wp_seq ?_
       refine wp_seq ?_
       refine k_reg ?_
       refine s_val hS27 rfl rfl (r_move rfl (.t rfl rfl)) ?_
       refine wpList_nil ?_
       refine x_tn ?_
       refine k_reb [(0, .pointer (some ⟨d, 0, none⟩)), (6, .int .i64 0), (103, .bool true)] ⟨rfl, rfl, rfl, trivial⟩ fun G25 => ?_
       refine k_t (.t rfl rfl) ?_
       refine wp_seq ?_
       refine k_reg ?_
       refine s_val hS27 rfl rfl (r_move rfl (.t rfl rfl)) ?_
       refine s_call rfl rfl rfl (vs := [.pointer (some ⟨d, 0, none⟩)]) ⟨(.t rfl rfl), trivial⟩ cb56 (gone_ok w18 _ d m ({ D with writes := D.writes + 1, armed := D.armed - 1, F := (putF D.F s ((B.take (min D.keep.toNat B.length))) 0) }) (ok.put hfit (by omega)) sm1 hM1 (hS27.give (xs := [(pa d 1 (((D.room : Nat) : Int)) (((tot (putF D.F s ([] ++ (B.take (min D.keep.toNat B.length))) 0) : Nat) : Int)) m D.off (((D.writes + 1 : Nat) : Int)) (((D.armed - 1 : Nat) : Int)) D.keep D.lose), sm1]) [0, 3] rfl (by decide))) ?_
       rintro _ w19 ⟨sm2, rfl, hM2, ht4⟩
       have hS28 : St w0 K (fl [(pa d 1 (((D.room : Nat) : Int)) (((tot (goneF D.lose (putF D.F s ((B.take (min D.keep.toNat B.length))) 0)) : Nat) : Int)) m true (((D.writes + 1 : Nat) : Int)) (((D.armed - 1 : Nat) : Int)) D.keep D.lose), [(blk1, .cells #[.string s] 9 (0, 0))], [(blk2, .cells #[.slice ga1 (0 + (B.take (min D.keep.toNat B.length)).length) gc1, .int .i64 0] 88 (0, 0))], sm2]) w19 := hS27.callL (xs := [(pa d 1 (((D.room : Nat) : Int)) (((tot (putF D.F s ([] ++ (B.take (min D.keep.toNat B.length))) 0) : Nat) : Int)) m D.off (((D.writes + 1 : Nat) : Int)) (((D.armed - 1 : Nat) : Int)) D.keep D.lose), sm1]) (xs' := [(pa d 1 (((D.room : Nat) : Int)) (((tot (goneF D.lose (putF D.F s ((B.take (min D.keep.toNat B.length))) 0)) : Nat) : Int)) m true (((D.writes + 1 : Nat) : Int)) (((D.armed - 1 : Nat) : Int)) D.keep D.lose), sm2]) (zs := []) [0, 3] rfl (by decide) ht4 rfl rfl
       refine s_val hS28 rfl rfl (r_assign rfl (.t rfl rfl)) ?_
       refine wpList_nil ?_
       refine x_tn ?_
       refine k_reb [(6, .int .i64 104)] ⟨rfl, trivial⟩ fun G26 => ?_
       refine wp_ret ?_
       refine x_tr ?_
       refine l_unlock (m := 0) muLib cb43 hS28 rfl rfl (c' := #[.int .i32 0, .int .u32 0, .int .i64 (((D.room : Nat) : Int)), .int .i64 (((tot (goneF D.lose (putF D.F s ((B.take (min D.keep.toNat B.length))) 0)) : Nat) : Int)), .map (some m), .bool true, .int .i64 (((D.writes + 1 : Nat) : Int)), .int .i64 (((D.armed - 1 : Nat) : Int)), .int .i64 D.keep, .int .i64 D.lose]) rfl (h' := (fl [(pa d 0 (((D.room : Nat) : Int)) (((tot (goneF D.lose (putF D.F s ((B.take (min D.keep.toNat B.length))) 0)) : Nat) : Int)) m true (((D.writes + 1 : Nat) : Int)) (((D.armed - 1 : Nat) : Int)) D.keep D.lose), [(blk1, .cells #[.string s] 9 (0, 0))], [(blk2, .cells #[.slice ga1 (0 + (B.take (min D.keep.toNat B.length)).length) gc1, .int .i64 0] 88 (0, 0))], sm2])) rfl (fun _ => tells1 rfl rfl rfl) fun w20 hS29 => ?_
       refine ⟨_, rfl, ?_⟩
       have hS30 : St w0 K (fl [(pa d 0 (((D.room : Nat) : Int)) (((tot (goneF D.lose (putF D.F s ((B.take (min D.keep.toNat B.length))) 0)) : Nat) : Int)) m true (((D.writes + 1 : Nat) : Int)) (((D.armed - 1 : Nat) : Int)) D.keep D.lose), sm2]) w20 := hS29.pick [0, 3] rfl (by decide)
       rw [append_torn hoff hnm hful hT (by right; exact hK)]
       rw [hb1, hb2]
       exact ⟨_, rfl, hM2, hS30⟩
      ·
       refine s_valg hS19 (wanted_of (j := 5) (b := false) (d := 76) rfl rfl rfl rfl) rfl (r_cmp_f rfl rfl (.t rfl rfl) .c (show ¬ (D.keep > 0) from by omega)) ?_
       refine s_val hS19 rfl rfl (r_pick rfl (.t rfl rfl) (.t rfl rfl)) ?_
       refine wpList_nil ?_
       refine x_tn ?_
       refine k_reb [(0, .pointer (some ⟨d, 0, none⟩)), (1, .string s), (2, .slice aB ((B.take (min D.keep.toNat B.length)).length) cB), (6, .int .i64 0), (8, .pointer (some ⟨blk2, 0, none⟩)), (10, .bool true), (82, .bool false)] ⟨rfl, rfl, rfl, rfl, rfl, rfl, rfl, trivial⟩ fun G27 => ?_
       refine k_f (.t rfl rfl) ?_
       refine wp_skip ?_
       refine x_tn ?_
       refine k_reb [(0, .pointer (some ⟨d, 0, none⟩)), (6, .int .i64 0), (10, .bool true)] ⟨rfl, rfl, rfl, trivial⟩ fun G28 => ?_
       refine wp_seq ?_
       refine wp_seq ?_
       refine k_reg ?_
       refine s_val hS19 rfl rfl (r_move rfl (.t rfl rfl)) ?_
       refine wpList_nil ?_
       refine x_tn ?_
       refine k_reb [(0, .pointer (some ⟨d, 0, none⟩)), (6, .int .i64 0), (103, .bool true)] ⟨rfl, rfl, rfl, trivial⟩ fun G29 => ?_
       refine k_t (.t rfl rfl) ?_
       refine wp_seq ?_
       refine k_reg ?_
       refine s_val hS19 rfl rfl (r_move rfl (.t rfl rfl)) ?_
       refine s_call rfl rfl rfl (vs := [.pointer (some ⟨d, 0, none⟩)]) ⟨(.t rfl rfl), trivial⟩ cb56 (gone_ok w13 _ d m ({ D with writes := D.writes + 1, armed := D.armed - 1, F := D.F }) (ok.put ok.fit (by omega)) sm hM (hS19.give (xs := [(pa d 1 (((D.room : Nat) : Int)) (((tot D.F : Nat) : Int)) m D.off (((D.writes + 1 : Nat) : Int)) (((D.armed - 1 : Nat) : Int)) D.keep D.lose), sm]) [0, 3] rfl (by decide))) ?_
       rintro _ w21 ⟨sm3, rfl, hM3, ht5⟩
       have hS31 : St w0 K (fl [(pa d 1 (((D.room : Nat) : Int)) (((tot (goneF D.lose D.F) : Nat) : Int)) m true (((D.writes + 1 : Nat) : Int)) (((D.armed - 1 : Nat) : Int)) D.keep D.lose), [(blk1, .cells #[.string s] 9 (0, 0))], [(blk2, .cells #[.slice none 0 0, .int .i64 0] 88 (0, 0))], sm3]) w21 := hS19.callL (xs := [(pa d 1 (((D.room : Nat) : Int)) (((tot D.F : Nat) : Int)) m D.off (((D.writes + 1 : Nat) : Int)) (((D.armed - 1 : Nat) : Int)) D.keep D.lose), sm]) (xs' := [(pa d 1 (((D.room : Nat) : Int)) (((tot (goneF D.lose D.F) : Nat) : Int)) m true (((D.writes + 1 : Nat) : Int)) (((D.armed - 1 : Nat) : Int)) D.keep D.lose), sm3]) (zs := []) [0, 3] rfl (by decide) ht5 rfl rfl
       refine s_val hS31 rfl rfl (r_assign rfl (.t rfl rfl)) ?_
       refine wpList_nil ?_
       refine x_tn ?_
       refine k_reb [(6, .int .i64 104)] ⟨rfl, trivial⟩ fun G30 => ?_
       refine wp_ret ?_
       refine x_tr ?_
       refine l_unlock (m := 0) muLib cb43 hS31 rfl rfl (c' := #[.int .i32 0, .int .u32 0, .int .i64 (((D.room : Nat) : Int)), .int .i64 (((tot (goneF D.lose D.F) : Nat) : Int)), .map (some m), .bool true, .int .i64 (((D.writes + 1 : Nat) : Int)), .int .i64 (((D.armed - 1 : Nat) : Int)), .int .i64 D.keep, .int .i64 D.lose]) rfl (h' := (fl [(pa d 0 (((D.room : Nat) : Int)) (((tot (goneF D.lose D.F) : Nat) : Int)) m true (((D.writes + 1 : Nat) : Int)) (((D.armed - 1 : Nat) : Int)) D.keep D.lose), [(blk1, .cells #[.string s] 9 (0, 0))], [(blk2, .cells #[.slice none 0 0, .int .i64 0] 88 (0, 0))], sm3])) rfl (fun _ => tells1 rfl rfl rfl) fun w22 hS32 => ?_
       refine ⟨_, rfl, ?_⟩
       have hS33 : St w0 K (fl [(pa d 0 (((D.room : Nat) : Int)) (((tot (goneF D.lose D.F) : Nat) : Int)) m true (((D.writes + 1 : Nat) : Int)) (((D.armed - 1 : Nat) : Int)) D.keep D.lose), sm3]) w22 := hS32.pick [0, 3] rfl (by decide)
       rw [append_lost hoff hnm hful hT hno hK]
       exact ⟨_, rfl, hM3, hS33⟩
     ·
      refine s_asb (b' := false) (decide_eq_false hT) ?_
      refine s_val hS19 rfl rfl (r_assign rfl (.t rfl rfl)) ?_
      refine wpList_nil ?_
      refine x_tn ?_
      refine k_reb [(0, .pointer (some ⟨d, 0, none⟩)), (1, .string s), (2, .slice aB B.length cB), (6, .int .i64 0), (8, .pointer (some ⟨blk2, 0, none⟩)), (9, .bool false), (10, .bool false)] ⟨rfl, rfl, rfl, rfl, rfl, rfl, rfl, trivial⟩ fun G31 => ?_
      refine wp_seq ?_
      refine wp_seq ?_
      refine k_reg ?_
      refine s_val hS19 rfl rfl (r_move rfl (.t rfl rfl)) ?_
      refine wpList_nil ?_
      refine x_tn ?_
      refine k_f (.t rfl rfl) ?_
      refine wp_skip ?_
      refine x_tn ?_
      refine k_reb [(0, .pointer (some ⟨d, 0, none⟩)), (1, .string s), (2, .slice aB B.length cB), (6, .int .i64 0), (8, .pointer (some ⟨blk2, 0, none⟩)), (9, .bool false), (10, .bool false)] ⟨rfl, rfl, rfl, rfl, rfl, rfl, rfl, trivial⟩ fun G32 => ?_
      refine wp_seq ?_
      refine wp_seq ?_
      refine k_reg ?_
      refine s_val hS19 rfl rfl (r_move rfl (.t rfl rfl)) ?_
      refine s_val hS19 rfl rfl (r_move rfl (.t rfl rfl)) ?_
      refine s_valg hS19 (wanted_of (j := 1) (b := false) (d := 72) rfl rfl rfl rfl) rfl (r_move rfl (.t rfl rfl)) ?_
      refine s_valg hS19 (wanted_of (j := 1) (b := false) (d := 72) rfl rfl rfl rfl) rfl (r_lnot rfl (.t rfl rfl)) ?_
      refine s_val hS19 rfl rfl (r_pick rfl (.t rfl rfl) (.t rfl rfl)) ?_
      refine s_val hS19 rfl rfl (r_move rfl (.t rfl rfl)) ?_
      refine s_skip (unwanted_of (j := 5) (b := false) (b' := true) (d := 76) rfl rfl rfl rfl rfl) rfl ?_
      refine s_skip (unwanted_of (j := 5) (b := false) (b' := true) (d := 76) rfl rfl rfl rfl rfl) rfl ?_
      refine s_skip (unwanted_of (j := 5) (b := false) (b' := true) (d := 76) rfl rfl rfl rfl rfl) rfl ?_
      refine s_skip (unwanted_of (j := 5) (b := false) (b' := true) (d := 76) rfl rfl rfl rfl rfl) rfl ?_
      refine s_skip (unwanted_of (j := 5) (b := false) (b' := true) (d := 76) rfl rfl rfl rfl rfl) rfl ?_
      refine s_val hS19 rfl rfl (r_pick rfl (.t rfl rfl) .c) ?_
      refine wpList_nil ?_
      refine x_tn ?_
      refine k_reb [(0, .pointer (some ⟨d, 0, none⟩)), (1, .string s), (2, .slice aB B.length cB), (6, .int .i64 0), (8, .pointer (some ⟨blk2, 0, none⟩)), (10, .bool false), (82, .bool true)] ⟨rfl, rfl, rfl, rfl, rfl, rfl, rfl, trivial⟩ fun G33 => ?_
      refine k_t (.t rfl rfl) ?_
      refine wp_seq ?_
      refine k_reg ?_
      refine s_val hS19 rfl rfl (r_fieldN rfl Try.underlying88 rfl ti22 (by decide) (.t rfl rfl) (qq := 0) rfl) ?_
      refine s_val hS19 rfl rfl (r_load rfl one22 (.t rfl rfl) (St.cell_own (m := 2) rfl rfl)) ?_
      refine s_val hS19 rfl rfl (r_move rfl (.t rfl rfl)) ?_
      obtain ⟨hfit, htp⟩ := fits_append (B := B) ok hnm0 hnm hlen3 (by omega) (hB.fit)
      obtain ⟨hb1, hb2⟩ := bytesOf_none hno
      rw [hb1, hb2] at hfit htp
      have hS34 : St w0 K (fl [(pa d 1 (((D.room : Nat) : Int)) (((tot D.F : Nat) : Int)) m D.off (((D.writes + 1 : Nat) : Int)) (((D.armed - 1 : Nat) : Int)) D.keep D.lose), [(blk1, .cells #[.string s] 9 (0, 0))], [(blk2, .cells #[.slice none 0 0, .int .i64 0] 88 (0, 0))], sm, []]) w13 := St.re hS19 (by simp)
      refine s_appendG (i := 4) rfl rfl rfl rfl ⟨_, _, rfl, Try.underlying22⟩ Try.underlying22 ti5 (by omega) (by omega) (.t rfl rfl) (.t rfl rfl) rfl Gr.nil hS34 (by first | rfl | assumption | omega | (simp; done) | (simp; omega)) hB (oB.has hS34) rfl (by (try simp only [List.length_append, List.length_take, List.length_nil]); omega) fun ga2 gc2 sg2 w23 hG2 hS35 => ?_
      have hS36 : St w0 K (fl [(pa d 1 (((D.room : Nat) : Int)) (((tot D.F : Nat) : Int)) m D.off (((D.writes + 1 : Nat) : Int)) (((D.armed - 1 : Nat) : Int)) D.keep D.lose), [(blk1, .cells #[.string s] 9 (0, 0))], [(blk2, .cells #[.slice none 0 0, .int .i64 0] 88 (0, 0))], sm, sg2]) w23 := hS35
      rw [List.nil_append] at hG2
      refine s_val hS36 rfl rfl (r_fieldN rfl Try.underlying88 rfl ti22 (by decide) (.t rfl rfl) (qq := 0) rfl) ?_
      refine s_storeB (m := 2) rfl rfl rfl one22 (.t rfl rfl) (.t rfl rfl) rfl hS36 rfl rfl (c' := #[.slice ga2 (0 + B.length) gc2, .int .i64 0]) rfl (h' := (fl [(pa d 1 (((D.room : Nat) : Int)) (((tot D.F : Nat) : Int)) m D.off (((D.writes + 1 : Nat) : Int)) (((D.armed - 1 : Nat) : Int)) D.keep D.lose), [(blk1, .cells #[.string s] 9 (0, 0))], [(blk2, .cells #[.slice ga2 (0 + B.length) gc2, .int .i64 0] 88 (0, 0))], sm, sg2])) rfl fun w24 hS37 hB6 => ?_
      refine wpList_nil ?_
      refine x_tn ?_
      refine k_reb [(0, .pointer (some ⟨d, 0, none⟩)), (1, .string s), (2, .slice aB B.length cB), (6, .int .i64 0), (8, .pointer (some ⟨blk2, 0, none⟩)), (10, .bool false)] ⟨rfl, rfl, rfl, rfl, rfl, rfl, trivial⟩ fun G34 => ?_
      refine wp_seq ?_
      refine k_reg ?_
      refine s_val hS37 rfl rfl (r_move rfl (.t rfl rfl)) ?_
      refine s_val hS37 rfl rfl (r_nilCheck rfl (.t rfl rfl)) ?_
      refine s_val hS37 rfl rfl (r_fieldN rfl Try.underlying86 rfl ti3 (by decide) (.t rfl rfl) (qq := 3) rfl) ?_
      refine s_val hS37 rfl rfl (r_load rfl one3 (.t rfl rfl) (St.cell_own (m := 0) rfl rfl)) ?_
      refine s_val hS37 rfl rfl (r_move rfl (.t rfl rfl)) ?_
      refine s_val hS37 rfl rfl (r_len rfl rfl Try.underlying22 (.t rfl rfl)) ?_
      refine s_val hS37 rfl rfl (r_arith rfl rfl (.t rfl rfl) (.t rfl rfl) (c := ((tot (putF D.F s ([] ++ B) 0) : Nat) : Int)) (wn_i64 (by show ((_ : Nat) : Int) + ((_ : Nat) : Int) = _; rw [htp]; (try simp only [List.length_take]); omega) (by omega))) ?_
      refine s_val hS37 rfl rfl (r_nilCheck rfl (.t rfl rfl)) ?_
      refine s_val hS37 rfl rfl (r_fieldN rfl Try.underlying86 rfl ti3 (by decide) (.t rfl rfl) (qq := 3) rfl) ?_
      refine s_storeB (m := 0) rfl rfl rfl one3 (.t rfl rfl) (.t rfl rfl) rfl hS37 rfl rfl (c' := #[.int .i32 1, .int .u32 0, .int .i64 (((D.room : Nat) : Int)), .int .i64 (((tot (putF D.F s ([] ++ B) 0) : Nat) : Int)), .map (some m), .bool D.off, .int .i64 (((D.writes + 1 : Nat) : Int)), .int .i64 (((D.armed - 1 : Nat) : Int)), .int .i64 D.keep, .int .i64 D.lose]) rfl (h' := (fl [(pa d 1 (((D.room : Nat) : Int)) (((tot (putF D.F s ([] ++ B) 0) : Nat) : Int)) m D.off (((D.writes + 1 : Nat) : Int)) (((D.armed - 1 : Nat) : Int)) D.keep D.lose), [(blk1, .cells #[.string s] 9 (0, 0))], [(blk2, .cells #[.slice ga2 (0 + B.length) gc2, .int .i64 0] 88 (0, 0))], sm, sg2])) rfl fun w25 hS38 hB7 => ?_
      refine wpList_nil ?_
      refine x_tn ?_
      refine k_reb [(0, .pointer (some ⟨d, 0, none⟩)), (1, .string s), (6, .int .i64 0), (8, .pointer (some ⟨blk2, 0, none⟩)), (10, .bool false)] ⟨rfl, rfl, rfl, rfl, rfl, trivial⟩ fun G35 => ?_
      refine k_regt 6 mixed (by kernel_rfl) hS38 fun w26 hS39 hB8 => ?_
      refine t_val hS39 rfl rfl (r_move rfl (.t rfl rfl)) ?_
      refine t_val hS39 rfl rfl (r_nilCheck rfl (.t rfl rfl)) ?_
      refine t_val hS39 rfl rfl (r_fieldN rfl Try.underlying86 rfl ti84 (by decide) (.t rfl rfl) (qq := 4) rfl) ?_
      refine t_val hS39 rfl rfl (r_load rfl one84 (.t rfl rfl) (St.cell_own (m := 0) rfl rfl)) ?_
      refine t_val hS39 rfl rfl (r_move rfl (.t rfl rfl)) ?_
      refine t_val hS39 rfl rfl (r_loadA rfl agg88 ti88 rfl (.t rfl rfl) (St.block (m := 2) rfl)) ?_
      refine t_nil ?_
      refine s_put (B := B) (k := 0) (i := 3) (j := 4) rfl rfl rfl Try.underlying84 Try.underlying9 (.t rfl rfl) (.t rfl rfl) (by first | exact (.t rfl rfl) | (rw [show 0 + B.length = B.length from by first | omega | (simp; done) | (simp; omega)]; exact (.t rfl rfl))) hM.absent hG2 hS39 rfl rfl rfl fun sm4 w27 hM4 hS40 => ?_
      have hS41 : St w0 K (fl [(pa d 1 (((D.room : Nat) : Int)) (((tot (putF D.F s ([] ++ B) 0) : Nat) : Int)) m D.off (((D.writes + 1 : Nat) : Int)) (((D.armed - 1 : Nat) : Int)) D.keep D.lose), [(blk1, .cells #[.string s] 9 (0, 0))], [(blk2, .cells #[.slice ga2 (0 + B.length) gc2, .int .i64 0] 88 (0, 0))], sm4]) w27 := St.pick (L := [(pa d 1 (((D.room : Nat) : Int)) (((tot (putF D.F s ([] ++ B) 0) : Nat) : Int)) m D.off (((D.writes + 1 : Nat) : Int)) (((D.armed - 1 : Nat) : Int)) D.keep D.lose), [(blk1, .cells #[.string s] 9 (0, 0))], [(blk2, .cells #[.slice ga2 (0 + B.length) gc2, .int .i64 0] 88 (0, 0))], sm4, []]) [0, 1, 2, 3] hS40 rfl (by decide)
      refine wpList_nil ?_
      refine x_tn ?_
      refine k_reb [(0, .pointer (some ⟨d, 0, none⟩)), (6, .int .i64 0), (10, .bool false)] ⟨rfl, rfl, rfl, trivial⟩ fun G36 => ?_
      refine wp_seq ?_
      refine wp_seq ?_
      refine k_reg ?_
      refine s_val hS41 rfl rfl (r_move rfl (.t rfl rfl)) ?_
      refine wpList_nil ?_
      refine x_tn ?_
      refine k_reb [(0, .pointer (some ⟨d, 0, none⟩)), (6, .int .i64 0), (103, .bool false)] ⟨rfl, rfl, rfl, trivial⟩ fun G37 => ?_
      refine k_f (.t rfl rfl) ?_
      refine wp_skip ?_
      refine x_tn ?_
      refine k_reb [(6, .int .i64 0)] ⟨rfl, trivial⟩ fun G38 => ?_
      refine wp_seq ?_
      refine k_reg ?_
      refine s_val hS41 rfl rfl (r_assign rfl .c) ?_
      refine wpList_nil ?_
      refine x_tn ?_
      refine wp_ret ?_
      refine l_unlock (m := 0) muLib cb43 hS41 rfl rfl (c' := #[.int .i32 0, .int .u32 0, .int .i64 (((D.room : Nat) : Int)), .int .i64 (((tot (putF D.F s ([] ++ B) 0) : Nat) : Int)), .map (some m), .bool D.off, .int .i64 (((D.writes + 1 : Nat) : Int)), .int .i64 (((D.armed - 1 : Nat) : Int)), .int .i64 D.keep, .int .i64 D.lose]) rfl (h' := (fl [(pa d 0 (((D.room : Nat) : Int)) (((tot (putF D.F s ([] ++ B) 0) : Nat) : Int)) m D.off (((D.writes + 1 : Nat) : Int)) (((D.armed - 1 : Nat) : Int)) D.keep D.lose), [(blk1, .cells #[.string s] 9 (0, 0))], [(blk2, .cells #[.slice ga2 (0 + B.length) gc2, .int .i64 0] 88 (0, 0))], sm4])) rfl (fun _ => tells1 rfl rfl rfl) fun w28 hS42 => ?_
      refine ⟨_, rfl, ?_⟩
      have hS43 : St w0 K (fl [(pa d 0 (((D.room : Nat) : Int)) (((tot (putF D.F s ([] ++ B) 0) : Nat) : Int)) m D.off (((D.writes + 1 : Nat) : Int)) (((D.armed - 1 : Nat) : Int)) D.keep D.lose), sm4]) w28 := hS42.pick [0, 3] rfl (by decide)
      rw [append_on hoff hnm hful hT]
      rw [hb1, hb2]
      exact ⟨_, rfl, hM4, hS43⟩
  ·
   have hlk := hA1.1
   obtain ⟨hf1, hf2, hf3, hf4⟩ := ok.file hA1.1
   have hx2 := hA1.sl (by omega) (by assumption)
   refine s_val hS4 rfl rfl (r_look_at rfl Try.underlying84 Try.underlying9 (.t rfl rfl) (.t rfl rfl) hA1 (fun _ s_ => s_.has (i := 2) rfl)) ?_
   refine s_val hS4 rfl rfl (r_move rfl (.t rfl rfl)) ?_
   refine s_val hS4 rfl rfl (r_extract rfl (.t rfl rfl) rfl) ?_
   refine s_val hS4 rfl rfl (r_extract rfl (.t rfl rfl) rfl) ?_
   refine s_alloc rfl rfl rfl ti88 (cs := #[.slice none 0 0, .int .i64 0]) rfl hS4 fun blk3 w29 hb3 hB9 hS44 => ?_
   have hS45 : St w0 K (fl [(pk1 d m D), [(blk1, .cells #[.string s] 9 (0, 0))], [(blk3, .cells #[.slice none 0 0, .int .i64 0] 88 (0, 0))], sm]) w29 := hS44.push 2 rfl
   refine s_storeA (m := 2) rfl rfl rfl ti88 (.t rfl rfl) (vs := [.slice fa1 f.bytes.length fc1, .int .i64 (((f.sure : Nat) : Int))]) (.t rfl rfl) rfl rfl hS45 rfl (show 2 ≤ 2 from by decide) (c' := #[.slice fa1 f.bytes.length fc1, .int .i64 (((f.sure : Nat) : Int))]) rfl (h' := (fl [(pk1 d m D), [(blk1, .cells #[.string s] 9 (0, 0))], [(blk3, .cells #[.slice fa1 f.bytes.length fc1, .int .i64 (((f.sure : Nat) : Int))] 88 (0, 0))], sm])) rfl fun w30 hS46 => ?_
   refine s_val hS46 rfl rfl (r_assign rfl (.t rfl rfl)) ?_
   refine wpList_nil ?_
   refine x_tn ?_
   refine k_reb [(0, .pointer (some ⟨d, 0, none⟩)), (1, .string s), (2, .slice aB B.length cB), (6, .int .i64 0), (8, .pointer (some ⟨blk3, 0, none⟩)), (9, .bool true)] ⟨rfl, rfl, rfl, rfl, rfl, rfl, trivial⟩ fun G39 => ?_
   refine wp_seq ?_
   refine wp_seq ?_
   refine k_regq mixed (by kernel_rfl) hS46 ?_
   refine q_val rfl rfl (r_move rfl (.t rfl rfl)) ?_
   refine q_val rfl rfl (r_lnot rfl (.t rfl rfl)) ?_
   refine q_val rfl rfl (r_move rfl (.t rfl rfl)) ?_
   refine q_skip (unwanted_of (j := 2) (b := true) (b' := false) (d := 36) rfl rfl rfl rfl rfl) rfl ?_
   refine q_skip (unwanted_of (j := 2) (b := true) (b' := false) (d := 36) rfl rfl rfl rfl rfl) rfl ?_
   refine q_skip (unwanted_of (j := 2) (b := true) (b' := false) (d := 36) rfl rfl rfl rfl rfl) rfl ?_
   refine q_skip (unwanted_of (j := 2) (b := true) (b' := false) (d := 36) rfl rfl rfl rfl rfl) rfl ?_
   refine q_skip (unwanted_of (j := 2) (b := true) (b' := false) (d := 36) rfl rfl rfl rfl rfl) rfl ?_
   refine q_skip (unwanted_of (j := 2) (b := true) (b' := false) (d := 36) rfl rfl rfl rfl rfl) rfl ?_
   refine q_val rfl rfl (r_pick rfl (.t rfl rfl) .c) ?_
   refine q_val rfl rfl (r_move rfl (.t rfl rfl)) ?_
   refine q_valg (wanted_of (j := 10) (b := false) (d := 44) rfl rfl rfl rfl) rfl (r_move rfl (.t rfl rfl)) ?_
   refine q_valg (wanted_of (j := 10) (b := false) (d := 44) rfl rfl rfl rfl) rfl (r_len rfl rfl Try.underlying22 (.t rfl rfl)) ?_
   refine q_valg (wanted_of (j := 10) (b := false) (d := 44) rfl rfl rfl rfl) rfl (r_move rfl (.t rfl rfl)) ?_
   refine q_valg (wanted_of (j := 10) (b := false) (d := 44) rfl rfl rfl rfl) rfl (r_nilCheck rfl (.t rfl rfl)) ?_
   refine q_valg (wanted_of (j := 10) (b := false) (d := 44) rfl rfl rfl rfl) rfl (r_fieldN rfl Try.underlying86 rfl ti3 (by decide) (.t rfl rfl) (qq := 2) rfl) ?_
   refine q_valg (wanted_of (j := 10) (b := false) (d := 44) rfl rfl rfl rfl) rfl (r_load rfl one3 (.t rfl rfl) (St.cell_own (m := 0) rfl rfl)) ?_
   refine q_valg (wanted_of (j := 10) (b := false) (d := 44) rfl rfl rfl rfl) rfl (r_move rfl (.t rfl rfl)) ?_
   refine q_valg (wanted_of (j := 10) (b := false) (d := 44) rfl rfl rfl rfl) rfl (r_nilCheck rfl (.t rfl rfl)) ?_
   refine q_valg (wanted_of (j := 10) (b := false) (d := 44) rfl rfl rfl rfl) rfl (r_fieldN rfl Try.underlying86 rfl ti3 (by decide) (.t rfl rfl) (qq := 3) rfl) ?_
   refine q_valg (wanted_of (j := 10) (b := false) (d := 44) rfl rfl rfl rfl) rfl (r_load rfl one3 (.t rfl rfl) (St.cell_own (m := 0) rfl rfl)) ?_
   refine q_valg (wanted_of (j := 10) (b := false) (d := 44) rfl rfl rfl rfl) rfl (r_arith rfl rfl (.t rfl rfl) (.t rfl rfl) (c := ((D.room - (tot D.F) : Nat) : Int)) (wn_i64 (by show (((D.room : Nat) : Int) : Int) - ((tot D.F : Nat) : Int) = _; omega) (by omega))) ?_
   by_cases cF : B.length > D.room - (tot D.F)
   ·
    refine q_valg (wanted_of (j := 10) (b := false) (d := 44) rfl rfl rfl rfl) rfl (r_cmp_t rfl rfl (.t rfl rfl) (.t rfl rfl) (show ((B.length : Nat) : Int) > ((D.room - (tot D.F) : Nat) : Int) from by omega)) ?_
    refine q_val rfl rfl (r_pick rfl (.t rfl rfl) (.t rfl rfl)) ?_
    refine q_nil ?_
    intro w31 hS47
    refine x_tn ?_
    refine k_reb [(0, .pointer (some ⟨d, 0, none⟩)), (1, .string s), (2, .slice aB B.length cB), (6, .int .i64 0), (8, .pointer (some ⟨blk3, 0, none⟩)), (9, .bool true), (57, .bool true)] ⟨rfl, rfl, rfl, rfl, rfl, rfl, rfl, trivial⟩ fun G40 => ?_
    refine k_t (.t rfl rfl) ?_
    refine wp_seq ?_
    refine k_reg ?_
    refine s_val hS47 rfl rfl (r_assign rfl .c) ?_
    refine wpList_nil ?_
    refine x_tn ?_
    refine k_reb [(0, .pointer (some ⟨d, 0, none⟩)), (1, .string s), (2, .slice aB B.length cB), (6, .int .i64 103), (8, .pointer (some ⟨blk3, 0, none⟩)), (9, .bool true)] ⟨rfl, rfl, rfl, rfl, rfl, rfl, trivial⟩ fun G41 => ?_
    refine wp_ret ?_
    refine x_tr ?_
    refine l_unlock (m := 0) muLib cb43 hS47 rfl rfl (c' := #[.int .i32 0, .int .u32 0, .int .i64 (((D.room : Nat) : Int)), .int .i64 (((tot D.F : Nat) : Int)), .map (some m), .bool D.off, .int .i64 (((D.writes : Nat) : Int)), .int .i64 (((D.armed : Nat) : Int)), .int .i64 D.keep, .int .i64 D.lose]) rfl (h' := (fl [(pk d m D), [(blk1, .cells #[.string s] 9 (0, 0))], [(blk3, .cells #[.slice fa1 f.bytes.length fc1, .int .i64 (((f.sure : Nat) : Int))] 88 (0, 0))], sm])) rfl (fun _ => tells1 rfl rfl rfl) fun w32 hS48 => ?_
    refine ⟨_, rfl, ?_⟩
    have hS49 : St w0 K (fl [(pk d m D), sm]) w32 := hS48.pick [0, 3] rfl (by decide)
    rw [append_full hoff hnm (by right; omega)]
    exact ⟨_, rfl, hM, hS49⟩
   ·
    have hlen3 : lookF D.F s = none → D.F.length < 256 := fun q => by first | (rw [hlk] at q; cases q) | omega
    have hful : ¬ (((lookF D.F s).isNone = true ∧ 256 ≤ D.F.length) ∨ D.room - tot D.F < B.length) := by
     first | (rw [hlk]; simp; omega) | (rw [hno]; simp; omega)
    refine q_valg (wanted_of (j := 10) (b := false) (d := 44) rfl rfl rfl rfl) rfl (r_cmp_f rfl rfl (.t rfl rfl) (.t rfl rfl) (show ¬ (((B.length : Nat) : Int) > ((D.room - (tot D.F) : Nat) : Int)) from by omega)) ?_
    refine q_val rfl rfl (r_pick rfl (.t rfl rfl) (.t rfl rfl)) ?_
    refine q_nil ?_
    intro w33 hS50
    refine x_tn ?_
    refine k_reb [(0, .pointer (some ⟨d, 0, none⟩)), (1, .string s), (2, .slice aB B.length cB), (6, .int .i64 0), (8, .pointer (some ⟨blk3, 0, none⟩)), (9, .bool true), (57, .bool false)] ⟨rfl, rfl, rfl, rfl, rfl, rfl, rfl, trivial⟩ fun G42 => ?_
    refine k_f (.t rfl rfl) ?_
    refine wp_skip ?_
    refine x_tn ?_
    refine k_reb [(0, .pointer (some ⟨d, 0, none⟩)), (1, .string s), (2, .slice aB B.length cB), (6, .int .i64 0), (8, .pointer (some ⟨blk3, 0, none⟩)), (9, .bool true)] ⟨rfl, rfl, rfl, rfl, rfl, rfl, trivial⟩ fun G43 => ?_
    refine wp_seq ?_
    refine k_reg ?_
    refine s_val hS50 rfl rfl (r_move rfl (.t rfl rfl)) ?_
    refine s_call rfl rfl rfl (vs := [.pointer (some ⟨d, 0, none⟩)]) ⟨(.t rfl rfl), trivial⟩ cb55 (torn_ok w33 _ d m D ok hw (hS50.give (xs := [(pk1 d m D)]) [0] rfl (by decide))) ?_
    rintro _ w34 ⟨rfl, ht6⟩
    have hS51 : St w0 K (fl [(pa d 1 (((D.room : Nat) : Int)) (((tot D.F : Nat) : Int)) m D.off (((D.writes + 1 : Nat) : Int)) (((D.armed - 1 : Nat) : Int)) D.keep D.lose), [(blk1, .cells #[.string s] 9 (0, 0))], [(blk3, .cells #[.slice fa1 f.bytes.length fc1, .int .i64 (((f.sure : Nat) : Int))] 88 (0, 0))], sm]) w34 := hS50.callL (xs := [(pk1 d m D)]) (xs' := [(pa d 1 (((D.room : Nat) : Int)) (((tot D.F : Nat) : Int)) m D.off (((D.writes + 1 : Nat) : Int)) (((D.armed - 1 : Nat) : Int)) D.keep D.lose)]) (zs := []) [0] rfl (by decide) ht6 rfl rfl
    by_cases hT : D.armed = 1
    ·
     refine s_asb (b' := true) (decide_eq_true hT) ?_
     refine s_val hS51 rfl rfl (r_assign rfl (.t rfl rfl)) ?_
     refine wpList_nil ?_
     refine x_tn ?_
     refine k_reb [(0, .pointer (some ⟨d, 0, none⟩)), (1, .string s), (2, .slice aB B.length cB), (6, .int .i64 0), (8, .pointer (some ⟨blk3, 0, none⟩)), (9, .bool true), (10, .bool true)] ⟨rfl, rfl, rfl, rfl, rfl, rfl, rfl, trivial⟩ fun G44 => ?_
     refine wp_seq ?_
     refine wp_seq ?_
     refine k_reg ?_
     refine s_val hS51 rfl rfl (r_move rfl (.t rfl rfl)) ?_
     refine wpList_nil ?_
     refine x_tn ?_
     refine k_t (.t rfl rfl) ?_
     refine k_reg ?_
     refine s_val hS51 rfl rfl (r_move rfl (.t rfl rfl)) ?_
     refine s_val hS51 rfl rfl (r_move rfl (.t rfl rfl)) ?_
     refine s_val hS51 rfl rfl (r_nilCheck rfl (.t rfl rfl)) ?_
     refine s_val hS51 rfl rfl (r_fieldN rfl Try.underlying86 rfl ti3 (by decide) (.t rfl rfl) (qq := 8) rfl) ?_
     refine s_val hS51 rfl rfl (r_load rfl one3 (.t rfl rfl) (St.cell_own (m := 0) rfl rfl)) ?_
     refine s_val hS51 rfl rfl (r_max rfl (.t rfl rfl) .c (c := ((D.keep.toNat : Nat) : Int)) (by split <;> omega)) ?_
     refine s_val hS51 rfl rfl (r_move rfl (.t rfl rfl)) ?_
     refine s_val hS51 rfl rfl (r_len rfl rfl Try.underlying22 (.t rfl rfl)) ?_
     refine s_val hS51 rfl rfl (r_min rfl (.t rfl rfl) (.t rfl rfl) (c := ((min D.keep.toNat B.length : Nat) : Int)) (by split <;> omega)) ?_
     have hq2 := (hB).le
     have hx3 : Sl .u8 aB cB (B.take (min D.keep.toNat B.length)) vB := hB.take_ (by omega) (by omega) (by omega)
     have hn2 : (B.take (min D.keep.toNat B.length)).length = min D.keep.toNat B.length := by rw [List.length_take]; omega
     refine s_val hS51 rfl rfl (Rn.asSl (ad' := aB) (p' := (B.take (min D.keep.toNat B.length)).length) (q' := cB) (by simp [cutA]) (by omega) (by omega) (r_cutl rfl Try.underlying22 ti5 (.t rfl rfl) hB rfl .n (.s (.t rfl rfl)) .n (lw := 0) (hh := min D.keep.toNat B.length) (m := cB) (by omega) (by omega) (by omega) (by omega))) ?_
     refine s_val hS51 rfl rfl (r_assign rfl (.t rfl rfl)) ?_
     refine wpList_nil ?_
     refine x_tn ?_
     refine k_reb [(0, .pointer (some ⟨d, 0, none⟩)), (1, .string s), (2, .slice aB ((B.take (min D.keep.toNat B.length)).length) cB), (6, .int .i64 0), (8, .pointer (some ⟨blk3, 0, none⟩)), (9, .bool true), (10, .bool true)] ⟨rfl, rfl, rfl, rfl, rfl, rfl, rfl, trivial⟩ fun G45 => ?_
     refine wp_seq ?_
     refine wp_seq ?_
     refine k_reg ?_
     refine s_val hS51 rfl rfl (r_move rfl (.t rfl rfl)) ?_
     refine s_val hS51 rfl rfl (r_move rfl (.t rfl rfl)) ?_
     refine s_skip (unwanted_of (j := 1) (b := false) (b' := true) (d := 72) rfl rfl rfl rfl rfl) rfl ?_
     refine s_skip (unwanted_of (j := 1) (b := false) (b' := true) (d := 72) rfl rfl rfl rfl rfl) rfl ?_
     refine s_val hS51 rfl rfl (r_pick rfl (.t rfl rfl) .c) ?_
     refine s_val hS51 rfl rfl (r_move rfl (.t rfl rfl)) ?_
     refine s_skip (unwanted_of (j := 5) (b := false) (b' := true) (d := 76) rfl rfl rfl rfl rfl) rfl ?_
     refine s_skip (unwanted_of (j := 5) (b := false) (b' := true) (d := 76) rfl rfl rfl rfl rfl) rfl ?_
     refine s_skip (unwanted_of (j := 5) (b := false) (b' := true) (d := 76) rfl rfl rfl rfl rfl) rfl ?_
     refine s_skip (unwanted_of (j := 5) (b := false) (b' := true) (d := 76) rfl rfl rfl rfl rfl) rfl ?_
     refine s_skip (unwanted_of (j := 5) (b := false) (b' := true) (d := 76) rfl rfl rfl rfl rfl) rfl ?_
     refine s_val hS51 rfl rfl (r_pick rfl (.t rfl rfl) .c) ?_
     refine wpList_nil ?_
     refine x_tn ?_
     refine k_reb [(0, .pointer (some ⟨d, 0, none⟩)), (1, .string s), (2, .slice aB ((B.take (min D.keep.toNat B.length)).length) cB), (6, .int .i64 0), (8, .pointer (some ⟨blk3, 0, none⟩)), (10, .bool true), (82, .bool true)] ⟨rfl, rfl, rfl, rfl, rfl, rfl, rfl, trivial⟩ fun G46 => ?_
     refine k_t (.t rfl rfl) ?_
     refine wp_seq ?_
     refine k_reg ?_
     refine s_val hS51 rfl rfl (r_fieldN rfl Try.underlying88 rfl ti22 (by decide) (.t rfl rfl) (qq := 0) rfl) ?_
     refine s_val hS51 rfl rfl (r_load rfl one22 (.t rfl rfl) (St.cell_own (m := 2) rfl rfl)) ?_
     refine s_val hS51 rfl rfl (r_move rfl (.t rfl rfl)) ?_
     obtain ⟨hfit, htp⟩ := fits_append (B := B.take (min D.keep.toNat B.length)) ok hnm0 hnm hlen3 (by rw [List.length_take]; omega) (fun y hy => hB.fit y (List.mem_of_mem_take hy))
     obtain ⟨hb1, hb2⟩ := bytesOf_some hlk
     obtain ⟨sm5, sg3, hM5, hG3, hS52, -⟩ := hA1.open_ hS51 (i := 3) rfl
     replace hS52 : St w0 K (fl [(pa d 1 (((D.room : Nat) : Int)) (((tot D.F : Nat) : Int)) m D.off (((D.writes + 1 : Nat) : Int)) (((D.armed - 1 : Nat) : Int)) D.keep D.lose), [(blk1, .cells #[.string s] 9 (0, 0))], [(blk3, .cells #[.slice fa1 f.bytes.length fc1, .int .i64 (((f.sure : Nat) : Int))] 88 (0, 0))], sm5, sg3]) w34 := hS52
     rw [hb1, hb2] at hfit htp
     refine s_appendG (i := 4) rfl rfl rfl rfl ⟨_, _, rfl, Try.underlying22⟩ Try.underlying22 ti5 (by omega) (by omega) (.t rfl rfl) (.t rfl rfl) rfl hG3 hS52 (by first | rfl | assumption | omega | (simp; done) | (simp; omega)) hx3 (oB.has hS52) rfl (by (try simp only [List.length_append, List.length_take, List.length_nil]); omega) fun ga3 gc3 sg4 w35 hG4 hS53 => ?_
     have hS54 : St w0 K (fl [(pa d 1 (((D.room : Nat) : Int)) (((tot D.F : Nat) : Int)) m D.off (((D.writes + 1 : Nat) : Int)) (((D.armed - 1 : Nat) : Int)) D.keep D.lose), [(blk1, .cells #[.string s] 9 (0, 0))], [(blk3, .cells #[.slice fa1 f.bytes.length fc1, .int .i64 (((f.sure : Nat) : Int))] 88 (0, 0))], sm5, sg4]) w35 := hS53
     refine s_val hS54 rfl rfl (r_fieldN rfl Try.underlying88 rfl ti22 (by decide) (.t rfl rfl) (qq := 0) rfl) ?_
     refine s_storeB (m := 2) rfl rfl rfl one22 (.t rfl rfl) (.t rfl rfl) rfl hS54 rfl rfl (c' := #[.slice ga3 (f.bytes.length + ((B.take (min D.keep.toNat B.length)).length)) gc3, .int .i64 (((f.sure : Nat) : Int))]) rfl (h' := (fl [(pa d 1 (((D.room : Nat) : Int)) (((tot D.F : Nat) : Int)) m D.off (((D.writes + 1 : Nat) : Int)) (((D.armed - 1 : Nat) : Int)) D.keep D.lose), [(blk1, .cells #[.string s] 9 (0, 0))], [(blk3, .cells #[.slice ga3 (f.bytes.length + ((B.take (min D.keep.toNat B.length)).length)) gc3, .int .i64 (((f.sure : Nat) : Int))] 88 (0, 0))], sm5, sg4])) rfl fun w36 hS55 hB10 => ?_
     refine wpList_nil ?_
     refine x_tn ?_
     refine k_reb [(0, .pointer (some ⟨d, 0, none⟩)), (1, .string s), (2, .slice aB ((B.take (min D.keep.toNat B.length)).length) cB), (6, .int .i64 0), (8, .pointer (some ⟨blk3, 0, none⟩)), (10, .bool true)] ⟨rfl, rfl, rfl, rfl, rfl, rfl, trivial⟩ fun G47 => ?_
     refine wp_seq ?_
     refine k_reg ?_
     refine s_val hS55 rfl rfl (r_move rfl (.t rfl rfl)) ?_
     refine s_val hS55 rfl rfl (r_nilCheck rfl (.t rfl rfl)) ?_
     refine s_val hS55 rfl rfl (r_fieldN rfl Try.underlying86 rfl ti3 (by decide) (.t rfl rfl) (qq := 3) rfl) ?_
     refine s_val hS55 rfl rfl (r_load rfl one3 (.t rfl rfl) (St.cell_own (m := 0) rfl rfl)) ?_
     refine s_val hS55 rfl rfl (r_move rfl (.t rfl rfl)) ?_
     refine s_val hS55 rfl rfl (r_len rfl rfl Try.underlying22 (.t rfl rfl)) ?_
     refine s_val hS55 rfl rfl (r_arith rfl rfl (.t rfl rfl) (.t rfl rfl) (c := ((tot (putF D.F s (f.bytes ++ (B.take (min D.keep.toNat B.length))) f.sure) : Nat) : Int)) (wn_i64 (by show ((_ : Nat) : Int) + ((_ : Nat) : Int) = _; rw [htp]; (try simp only [List.length_take]); omega) (by omega))) ?_
     refine s_val hS55 rfl rfl (r_nilCheck rfl (.t rfl rfl)) ?_
     refine s_val hS55 rfl rfl (r_fieldN rfl Try.underlying86 rfl ti3 (by decide) (.t rfl rfl) (qq := 3) rfl) ?_
     refine s_storeB (m := 0) rfl rfl rfl one3 (.t rfl rfl) (.t rfl rfl) rfl hS55 rfl rfl (c' := #[.int .i32 1, .int .u32 0, .int .i64 (((D.room : Nat) : Int)), .int .i64 (((tot (putF D.F s (f.bytes ++ (B.take (min D.keep.toNat B.length))) f.sure) : Nat) : Int)), .map (some m), .bool D.off, .int .i64 (((D.writes + 1 : Nat) : Int)), .int .i64 (((D.armed - 1 : Nat) : Int)), .int .i64 D.keep, .int .i64 D.lose]) rfl (h' := (fl [(pa d 1 (((D.room : Nat) : Int)) (((tot (putF D.F s (f.bytes ++ (B.take (min D.keep.toNat B.length))) f.sure) : Nat) : Int)) m D.off (((D.writes + 1 : Nat) : Int)) (((D.armed - 1 : Nat) : Int)) D.keep D.lose), [(blk1, .cells #[.string s] 9 (0, 0))], [(blk3, .cells #[.slice ga3 (f.bytes.length + ((B.take (min D.keep.toNat B.length)).length)) gc3, .int .i64 (((f.sure : Nat) : Int))] 88 (0, 0))], sm5, sg4])) rfl fun w37 hS56 hB11 => ?_
     refine wpList_nil ?_
     refine x_tn ?_
     refine k_reb [(0, .pointer (some ⟨d, 0, none⟩)), (1, .string s), (6, .int .i64 0), (8, .pointer (some ⟨blk3, 0, none⟩)), (10, .bool true)] ⟨rfl, rfl, rfl, rfl, rfl, trivial⟩ fun G48 => ?_
     refine k_regt 6 mixed (by kernel_rfl) hS56 fun w38 hS57 hB12 => ?_
     refine t_val hS57 rfl rfl (r_move rfl (.t rfl rfl)) ?_
     refine t_val hS57 rfl rfl (r_nilCheck rfl (.t rfl rfl)) ?_
     refine t_val hS57 rfl rfl (r_fieldN rfl Try.underlying86 rfl ti84 (by decide) (.t rfl rfl) (qq := 4) rfl) ?_
     refine t_val hS57 rfl rfl (r_load rfl one84 (.t rfl rfl) (St.cell_own (m := 0) rfl rfl)) ?_
     refine t_val hS57 rfl rfl (r_move rfl (.t rfl rfl)) ?_
     refine t_val hS57 rfl rfl (r_loadA rfl agg88 ti88 rfl (.t rfl rfl) (St.block (m := 2) rfl)) ?_
     refine t_nil ?_
     refine s_put (B := (f.bytes ++ ((B.take (min D.keep.toNat B.length))))) (k := f.sure) (i := 3) (j := 4) rfl rfl rfl Try.underlying84 Try.underlying9 (.t rfl rfl) (.t rfl rfl) (by first | exact (.t rfl rfl) | (rw [show f.bytes.length + ((B.take (min D.keep.toNat B.length)).length) = (f.bytes ++ ((B.take (min D.keep.toNat B.length)))).length from by first | omega | (simp; done) | (simp; omega)]; exact (.t rfl rfl))) hM5 hG4 hS57 rfl rfl rfl fun sm6 w39 hM6 hS58 => ?_
     have hS59 : St w0 K (fl [(pa d 1 (((D.room : Nat) : Int)) (((tot (putF D.F s (f.bytes ++ (B.take (min D.keep.toNat B.length))) f.sure) : Nat) : Int)) m D.off (((D.writes + 1 : Nat) : Int)) (((D.armed - 1 : Nat) : Int)) D.keep D.lose), [(blk1, .cells #[.string s] 9 (0, 0))], [(blk3, .cells #[.slice ga3 (f.bytes.length + ((B.take (min D.keep.toNat B.length)).length)) gc3, .int .i64 (((f.sure : Nat) : Int))] 88 (0, 0))], sm6]) w39 := St.pick (L := [(pa d 1 (((D.room : Nat) : Int)) (((tot (putF D.F s (f.bytes ++ (B.take (min D.keep.toNat B.length))) f.sure) : Nat) : Int)) m D.off (((D.writes + 1 : Nat) : Int)) (((D.armed - 1 : Nat) : Int)) D.keep D.lose), [(blk1, .cells #[.string s] 9 (0, 0))], [(blk3, .cells #[.slice ga3 (f.bytes.length + ((B.take (min D.keep.toNat B.length)).length)) gc3, .int .i64 (((f.sure : Nat) : Int))] 88 (0, 0))], sm6, []]) [0, 1, 2, 3] hS58 rfl (by decide)
     refine wpList_nil ?_
     refine x_tn ?_
     refine k_reb [(0, .pointer (some ⟨d, 0, none⟩)), (6, .int .i64 0), (10, .bool true)] ⟨rfl, rfl, rfl, trivial⟩ fun G49 => ?_
     refine wp_seq ?_
     refine wp_seq ?_
     refine k_reg ?_
     refine s_val hS59 rfl rfl (r_move rfl (.t rfl rfl)) ?_
     refine wpList_nil ?_
     refine x_tn ?_
     refine k_reb [(0, .pointer (some ⟨d, 0, none⟩)), (6, .int .i64 0), (103, .bool true)] ⟨rfl, rfl, rfl, trivial⟩ fun G50 => ?_
     refine k_t (.t rfl rfl) ?_
     refine wp_seq ?_
     refine k_reg ?_
     refine s_val hS59 rfl rfl (r_move rfl (.t rfl rfl)) ?_
     refine s_call rfl rfl rfl (vs := [.pointer (some ⟨d, 0, none⟩)]) ⟨(.t rfl rfl), trivial⟩ cb56 (gone_ok w39 _ d m ({ D with writes := D.writes + 1, armed := D.armed - 1, F := (putF D.F s (f.bytes ++ ((B.take (min D.keep.toNat B.length)))) f.sure) }) (ok.put hfit (by omega)) sm6 hM6 (hS59.give (xs := [(pa d 1 (((D.room : Nat) : Int)) (((tot (putF D.F s (f.bytes ++ (B.take (min D.keep.toNat B.length))) f.sure) : Nat) : Int)) m D.off (((D.writes + 1 : Nat) : Int)) (((D.armed - 1 : Nat) : Int)) D.keep D.lose), sm6]) [0, 3] rfl (by decide))) ?_
     rintro _ w40 ⟨sm7, rfl, hM7, ht7⟩
     have hS60 : St w0 K (fl [(pa d 1 (((D.room : Nat) : Int)) (((tot (goneF D.lose (putF D.F s (f.bytes ++ ((B.take (min D.keep.toNat B.length)))) f.sure)) : Nat) : Int)) m true (((D.writes + 1 : Nat) : Int)) (((D.armed - 1 : Nat) : Int)) D.keep D.lose), [(blk1, .cells #[.string s] 9 (0, 0))], [(blk3, .cells #[.slice ga3 (f.bytes.length + ((B.take (min D.keep.toNat B.length)).length)) gc3, .int .i64 (((f.sure : Nat) : Int))] 88 (0, 0))], sm7]) w40 := hS59.callL (xs := [(pa d 1 (((D.room : Nat) : Int)) (((tot (putF D.F s (f.bytes ++ (B.take (min D.keep.toNat B.length))) f.sure) : Nat) : Int)) m D.off (((D.writes + 1 : Nat) : Int)) (((D.armed - 1 : Nat) : Int)) D.keep D.lose), sm6]) (xs' := [(pa d 1 (((D.room : Nat) : Int)) (((tot (goneF D.lose (putF D.F s (f.bytes ++ ((B.take (min D.keep.toNat B.length)))) f.sure)) : Nat) : Int)) m true (((D.writes + 1 : Nat) : Int)) (((D.armed - 1 : Nat) : Int)) D.keep D.lose), sm7]) (zs := []) [0, 3] rfl (by decide) ht7 rfl rfl
     refine s_val hS60 rfl rfl (r_assign rfl (.t rfl rfl)) ?_
     refine wpList_nil ?_
     refine x_tn ?_
     refine k_reb [(6, .int .i64 104)] ⟨rfl, trivial⟩ fun G51 => ?_
     refine wp_ret ?_
     refine x_tr ?_
     refine l_unlock (m := 0) muLib cb43 hS60 rfl rfl (c' := #[.int .i32 0, .int .u32 0, .int .i64 (((D.room : Nat) : Int)), .int .i64 (((tot (goneF D.lose (putF D.F s (f.bytes ++ ((B.take (min D.keep.toNat B.length)))) f.sure)) : Nat) : Int)), .map (some m), .bool true, .int .i64 (((D.writes + 1 : Nat) : Int)), .int .i64 (((D.armed - 1 : Nat) : Int)), .int .i64 D.keep, .int .i64 D.lose]) rfl (h' := (fl [(pa d 0 (((D.room : Nat) : Int)) (((tot (goneF D.lose (putF D.F s (f.bytes ++ ((B.take (min D.keep.toNat B.length)))) f.sure)) : Nat) : Int)) m true (((D.writes + 1 : Nat) : Int)) (((D.armed - 1 : Nat) : Int)) D.keep D.lose), [(blk1, .cells #[.string s] 9 (0, 0))], [(blk3, .cells #[.slice ga3 (f.bytes.length + ((B.take (min D.keep.toNat B.length)).length)) gc3, .int .i64 (((f.sure : Nat) : Int))] 88 (0, 0))], sm7])) rfl (fun _ => tells1 rfl rfl rfl) fun w41 hS61 => ?_
     refine ⟨_, rfl, ?_⟩
     have hS62 : St w0 K (fl [(pa d 0 (((D.room : Nat) : Int)) (((tot (goneF D.lose (putF D.F s (f.bytes ++ ((B.take (min D.keep.toNat B.length)))) f.sure)) : Nat) : Int)) m true (((D.writes + 1 : Nat) : Int)) (((D.armed - 1 : Nat) : Int)) D.keep D.lose), sm7]) w41 := hS61.pick [0, 3] rfl (by decide)
     rw [append_torn hoff hnm hful hT (by rw [hlk]; simp)]
     rw [hb1, hb2]
     exact ⟨_, rfl, hM7, hS62⟩
    ·
     refine s_asb (b' := false) (decide_eq_false hT) ?_
     refine s_val hS51 rfl rfl (r_assign rfl (.t rfl rfl)) ?_
     refine wpList_nil ?_
     refine x_tn ?_
     refine k_reb [(0, .pointer (some ⟨d, 0, none⟩)), (1, .string s), (2, .slice aB B.length cB), (6, .int .i64 0), (8, .pointer (some ⟨blk3, 0, none⟩)), (9, .bool true), (10, .bool false)] ⟨rfl, rfl, rfl, rfl, rfl, rfl, rfl, trivial⟩ fun G52 => ?_
     refine wp_seq ?_
     refine wp_seq ?_
     refine k_reg ?_
     refine s_val hS51 rfl rfl (r_move rfl (.t rfl rfl)) ?_
     refine wpList_nil ?_
     refine x_tn ?_
     refine k_f (.t rfl rfl) ?_
     refine wp_skip ?_
     refine x_tn ?_
     refine k_reb [(0, .pointer (some ⟨d, 0, none⟩)), (1, .string s), (2, .slice aB B.length cB), (6, .int .i64 0), (8, .pointer (some ⟨blk3, 0, none⟩)), (9, .bool true), (10, .bool false)] ⟨rfl, rfl, rfl, rfl, rfl, rfl, rfl, trivial⟩ fun G53 => ?_
     refine wp_seq ?_
     refine wp_seq ?_
     refine k_reg ?_
     refine s_val hS51 rfl rfl (r_move rfl (.t rfl rfl)) ?_
     refine s_val hS51 rfl rfl (r_move rfl (.t rfl rfl)) ?_
     refine s_skip (unwanted_of (j := 1) (b := false) (b' := true) (d := 72) rfl rfl rfl rfl rfl) rfl ?_
     refine s_skip (unwanted_of (j := 1) (b := false) (b' := true) (d := 72) rfl rfl rfl rfl rfl) rfl ?_
     refine s_val hS51 rfl rfl (r_pick rfl (.t rfl rfl) .c) ?_
     refine s_val hS51 rfl rfl (r_move rfl (.t rfl rfl)) ?_
     refine s_skip (unwanted_of (j := 5) (b := false) (b' := true) (d := 76) rfl rfl rfl rfl rfl) rfl ?_
     refine s_skip (unwanted_of (j := 5) (b := false) (b' := true) (d := 76) rfl rfl rfl rfl rfl) rfl ?_
     refine s_skip (unwanted_of (j := 5) (b := false) (b' := true) (d := 76) rfl rfl rfl rfl rfl) rfl ?_
     refine s_skip (unwanted_of (j := 5) (b := false) (b' := true) (d := 76) rfl rfl rfl rfl rfl) rfl ?_
     refine s_skip (unwanted_of (j := 5) (b := false) (b' := true) (d := 76) rfl rfl rfl rfl rfl) rfl ?_
     refine s_val hS51 rfl rfl (r_pick rfl (.t rfl rfl) .c) ?_
     refine wpList_nil ?_
     refine x_tn ?_
     refine k_reb [(0, .pointer (some ⟨d, 0, none⟩)), (1, .string s), (2, .slice aB B.length cB), (6, .int .i64 0), (8, .pointer (some ⟨blk3, 0, none⟩)), (10, .bool false), (82, .bool true)] ⟨rfl, rfl, rfl, rfl, rfl, rfl, rfl, trivial⟩ fun G54 => ?_
     refine k_t (.t rfl rfl) ?_
     refine wp_seq ?_
     refine k_reg ?_
     refine s_val hS51 rfl rfl (r_fieldN rfl Try.underlying88 rfl ti22 (by decide) (.t rfl rfl) (qq := 0) rfl) ?_
     refine s_val hS51 rfl rfl (r_load rfl one22 (.t rfl rfl) (St.cell_own (m := 2) rfl rfl)) ?_
     refine s_val hS51 rfl rfl (r_move rfl (.t rfl rfl)) ?_
     obtain ⟨hfit, htp⟩ := fits_append (B := B) ok hnm0 hnm hlen3 (by omega) (hB.fit)
     obtain ⟨hb1, hb2⟩ := bytesOf_some hlk
     obtain ⟨sm8, sg5, hM8, hG5, hS63, -⟩ := hA1.open_ hS51 (i := 3) rfl
     replace hS63 : St w0 K (fl [(pa d 1 (((D.room : Nat) : Int)) (((tot D.F : Nat) : Int)) m D.off (((D.writes + 1 : Nat) : Int)) (((D.armed - 1 : Nat) : Int)) D.keep D.lose), [(blk1, .cells #[.string s] 9 (0, 0))], [(blk3, .cells #[.slice fa1 f.bytes.length fc1, .int .i64 (((f.sure : Nat) : Int))] 88 (0, 0))], sm8, sg5]) w34 := hS63
     rw [hb1, hb2] at hfit htp
     refine s_appendG (i := 4) rfl rfl rfl rfl ⟨_, _, rfl, Try.underlying22⟩ Try.underlying22 ti5 (by omega) (by omega) (.t rfl rfl) (.t rfl rfl) rfl hG5 hS63 (by first | rfl | assumption | omega | (simp; done) | (simp; omega)) hB (oB.has hS63) rfl (by (try simp only [List.length_append, List.length_take, List.length_nil]); omega) fun ga4 gc4 sg6 w42 hG6 hS64 => ?_
     have hS65 : St w0 K (fl [(pa d 1 (((D.room : Nat) : Int)) (((tot D.F : Nat) : Int)) m D.off (((D.writes + 1 : Nat) : Int)) (((D.armed - 1 : Nat) : Int)) D.keep D.lose), [(blk1, .cells #[.string s] 9 (0, 0))], [(blk3, .cells #[.slice fa1 f.bytes.length fc1, .int .i64 (((f.sure : Nat) : Int))] 88 (0, 0))], sm8, sg6]) w42 := hS64
     refine s_val hS65 rfl rfl (r_fieldN rfl Try.underlying88 rfl ti22 (by decide) (.t rfl rfl) (qq := 0) rfl) ?_
     refine s_storeB (m := 2) rfl rfl rfl one22 (.t rfl rfl) (.t rfl rfl) rfl hS65 rfl rfl (c' := #[.slice ga4 (f.bytes.length + B.length) gc4, .int .i64 (((f.sure : Nat) : Int))]) rfl (h' := (fl [(pa d 1 (((D.room : Nat) : Int)) (((tot D.F : Nat) : Int)) m D.off (((D.writes + 1 : Nat) : Int)) (((D.armed - 1 : Nat) : Int)) D.keep D.lose), [(blk1, .cells #[.string s] 9 (0, 0))], [(blk3, .cells #[.slice ga4 (f.bytes.length + B.length) gc4, .int .i64 (((f.sure : Nat) : Int))] 88 (0, 0))], sm8, sg6])) rfl fun w43 hS66 hB13 => ?_
     refine wpList_nil ?_
     refine x_tn ?_
     refine k_reb [(0, .pointer (some ⟨d, 0, none⟩)), (1, .string s), (2, .slice aB B.length cB), (6, .int .i64 0), (8, .pointer (some ⟨blk3, 0, none⟩)), (10, .bool false)] ⟨rfl, rfl, rfl, rfl, rfl, rfl, trivial⟩ fun G55 => ?_
     refine wp_seq ?_
     refine k_reg ?_
     refine s_val hS66 rfl rfl (r_move rfl (.t rfl rfl)) ?_
     refine s_val hS66 rfl rfl (r_nilCheck rfl (.t rfl rfl)) ?_
     refine s_val hS66 rfl rfl (r_fieldN rfl Try.underlying86 rfl ti3 (by decide) (.t rfl rfl) (qq := 3) rfl) ?_
     refine s_val hS66 rfl rfl (r_load rfl one3 (.t rfl rfl) (St.cell_own (m := 0) rfl rfl)) ?_
     refine s_val hS66 rfl rfl (r_move rfl (.t rfl rfl)) ?_
     refine s_val hS66 rfl rfl (r_len rfl rfl Try.underlying22 (.t rfl rfl)) ?_
     refine s_val hS66 rfl rfl (r_arith rfl rfl (.t rfl rfl) (.t rfl rfl) (c := ((tot (putF D.F s (f.bytes ++ B) f.sure) : Nat) : Int)) (wn_i64 (by show ((_ : Nat) : Int) + ((_ : Nat) : Int) = _; rw [htp]; (try simp only [List.length_take]); omega) (by omega))) ?_
     refine s_val hS66 rfl rfl (r_nilCheck rfl (.t rfl rfl)) ?_
     refine s_val hS66 rfl rfl (r_fieldN rfl Try.underlying86 rfl ti3 (by decide) (.t rfl rfl) (qq := 3) rfl) ?_
     refine s_storeB (m := 0) rfl rfl rfl one3 (.t rfl rfl) (.t rfl rfl) rfl hS66 rfl rfl (c' := #[.int .i32 1, .int .u32 0, .int .i64 (((D.room : Nat) : Int)), .int .i64 (((tot (putF D.F s (f.bytes ++ B) f.sure) : Nat) : Int)), .map (some m), .bool D.off, .int .i64 (((D.writes + 1 : Nat) : Int)), .int .i64 (((D.armed - 1 : Nat) : Int)), .int .i64 D.keep, .int .i64 D.lose]) rfl (h' := (fl [(pa d 1 (((D.room : Nat) : Int)) (((tot (putF D.F s (f.bytes ++ B) f.sure) : Nat) : Int)) m D.off (((D.writes + 1 : Nat) : Int)) (((D.armed - 1 : Nat) : Int)) D.keep D.lose), [(blk1, .cells #[.string s] 9 (0, 0))], [(blk3, .cells #[.slice ga4 (f.bytes.length + B.length) gc4, .int .i64 (((f.sure : Nat) : Int))] 88 (0, 0))], sm8, sg6])) rfl fun w44 hS67 hB14 => ?_
     refine wpList_nil ?_
     refine x_tn ?_
     refine k_reb [(0, .pointer (some ⟨d, 0, none⟩)), (1, .string s), (6, .int .i64 0), (8, .pointer (some ⟨blk3, 0, none⟩)), (10, .bool false)] ⟨rfl, rfl, rfl, rfl, rfl, trivial⟩ fun G56 => ?_
     refine k_regt 6 mixed (by kernel_rfl) hS67 fun w45 hS68 hB15 => ?_
     refine t_val hS68 rfl rfl (r_move rfl (.t rfl rfl)) ?_
     refine t_val hS68 rfl rfl (r_nilCheck rfl (.t rfl rfl)) ?_
     refine t_val hS68 rfl rfl (r_fieldN rfl Try.underlying86 rfl ti84 (by decide) (.t rfl rfl) (qq := 4) rfl) ?_
     refine t_val hS68 rfl rfl (r_load rfl one84 (.t rfl rfl) (St.cell_own (m := 0) rfl rfl)) ?_
     refine t_val hS68 rfl rfl (r_move rfl (.t rfl rfl)) ?_
     refine t_val hS68 rfl rfl (r_loadA rfl agg88 ti88 rfl (.t rfl rfl) (St.block (m := 2) rfl)) ?_
     refine t_nil ?_
     refine s_put (B := (f.bytes ++ B)) (k := f.sure) (i := 3) (j := 4) rfl rfl rfl Try.underlying84 Try.underlying9 (.t rfl rfl) (.t rfl rfl) (by first | exact (.t rfl rfl) | (rw [show f.bytes.length + B.length = (f.bytes ++ B).length from by first | omega | (simp; done) | (simp; omega)]; exact (.t rfl rfl))) hM8 hG6 hS68 rfl rfl rfl fun sm9 w46 hM9 hS69 => ?_
     have hS70 : St w0 K (fl [(pa d 1 (((D.room : Nat) : Int)) (((tot (putF D.F s (f.bytes ++ B) f.sure) : Nat) : Int)) m D.off (((D.writes + 1 : Nat) : Int)) (((D.armed - 1 : Nat) : Int)) D.keep D.lose), [(blk1, .cells #[.string s] 9 (0, 0))], [(blk3, .cells #[.slice ga4 (f.bytes.length + B.length) gc4, .int .i64 (((f.sure : Nat) : Int))] 88 (0, 0))], sm9]) w46 := St.pick (L := [(pa d 1 (((D.room : Nat) : Int)) (((tot (putF D.F s (f.bytes ++ B) f.sure) : Nat) : Int)) m D.off (((D.writes + 1 : Nat) : Int)) (((D.armed - 1 : Nat) : Int)) D.keep D.lose), [(blk1, .cells #[.string s] 9 (0, 0))], [(blk3, .cells #[.slice ga4 (f.bytes.length + B.length) gc4, .int .i64 (((f.sure : Nat) : Int))] 88 (0, 0))], sm9, []]) [0, 1, 2, 3] hS69 rfl (by decide)
     refine wpList_nil ?_
     refine x_tn ?_
     refine k_reb [(0, .pointer (some ⟨d, 0, none⟩)), (6, .int .i64 0), (10, .bool false)] ⟨rfl, rfl, rfl, trivial⟩ fun G57 => ?_
     refine wp_seq ?_
     refine wp_seq ?_
     refine k_reg ?_
     refine s_val hS70 rfl rfl (r_move rfl (.t rfl rfl)) ?_
     refine wpList_nil ?_
     refine x_tn ?_
     refine k_reb [(0, .pointer (some ⟨d, 0, none⟩)), (6, .int .i64 0), (103, .bool false)] ⟨rfl, rfl, rfl, trivial⟩ fun G58 => ?_
     refine k_f (.t rfl rfl) ?_
     refine wp_skip ?_
     refine x_tn ?_
     refine k_reb [(6, .int .i64 0)] ⟨rfl, trivial⟩ fun G59 => ?_
     refine wp_seq ?_
     refine k_reg ?_
     refine s_val hS70 rfl rfl (r_assign rfl .c) ?_
     refine wpList_nil ?_
     refine x_tn ?_
     refine wp_ret ?_
     refine l_unlock (m := 0) muLib cb43 hS70 rfl rfl (c' := #[.int .i32 0, .int .u32 0, .int .i64 (((D.room : Nat) : Int)), .int .i64 (((tot (putF D.F s (f.bytes ++ B) f.sure) : Nat) : Int)), .map (some m), .bool D.off, .int .i64 (((D.writes + 1 : Nat) : Int)), .int .i64 (((D.armed - 1 : Nat) : Int)), .int .i64 D.keep, .int .i64 D.lose]) rfl (h' := (fl [(pa d 0 (((D.room : Nat) : Int)) (((tot (putF D.F s (f.bytes ++ B) f.sure) : Nat) : Int)) m D.off (((D.writes + 1 : Nat) : Int)) (((D.armed - 1 : Nat) : Int)) D.keep D.lose), [(blk1, .cells #[.string s] 9 (0, 0))], [(blk3, .cells #[.slice ga4 (f.bytes.length + B.length) gc4, .int .i64 (((f.sure : Nat) : Int))] 88 (0, 0))], sm9])) rfl (fun _ => tells1 rfl rfl rfl) fun w47 hS71 => ?_
     refine ⟨_, rfl, ?_⟩
     have hS72 : St w0 K (fl [(pa d 0 (((D.room : Nat) : Int)) (((tot (putF D.F s (f.bytes ++ B) f.sure) : Nat) : Int)) m D.off (((D.writes + 1 : Nat) : Int)) (((D.armed - 1 : Nat) : Int)) D.keep D.lose), sm9]) w47 := hS71.pick [0, 3] rfl (by decide)
     rw [append_on hoff hnm hful hT]
     rw [hb1, hb2]
     exact ⟨_, rfl, hM9, hS72⟩

end Go.Proofs.Ytdmiklegahdafaa

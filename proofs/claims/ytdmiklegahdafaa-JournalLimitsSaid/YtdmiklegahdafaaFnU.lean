/- Contracts of functions of the program, each walked once. -/
import Derived.Test.YtdmiklegahdafaaFnD
namespace Go.Proofs.Ytdmiklegahdafaa
open Go Go.RowKit K
namespace FU
theorem mixed : Try.prog.follows .mixedOrders = true := by kernel_rfl
theorem cb42 : callable Try.prog 42 = true := by kernel_rfl
theorem cb43 : callable Try.prog 43 = true := by kernel_rfl
theorem cb44 : callable Try.prog 44 = true := by kernel_rfl
theorem one22 : One Try.prog 22 = true := by kernel_rfl
theorem one3 : One Try.prog 3 = true := by kernel_rfl
theorem one4 : One Try.prog 4 = true := by kernel_rfl
theorem one84 : One Try.prog 84 = true := by kernel_rfl
theorem ti22 : (Try.prog.info? 22).map (fun i => (i.zero, i.size, i.bytes)) = some (some (.slice none 0 0), 1, 24) := by kernel_rfl
theorem ti3 : (Try.prog.info? 3).map (fun i => (i.zero, i.size, i.bytes)) = some (some (.int .i64 0), 1, 8) := by kernel_rfl
theorem ti4 : (Try.prog.info? 4).map (fun i => (i.zero, i.size, i.bytes)) = some (some (.bool false), 1, 1) := by kernel_rfl
theorem ti83 : (Try.prog.info? 83).map (fun i => (i.zero, i.size, i.bytes)) = some (some (.agg #[.int .i32 0, .int .u32 0]), 2, 8) := by kernel_rfl
theorem ti84 : (Try.prog.info? 84).map (fun i => (i.zero, i.size, i.bytes)) = some (some (.map none), 1, 8) := by kernel_rfl
theorem ti88 : (Try.prog.info? 88).map (fun i => (i.zero, i.size, i.bytes)) = some (some (.agg #[.slice none 0 0, .int .i64 0]), 2, 32) := by kernel_rfl
theorem ti9 : (Try.prog.info? 9).map (fun i => (i.zero, i.size, i.bytes)) = some (some (.string ⟨#[]⟩), 1, 16) := by kernel_rfl
theorem pl88 : ∀ w, (fieldPlaces (match Try.prog.underlying 88 with | some (.struct fs) => fs | _ => #[])).run Try.prog w = .ok #[(0, 1), (1, 1)] w := fun w => by kernel_rfl

end FU
open FU
attribute [local irreducible] Go.wpList Go.wpQuiet Go.wpStill Go.wpAny Go.Code.wp
set_option maxRecDepth 10000
set_option maxHeartbeats 8000000
set_option linter.unusedVariables false
set_option linter.unusedSimpArgs false
theorem Size_ok (w0 : World) (K : List Nat) (d m : Nat) (D : Dk) (ok : D.ok) (sm : Hp) (hM : MapH U8 m none D.F sm) (s : ByteArray) (ls : s.size ≤ 1000000000000) (hS0 : St w0 K (fl [[(d, .cells (dkC 0 m D) DT (0, 0))], sm]) w0) :
  Calls Try.prog 34 #[.pointer (some ⟨d, 0, none⟩), .string s] w0 (Ret fun v w' => v = .tuple #[.int .i64 ((D.read s).1.length : Nat), .int .i64 ((D.read s).2 : Nat)] ∧ St w0 K (fl [[(d, .cells (dkC 0 m D) DT (0, 0))], sm]) w') := by
 refine k_enterd (vs := [.pointer (some ⟨d, 0, none⟩), .string s]) Try.func34 rfl Try.ntmps34 rfl ?_
 have hS : St w0 K (fl [(pk d m D), sm]) w0 := hS0
 have ok1 := ok.room
 have ok2 := ok.fits
 have ok3 := ok.len
 have ok4 := ok.armed
 have ok5 := ok.keep
 have ok6 := ok.lose
 refine wp_seq ?_
 refine k_reg ?_
 refine s_val hS rfl rfl (r_assign rfl .c) ?_
 refine s_val hS rfl rfl (r_assign rfl .c) ?_
 refine wpList_nil ?_
 refine x_tn ?_
 refine wp_seq ?_
 refine k_reg ?_
 refine s_val hS rfl rfl (r_move rfl (.t rfl rfl)) ?_
 refine s_val hS rfl rfl (r_nilCheck rfl (.t rfl rfl)) ?_
 refine s_val hS rfl rfl (r_fieldN rfl Try.underlying86 rfl ti83 (by decide) (.t rfl rfl) (qq := 0) rfl) ?_
 refine s_call rfl rfl rfl (vs := [.pointer (some ⟨d, 0, none⟩)]) ⟨(.t rfl rfl), trivial⟩ cb42 (lock_ok muLib (St.block (m := 0) rfl _ hS) rfl (c' := #[.int .i32 1, .int .u32 0, .int .i64 (((D.room : Nat) : Int)), .int .i64 (((tot D.F : Nat) : Int)), .map (some m), .bool D.off, .int .i64 (((D.writes : Nat) : Int)), .int .i64 (((D.armed : Nat) : Int)), .int .i64 D.keep, .int .i64 D.lose]) rfl) ?_
 rintro _ w1 ⟨rfl, ht1⟩
 have hS1 : St w0 K (fl [(pk1 d m D), sm]) w1 := hS.callL (xs := [(pk d m D)]) (xs' := [(pk1 d m D)]) (zs := []) [0] rfl (by decide) ht1 rfl rfl
 refine wpList_nil ?_
 refine x_tn ?_
 refine k_reb [(0, .pointer (some ⟨d, 0, none⟩)), (1, .string s), (4, .int .i64 0), (5, .int .i64 0)] ⟨rfl, rfl, rfl, rfl, trivial⟩ fun G1 => ?_
 refine wp_seq ?_
 refine k_reg ?_
 refine s_val hS1 rfl rfl (r_move rfl (.t rfl rfl)) ?_
 refine s_val hS1 rfl rfl (r_nilCheck rfl (.t rfl rfl)) ?_
 refine s_val hS1 rfl rfl (r_fieldN rfl Try.underlying86 rfl ti83 (by decide) (.t rfl rfl) (qq := 0) rfl) ?_
 refine s_defer rfl rfl rfl (vs := [.pointer (some ⟨d, 0, none⟩)]) ⟨(.t rfl rfl), trivial⟩ ?_
 refine wpList_nil ?_
 refine x_tn ?_
 refine k_reb [(0, .pointer (some ⟨d, 0, none⟩)), (1, .string s), (4, .int .i64 0), (5, .int .i64 0)] ⟨rfl, rfl, rfl, rfl, trivial⟩ fun G2 => ?_
 refine wp_seq ?_
 refine k_reg ?_
 refine s_val hS1 rfl rfl (r_move rfl (.t rfl rfl)) ?_
 refine s_val hS1 rfl rfl (r_move rfl (.t rfl rfl)) ?_
 refine s_litV rfl rfl rfl Try.underlying107 ti9 rfl (vs := [(0, .string s)]) ⟨rfl, (.t rfl rfl), trivial⟩ (L := [.string s]) rfl (by decide) rfl hS1 fun blk1 w2 hb1 hB1 hS2 => ?_
 have hS3 : St w0 K (fl [(pk1 d m D), [(blk1, .cells #[.string s] 9 (0, 0))], sm]) w2 := hS2.push 1 rfl
 refine s_call rfl rfl rfl (vs := [.pointer (some ⟨d, 0, none⟩), .slice (some ⟨blk1, 0, none⟩) 1 1]) ⟨(.t rfl rfl), (.t rfl rfl), trivial⟩ cb44 (missing_ok w2 _ d m D ok sm hM blk1 s (by omega) (hS3.give (xs := [(pk1 d m D), [(blk1, .cells #[.string s] 9 (0, 0))], sm]) [0, 1, 2] rfl (by decide))) ?_
 rintro v1 w3 ⟨hp1, ht2⟩
 have hS4 : St w0 K (fl [(pk1 d m D), [(blk1, .cells #[.string s] 9 (0, 0))], sm]) w3 := hS3.callL (xs := [(pk1 d m D), [(blk1, .cells #[.string s] 9 (0, 0))], sm]) (xs' := [(pk1 d m D), [(blk1, .cells #[.string s] 9 (0, 0))], sm]) (zs := []) [0, 1, 2] rfl (by decide) ht2 rfl rfl
 rcases hp1 with ⟨hoff, rfl⟩ | ⟨hoff, hnm, rfl⟩ | ⟨hoff, hnm, hno, rfl⟩ | ⟨f, fa1, fc1, hoff, hnm, hA1, rfl⟩
 ·
  refine s_val hS4 rfl rfl (r_move rfl (.t rfl rfl)) ?_
  refine s_val hS4 rfl rfl (r_extract rfl (.t rfl rfl) rfl) ?_
  refine s_val hS4 rfl rfl (r_extract rfl (.t rfl rfl) rfl) ?_
  refine s_alloc rfl rfl rfl ti88 (cs := #[.slice none 0 0, .int .i64 0]) rfl hS4 fun blk2 w4 hb2 hB2 hS5 => ?_
  have hS6 : St w0 K (fl [(pk1 d m D), [(blk1, .cells #[.string s] 9 (0, 0))], [(blk2, .cells #[.slice none 0 0, .int .i64 0] 88 (0, 0))], sm]) w4 := hS5.push 2 rfl
  refine s_storeA (m := 2) rfl rfl rfl ti88 (.t rfl rfl) (vs := [.slice none 0 0, .int .i64 0]) (.t rfl rfl) rfl rfl hS6 rfl (show 2 ≤ 2 from by decide) (c' := #[.slice none 0 0, .int .i64 0]) rfl (h' := (fl [(pk1 d m D), [(blk1, .cells #[.string s] 9 (0, 0))], [(blk2, .cells #[.slice none 0 0, .int .i64 0] 88 (0, 0))], sm])) rfl fun w5 hS7 => ?_
  refine s_val hS7 rfl rfl (r_assign rfl (.t rfl rfl)) ?_
  refine wpList_nil ?_
  refine x_tn ?_
  refine k_reb [(4, .int .i64 0), (5, .int .i64 0), (6, .pointer (some ⟨blk2, 0, none⟩)), (7, .int .i64 104)] ⟨rfl, rfl, rfl, rfl, trivial⟩ fun G3 => ?_
  refine wp_seq ?_
  refine k_reg ?_
  refine s_val hS7 rfl rfl (r_fieldN rfl Try.underlying88 rfl ti22 (by decide) (.t rfl rfl) (qq := 0) rfl) ?_
  refine s_val hS7 rfl rfl (r_load rfl one22 (.t rfl rfl) (St.cell_own (m := 2) rfl rfl)) ?_
  refine s_val hS7 rfl rfl (r_len rfl rfl Try.underlying22 (.t rfl rfl)) ?_
  refine s_val hS7 rfl rfl (r_move rfl (.t rfl rfl)) ?_
  refine s_val hS7 rfl rfl (r_assign rfl (.t rfl rfl)) ?_
  refine s_val hS7 rfl rfl (r_assign rfl (.t rfl rfl)) ?_
  refine wpList_nil ?_
  refine x_tn ?_
  refine k_reb [(4, .int .i64 0), (5, .int .i64 104)] ⟨rfl, rfl, trivial⟩ fun G4 => ?_
  refine wp_ret ?_
  refine l_unlock (m := 0) muLib cb43 hS7 rfl rfl (c' := #[.int .i32 0, .int .u32 0, .int .i64 (((D.room : Nat) : Int)), .int .i64 (((tot D.F : Nat) : Int)), .map (some m), .bool D.off, .int .i64 (((D.writes : Nat) : Int)), .int .i64 (((D.armed : Nat) : Int)), .int .i64 D.keep, .int .i64 D.lose]) rfl (h' := (fl [(pk d m D), [(blk1, .cells #[.string s] 9 (0, 0))], [(blk2, .cells #[.slice none 0 0, .int .i64 0] 88 (0, 0))], sm])) rfl (fun _ => tells2 rfl rfl rfl rfl rfl) fun w6 hS8 => ?_
  refine ⟨_, rfl, ?_⟩
  have hS9 : St w0 K (fl [(pk d m D), sm]) w6 := hS8.pick [0, 3] rfl (by decide)
  rw [(read_off hoff).1]
  exact ⟨rfl, hS9⟩
 ·
  refine s_val hS4 rfl rfl (r_move rfl (.t rfl rfl)) ?_
  refine s_val hS4 rfl rfl (r_extract rfl (.t rfl rfl) rfl) ?_
  refine s_val hS4 rfl rfl (r_extract rfl (.t rfl rfl) rfl) ?_
  refine s_alloc rfl rfl rfl ti88 (cs := #[.slice none 0 0, .int .i64 0]) rfl hS4 fun blk3 w7 hb3 hB3 hS10 => ?_
  have hS11 : St w0 K (fl [(pk1 d m D), [(blk1, .cells #[.string s] 9 (0, 0))], [(blk3, .cells #[.slice none 0 0, .int .i64 0] 88 (0, 0))], sm]) w7 := hS10.push 2 rfl
  refine s_storeA (m := 2) rfl rfl rfl ti88 (.t rfl rfl) (vs := [.slice none 0 0, .int .i64 0]) (.t rfl rfl) rfl rfl hS11 rfl (show 2 ≤ 2 from by decide) (c' := #[.slice none 0 0, .int .i64 0]) rfl (h' := (fl [(pk1 d m D), [(blk1, .cells #[.string s] 9 (0, 0))], [(blk3, .cells #[.slice none 0 0, .int .i64 0] 88 (0, 0))], sm])) rfl fun w8 hS12 => ?_
  refine s_val hS12 rfl rfl (r_assign rfl (.t rfl rfl)) ?_
  refine wpList_nil ?_
  refine x_tn ?_
  refine k_reb [(4, .int .i64 0), (5, .int .i64 0), (6, .pointer (some ⟨blk3, 0, none⟩)), (7, .int .i64 101)] ⟨rfl, rfl, rfl, rfl, trivial⟩ fun G5 => ?_
  refine wp_seq ?_
  refine k_reg ?_
  refine s_val hS12 rfl rfl (r_fieldN rfl Try.underlying88 rfl ti22 (by decide) (.t rfl rfl) (qq := 0) rfl) ?_
  refine s_val hS12 rfl rfl (r_load rfl one22 (.t rfl rfl) (St.cell_own (m := 2) rfl rfl)) ?_
  refine s_val hS12 rfl rfl (r_len rfl rfl Try.underlying22 (.t rfl rfl)) ?_
  refine s_val hS12 rfl rfl (r_move rfl (.t rfl rfl)) ?_
  refine s_val hS12 rfl rfl (r_assign rfl (.t rfl rfl)) ?_
  refine s_val hS12 rfl rfl (r_assign rfl (.t rfl rfl)) ?_
  refine wpList_nil ?_
  refine x_tn ?_
  refine k_reb [(4, .int .i64 0), (5, .int .i64 101)] ⟨rfl, rfl, trivial⟩ fun G6 => ?_
  refine wp_ret ?_
  refine l_unlock (m := 0) muLib cb43 hS12 rfl rfl (c' := #[.int .i32 0, .int .u32 0, .int .i64 (((D.room : Nat) : Int)), .int .i64 (((tot D.F : Nat) : Int)), .map (some m), .bool D.off, .int .i64 (((D.writes : Nat) : Int)), .int .i64 (((D.armed : Nat) : Int)), .int .i64 D.keep, .int .i64 D.lose]) rfl (h' := (fl [(pk d m D), [(blk1, .cells #[.string s] 9 (0, 0))], [(blk3, .cells #[.slice none 0 0, .int .i64 0] 88 (0, 0))], sm])) rfl (fun _ => tells2 rfl rfl rfl rfl rfl) fun w9 hS13 => ?_
  refine ⟨_, rfl, ?_⟩
  have hS14 : St w0 K (fl [(pk d m D), sm]) w9 := hS13.pick [0, 3] rfl (by decide)
  rw [(read_name hoff hnm).1]
  exact ⟨rfl, hS14⟩
 ·
  refine s_val hS4 rfl rfl (r_move rfl (.t rfl rfl)) ?_
  refine s_val hS4 rfl rfl (r_extract rfl (.t rfl rfl) rfl) ?_
  refine s_val hS4 rfl rfl (r_extract rfl (.t rfl rfl) rfl) ?_
  refine s_alloc rfl rfl rfl ti88 (cs := #[.slice none 0 0, .int .i64 0]) rfl hS4 fun blk4 w10 hb4 hB4 hS15 => ?_
  have hS16 : St w0 K (fl [(pk1 d m D), [(blk1, .cells #[.string s] 9 (0, 0))], [(blk4, .cells #[.slice none 0 0, .int .i64 0] 88 (0, 0))], sm]) w10 := hS15.push 2 rfl
  refine s_storeA (m := 2) rfl rfl rfl ti88 (.t rfl rfl) (vs := [.slice none 0 0, .int .i64 0]) (.t rfl rfl) rfl rfl hS16 rfl (show 2 ≤ 2 from by decide) (c' := #[.slice none 0 0, .int .i64 0]) rfl (h' := (fl [(pk1 d m D), [(blk1, .cells #[.string s] 9 (0, 0))], [(blk4, .cells #[.slice none 0 0, .int .i64 0] 88 (0, 0))], sm])) rfl fun w11 hS17 => ?_
  refine s_val hS17 rfl rfl (r_assign rfl (.t rfl rfl)) ?_
  refine wpList_nil ?_
  refine x_tn ?_
  refine k_reb [(4, .int .i64 0), (5, .int .i64 0), (6, .pointer (some ⟨blk4, 0, none⟩)), (7, .int .i64 102)] ⟨rfl, rfl, rfl, rfl, trivial⟩ fun G7 => ?_
  refine wp_seq ?_
  refine k_reg ?_
  refine s_val hS17 rfl rfl (r_fieldN rfl Try.underlying88 rfl ti22 (by decide) (.t rfl rfl) (qq := 0) rfl) ?_
  refine s_val hS17 rfl rfl (r_load rfl one22 (.t rfl rfl) (St.cell_own (m := 2) rfl rfl)) ?_
  refine s_val hS17 rfl rfl (r_len rfl rfl Try.underlying22 (.t rfl rfl)) ?_
  refine s_val hS17 rfl rfl (r_move rfl (.t rfl rfl)) ?_
  refine s_val hS17 rfl rfl (r_assign rfl (.t rfl rfl)) ?_
  refine s_val hS17 rfl rfl (r_assign rfl (.t rfl rfl)) ?_
  refine wpList_nil ?_
  refine x_tn ?_
  refine k_reb [(4, .int .i64 0), (5, .int .i64 102)] ⟨rfl, rfl, trivial⟩ fun G8 => ?_
  refine wp_ret ?_
  refine l_unlock (m := 0) muLib cb43 hS17 rfl rfl (c' := #[.int .i32 0, .int .u32 0, .int .i64 (((D.room : Nat) : Int)), .int .i64 (((tot D.F : Nat) : Int)), .map (some m), .bool D.off, .int .i64 (((D.writes : Nat) : Int)), .int .i64 (((D.armed : Nat) : Int)), .int .i64 D.keep, .int .i64 D.lose]) rfl (h' := (fl [(pk d m D), [(blk1, .cells #[.string s] 9 (0, 0))], [(blk4, .cells #[.slice none 0 0, .int .i64 0] 88 (0, 0))], sm])) rfl (fun _ => tells2 rfl rfl rfl rfl rfl) fun w12 hS18 => ?_
  refine ⟨_, rfl, ?_⟩
  have hS19 : St w0 K (fl [(pk d m D), sm]) w12 := hS18.pick [0, 3] rfl (by decide)
  rw [(read_none hoff hnm hno).1]
  exact ⟨rfl, hS19⟩
 ·
  have hlk := hA1.1
  obtain ⟨hf1, hf2, hf3, hf4⟩ := ok.file hlk
  have hx1 := hA1.sl (by omega) hf3
  refine s_val hS4 rfl rfl (r_move rfl (.t rfl rfl)) ?_
  refine s_val hS4 rfl rfl (r_extract rfl (.t rfl rfl) rfl) ?_
  refine s_val hS4 rfl rfl (r_extract rfl (.t rfl rfl) rfl) ?_
  refine s_alloc rfl rfl rfl ti88 (cs := #[.slice none 0 0, .int .i64 0]) rfl hS4 fun blk5 w13 hb5 hB5 hS20 => ?_
  have hS21 : St w0 K (fl [(pk1 d m D), [(blk1, .cells #[.string s] 9 (0, 0))], [(blk5, .cells #[.slice none 0 0, .int .i64 0] 88 (0, 0))], sm]) w13 := hS20.push 2 rfl
  refine s_storeA (m := 2) rfl rfl rfl ti88 (.t rfl rfl) (vs := [.slice fa1 f.bytes.length fc1, .int .i64 (((f.sure : Nat) : Int))]) (.t rfl rfl) rfl rfl hS21 rfl (show 2 ≤ 2 from by decide) (c' := #[.slice fa1 f.bytes.length fc1, .int .i64 (((f.sure : Nat) : Int))]) rfl (h' := (fl [(pk1 d m D), [(blk1, .cells #[.string s] 9 (0, 0))], [(blk5, .cells #[.slice fa1 f.bytes.length fc1, .int .i64 (((f.sure : Nat) : Int))] 88 (0, 0))], sm])) rfl fun w14 hS22 => ?_
  refine s_val hS22 rfl rfl (r_assign rfl (.t rfl rfl)) ?_
  refine wpList_nil ?_
  refine x_tn ?_
  refine k_reb [(4, .int .i64 0), (5, .int .i64 0), (6, .pointer (some ⟨blk5, 0, none⟩)), (7, .int .i64 0)] ⟨rfl, rfl, rfl, rfl, trivial⟩ fun G9 => ?_
  refine wp_seq ?_
  refine k_reg ?_
  refine s_val hS22 rfl rfl (r_fieldN rfl Try.underlying88 rfl ti22 (by decide) (.t rfl rfl) (qq := 0) rfl) ?_
  refine s_val hS22 rfl rfl (r_load rfl one22 (.t rfl rfl) (St.cell_own (m := 2) rfl rfl)) ?_
  refine s_val hS22 rfl rfl (r_len rfl rfl Try.underlying22 (.t rfl rfl)) ?_
  refine s_val hS22 rfl rfl (r_move rfl (.t rfl rfl)) ?_
  refine s_val hS22 rfl rfl (r_assign rfl (.t rfl rfl)) ?_
  refine s_val hS22 rfl rfl (r_assign rfl (.t rfl rfl)) ?_
  refine wpList_nil ?_
  refine x_tn ?_
  refine k_reb [(4, .int .i64 (((f.bytes.length : Nat) : Int))), (5, .int .i64 0)] ⟨rfl, rfl, trivial⟩ fun G10 => ?_
  refine wp_ret ?_
  refine l_unlock (m := 0) muLib cb43 hS22 rfl rfl (c' := #[.int .i32 0, .int .u32 0, .int .i64 (((D.room : Nat) : Int)), .int .i64 (((tot D.F : Nat) : Int)), .map (some m), .bool D.off, .int .i64 (((D.writes : Nat) : Int)), .int .i64 (((D.armed : Nat) : Int)), .int .i64 D.keep, .int .i64 D.lose]) rfl (h' := (fl [(pk d m D), [(blk1, .cells #[.string s] 9 (0, 0))], [(blk5, .cells #[.slice fa1 f.bytes.length fc1, .int .i64 (((f.sure : Nat) : Int))] 88 (0, 0))], sm])) rfl (fun _ => tells2 rfl rfl rfl rfl rfl) fun w15 hS23 => ?_
  refine ⟨_, rfl, ?_⟩
  have hS24 : St w0 K (fl [(pk d m D), sm]) w15 := hS23.pick [0, 3] rfl (by decide)
  rw [(read_fine hoff hnm hlk).1]
  exact ⟨rfl, hS24⟩

theorem Off_ok (w0 : World) (K : List Nat) (d m : Nat) (D : Dk) (ok : D.ok) (sm : Hp) (hM : MapH U8 m none D.F sm) (hS0 : St w0 K (fl [[(d, .cells (dkC 0 m D) DT (0, 0))], sm]) w0) :
  Calls Try.prog 39 #[.pointer (some ⟨d, 0, none⟩)] w0 (Ret fun v w' => v = .bool D.off ∧ St w0 K (fl [[(d, .cells (dkC 0 m D) DT (0, 0))], sm]) w') := by
 refine k_enterd (vs := [.pointer (some ⟨d, 0, none⟩)]) Try.func39 rfl Try.ntmps39 rfl ?_
 have hS : St w0 K (fl [(pk d m D), sm]) w0 := hS0
 have ok1 := ok.room
 have ok2 := ok.fits
 have ok3 := ok.len
 have ok4 := ok.armed
 have ok5 := ok.keep
 have ok6 := ok.lose
 refine wp_seq ?_
 refine k_reg ?_
 refine s_val hS rfl rfl (r_assign rfl .c) ?_
 refine wpList_nil ?_
 refine x_tn ?_
 refine wp_seq ?_
 refine k_reg ?_
 refine s_val hS rfl rfl (r_move rfl (.t rfl rfl)) ?_
 refine s_val hS rfl rfl (r_nilCheck rfl (.t rfl rfl)) ?_
 refine s_val hS rfl rfl (r_fieldN rfl Try.underlying86 rfl ti83 (by decide) (.t rfl rfl) (qq := 0) rfl) ?_
 refine s_call rfl rfl rfl (vs := [.pointer (some ⟨d, 0, none⟩)]) ⟨(.t rfl rfl), trivial⟩ cb42 (lock_ok muLib (St.block (m := 0) rfl _ hS) rfl (c' := #[.int .i32 1, .int .u32 0, .int .i64 (((D.room : Nat) : Int)), .int .i64 (((tot D.F : Nat) : Int)), .map (some m), .bool D.off, .int .i64 (((D.writes : Nat) : Int)), .int .i64 (((D.armed : Nat) : Int)), .int .i64 D.keep, .int .i64 D.lose]) rfl) ?_
 rintro _ w1 ⟨rfl, ht1⟩
 have hS1 : St w0 K (fl [(pk1 d m D), sm]) w1 := hS.callL (xs := [(pk d m D)]) (xs' := [(pk1 d m D)]) (zs := []) [0] rfl (by decide) ht1 rfl rfl
 refine wpList_nil ?_
 refine x_tn ?_
 refine k_reb [(0, .pointer (some ⟨d, 0, none⟩)), (2, .bool false)] ⟨rfl, rfl, trivial⟩ fun G1 => ?_
 refine wp_seq ?_
 refine k_reg ?_
 refine s_val hS1 rfl rfl (r_move rfl (.t rfl rfl)) ?_
 refine s_val hS1 rfl rfl (r_nilCheck rfl (.t rfl rfl)) ?_
 refine s_val hS1 rfl rfl (r_fieldN rfl Try.underlying86 rfl ti83 (by decide) (.t rfl rfl) (qq := 0) rfl) ?_
 refine s_defer rfl rfl rfl (vs := [.pointer (some ⟨d, 0, none⟩)]) ⟨(.t rfl rfl), trivial⟩ ?_
 refine wpList_nil ?_
 refine x_tn ?_
 refine k_reb [(0, .pointer (some ⟨d, 0, none⟩)), (2, .bool false)] ⟨rfl, rfl, trivial⟩ fun G2 => ?_
 refine wp_seq ?_
 refine k_reg ?_
 refine s_val hS1 rfl rfl (r_move rfl (.t rfl rfl)) ?_
 refine s_val hS1 rfl rfl (r_nilCheck rfl (.t rfl rfl)) ?_
 refine s_val hS1 rfl rfl (r_fieldN rfl Try.underlying86 rfl ti4 (by decide) (.t rfl rfl) (qq := 5) rfl) ?_
 refine s_val hS1 rfl rfl (r_load rfl one4 (.t rfl rfl) (St.cell_own (m := 0) rfl rfl)) ?_
 refine s_val hS1 rfl rfl (r_assign rfl (.t rfl rfl)) ?_
 refine wpList_nil ?_
 refine x_tn ?_
 refine k_reb [(2, .bool D.off)] ⟨rfl, trivial⟩ fun G3 => ?_
 refine wp_ret ?_
 refine l_unlock (m := 0) muLib cb43 hS1 rfl rfl (c' := #[.int .i32 0, .int .u32 0, .int .i64 (((D.room : Nat) : Int)), .int .i64 (((tot D.F : Nat) : Int)), .map (some m), .bool D.off, .int .i64 (((D.writes : Nat) : Int)), .int .i64 (((D.armed : Nat) : Int)), .int .i64 D.keep, .int .i64 D.lose]) rfl (h' := (fl [(pk d m D), sm])) rfl (fun _ => tells1 rfl rfl rfl) fun w2 hS2 => ?_
 refine ⟨_, rfl, ?_⟩
 exact ⟨rfl, hS2⟩

theorem Arm_ok (w0 : World) (K : List Nat) (d m : Nat) (D : Dk) (ok : D.ok) (sm : Hp) (hM : MapH U8 m none D.F sm) (x y z : Int) (hx : -9223372036854775808 ≤ x ∧ x ≤ 9223372036854775807) (hy : -9223372036854775808 ≤ y ∧ y ≤ 9223372036854775807) (hz : -9223372036854775808 ≤ z ∧ z ≤ 9223372036854775807) (hS0 : St w0 K (fl [[(d, .cells (dkC 0 m D) DT (0, 0))], sm]) w0) :
  Calls Try.prog 38 #[.pointer (some ⟨d, 0, none⟩), .int .i64 x, .int .i64 y, .int .i64 z] w0 (Ret fun v w' => v = .tuple #[] ∧ St w0 K (fl [[(d, .cells (dkC 0 m ({ D with armed := x.toNat, keep := y, lose := z })) DT (0, 0))], sm]) w') := by
 refine k_enterd (vs := [.pointer (some ⟨d, 0, none⟩), .int .i64 x, .int .i64 y, .int .i64 z]) Try.func38 rfl Try.ntmps38 rfl ?_
 have hS : St w0 K (fl [(pk d m D), sm]) w0 := hS0
 have ok1 := ok.room
 have ok2 := ok.fits
 have ok3 := ok.len
 have ok4 := ok.armed
 have ok5 := ok.keep
 have ok6 := ok.lose
 refine wp_seq ?_
 refine k_reg ?_
 refine s_val hS rfl rfl (r_move rfl (.t rfl rfl)) ?_
 refine s_val hS rfl rfl (r_nilCheck rfl (.t rfl rfl)) ?_
 refine s_val hS rfl rfl (r_fieldN rfl Try.underlying86 rfl ti83 (by decide) (.t rfl rfl) (qq := 0) rfl) ?_
 refine s_call rfl rfl rfl (vs := [.pointer (some ⟨d, 0, none⟩)]) ⟨(.t rfl rfl), trivial⟩ cb42 (lock_ok muLib (St.block (m := 0) rfl _ hS) rfl (c' := #[.int .i32 1, .int .u32 0, .int .i64 (((D.room : Nat) : Int)), .int .i64 (((tot D.F : Nat) : Int)), .map (some m), .bool D.off, .int .i64 (((D.writes : Nat) : Int)), .int .i64 (((D.armed : Nat) : Int)), .int .i64 D.keep, .int .i64 D.lose]) rfl) ?_
 rintro _ w1 ⟨rfl, ht1⟩
 have hS1 : St w0 K (fl [(pk1 d m D), sm]) w1 := hS.callL (xs := [(pk d m D)]) (xs' := [(pk1 d m D)]) (zs := []) [0] rfl (by decide) ht1 rfl rfl
 refine wpList_nil ?_
 refine x_tn ?_
 refine k_reb [(0, .pointer (some ⟨d, 0, none⟩)), (1, .int .i64 x), (2, .int .i64 y), (3, .int .i64 z)] ⟨rfl, rfl, rfl, rfl, trivial⟩ fun G1 => ?_
 refine wp_seq ?_
 refine k_reg ?_
 refine s_val hS1 rfl rfl (r_move rfl (.t rfl rfl)) ?_
 refine s_val hS1 rfl rfl (r_nilCheck rfl (.t rfl rfl)) ?_
 refine s_val hS1 rfl rfl (r_fieldN rfl Try.underlying86 rfl ti83 (by decide) (.t rfl rfl) (qq := 0) rfl) ?_
 refine s_defer rfl rfl rfl (vs := [.pointer (some ⟨d, 0, none⟩)]) ⟨(.t rfl rfl), trivial⟩ ?_
 refine wpList_nil ?_
 refine x_tn ?_
 refine k_reb [(0, .pointer (some ⟨d, 0, none⟩)), (1, .int .i64 x), (2, .int .i64 y), (3, .int .i64 z)] ⟨rfl, rfl, rfl, rfl, trivial⟩ fun G2 => ?_
 refine k_reg ?_
 refine s_val hS1 rfl rfl (r_move rfl (.t rfl rfl)) ?_
 refine s_val hS1 rfl rfl (r_move rfl (.t rfl rfl)) ?_
 refine s_val hS1 rfl rfl (r_move rfl (.t rfl rfl)) ?_
 refine s_val hS1 rfl rfl (r_move rfl (.t rfl rfl)) ?_
 refine s_val hS1 rfl rfl (r_max rfl (.t rfl rfl) .c (c := ((x.toNat : Nat) : Int)) (by split <;> omega)) ?_
 refine s_val hS1 rfl rfl (r_move rfl (.t rfl rfl)) ?_
 refine s_val hS1 rfl rfl (r_move rfl (.t rfl rfl)) ?_
 refine s_val hS1 rfl rfl (r_nilCheck rfl (.t rfl rfl)) ?_
 refine s_val hS1 rfl rfl (r_fieldN rfl Try.underlying86 rfl ti3 (by decide) (.t rfl rfl) (qq := 7) rfl) ?_
 refine s_storeB (m := 0) rfl rfl rfl one3 (.t rfl rfl) (.t rfl rfl) rfl hS1 rfl rfl (c' := #[.int .i32 1, .int .u32 0, .int .i64 (((D.room : Nat) : Int)), .int .i64 (((tot D.F : Nat) : Int)), .map (some m), .bool D.off, .int .i64 (((D.writes : Nat) : Int)), .int .i64 (((x.toNat : Nat) : Int)), .int .i64 D.keep, .int .i64 D.lose]) rfl (h' := (fl [(pa d 1 (((D.room : Nat) : Int)) (((tot D.F : Nat) : Int)) m D.off (((D.writes : Nat) : Int)) (((x.toNat : Nat) : Int)) D.keep D.lose), sm])) rfl fun w2 hS2 hB1 => ?_
 refine s_val hS2 rfl rfl (r_nilCheck rfl (.t rfl rfl)) ?_
 refine s_val hS2 rfl rfl (r_fieldN rfl Try.underlying86 rfl ti3 (by decide) (.t rfl rfl) (qq := 8) rfl) ?_
 refine s_storeB (m := 0) rfl rfl rfl one3 (.t rfl rfl) (.t rfl rfl) rfl hS2 rfl rfl (c' := #[.int .i32 1, .int .u32 0, .int .i64 (((D.room : Nat) : Int)), .int .i64 (((tot D.F : Nat) : Int)), .map (some m), .bool D.off, .int .i64 (((D.writes : Nat) : Int)), .int .i64 (((x.toNat : Nat) : Int)), .int .i64 y, .int .i64 D.lose]) rfl (h' := (fl [(pa d 1 (((D.room : Nat) : Int)) (((tot D.F : Nat) : Int)) m D.off (((D.writes : Nat) : Int)) (((x.toNat : Nat) : Int)) y D.lose), sm])) rfl fun w3 hS3 hB2 => ?_
 refine s_val hS3 rfl rfl (r_nilCheck rfl (.t rfl rfl)) ?_
 refine s_val hS3 rfl rfl (r_fieldN rfl Try.underlying86 rfl ti3 (by decide) (.t rfl rfl) (qq := 9) rfl) ?_
 refine s_storeB (m := 0) rfl rfl rfl one3 (.t rfl rfl) (.t rfl rfl) rfl hS3 rfl rfl (c' := #[.int .i32 1, .int .u32 0, .int .i64 (((D.room : Nat) : Int)), .int .i64 (((tot D.F : Nat) : Int)), .map (some m), .bool D.off, .int .i64 (((D.writes : Nat) : Int)), .int .i64 (((x.toNat : Nat) : Int)), .int .i64 y, .int .i64 z]) rfl (h' := (fl [(pa d 1 (((D.room : Nat) : Int)) (((tot D.F : Nat) : Int)) m D.off (((D.writes : Nat) : Int)) (((x.toNat : Nat) : Int)) y z), sm])) rfl fun w4 hS4 hB3 => ?_
 refine wpList_nil ?_
 refine l_n ?_
 refine l_unlock (m := 0) muLib cb43 hS4 rfl rfl (c' := #[.int .i32 0, .int .u32 0, .int .i64 (((D.room : Nat) : Int)), .int .i64 (((tot D.F : Nat) : Int)), .map (some m), .bool D.off, .int .i64 (((D.writes : Nat) : Int)), .int .i64 (((x.toNat : Nat) : Int)), .int .i64 y, .int .i64 z]) rfl (h' := (fl [(pa d 0 (((D.room : Nat) : Int)) (((tot D.F : Nat) : Int)) m D.off (((D.writes : Nat) : Int)) (((x.toNat : Nat) : Int)) y z), sm])) rfl (fun _ => tells0 rfl ) fun w5 hS5 => ?_
 refine ⟨_, rfl, ?_⟩
 exact ⟨rfl, hS5⟩

theorem On_ok (w0 : World) (K : List Nat) (d m : Nat) (D : Dk) (ok : D.ok) (sm : Hp) (hM : MapH U8 m none D.F sm) (hS0 : St w0 K (fl [[(d, .cells (dkC 0 m D) DT (0, 0))], sm]) w0) :
  Calls Try.prog 40 #[.pointer (some ⟨d, 0, none⟩)] w0 (Ret fun v w' => ∃ sm', v = .tuple #[] ∧ MapH U8 m none D.on.F sm' ∧ St w0 K (fl [[(d, .cells (dkC 0 m D.on) DT (0, 0))], sm']) w') := by
 refine k_enterd (vs := [.pointer (some ⟨d, 0, none⟩)]) Try.func40 rfl Try.ntmps40 rfl ?_
 have hS : St w0 K (fl [(pk d m D), sm]) w0 := hS0
 have ok1 := ok.room
 have ok2 := ok.fits
 have ok3 := ok.len
 have ok4 := ok.armed
 have ok5 := ok.keep
 have ok6 := ok.lose
 refine wp_seq ?_
 refine k_reg ?_
 refine s_val hS rfl rfl (r_move rfl (.t rfl rfl)) ?_
 refine s_val hS rfl rfl (r_nilCheck rfl (.t rfl rfl)) ?_
 refine s_val hS rfl rfl (r_fieldN rfl Try.underlying86 rfl ti83 (by decide) (.t rfl rfl) (qq := 0) rfl) ?_
 refine s_call rfl rfl rfl (vs := [.pointer (some ⟨d, 0, none⟩)]) ⟨(.t rfl rfl), trivial⟩ cb42 (lock_ok muLib (St.block (m := 0) rfl _ hS) rfl (c' := #[.int .i32 1, .int .u32 0, .int .i64 (((D.room : Nat) : Int)), .int .i64 (((tot D.F : Nat) : Int)), .map (some m), .bool D.off, .int .i64 (((D.writes : Nat) : Int)), .int .i64 (((D.armed : Nat) : Int)), .int .i64 D.keep, .int .i64 D.lose]) rfl) ?_
 rintro _ w1 ⟨rfl, ht1⟩
 have hS1 : St w0 K (fl [(pk1 d m D), sm]) w1 := hS.callL (xs := [(pk d m D)]) (xs' := [(pk1 d m D)]) (zs := []) [0] rfl (by decide) ht1 rfl rfl
 refine wpList_nil ?_
 refine x_tn ?_
 refine k_reb [(0, .pointer (some ⟨d, 0, none⟩))] ⟨rfl, trivial⟩ fun G1 => ?_
 refine wp_seq ?_
 refine k_reg ?_
 refine s_val hS1 rfl rfl (r_move rfl (.t rfl rfl)) ?_
 refine s_val hS1 rfl rfl (r_nilCheck rfl (.t rfl rfl)) ?_
 refine s_val hS1 rfl rfl (r_fieldN rfl Try.underlying86 rfl ti83 (by decide) (.t rfl rfl) (qq := 0) rfl) ?_
 refine s_defer rfl rfl rfl (vs := [.pointer (some ⟨d, 0, none⟩)]) ⟨(.t rfl rfl), trivial⟩ ?_
 refine wpList_nil ?_
 refine x_tn ?_
 refine k_reb [(0, .pointer (some ⟨d, 0, none⟩))] ⟨rfl, trivial⟩ fun G2 => ?_
 refine wp_seq ?_
 refine wp_seq ?_
 refine k_reg ?_
 refine s_val hS1 rfl rfl (r_move rfl (.t rfl rfl)) ?_
 refine s_val hS1 rfl rfl (r_nilCheck rfl (.t rfl rfl)) ?_
 refine s_val hS1 rfl rfl (r_fieldN rfl Try.underlying86 rfl ti4 (by decide) (.t rfl rfl) (qq := 5) rfl) ?_
 refine s_val hS1 rfl rfl (r_load rfl one4 (.t rfl rfl) (St.cell_own (m := 0) rfl rfl)) ?_
 by_cases hoff : D.off = true
 ·
  refine s_asb (b' := true) (hoff) ?_
  refine s_val hS1 rfl rfl (r_lnot rfl (.t rfl rfl)) ?_
  refine wpList_nil ?_
  refine x_tn ?_
  refine k_reb [(0, .pointer (some ⟨d, 0, none⟩)), (15, .bool false)] ⟨rfl, rfl, trivial⟩ fun G3 => ?_
  refine k_f (.t rfl rfl) ?_
  refine wp_skip ?_
  refine x_tn ?_
  refine k_reb [(0, .pointer (some ⟨d, 0, none⟩))] ⟨rfl, trivial⟩ fun G4 => ?_
  refine wp_seq ?_
  refine k_reg ?_
  refine s_val hS1 rfl rfl (r_move rfl (.t rfl rfl)) ?_
  refine s_val hS1 rfl rfl (r_nilCheck rfl (.t rfl rfl)) ?_
  refine s_val hS1 rfl rfl (r_fieldN rfl Try.underlying86 rfl ti4 (by decide) (.t rfl rfl) (qq := 5) rfl) ?_
  refine s_storeB (m := 0) rfl rfl rfl one4 (.t rfl rfl) .c rfl hS1 rfl rfl (c' := #[.int .i32 1, .int .u32 0, .int .i64 (((D.room : Nat) : Int)), .int .i64 (((tot D.F : Nat) : Int)), .map (some m), .bool false, .int .i64 (((D.writes : Nat) : Int)), .int .i64 (((D.armed : Nat) : Int)), .int .i64 D.keep, .int .i64 D.lose]) rfl (h' := (fl [(pa d 1 (((D.room : Nat) : Int)) (((tot D.F : Nat) : Int)) m false (((D.writes : Nat) : Int)) (((D.armed : Nat) : Int)) D.keep D.lose), sm])) rfl fun w2 hS2 hB1 => ?_
  refine wpList_nil ?_
  refine x_tn ?_
  refine k_reb [(0, .pointer (some ⟨d, 0, none⟩))] ⟨rfl, trivial⟩ fun G5 => ?_
  refine wp_seq ?_
  refine k_reg ?_
  refine s_val hS2 rfl rfl (r_move rfl (.t rfl rfl)) ?_
  refine s_val hS2 rfl rfl (r_nilCheck rfl (.t rfl rfl)) ?_
  refine s_val hS2 rfl rfl (r_fieldN rfl Try.underlying86 rfl ti84 (by decide) (.t rfl rfl) (qq := 4) rfl) ?_
  refine s_val hS2 rfl rfl (r_load rfl one84 (.t rfl rfl) (St.cell_own (m := 0) rfl rfl)) ?_
  obtain ⟨bs, clk, hB⟩ := hM.toB
  obtain ⟨hbl, hbn, hbf⟩ := hB.len
  refine s_range (i := 1) rfl rfl rfl Try.underlying84 (.t rfl rfl) hB hS2 rfl fun it1 w3 hS3 => ?_
  have hS4 : St w0 K (fl [(pa d 1 (((D.room : Nat) : Int)) (((tot D.F : Nat) : Int)) m false (((D.writes : Nat) : Int)) (((D.armed : Nat) : Int)) D.keep D.lose), [(it1, .mapIter (some m) clk #[] clk)], sm]) w3 := hS3.push 1 rfl
  refine wpList_nil ?_
  refine x_tn ?_
  refine k_reb [(0, .pointer (some ⟨d, 0, none⟩)), (23, .pointer (some ⟨it1, 0, none⟩))] ⟨rfl, rfl, trivial⟩ fun G6 => ?_
  refine wp_block ?_
  refine wp_loop_ghost (fun (m1 : Nat) a w => ∃ (G : Nat → Value) (seen : List Nat) (smv : Hp), a = fr 40 [(0, .pointer (some ⟨d, 0, none⟩)), (23, .pointer (some ⟨it1, 0, none⟩))] G [⟨.fn (.func 43) #[], #[.pointer (some ⟨d, 0, none⟩)]⟩] ∧ St w0 K (fl [(pa d 1 (((D.room : Nat) : Int)) (((tot D.F : Nat) : Int)) m false (((D.writes : Nat) : Int)) (((D.armed : Nat) : Int)) D.keep D.lose), [(it1, .mapIter (some m) clk seen.toArray clk)], smv]) w ∧ (m1 = bs.length - seen.length ∧ seen.Nodup ∧ (∀ x ∈ seen, x ∈ bs) ∧ MapB U8 m none (updS sureX D.F bs seen) bs clk smv)) (bs.length) ⟨_, [], sm, fr_reb _ ⟨rfl, rfl, trivial⟩, hS4, ?_⟩ ?_
  ·
   exact ⟨rfl, by simp, by simp, by rw [updS_none]; exact hB⟩
  ·
   intro m1 _ w4 hI1
   obtain ⟨G7, seen, smv, rfl, hS5, ⟨hm, hsd, hss, hBv⟩⟩ := hI1
   have htl := tot_updS_le (u := sureX) (seen := seen) (fun f => Nat.le_refl _) D.F bs
   refine wp_seq ?_
   refine k_reg ?_
   refine s_next (u := sureX) (F := D.F) (i := 2) (j := 1) rfl rfl rfl (.t rfl rfl) (fun _ => rfl) hBv hS5 rfl rfl hss hbl (fun hall1 w5 hS6 => ?_) (fun q1 f1 b1 key1 val1 w6 hq1 hbq1 hnb1 hS7 => ?_)
   ·
    refine s_val hS6 rfl rfl (r_extract rfl (.t rfl rfl) rfl) ?_
    refine wpList_nil ?_
    refine x_tn ?_
    refine k_reb [(0, .pointer (some ⟨d, 0, none⟩)), (23, .pointer (some ⟨it1, 0, none⟩)), (25, .bool false)] ⟨rfl, rfl, rfl, trivial⟩ fun G8 => ?_
    refine wp_seq ?_
    refine k_f (.t rfl rfl) ?_
    refine wp_exit ?_
    refine x_te ?_
    refine x_te ?_
    refine x_be ?_
    refine l_n ?_
    refine l_unlock (m := 0) muLib cb43 hS6 rfl rfl (c' := #[.int .i32 0, .int .u32 0, .int .i64 (((D.room : Nat) : Int)), .int .i64 (((tot D.F : Nat) : Int)), .map (some m), .bool false, .int .i64 (((D.writes : Nat) : Int)), .int .i64 (((D.armed : Nat) : Int)), .int .i64 D.keep, .int .i64 D.lose]) rfl (h' := (fl [(pa d 0 (((D.room : Nat) : Int)) (((tot D.F : Nat) : Int)) m false (((D.writes : Nat) : Int)) (((D.armed : Nat) : Int)) D.keep D.lose), [(it1, .mapIter (some m) clk seen.toArray clk)], smv])) rfl (fun _ => tells0 rfl ) fun w7 hS8 => ?_
    refine ⟨_, rfl, ?_⟩
    have hS9 : St w0 K (fl [(pa d 0 (((D.room : Nat) : Int)) (((tot D.F : Nat) : Int)) m false (((D.writes : Nat) : Int)) (((D.armed : Nat) : Int)) D.keep D.lose), smv]) w7 := hS8.pick [0, 2] rfl (by decide)
    have hga : updS sureX D.F bs seen = D.F.map sureX := updS_all hbl hall1
    rw [hga] at hBv
    rw [← tot_sureX D.F] at hS9
    rw [on_off hoff]
    exact ⟨_, rfl, hBv.toH, hS9⟩
   ·
    have hS10 : St w0 K (fl [(pa d 1 (((D.room : Nat) : Int)) (((tot D.F : Nat) : Int)) m false (((D.writes : Nat) : Int)) (((D.armed : Nat) : Int)) D.keep D.lose), [(it1, .mapIter (some m) clk (seen ++ [b1]).toArray clk)], smv]) w6 := hS7
    refine s_val hS10 rfl rfl (r_extract rfl (.t rfl rfl) rfl) ?_
    refine wpList_nil ?_
    refine x_tn ?_
    refine k_reb [(0, .pointer (some ⟨d, 0, none⟩)), (23, .pointer (some ⟨it1, 0, none⟩)), (25, .bool true)] ⟨rfl, rfl, rfl, trivial⟩ fun G9 => ?_
    refine wp_seq ?_
    refine k_t (.t rfl rfl) ?_
    refine wp_skip ?_
    refine x_tn ?_
    refine k_reb [(0, .pointer (some ⟨d, 0, none⟩)), (23, .pointer (some ⟨it1, 0, none⟩))] ⟨rfl, rfl, trivial⟩ fun G10 => ?_
    refine wp_block ?_
    refine wp_seq ?_
    refine k_reg ?_
    have hfm := updS_get (u := sureX) hq1 hbq1 hnb1
    have hft := tot_mem (List.mem_of_getElem? hfm)
    obtain ⟨-, hf2, hf3⟩ := ok.files _ (List.mem_of_getElem? hq1)
    have htu := tot_upd (u := sureX) (seen := seen) (fun _ => rfl) hbf hbn hq1 hbq1 hnb1
    refine s_entry (i := 2) (j := 1) rfl rfl rfl (.t rfl rfl) hBv hS10 rfl rfl hfm hbq1 fun fa1 fc1 hA1 => ?_
    have hx1 := hA1.sl (by omega) hf3
    obtain ⟨hsp1, hsp2, hsp3⟩ := seen_push hss hsd hbq1 hnb1
    refine s_val hS10 rfl rfl (r_extract rfl (.t rfl rfl) rfl) ?_
    refine s_val hS10 rfl rfl (r_extract rfl (.t rfl rfl) rfl) ?_
    refine s_alloc rfl rfl rfl ti88 (cs := #[.slice none 0 0, .int .i64 0]) rfl hS10 fun blk1 w8 hb1 hB2 hS11 => ?_
    have hS12 : St w0 K (fl [(pa d 1 (((D.room : Nat) : Int)) (((tot D.F : Nat) : Int)) m false (((D.writes : Nat) : Int)) (((D.armed : Nat) : Int)) D.keep D.lose), [(it1, .mapIter (some m) clk (seen ++ [b1]).toArray clk)], [(blk1, .cells #[.slice none 0 0, .int .i64 0] 88 (0, 0))], smv]) w8 := hS11.push 2 rfl
    refine s_val hS12 rfl rfl (r_assign rfl (.t rfl rfl)) ?_
    refine s_storeA (m := 2) rfl rfl rfl ti88 (.t rfl rfl) (vs := [.slice fa1 f1.bytes.length fc1, .int .i64 (((f1.sure : Nat) : Int))]) (.t rfl rfl) rfl rfl hS12 rfl (show 2 ≤ 2 from by decide) (c' := #[.slice fa1 f1.bytes.length fc1, .int .i64 (((f1.sure : Nat) : Int))]) rfl (h' := (fl [(pa d 1 (((D.room : Nat) : Int)) (((tot D.F : Nat) : Int)) m false (((D.writes : Nat) : Int)) (((D.armed : Nat) : Int)) D.keep D.lose), [(it1, .mapIter (some m) clk (seen ++ [b1]).toArray clk)], [(blk1, .cells #[.slice fa1 f1.bytes.length fc1, .int .i64 (((f1.sure : Nat) : Int))] 88 (0, 0))], smv])) rfl fun w9 hS13 => ?_
    refine wpList_nil ?_
    refine x_tn ?_
    refine k_reb [(0, .pointer (some ⟨d, 0, none⟩)), (2, .string f1.name), (3, .pointer (some ⟨blk1, 0, none⟩)), (23, .pointer (some ⟨it1, 0, none⟩))] ⟨rfl, rfl, rfl, rfl, trivial⟩ fun G11 => ?_
    refine k_regt 11 mixed (by kernel_rfl) hS13 fun w10 hS14 hB3 => ?_
    refine t_val hS14 rfl rfl (r_move rfl (.t rfl rfl)) ?_
    refine t_val hS14 rfl rfl (r_nilCheck rfl (.t rfl rfl)) ?_
    refine t_val hS14 rfl rfl (r_fieldN rfl Try.underlying86 rfl ti84 (by decide) (.t rfl rfl) (qq := 4) rfl) ?_
    refine t_val hS14 rfl rfl (r_load rfl one84 (.t rfl rfl) (St.cell_own (m := 0) rfl rfl)) ?_
    refine t_val hS14 rfl rfl (r_move rfl (.t rfl rfl)) ?_
    refine t_val hS14 rfl rfl (r_fieldN rfl Try.underlying88 rfl ti22 (by decide) (.t rfl rfl) (qq := 0) rfl) ?_
    refine t_val hS14 rfl rfl (r_load rfl one22 (.t rfl rfl) (St.cell_own (m := 2) rfl rfl)) ?_
    refine t_val hS14 rfl rfl (r_fieldN rfl Try.underlying88 rfl ti22 (by decide) (.t rfl rfl) (qq := 0) rfl) ?_
    refine t_val hS14 rfl rfl (r_load rfl one22 (.t rfl rfl) (St.cell_own (m := 2) rfl rfl)) ?_
    refine t_val hS14 rfl rfl (r_len rfl rfl Try.underlying22 (.t rfl rfl)) ?_
    refine t_val hS14 rfl rfl (r_build rfl Try.underlying88 ti88 pl88 (vs := [(0, .slice fa1 f1.bytes.length fc1), (1, .int .i64 (((f1.bytes.length : Nat) : Int)))]) ⟨rfl, (.t rfl rfl), ⟨rfl, (.t rfl rfl), trivial⟩⟩ rfl) ?_
    refine t_nil ?_
    obtain ⟨sm1, sg1, hB4, hG1, hS15⟩ := hA1.openB (i := 3) hBv hS14 rfl
    have hS16 : St w0 K (fl [(pa d 1 (((D.room : Nat) : Int)) (((tot D.F : Nat) : Int)) m false (((D.writes : Nat) : Int)) (((D.armed : Nat) : Int)) D.keep D.lose), [(it1, .mapIter (some m) clk (seen ++ [b1]).toArray clk)], [(blk1, .cells #[.slice fa1 f1.bytes.length fc1, .int .i64 (((f1.sure : Nat) : Int))] 88 (0, 0))], sm1, sg1]) w10 := hS15
    refine s_putB (B := ((sureX f1).bytes)) (k := ((sureX f1).sure)) (i := 3) (j := 4) rfl rfl rfl Try.underlying84 Try.underlying9 (.t rfl rfl) (.t rfl rfl) (by rw [show ((sureX f1).bytes).length = f1.bytes.length from by first | rfl | assumption | omega | (simp; omega)]; exact (.t rfl rfl)) hB4 hG1 hS16 rfl rfl rfl fun sm2 w11 hB5 hS17 => ?_
    have hlk := lookF_get (by rw [updS_names (u := sureX) (fun _ => rfl)]; exact hbf) hfm
    rw [hlk] at hB5
    replace hB5 : MapB U8 m none (updS sureX D.F bs (seen ++ [b1])) bs clk sm2 := by
     have e := putF_updS (u := sureX) (fun _ => rfl) hbf hbn hq1 hbq1 hnb1
     rw [← e]; exact hB5
    have hS18 : St w0 K (fl [(pa d 1 (((D.room : Nat) : Int)) (((tot D.F : Nat) : Int)) m false (((D.writes : Nat) : Int)) (((D.armed : Nat) : Int)) D.keep D.lose), [(it1, .mapIter (some m) clk (seen ++ [b1]).toArray clk)], [(blk1, .cells #[.slice fa1 f1.bytes.length fc1, .int .i64 (((f1.sure : Nat) : Int))] 88 (0, 0))], sm2]) w11 := St.pick (L := [(pa d 1 (((D.room : Nat) : Int)) (((tot D.F : Nat) : Int)) m false (((D.writes : Nat) : Int)) (((D.armed : Nat) : Int)) D.keep D.lose), [(it1, .mapIter (some m) clk (seen ++ [b1]).toArray clk)], [(blk1, .cells #[.slice fa1 f1.bytes.length fc1, .int .i64 (((f1.sure : Nat) : Int))] 88 (0, 0))], sm2, []]) [0, 1, 2, 3] hS17 rfl (by decide)
    refine wpList_nil ?_
    refine x_bn ?_
    refine x_tn ?_
    have hS19 : St w0 K (fl [(pa d 1 (((D.room : Nat) : Int)) (((tot D.F : Nat) : Int)) m false (((D.writes : Nat) : Int)) (((D.armed : Nat) : Int)) D.keep D.lose), [(it1, .mapIter (some m) clk (seen ++ [b1]).toArray clk)], sm2]) w11 := hS18.pick [0, 1, 3] rfl (by decide)
    refine ⟨bs.length - (seen ++ [b1]).length, by simp; omega, _, seen ++ [b1], sm2, fr_reb _ ⟨rfl, rfl, trivial⟩, hS19, ?_⟩
    exact ⟨rfl, hsp2, hsp1, hB5⟩
 ·
  refine s_asb (b' := false) (Bool.eq_false_iff.2 hoff) ?_
  refine s_val hS1 rfl rfl (r_lnot rfl (.t rfl rfl)) ?_
  refine wpList_nil ?_
  refine x_tn ?_
  refine k_reb [(0, .pointer (some ⟨d, 0, none⟩)), (15, .bool true)] ⟨rfl, rfl, trivial⟩ fun G12 => ?_
  refine k_t (.t rfl rfl) ?_
  refine wp_ret ?_
  refine x_tr ?_
  refine l_unlock (m := 0) muLib cb43 hS1 rfl rfl (c' := #[.int .i32 0, .int .u32 0, .int .i64 (((D.room : Nat) : Int)), .int .i64 (((tot D.F : Nat) : Int)), .map (some m), .bool D.off, .int .i64 (((D.writes : Nat) : Int)), .int .i64 (((D.armed : Nat) : Int)), .int .i64 D.keep, .int .i64 D.lose]) rfl (h' := (fl [(pk d m D), sm])) rfl (fun _ => tells0 rfl ) fun w12 hS20 => ?_
  refine ⟨_, rfl, ?_⟩
  rw [on_on (by simpa using hoff)]
  exact ⟨_, rfl, hM, hS20⟩

end Go.Proofs.Ytdmiklegahdafaa

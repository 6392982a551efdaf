/- Contracts of functions of the program, each walked once. -/
import Derived.Test.YtdmiklegahdafaaFnG
import Derived.Test.YtdmiklegahdafaaKOp
namespace Go.Proofs.Ytdmiklegahdafaa
open Go Go.RowKit K
namespace FH
theorem mixed : Try.prog.follows .mixedOrders = true := by kernel_rfl
theorem cb24 : callable Try.prog 24 = true := by kernel_rfl
theorem cb26 : callable Try.prog 26 = true := by kernel_rfl
theorem cb58 : callable Try.prog 58 = true := by kernel_rfl
theorem one33 : One Try.prog 33 = true := by kernel_rfl
theorem one9 : One Try.prog 9 = true := by kernel_rfl
theorem ti33 : (Try.prog.info? 33).map (fun i => (i.zero, i.size, i.bytes)) = some (some (.pointer none), 1, 8) := by kernel_rfl
theorem ti5 : (Try.prog.info? 5).map (fun i => (i.zero, i.size, i.bytes)) = some (some (.int .u8 0), 1, 1) := by kernel_rfl
theorem ti9 : (Try.prog.info? 9).map (fun i => (i.zero, i.size, i.bytes)) = some (some (.string ⟨#[]⟩), 1, 16) := by kernel_rfl

end FH
open FH
attribute [local irreducible] Go.wpList Go.wpQuiet Go.wpStill Go.wpAny Go.Code.wp
set_option maxRecDepth 10000
set_option maxHeartbeats 8000000
set_option linter.unusedVariables false
set_option linter.unusedSimpArgs false
abbrev LT : TypeId := 92
theorem Cut_st (w0 : World) (K : List Nat) (d m : Nat) (D : Dk) (ok : D.ok) (sm : Hp) (hM : MapH U8 m none D.F sm) (s : ByteArray) (ls : s.size ≤ 1000000000000) (x : Int) (hx : -9223372036854775808 ≤ x ∧ x ≤ 9223372036854775807) (hw : D.writes ≤ 4611686018427387904) (hS0 : St w0 K (fl [[(d, .cells (dkC 0 m D) DT (0, 0))], sm]) w0) :
  Calls Try.prog 24 #[.pointer (some ⟨d, 0, none⟩), .string s, .int .i64 x] w0 (Ret fun v w' => ∃ e D1 sm', Stp e D1 (D.cut s x) D ∧ v = .int .i64 (e : Nat) ∧ MapH U8 m none D1.F sm' ∧ St w0 K (fl [[(d, .cells (dkC 0 m D1) DT (0, 0))], sm']) w') :=
 (Cut_ok w0 K d m D ok sm hM s ls x hx hw hS0).mono fun _ _ ⟨v, he, sm', hv, hm, hs⟩ => ⟨v, he, _, _, sm', Stp.cut ok hM.names s x, hv, hm, hs⟩
theorem Sync_st (w0 : World) (K : List Nat) (d m : Nat) (D : Dk) (ok : D.ok) (sm : Hp) (hM : MapH U8 m none D.F sm) (s : ByteArray) (ls : s.size ≤ 1000000000000) (hw : D.writes ≤ 4611686018427387904) (hS0 : St w0 K (fl [[(d, .cells (dkC 0 m D) DT (0, 0))], sm]) w0) :
  Calls Try.prog 58 #[.pointer (some ⟨d, 0, none⟩), .string s] w0 (Ret fun v w' => ∃ e D1 sm', Stp e D1 (D.sync s) D ∧ v = .int .i64 (e : Nat) ∧ MapH U8 m none D1.F sm' ∧ St w0 K (fl [[(d, .cells (dkC 0 m D1) DT (0, 0))], sm']) w') :=
 (Sync_ok w0 K d m D ok sm hM s ls hw hS0).mono fun _ _ ⟨v, he, sm', hv, hm, hs⟩ => ⟨v, he, _, _, sm', Stp.sync ok hM.names s, hv, hm, hs⟩
theorem Append_st (w0 : World) (K : List Nat) (d m : Nat) (D : Dk) (ok : D.ok) (sm : Hp) (hM : MapH U8 m none D.F sm) (s : ByteArray) (ls : s.size ≤ 1000000000000) (aB : Option Addr) (cB : Nat) (B : List Nat) (vB : Hp) (hB : Sl .u8 aB cB B vB) (oB : Old w0 K vB) (hw : D.writes ≤ 4611686018427387904) (hS0 : St w0 K (fl [[(d, .cells (dkC 0 m D) DT (0, 0))], sm]) w0) :
  Calls Try.prog 26 #[.pointer (some ⟨d, 0, none⟩), .string s, .slice aB B.length cB] w0 (Ret fun v w' => ∃ e D1 sm', Stp e D1 (D.append s B) D ∧ v = .int .i64 (e : Nat) ∧ MapH U8 m none D1.F sm' ∧ St w0 K (fl [[(d, .cells (dkC 0 m D1) DT (0, 0))], sm']) w') :=
 (DAppend_ok w0 K d m D ok sm hM s ls aB cB B vB hB oB hw hS0).mono fun _ _ ⟨v, he, sm', hv, hm, hs⟩ => ⟨v, he, _, _, sm', Stp.append ok hM.names s hB.fit, hv, hm, hs⟩
theorem begin_ok (w0 : World) (K : List Nat) (d m : Nat) (D : Dk) (ok : D.ok) (l size count : Nat) (off : Bool) (ab : Option Addr) (k cb : Nat) (lk : k ≤ 9223372036854775807) (sm : Hp) (hM : MapH U8 m none D.F sm) (s : ByteArray) (ls : s.size ≤ 1000000000000) (hw : D.writes ≤ 1000000000000) (hS0 : St w0 K (fl [[(l, .cells #[.pointer (some ⟨d, 0, none⟩), .string s, .int .i64 (size : Nat), .int .i64 (count : Nat), .bool off] LT (0, 0))], [(d, .cells (dkC 0 m D) DT (0, 0))], sm]) w0) :
  Calls Try.prog 48 #[.pointer (some ⟨l, 0, none⟩), .slice ab k cb] w0 (Ret fun v w' => ∃ e D1 sm', StpN 3 e D1 (D.begin s k) D ∧ v = .int .i64 (e : Nat) ∧ MapH U8 m none D1.F sm' ∧ St w0 K (fl [[(l, .cells #[.pointer (some ⟨d, 0, none⟩), .string s, .int .i64 (size : Nat), .int .i64 (count : Nat), .bool off] LT (0, 0))], [(d, .cells (dkC 0 m D1) DT (0, 0))], sm']) w') := by
 refine k_enter (vs := [.pointer (some ⟨l, 0, none⟩), .slice ab k cb]) Try.func48 rfl Try.ntmps48 rfl ?_
 have hS : St w0 K (fl [[(l, .cells #[.pointer (some ⟨d, 0, none⟩), .string s, .int .i64 (((size : Nat) : Int)), .int .i64 (((count : Nat) : Int)), .bool off] 92 (0, 0))], (pk d m D), sm]) w0 := hS0
 refine wp_seq ?_
 refine k_reg ?_
 refine s_val hS rfl rfl (r_assign rfl .c) ?_
 refine wpList_nil ?_
 refine x_tn ?_
 refine wp_seq ?_
 refine wp_seq ?_
 refine k_reg ?_
 refine s_val hS rfl rfl (r_move rfl (.t rfl rfl)) ?_
 refine s_val hS rfl rfl (r_len rfl rfl Try.underlying22 (.t rfl rfl)) ?_
 by_cases hk : k > 0
 ·
  refine s_val hS rfl rfl (r_cmp_t rfl rfl (.t rfl rfl) .c (show ((k : Nat) : Int) > 0 from by omega)) ?_
  refine wpList_nil ?_
  refine x_tn ?_
  refine k_reb [(0, .pointer (some ⟨l, 0, none⟩)), (4, .int .i64 0), (9, .bool true)] ⟨rfl, rfl, rfl, trivial⟩ fun G1 => ?_
  refine k_t (.t rfl rfl) ?_
  refine wp_seq ?_
  refine k_regt 8 mixed (by kernel_rfl) hS fun w1 hS1 hB1 => ?_
  refine t_val hS1 rfl rfl (r_move rfl (.t rfl rfl)) ?_
  refine t_val hS1 rfl rfl (r_nilCheck rfl (.t rfl rfl)) ?_
  refine t_val hS1 rfl rfl (r_fieldN rfl Try.underlying92 rfl ti33 (by decide) (.t rfl rfl) (qq := 0) rfl) ?_
  refine t_val hS1 rfl rfl (r_load rfl one33 (.t rfl rfl) (St.cell_own (m := 0) rfl rfl)) ?_
  refine t_val hS1 rfl rfl (r_move rfl (.t rfl rfl)) ?_
  refine t_val hS1 rfl rfl (r_nilCheck rfl (.t rfl rfl)) ?_
  refine t_val hS1 rfl rfl (r_fieldN rfl Try.underlying92 rfl ti9 (by decide) (.t rfl rfl) (qq := 1) rfl) ?_
  refine t_val hS1 rfl rfl (r_load rfl one9 (.t rfl rfl) (St.cell_own (m := 0) rfl rfl)) ?_
  refine t_nil ?_
  refine s_call rfl rfl rfl (vs := [.pointer (some ⟨d, 0, none⟩), .string s, .int .i64 0]) ⟨(.t rfl rfl), (.t rfl rfl), .c, trivial⟩ cb24 (Cut_st w1 _ d m D ok sm hM s (by omega) 0 (by omega) (by omega) (hS1.give (xs := [(pk d m D), sm]) [1, 2] rfl (by decide))) ?_
  rintro _ w2 ⟨e1, D1, sm1, hst1, rfl, hM1, ht1⟩
  have hS2 : St w0 K (fl [[(l, .cells #[.pointer (some ⟨d, 0, none⟩), .string s, .int .i64 (((size : Nat) : Int)), .int .i64 (((count : Nat) : Int)), .bool off] 92 (0, 0))], (pk d m D1), sm1]) w2 := hS1.callL (xs := [(pk d m D), sm]) (xs' := [(pk d m D1), sm1]) (zs := []) [1, 2] rfl (by decide) ht1 rfl rfl
  have hle1 := hst1.le
  have hwr1 := hst1.wr
  refine s_val hS2 rfl rfl (r_assign rfl (.t rfl rfl)) ?_
  refine wpList_nil ?_
  refine x_tn ?_
  refine k_reb [(0, .pointer (some ⟨l, 0, none⟩)), (4, .int .i64 0), (5, .int .i64 (((e1 : Nat) : Int)))] ⟨rfl, rfl, rfl, trivial⟩ fun G2 => ?_
  refine wp_seq ?_
  refine k_reg ?_
  refine s_val hS2 rfl rfl (r_move rfl (.t rfl rfl)) ?_
  by_cases c1 : e1 ≠ 0
  ·
   refine s_val hS2 rfl rfl (r_cmp_t rfl rfl (.t rfl rfl) .c (show ¬ ((e1 : Nat) : Int) = 0 from by omega)) ?_
   refine wpList_nil ?_
   refine x_tn ?_
   refine k_reb [(0, .pointer (some ⟨l, 0, none⟩)), (4, .int .i64 0), (5, .int .i64 (((e1 : Nat) : Int))), (20, .bool true)] ⟨rfl, rfl, rfl, rfl, trivial⟩ fun G3 => ?_
   refine k_t (.t rfl rfl) ?_
   refine wp_seq ?_
   refine k_reg ?_
   refine s_val hS2 rfl rfl (r_move rfl (.t rfl rfl)) ?_
   refine s_val hS2 rfl rfl (r_assign rfl (.t rfl rfl)) ?_
   refine wpList_nil ?_
   refine x_tn ?_
   refine k_reb [(0, .pointer (some ⟨l, 0, none⟩)), (4, .int .i64 (((e1 : Nat) : Int)))] ⟨rfl, rfl, trivial⟩ fun G4 => ?_
   refine wp_ret ?_
   refine x_tr ?_
   refine k_ret1 Try.results48 rfl rfl ?_
   refine ⟨_, rfl, ?_⟩
   exact ⟨_, _, _, begin_1 hk hst1 (by omega), rfl, hM1, hS2⟩
  ·
   refine s_val hS2 rfl rfl (r_cmp_f rfl rfl (.t rfl rfl) .c (show ¬ (¬ ((e1 : Nat) : Int) = 0) from by omega)) ?_
   refine wpList_nil ?_
   refine x_tn ?_
   refine k_reb [(0, .pointer (some ⟨l, 0, none⟩)), (4, .int .i64 0), (5, .int .i64 (((e1 : Nat) : Int))), (20, .bool false)] ⟨rfl, rfl, rfl, rfl, trivial⟩ fun G5 => ?_
   refine k_f (.t rfl rfl) ?_
   refine wp_skip ?_
   refine x_tn ?_
   refine k_reb [(0, .pointer (some ⟨l, 0, none⟩)), (4, .int .i64 0)] ⟨rfl, rfl, trivial⟩ fun G6 => ?_
   refine wp_seq ?_
   refine wp_seq ?_
   refine k_only ?_
   refine h_start (C := fun x => Has x (fl [[(l, .cells #[.pointer (some ⟨d, 0, none⟩), .string s, .int .i64 (((size : Nat) : Int)), .int .i64 (((count : Nat) : Int)), .bool off] 92 (0, 0))]])) mixed hS2 (L := [false, false, false, false, false, false, false, false, false, false, false, false]) rfl fun w3 hS3 => ?_
   have hH1 : Has w3 (fl [[(l, .cells #[.pointer (some ⟨d, 0, none⟩), .string s, .int .i64 (((size : Nat) : Int)), .int .i64 (((count : Nat) : Int)), .bool off] 92 (0, 0))]]) := (Has.cons_ (hS3.has (i := 0) rfl) Has.nil_)
   refine h_take (i := 0) NoP.only rfl rfl rfl (by kernel_rfl) (L' := [true, false, false, false, false, false, false, false, false, false, false, false]) rfl (r_move rfl (.t rfl rfl)) hH1 ?_
   refine h_take (i := 1) NoP.only rfl rfl rfl (by kernel_rfl) (L' := [true, true, false, false, false, false, false, false, false, false, false, false]) rfl (r_nilCheck rfl (.t rfl rfl)) hH1 ?_
   refine h_take (i := 2) NoP.only rfl rfl rfl (by kernel_rfl) (L' := [true, true, true, false, false, false, false, false, false, false, false, false]) rfl (r_fieldN rfl Try.underlying92 rfl ti33 (by decide) (.t rfl rfl) (qq := 0) rfl) hH1 ?_
   refine h_take (i := 3) NoP.only rfl rfl rfl (by kernel_rfl) (L' := [true, true, true, true, false, false, false, false, false, false, false, false]) rfl (r_load rfl one33 (.t rfl rfl) (Has.cell_own (i := 0) rfl rfl)) hH1 ?_
   refine h_take (i := 4) NoP.only rfl rfl rfl (by kernel_rfl) (L' := [true, true, true, true, true, false, false, false, false, false, false, false]) rfl (r_move rfl (.t rfl rfl)) hH1 ?_
   refine h_take (i := 5) NoP.only rfl rfl rfl (by kernel_rfl) (L' := [true, true, true, true, true, true, false, false, false, false, false, false]) rfl (r_nilCheck rfl (.t rfl rfl)) hH1 ?_
   refine h_take (i := 6) NoP.only rfl rfl rfl (by kernel_rfl) (L' := [true, true, true, true, true, true, true, false, false, false, false, false]) rfl (r_fieldN rfl Try.underlying92 rfl ti9 (by decide) (.t rfl rfl) (qq := 1) rfl) hH1 ?_
   refine h_take (i := 7) NoP.only rfl rfl rfl (by kernel_rfl) (L' := [true, true, true, true, true, true, true, true, false, false, false, false]) rfl (r_load rfl one9 (.t rfl rfl) (Has.cell_own (i := 0) rfl rfl)) hH1 ?_
   refine h_all (rs := [8]) (by kernel_rfl) (by simp) ?_
   refine List.forall_mem_cons.2 ⟨h_op rfl (wanted_none rfl) ?_, by simp⟩
   refine s_lit rfl rfl rfl Try.underlying22 ti5 (vs := [(0, .int .u8 70), (1, .int .u8 65), (2, .int .u8 84), (3, .int .u8 72), (4, .int .u8 79), (5, .int .u8 77), (6, .int .u8 74), (7, .int .u8 49)]) ⟨rfl, .c, ⟨rfl, .c, ⟨rfl, .c, ⟨rfl, .c, ⟨rfl, .c, ⟨rfl, .c, ⟨rfl, .c, ⟨rfl, .c, trivial⟩⟩⟩⟩⟩⟩⟩⟩ (L := [70, 65, 84, 72, 79, 77, 74, 49]) rfl (by omega) rfl hS3 fun blk1 w4 hb1 hB2 hS4 => ?_
   have hS5 : St w0 K (fl [[(l, .cells #[.pointer (some ⟨d, 0, none⟩), .string s, .int .i64 (((size : Nat) : Int)), .int .i64 (((count : Nat) : Int)), .bool off] 92 (0, 0))], (pk d m D1), [(blk1, .cells (encN .u8 ([70, 65, 84, 72, 79, 77, 74, 49])) 5 (0, 0))], sm1]) w4 := hS4.push 2 rfl
   refine wpList_nil ?_
   refine x_tn ?_
   have hH2 : Has w4 (fl [[(l, .cells #[.pointer (some ⟨d, 0, none⟩), .string s, .int .i64 (((size : Nat) : Int)), .int .i64 (((count : Nat) : Int)), .bool off] 92 (0, 0))]]) := (Has.cons_ (hS5.has (i := 0) rfl) Has.nil_)
   refine ⟨hH2, ?_⟩
   refine h_all (rs := [9]) (by kernel_rfl) (by simp) ?_
   refine List.forall_mem_cons.2 ⟨h_op rfl (wanted_none rfl) ?_, by simp⟩
   refine s_convsame (m := 2) rfl rfl rfl Try.underlying22 Try.underlying5 (.t rfl rfl) hS5 rfl (h' := fl [[(l, .cells #[.pointer (some ⟨d, 0, none⟩), .string s, .int .i64 (((size : Nat) : Int)), .int .i64 (((count : Nat) : Int)), .bool off] 92 (0, 0))], (pk d m D1), [(blk1, .cells (encN .u8 ([70, 65, 84, 72, 79, 77, 74, 49])) 5 ((encN .u8 ([70, 65, 84, 72, 79, 77, 74, 49])).size, (encN .u8 ([70, 65, 84, 72, 79, 77, 74, 49])).size + 1))], sm1]) rfl fun w5 hS7 => ?_
   obtain ⟨sg1, hx1, hS6⟩ : ∃ sg1 : Hp, Sl .u8 (some ⟨blk1, 0, none⟩) 8 ([70, 65, 84, 72, 79, 77, 74, 49]) sg1 ∧ St w0 K (fl [[(l, .cells #[.pointer (some ⟨d, 0, none⟩), .string s, .int .i64 (((size : Nat) : Int)), .int .i64 (((count : Nat) : Int)), .bool off] 92 (0, 0))], (pk d m D1), sm1, sg1]) w5 := ⟨_, Sl.of_enc (by decide) (by decide) headL_fit, hS7.pick [0, 1, 3, 2] rfl (by decide)⟩
   refine wpList_nil ?_
   refine x_tn ?_
   have hH3 : Has w5 (fl [[(l, .cells #[.pointer (some ⟨d, 0, none⟩), .string s, .int .i64 (((size : Nat) : Int)), .int .i64 (((count : Nat) : Int)), .bool off] 92 (0, 0))]]) := (Has.cons_ (hS6.has (i := 0) rfl) Has.nil_)
   refine ⟨hH3, ?_⟩
   refine h_all (rs := [10]) (by kernel_rfl) (by simp) ?_
   refine List.forall_mem_cons.2 ⟨h_op rfl (wanted_none rfl) ?_, by simp⟩
   refine s_call rfl rfl rfl (vs := [.pointer (some ⟨d, 0, none⟩), .string s, .slice (some ⟨blk1, 0, none⟩) 8 8]) ⟨(.t rfl rfl), (.t rfl rfl), (.t rfl rfl), trivial⟩ cb26 (Append_st w5 _ d m D1 hst1.ok sm1 hM1 s (by omega) (some ⟨blk1, 0, none⟩) 8 ([70, 65, 84, 72, 79, 77, 74, 49]) sg1 hx1 (Old.of_piece (i := 3) (xs := [(pk d m D1), sm1]) [1, 2] hS6 rfl rfl (by decide)) (by omega) (hS6.give (xs := [(pk d m D1), sm1]) [1, 2] rfl (by decide))) ?_
   rintro _ w6 ⟨e2, D2, sm2, hst2, rfl, hM2, ht2⟩
   have hS8 : St w0 K (fl [[(l, .cells #[.pointer (some ⟨d, 0, none⟩), .string s, .int .i64 (((size : Nat) : Int)), .int .i64 (((count : Nat) : Int)), .bool off] 92 (0, 0))], (pk d m D2), sm2, sg1]) w6 := hS6.callL (xs := [(pk d m D1), sm1]) (xs' := [(pk d m D2), sm2]) (zs := []) [1, 2] rfl (by decide) ht2 rfl rfl
   have hle2 := hst2.le
   have hwr2 := hst2.wr
   refine wpList_nil ?_
   refine x_tn ?_
   have hH4 : Has w6 (fl [[(l, .cells #[.pointer (some ⟨d, 0, none⟩), .string s, .int .i64 (((size : Nat) : Int)), .int .i64 (((count : Nat) : Int)), .bool off] 92 (0, 0))]]) := (Has.cons_ (hS8.has (i := 0) rfl) Has.nil_)
   refine ⟨hH4, ?_⟩
   refine h_take (i := 11) NoP.only rfl rfl rfl (by kernel_rfl) (L' := [true, true, true, true, true, true, true, true, true, true, true, true]) rfl (r_assign rfl (.t rfl rfl)) hH4 ?_
   refine h_done (by kernel_rfl) ?_
   refine only_n ?_
   refine x_tn ?_
   refine k_reb [(0, .pointer (some ⟨l, 0, none⟩)), (4, .int .i64 0), (6, .int .i64 (((e2 : Nat) : Int)))] ⟨rfl, rfl, rfl, trivial⟩ fun G7 => ?_
   refine wp_seq ?_
   refine k_reg ?_
   refine s_val hS8 rfl rfl (r_move rfl (.t rfl rfl)) ?_
   by_cases c2 : e2 ≠ 0
   ·
    refine s_val hS8 rfl rfl (r_cmp_t rfl rfl (.t rfl rfl) .c (show ¬ ((e2 : Nat) : Int) = 0 from by omega)) ?_
    refine wpList_nil ?_
    refine x_tn ?_
    refine k_reb [(0, .pointer (some ⟨l, 0, none⟩)), (4, .int .i64 0), (6, .int .i64 (((e2 : Nat) : Int))), (34, .bool true)] ⟨rfl, rfl, rfl, rfl, trivial⟩ fun G8 => ?_
    refine k_t (.t rfl rfl) ?_
    refine wp_seq ?_
    refine k_reg ?_
    refine s_val hS8 rfl rfl (r_move rfl (.t rfl rfl)) ?_
    refine s_val hS8 rfl rfl (r_assign rfl (.t rfl rfl)) ?_
    refine wpList_nil ?_
    refine x_tn ?_
    refine k_reb [(0, .pointer (some ⟨l, 0, none⟩)), (4, .int .i64 (((e2 : Nat) : Int)))] ⟨rfl, rfl, trivial⟩ fun G9 => ?_
    refine wp_ret ?_
    refine x_tr ?_
    refine k_ret1 Try.results48 rfl rfl ?_
    refine ⟨_, rfl, ?_⟩
    have hS9 : St w0 K (fl [[(l, .cells #[.pointer (some ⟨d, 0, none⟩), .string s, .int .i64 (((size : Nat) : Int)), .int .i64 (((count : Nat) : Int)), .bool off] 92 (0, 0))], (pk d m D2), sm2]) w6 := hS8.pick [0, 1, 2] rfl (by decide)
    exact ⟨_, _, _, begin_2 hk hst1 (by omega) hst2 (by omega), rfl, hM2, hS9⟩
   ·
    refine s_val hS8 rfl rfl (r_cmp_f rfl rfl (.t rfl rfl) .c (show ¬ (¬ ((e2 : Nat) : Int) = 0) from by omega)) ?_
    refine wpList_nil ?_
    refine x_tn ?_
    refine k_reb [(0, .pointer (some ⟨l, 0, none⟩)), (4, .int .i64 0), (6, .int .i64 (((e2 : Nat) : Int))), (34, .bool false)] ⟨rfl, rfl, rfl, rfl, trivial⟩ fun G10 => ?_
    refine k_f (.t rfl rfl) ?_
    refine wp_skip ?_
    refine x_tn ?_
    refine k_reb [(0, .pointer (some ⟨l, 0, none⟩)), (4, .int .i64 0)] ⟨rfl, rfl, trivial⟩ fun G11 => ?_
    refine wp_seq ?_
    refine k_regt 8 mixed (by kernel_rfl) hS8 fun w7 hS10 hB3 => ?_
    refine t_val hS10 rfl rfl (r_move rfl (.t rfl rfl)) ?_
    refine t_val hS10 rfl rfl (r_nilCheck rfl (.t rfl rfl)) ?_
    refine t_val hS10 rfl rfl (r_fieldN rfl Try.underlying92 rfl ti33 (by decide) (.t rfl rfl) (qq := 0) rfl) ?_
    refine t_val hS10 rfl rfl (r_load rfl one33 (.t rfl rfl) (St.cell_own (m := 0) rfl rfl)) ?_
    refine t_val hS10 rfl rfl (r_move rfl (.t rfl rfl)) ?_
    refine t_val hS10 rfl rfl (r_nilCheck rfl (.t rfl rfl)) ?_
    refine t_val hS10 rfl rfl (r_fieldN rfl Try.underlying92 rfl ti9 (by decide) (.t rfl rfl) (qq := 1) rfl) ?_
    refine t_val hS10 rfl rfl (r_load rfl one9 (.t rfl rfl) (St.cell_own (m := 0) rfl rfl)) ?_
    refine t_nil ?_
    refine s_call rfl rfl rfl (vs := [.pointer (some ⟨d, 0, none⟩), .string s]) ⟨(.t rfl rfl), (.t rfl rfl), trivial⟩ cb58 (Sync_st w7 _ d m D2 hst2.ok sm2 hM2 s (by omega)  (by omega) (hS10.give (xs := [(pk d m D2), sm2]) [1, 2] rfl (by decide))) ?_
    rintro _ w8 ⟨e3, D3, sm3, hst3, rfl, hM3, ht3⟩
    have hS11 : St w0 K (fl [[(l, .cells #[.pointer (some ⟨d, 0, none⟩), .string s, .int .i64 (((size : Nat) : Int)), .int .i64 (((count : Nat) : Int)), .bool off] 92 (0, 0))], (pk d m D3), sm3, sg1]) w8 := hS10.callL (xs := [(pk d m D2), sm2]) (xs' := [(pk d m D3), sm3]) (zs := []) [1, 2] rfl (by decide) ht3 rfl rfl
    have hle3 := hst3.le
    have hwr3 := hst3.wr
    refine s_val hS11 rfl rfl (r_assign rfl (.t rfl rfl)) ?_
    refine wpList_nil ?_
    refine x_tn ?_
    refine k_reb [(4, .int .i64 (((e3 : Nat) : Int)))] ⟨rfl, trivial⟩ fun G12 => ?_
    refine wp_ret ?_
    refine k_ret1 Try.results48 rfl rfl ?_
    refine ⟨_, rfl, ?_⟩
    have hS12 : St w0 K (fl [[(l, .cells #[.pointer (some ⟨d, 0, none⟩), .string s, .int .i64 (((size : Nat) : Int)), .int .i64 (((count : Nat) : Int)), .bool off] 92 (0, 0))], (pk d m D3), sm3]) w8 := hS11.pick [0, 1, 2] rfl (by decide)
    exact ⟨_, _, _, begin_3 hk hst1 (by omega) hst2 (by omega) hst3, rfl, hM3, hS12⟩
 ·
  refine s_val hS rfl rfl (r_cmp_f rfl rfl (.t rfl rfl) .c (show ¬ (((k : Nat) : Int) > 0) from by omega)) ?_
  refine wpList_nil ?_
  refine x_tn ?_
  refine k_reb [(0, .pointer (some ⟨l, 0, none⟩)), (4, .int .i64 0), (9, .bool false)] ⟨rfl, rfl, rfl, trivial⟩ fun G13 => ?_
  refine k_f (.t rfl rfl) ?_
  refine wp_skip ?_
  refine x_tn ?_
  refine k_reb [(0, .pointer (some ⟨l, 0, none⟩)), (4, .int .i64 0)] ⟨rfl, rfl, trivial⟩ fun G14 => ?_
  refine wp_seq ?_
  refine wp_seq ?_
  refine k_only ?_
  refine h_start (C := fun x => Has x (fl [[(l, .cells #[.pointer (some ⟨d, 0, none⟩), .string s, .int .i64 (((size : Nat) : Int)), .int .i64 (((count : Nat) : Int)), .bool off] 92 (0, 0))]])) mixed hS (L := [false, false, false, false, false, false, false, false, false, false, false, false]) rfl fun w9 hS13 => ?_
  have hH5 : Has w9 (fl [[(l, .cells #[.pointer (some ⟨d, 0, none⟩), .string s, .int .i64 (((size : Nat) : Int)), .int .i64 (((count : Nat) : Int)), .bool off] 92 (0, 0))]]) := (Has.cons_ (hS13.has (i := 0) rfl) Has.nil_)
  refine h_take (i := 0) NoP.only rfl rfl rfl (by kernel_rfl) (L' := [true, false, false, false, false, false, false, false, false, false, false, false]) rfl (r_move rfl (.t rfl rfl)) hH5 ?_
  refine h_take (i := 1) NoP.only rfl rfl rfl (by kernel_rfl) (L' := [true, true, false, false, false, false, false, false, false, false, false, false]) rfl (r_nilCheck rfl (.t rfl rfl)) hH5 ?_
  refine h_take (i := 2) NoP.only rfl rfl rfl (by kernel_rfl) (L' := [true, true, true, false, false, false, false, false, false, false, false, false]) rfl (r_fieldN rfl Try.underlying92 rfl ti33 (by decide) (.t rfl rfl) (qq := 0) rfl) hH5 ?_
  refine h_take (i := 3) NoP.only rfl rfl rfl (by kernel_rfl) (L' := [true, true, true, true, false, false, false, false, false, false, false, false]) rfl (r_load rfl one33 (.t rfl rfl) (Has.cell_own (i := 0) rfl rfl)) hH5 ?_
  refine h_take (i := 4) NoP.only rfl rfl rfl (by kernel_rfl) (L' := [true, true, true, true, true, false, false, false, false, false, false, false]) rfl (r_move rfl (.t rfl rfl)) hH5 ?_
  refine h_take (i := 5) NoP.only rfl rfl rfl (by kernel_rfl) (L' := [true, true, true, true, true, true, false, false, false, false, false, false]) rfl (r_nilCheck rfl (.t rfl rfl)) hH5 ?_
  refine h_take (i := 6) NoP.only rfl rfl rfl (by kernel_rfl) (L' := [true, true, true, true, true, true, true, false, false, false, false, false]) rfl (r_fieldN rfl Try.underlying92 rfl ti9 (by decide) (.t rfl rfl) (qq := 1) rfl) hH5 ?_
  refine h_take (i := 7) NoP.only rfl rfl rfl (by kernel_rfl) (L' := [true, true, true, true, true, true, true, true, false, false, false, false]) rfl (r_load rfl one9 (.t rfl rfl) (Has.cell_own (i := 0) rfl rfl)) hH5 ?_
  refine h_all (rs := [8]) (by kernel_rfl) (by simp) ?_
  refine List.forall_mem_cons.2 ⟨h_op rfl (wanted_none rfl) ?_, by simp⟩
  refine s_lit rfl rfl rfl Try.underlying22 ti5 (vs := [(0, .int .u8 70), (1, .int .u8 65), (2, .int .u8 84), (3, .int .u8 72), (4, .int .u8 79), (5, .int .u8 77), (6, .int .u8 74), (7, .int .u8 49)]) ⟨rfl, .c, ⟨rfl, .c, ⟨rfl, .c, ⟨rfl, .c, ⟨rfl, .c, ⟨rfl, .c, ⟨rfl, .c, ⟨rfl, .c, trivial⟩⟩⟩⟩⟩⟩⟩⟩ (L := [70, 65, 84, 72, 79, 77, 74, 49]) rfl (by omega) rfl hS13 fun blk2 w10 hb2 hB4 hS14 => ?_
  have hS15 : St w0 K (fl [[(l, .cells #[.pointer (some ⟨d, 0, none⟩), .string s, .int .i64 (((size : Nat) : Int)), .int .i64 (((count : Nat) : Int)), .bool off] 92 (0, 0))], (pk d m D), [(blk2, .cells (encN .u8 ([70, 65, 84, 72, 79, 77, 74, 49])) 5 (0, 0))], sm]) w10 := hS14.push 2 rfl
  refine wpList_nil ?_
  refine x_tn ?_
  have hH6 : Has w10 (fl [[(l, .cells #[.pointer (some ⟨d, 0, none⟩), .string s, .int .i64 (((size : Nat) : Int)), .int .i64 (((count : Nat) : Int)), .bool off] 92 (0, 0))]]) := (Has.cons_ (hS15.has (i := 0) rfl) Has.nil_)
  refine ⟨hH6, ?_⟩
  refine h_all (rs := [9]) (by kernel_rfl) (by simp) ?_
  refine List.forall_mem_cons.2 ⟨h_op rfl (wanted_none rfl) ?_, by simp⟩
  refine s_convsame (m := 2) rfl rfl rfl Try.underlying22 Try.underlying5 (.t rfl rfl) hS15 rfl (h' := fl [[(l, .cells #[.pointer (some ⟨d, 0, none⟩), .string s, .int .i64 (((size : Nat) : Int)), .int .i64 (((count : Nat) : Int)), .bool off] 92 (0, 0))], (pk d m D), [(blk2, .cells (encN .u8 ([70, 65, 84, 72, 79, 77, 74, 49])) 5 ((encN .u8 ([70, 65, 84, 72, 79, 77, 74, 49])).size, (encN .u8 ([70, 65, 84, 72, 79, 77, 74, 49])).size + 1))], sm]) rfl fun w11 hS17 => ?_
  obtain ⟨sg2, hx2, hS16⟩ : ∃ sg2 : Hp, Sl .u8 (some ⟨blk2, 0, none⟩) 8 ([70, 65, 84, 72, 79, 77, 74, 49]) sg2 ∧ St w0 K (fl [[(l, .cells #[.pointer (some ⟨d, 0, none⟩), .string s, .int .i64 (((size : Nat) : Int)), .int .i64 (((count : Nat) : Int)), .bool off] 92 (0, 0))], (pk d m D), sm, sg2]) w11 := ⟨_, Sl.of_enc (by decide) (by decide) headL_fit, hS17.pick [0, 1, 3, 2] rfl (by decide)⟩
  refine wpList_nil ?_
  refine x_tn ?_
  have hH7 : Has w11 (fl [[(l, .cells #[.pointer (some ⟨d, 0, none⟩), .string s, .int .i64 (((size : Nat) : Int)), .int .i64 (((count : Nat) : Int)), .bool off] 92 (0, 0))]]) := (Has.cons_ (hS16.has (i := 0) rfl) Has.nil_)
  refine ⟨hH7, ?_⟩
  refine h_all (rs := [10]) (by kernel_rfl) (by simp) ?_
  refine List.forall_mem_cons.2 ⟨h_op rfl (wanted_none rfl) ?_, by simp⟩
  refine s_call rfl rfl rfl (vs := [.pointer (some ⟨d, 0, none⟩), .string s, .slice (some ⟨blk2, 0, none⟩) 8 8]) ⟨(.t rfl rfl), (.t rfl rfl), (.t rfl rfl), trivial⟩ cb26 (Append_st w11 _ d m D ok sm hM s (by omega) (some ⟨blk2, 0, none⟩) 8 ([70, 65, 84, 72, 79, 77, 74, 49]) sg2 hx2 (Old.of_piece (i := 3) (xs := [(pk d m D), sm]) [1, 2] hS16 rfl rfl (by decide)) (by omega) (hS16.give (xs := [(pk d m D), sm]) [1, 2] rfl (by decide))) ?_
  rintro _ w12 ⟨e4, D4, sm4, hst4, rfl, hM4, ht4⟩
  have hS18 : St w0 K (fl [[(l, .cells #[.pointer (some ⟨d, 0, none⟩), .string s, .int .i64 (((size : Nat) : Int)), .int .i64 (((count : Nat) : Int)), .bool off] 92 (0, 0))], (pk d m D4), sm4, sg2]) w12 := hS16.callL (xs := [(pk d m D), sm]) (xs' := [(pk d m D4), sm4]) (zs := []) [1, 2] rfl (by decide) ht4 rfl rfl
  have hle4 := hst4.le
  have hwr4 := hst4.wr
  refine wpList_nil ?_
  refine x_tn ?_
  have hH8 : Has w12 (fl [[(l, .cells #[.pointer (some ⟨d, 0, none⟩), .string s, .int .i64 (((size : Nat) : Int)), .int .i64 (((count : Nat) : Int)), .bool off] 92 (0, 0))]]) := (Has.cons_ (hS18.has (i := 0) rfl) Has.nil_)
  refine ⟨hH8, ?_⟩
  refine h_take (i := 11) NoP.only rfl rfl rfl (by kernel_rfl) (L' := [true, true, true, true, true, true, true, true, true, true, true, true]) rfl (r_assign rfl (.t rfl rfl)) hH8 ?_
  refine h_done (by kernel_rfl) ?_
  refine only_n ?_
  refine x_tn ?_
  refine k_reb [(0, .pointer (some ⟨l, 0, none⟩)), (4, .int .i64 0), (6, .int .i64 (((e4 : Nat) : Int)))] ⟨rfl, rfl, rfl, trivial⟩ fun G15 => ?_
  refine wp_seq ?_
  refine k_reg ?_
  refine s_val hS18 rfl rfl (r_move rfl (.t rfl rfl)) ?_
  by_cases c3 : e4 ≠ 0
  ·
   refine s_val hS18 rfl rfl (r_cmp_t rfl rfl (.t rfl rfl) .c (show ¬ ((e4 : Nat) : Int) = 0 from by omega)) ?_
   refine wpList_nil ?_
   refine x_tn ?_
   refine k_reb [(0, .pointer (some ⟨l, 0, none⟩)), (4, .int .i64 0), (6, .int .i64 (((e4 : Nat) : Int))), (34, .bool true)] ⟨rfl, rfl, rfl, rfl, trivial⟩ fun G16 => ?_
   refine k_t (.t rfl rfl) ?_
   refine wp_seq ?_
   refine k_reg ?_
   refine s_val hS18 rfl rfl (r_move rfl (.t rfl rfl)) ?_
   refine s_val hS18 rfl rfl (r_assign rfl (.t rfl rfl)) ?_
   refine wpList_nil ?_
   refine x_tn ?_
   refine k_reb [(0, .pointer (some ⟨l, 0, none⟩)), (4, .int .i64 (((e4 : Nat) : Int)))] ⟨rfl, rfl, trivial⟩ fun G17 => ?_
   refine wp_ret ?_
   refine x_tr ?_
   refine k_ret1 Try.results48 rfl rfl ?_
   refine ⟨_, rfl, ?_⟩
   have hS19 : St w0 K (fl [[(l, .cells #[.pointer (some ⟨d, 0, none⟩), .string s, .int .i64 (((size : Nat) : Int)), .int .i64 (((count : Nat) : Int)), .bool off] 92 (0, 0))], (pk d m D4), sm4]) w12 := hS18.pick [0, 1, 2] rfl (by decide)
   exact ⟨_, _, _, begin_02 hk hst4 (by omega), rfl, hM4, hS19⟩
  ·
   refine s_val hS18 rfl rfl (r_cmp_f rfl rfl (.t rfl rfl) .c (show ¬ (¬ ((e4 : Nat) : Int) = 0) from by omega)) ?_
   refine wpList_nil ?_
   refine x_tn ?_
   refine k_reb [(0, .pointer (some ⟨l, 0, none⟩)), (4, .int .i64 0), (6, .int .i64 (((e4 : Nat) : Int))), (34, .bool false)] ⟨rfl, rfl, rfl, rfl, trivial⟩ fun G18 => ?_
   refine k_f (.t rfl rfl) ?_
   refine wp_skip ?_
   refine x_tn ?_
   refine k_reb [(0, .pointer (some ⟨l, 0, none⟩)), (4, .int .i64 0)] ⟨rfl, rfl, trivial⟩ fun G19 => ?_
   refine wp_seq ?_
   refine k_regt 8 mixed (by kernel_rfl) hS18 fun w13 hS20 hB5 => ?_
   refine t_val hS20 rfl rfl (r_move rfl (.t rfl rfl)) ?_
   refine t_val hS20 rfl rfl (r_nilCheck rfl (.t rfl rfl)) ?_
   refine t_val hS20 rfl rfl (r_fieldN rfl Try.underlying92 rfl ti33 (by decide) (.t rfl rfl) (qq := 0) rfl) ?_
   refine t_val hS20 rfl rfl (r_load rfl one33 (.t rfl rfl) (St.cell_own (m := 0) rfl rfl)) ?_
   refine t_val hS20 rfl rfl (r_move rfl (.t rfl rfl)) ?_
   refine t_val hS20 rfl rfl (r_nilCheck rfl (.t rfl rfl)) ?_
   refine t_val hS20 rfl rfl (r_fieldN rfl Try.underlying92 rfl ti9 (by decide) (.t rfl rfl) (qq := 1) rfl) ?_
   refine t_val hS20 rfl rfl (r_load rfl one9 (.t rfl rfl) (St.cell_own (m := 0) rfl rfl)) ?_
   refine t_nil ?_
   refine s_call rfl rfl rfl (vs := [.pointer (some ⟨d, 0, none⟩), .string s]) ⟨(.t rfl rfl), (.t rfl rfl), trivial⟩ cb58 (Sync_st w13 _ d m D4 hst4.ok sm4 hM4 s (by omega)  (by omega) (hS20.give (xs := [(pk d m D4), sm4]) [1, 2] rfl (by decide))) ?_
   rintro _ w14 ⟨e5, D5, sm5, hst5, rfl, hM5, ht5⟩
   have hS21 : St w0 K (fl [[(l, .cells #[.pointer (some ⟨d, 0, none⟩), .string s, .int .i64 (((size : Nat) : Int)), .int .i64 (((count : Nat) : Int)), .bool off] 92 (0, 0))], (pk d m D5), sm5, sg2]) w14 := hS20.callL (xs := [(pk d m D4), sm4]) (xs' := [(pk d m D5), sm5]) (zs := []) [1, 2] rfl (by decide) ht5 rfl rfl
   have hle5 := hst5.le
   have hwr5 := hst5.wr
   refine s_val hS21 rfl rfl (r_assign rfl (.t rfl rfl)) ?_
   refine wpList_nil ?_
   refine x_tn ?_
   refine k_reb [(4, .int .i64 (((e5 : Nat) : Int)))] ⟨rfl, trivial⟩ fun G20 => ?_
   refine wp_ret ?_
   refine k_ret1 Try.results48 rfl rfl ?_
   refine ⟨_, rfl, ?_⟩
   have hS22 : St w0 K (fl [[(l, .cells #[.pointer (some ⟨d, 0, none⟩), .string s, .int .i64 (((size : Nat) : Int)), .int .i64 (((count : Nat) : Int)), .bool off] 92 (0, 0))], (pk d m D5), sm5]) w14 := hS21.pick [0, 1, 2] rfl (by decide)
   exact ⟨_, _, _, begin_03 hk hst4 (by omega) hst5, rfl, hM5, hS22⟩

end Go.Proofs.Ytdmiklegahdafaa

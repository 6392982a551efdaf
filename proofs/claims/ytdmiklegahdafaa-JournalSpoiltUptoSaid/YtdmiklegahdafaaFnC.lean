/- Contracts of functions of the program, each walked once. -/
import Derived.Test.YtdmiklegahdafaaFnB
namespace Go.Proofs.Ytdmiklegahdafaa
open Go Go.RowKit K
namespace FC
theorem mixed : Try.prog.follows .mixedOrders = true := by kernel_rfl
theorem agg88 : (match Try.prog.underlying 88 with | some (.struct _) | some (.array ..) => true | _ => false) = true := by kernel_rfl
theorem cb45 : callable Try.prog 45 = true := by kernel_rfl
theorem cb52 : callable Try.prog 52 = true := by kernel_rfl
theorem cb55 : callable Try.prog 55 = true := by kernel_rfl
theorem cb56 : callable Try.prog 56 = true := by kernel_rfl
theorem cb65 : callable Try.prog 65 = true := by kernel_rfl
theorem one22 : One Try.prog 22 = true := by kernel_rfl
theorem one3 : One Try.prog 3 = true := by kernel_rfl
theorem one33 : One Try.prog 33 = true := by kernel_rfl
theorem one84 : One Try.prog 84 = true := by kernel_rfl
theorem one9 : One Try.prog 9 = true := by kernel_rfl
theorem ti22 : (Try.prog.info? 22).map (fun i => (i.zero, i.size, i.bytes)) = some (some (.slice none 0 0), 1, 24) := by kernel_rfl
theorem ti3 : (Try.prog.info? 3).map (fun i => (i.zero, i.size, i.bytes)) = some (some (.int .i64 0), 1, 8) := by kernel_rfl
theorem ti5 : (Try.prog.info? 5).map (fun i => (i.zero, i.size, i.bytes)) = some (some (.int .u8 0), 1, 1) := by kernel_rfl
theorem ti84 : (Try.prog.info? 84).map (fun i => (i.zero, i.size, i.bytes)) = some (some (.map none), 1, 8) := by kernel_rfl
theorem ti88 : (Try.prog.info? 88).map (fun i => (i.zero, i.size, i.bytes)) = some (some (.agg #[.slice none 0 0, .int .i64 0]), 2, 32) := by kernel_rfl
theorem pl88 : ∀ w, (fieldPlaces (match Try.prog.underlying 88 with | some (.struct fs) => fs | _ => #[])).run Try.prog w = .ok #[(0, 1), (1, 1)] w := fun w => by kernel_rfl

end FC
open FC
attribute [local irreducible] Go.wpList Go.wpQuiet Go.wpStill Go.wpAny Go.Code.wp
set_option maxRecDepth 10000
set_option maxHeartbeats 8000000
set_option linter.unusedVariables false
set_option linter.unusedSimpArgs false
abbrev PT : TypeId := 33
abbrev IT : TypeId := 3
theorem Cut1_ok (w0 : World) (K : List Nat) (d m : Nat) (D : Dk) (ok : D.ok) (sm : Hp) (hM : MapH U8 m none D.F sm) (s : ByteArray) (ls : s.size ≤ 1000000000000) (f : FileM) (fa : Option Addr) (fc : Nat) (hA : At U8 m D.F s f fa fc sm) (bd bf bz bs : Nat) (n : Nat) (hn : n ≤ f.bytes.length) (hS0 : St w0 K (fl [[(d, .cells (dkC 1 m D) DT (0, 0))], [(bd, .cells #[.pointer (some ⟨d, 0, none⟩)] PT (0, 0))], [(bf, .cells #[.slice fa f.bytes.length fc, .int .i64 (((f.sure : Nat) : Int))] FT (0, 0))], [(bz, .cells #[.int .i64 (((n : Nat) : Int))] IT (0, 0))], [(bs, .cells #[.string s] ST (0, 0))], sm]) w0) :
  Calls Try.prog 52 #[.pointer (some ⟨bd, 0, none⟩), .pointer (some ⟨bf, 0, none⟩), .pointer (some ⟨bz, 0, none⟩), .pointer (some ⟨bs, 0, none⟩)] w0 (Ret fun v w' => ∃ sm', v = .tuple #[] ∧ MapH U8 m none (putF D.F s (f.bytes.take n) (min f.sure n)) sm' ∧ St w0 K (fl [[(d, .cells (dkC 1 m ({ D with F := (putF D.F s (f.bytes.take n) (min f.sure n)) })) DT (0, 0))], [(bd, .cells #[.pointer (some ⟨d, 0, none⟩)] PT (0, 0))], [(bf, .cells #[.slice fa f.bytes.length fc, .int .i64 (((f.sure : Nat) : Int))] FT (0, 0))], [(bz, .cells #[.int .i64 (((n : Nat) : Int))] IT (0, 0))], [(bs, .cells #[.string s] ST (0, 0))], sm']) w') := by
 refine k_enter (vs := [.pointer (some ⟨bd, 0, none⟩), .pointer (some ⟨bf, 0, none⟩), .pointer (some ⟨bz, 0, none⟩), .pointer (some ⟨bs, 0, none⟩)]) Try.func52 rfl Try.ntmps52 rfl ?_
 have hS : St w0 K (fl [[(d, .cells #[.int .i32 1, .int .u32 0, .int .i64 (((D.room : Nat) : Int)), .int .i64 (((tot D.F : Nat) : Int)), .map (some m), .bool D.off, .int .i64 (((D.writes : Nat) : Int)), .int .i64 (((D.armed : Nat) : Int)), .int .i64 D.keep, .int .i64 D.lose] 86 (0, 0))], [(bd, .cells #[.pointer (some ⟨d, 0, none⟩)] 33 (0, 0))], [(bf, .cells #[.slice fa f.bytes.length fc, .int .i64 (((f.sure : Nat) : Int))] 88 (0, 0))], [(bz, .cells #[.int .i64 (((n : Nat) : Int))] 3 (0, 0))], [(bs, .cells #[.string s] 9 (0, 0))], sm]) w0 := hS0
 have ok1 := ok.room
 have ok2 := ok.fits
 have ok3 := ok.len
 have ok4 := ok.armed
 have ok5 := ok.keep
 have ok6 := ok.lose
 have hlk := hA.1
 obtain ⟨hf1, hf2, hf3, hf4⟩ := ok.file hlk
 have hx := hA.sl (by omega) hf3
 have hnm := hM.names
 have htp := tot_put_at (B := f.bytes.take n) (k := min f.sure n) hnm hlk
 rw [List.length_take] at htp
 refine wp_seq ?_
 refine k_regt 12 mixed (by kernel_rfl) hS fun w1 hS1 hB1 => ?_
 refine t_val hS1 rfl rfl (r_load rfl one33 (.t rfl rfl) (St.cell_own (m := 1) rfl rfl)) ?_
 refine t_val hS1 rfl rfl (r_nilCheck rfl (.t rfl rfl)) ?_
 refine t_val hS1 rfl rfl (r_fieldN rfl Try.underlying86 rfl ti3 (by decide) (.t rfl rfl) (qq := 3) rfl) ?_
 refine t_val hS1 rfl rfl (r_load rfl one3 (.t rfl rfl) (St.cell_own (m := 0) rfl rfl)) ?_
 refine t_val hS1 rfl rfl (r_fieldN rfl Try.underlying88 rfl ti22 (by decide) (.t rfl rfl) (qq := 0) rfl) ?_
 refine t_val hS1 rfl rfl (r_load rfl one22 (.t rfl rfl) (St.cell_own (m := 2) rfl rfl)) ?_
 refine t_val hS1 rfl rfl (r_len rfl rfl Try.underlying22 (.t rfl rfl)) ?_
 refine t_val hS1 rfl rfl (r_load rfl one3 (.t rfl rfl) (St.cell_own (m := 3) rfl rfl)) ?_
 refine t_val hS1 rfl rfl (r_arith rfl rfl (.t rfl rfl) (.t rfl rfl) (c := ((f.bytes.length - n : Nat) : Int)) (wn_i64 (by show (((f.bytes.length : Nat) : Int) : Int) - ((n : Nat) : Int) = _; omega) (by omega))) ?_
 refine t_val hS1 rfl rfl (r_arith rfl rfl (.t rfl rfl) (.t rfl rfl) (c := ((tot (putF D.F s (f.bytes.take n) (min f.sure n)) : Nat) : Int)) (wn_i64 (by show (((tot D.F : Nat) : Int) : Int) - ((f.bytes.length - n : Nat) : Int) = _; omega) (by omega))) ?_
 refine t_val hS1 rfl rfl (r_nilCheck rfl (.t rfl rfl)) ?_
 refine t_val hS1 rfl rfl (r_fieldN rfl Try.underlying86 rfl ti3 (by decide) (.t rfl rfl) (qq := 3) rfl) ?_
 refine t_nil ?_
 refine s_storeB (m := 0) rfl rfl rfl one3 (.t rfl rfl) (.t rfl rfl) rfl hS1 rfl rfl (c' := #[.int .i32 1, .int .u32 0, .int .i64 (((D.room : Nat) : Int)), .int .i64 (((tot (putF D.F s (f.bytes.take n) (min f.sure n)) : Nat) : Int)), .map (some m), .bool D.off, .int .i64 (((D.writes : Nat) : Int)), .int .i64 (((D.armed : Nat) : Int)), .int .i64 D.keep, .int .i64 D.lose]) rfl (h' := (fl [[(d, .cells #[.int .i32 1, .int .u32 0, .int .i64 (((D.room : Nat) : Int)), .int .i64 (((tot (putF D.F s (f.bytes.take n) (min f.sure n)) : Nat) : Int)), .map (some m), .bool D.off, .int .i64 (((D.writes : Nat) : Int)), .int .i64 (((D.armed : Nat) : Int)), .int .i64 D.keep, .int .i64 D.lose] 86 (0, 0))], [(bd, .cells #[.pointer (some ⟨d, 0, none⟩)] 33 (0, 0))], [(bf, .cells #[.slice fa f.bytes.length fc, .int .i64 (((f.sure : Nat) : Int))] 88 (0, 0))], [(bz, .cells #[.int .i64 (((n : Nat) : Int))] 3 (0, 0))], [(bs, .cells #[.string s] 9 (0, 0))], sm])) rfl fun w2 hS2 hB2 => ?_
 refine wpList_nil ?_
 refine x_tn ?_
 refine k_reb [(0, .pointer (some ⟨bd, 0, none⟩)), (1, .pointer (some ⟨bf, 0, none⟩)), (2, .pointer (some ⟨bz, 0, none⟩)), (3, .pointer (some ⟨bs, 0, none⟩))] ⟨rfl, rfl, rfl, rfl, trivial⟩ fun G1 => ?_
 refine k_only ?_
 refine h_start (C := fun x => Has x (fl [[(d, .cells #[.int .i32 1, .int .u32 0, .int .i64 (((D.room : Nat) : Int)), .int .i64 (((tot (putF D.F s (f.bytes.take n) (min f.sure n)) : Nat) : Int)), .map (some m), .bool D.off, .int .i64 (((D.writes : Nat) : Int)), .int .i64 (((D.armed : Nat) : Int)), .int .i64 D.keep, .int .i64 D.lose] 86 (0, 0))], [(bd, .cells #[.pointer (some ⟨d, 0, none⟩)] 33 (0, 0))], [(bf, .cells #[.slice fa f.bytes.length fc, .int .i64 (((f.sure : Nat) : Int))] 88 (0, 0))], [(bz, .cells #[.int .i64 (((n : Nat) : Int))] 3 (0, 0))], [(bs, .cells #[.string s] 9 (0, 0))]])) mixed hS2 (L := [false, false, false, false, false, false, false, false, false, false, false, false, false, false, false, false]) rfl fun w3 hS3 => ?_
 have hH1 : Has w3 (fl [[(d, .cells #[.int .i32 1, .int .u32 0, .int .i64 (((D.room : Nat) : Int)), .int .i64 (((tot (putF D.F s (f.bytes.take n) (min f.sure n)) : Nat) : Int)), .map (some m), .bool D.off, .int .i64 (((D.writes : Nat) : Int)), .int .i64 (((D.armed : Nat) : Int)), .int .i64 D.keep, .int .i64 D.lose] 86 (0, 0))], [(bd, .cells #[.pointer (some ⟨d, 0, none⟩)] 33 (0, 0))], [(bf, .cells #[.slice fa f.bytes.length fc, .int .i64 (((f.sure : Nat) : Int))] 88 (0, 0))], [(bz, .cells #[.int .i64 (((n : Nat) : Int))] 3 (0, 0))], [(bs, .cells #[.string s] 9 (0, 0))]]) := (Has.cons_ (hS3.has (i := 0) rfl) (Has.cons_ (hS3.has (i := 1) rfl) (Has.cons_ (hS3.has (i := 2) rfl) (Has.cons_ (hS3.has (i := 3) rfl) (Has.cons_ (hS3.has (i := 4) rfl) Has.nil_)))))
 refine h_take (i := 0) NoP.only rfl rfl rfl (by kernel_rfl) (L' := [true, false, false, false, false, false, false, false, false, false, false, false, false, false, false, false]) rfl (r_load rfl one33 (.t rfl rfl) (Has.cell_own (i := 1) rfl rfl)) hH1 ?_
 refine h_take (i := 1) NoP.only rfl rfl rfl (by kernel_rfl) (L' := [true, true, false, false, false, false, false, false, false, false, false, false, false, false, false, false]) rfl (r_nilCheck rfl (.t rfl rfl)) hH1 ?_
 refine h_take (i := 2) NoP.only rfl rfl rfl (by kernel_rfl) (L' := [true, true, true, false, false, false, false, false, false, false, false, false, false, false, false, false]) rfl (r_fieldN rfl Try.underlying86 rfl ti84 (by decide) (.t rfl rfl) (qq := 4) rfl) hH1 ?_
 refine h_take (i := 3) NoP.only rfl rfl rfl (by kernel_rfl) (L' := [true, true, true, true, false, false, false, false, false, false, false, false, false, false, false, false]) rfl (r_load rfl one84 (.t rfl rfl) (Has.cell_own (i := 0) rfl rfl)) hH1 ?_
 refine h_take (i := 4) NoP.only rfl rfl rfl (by kernel_rfl) (L' := [true, true, true, true, true, false, false, false, false, false, false, false, false, false, false, false]) rfl (r_load rfl one9 (.t rfl rfl) (Has.cell_own (i := 4) rfl rfl)) hH1 ?_
 refine h_take (i := 5) NoP.only rfl rfl rfl (by kernel_rfl) (L' := [true, true, true, true, true, true, false, false, false, false, false, false, false, false, false, false]) rfl (r_fieldN rfl Try.underlying88 rfl ti22 (by decide) (.t rfl rfl) (qq := 0) rfl) hH1 ?_
 refine h_take (i := 6) NoP.only rfl rfl rfl (by kernel_rfl) (L' := [true, true, true, true, true, true, true, false, false, false, false, false, false, false, false, false]) rfl (r_load rfl one22 (.t rfl rfl) (Has.cell_own (i := 2) rfl rfl)) hH1 ?_
 refine h_take (i := 7) NoP.only rfl rfl rfl (by kernel_rfl) (L' := [true, true, true, true, true, true, true, true, false, false, false, false, false, false, false, false]) rfl (r_load rfl one3 (.t rfl rfl) (Has.cell_own (i := 3) rfl rfl)) hH1 ?_
 have hq1 := (hx).le
 have hx1 : Sl .u8 fa fc (f.bytes.take n) sm := hx.take_ (by omega) (by omega) (by omega)
 have hn1 : (f.bytes.take n).length = n := by rw [List.length_take]; omega
 refine h_take (i := 8) NoP.only rfl rfl rfl (by kernel_rfl) (L' := [true, true, true, true, true, true, true, true, true, false, false, false, false, false, false, false]) rfl (Rn.asSl (ad' := fa) (p' := (f.bytes.take n).length) (q' := fc) (by simp [cutA]) (by omega) (by omega) (r_cutl rfl Try.underlying22 ti5 (.t rfl rfl) hx rfl .n (.s (.t rfl rfl)) .n (lw := 0) (hh := n) (m := fc) (by omega) (by omega) (by omega) (by omega))) hH1 ?_
 refine h_take (i := 10) NoP.only rfl rfl rfl (by kernel_rfl) (L' := [true, true, true, true, true, true, true, true, true, false, true, false, false, false, false, false]) rfl (r_fieldN rfl Try.underlying88 rfl ti3 (by decide) (.t rfl rfl) (qq := 1) rfl) hH1 ?_
 refine h_take (i := 11) NoP.only rfl rfl rfl (by kernel_rfl) (L' := [true, true, true, true, true, true, true, true, true, false, true, true, false, false, false, false]) rfl (r_load rfl one3 (.t rfl rfl) (Has.cell_own (i := 2) rfl rfl)) hH1 ?_
 refine h_take (i := 12) NoP.only rfl rfl rfl (by kernel_rfl) (L' := [true, true, true, true, true, true, true, true, true, false, true, true, true, false, false, false]) rfl (r_load rfl one3 (.t rfl rfl) (Has.cell_own (i := 3) rfl rfl)) hH1 ?_
 refine h_take (i := 13) NoP.only rfl rfl rfl (by kernel_rfl) (L' := [true, true, true, true, true, true, true, true, true, false, true, true, true, true, false, false]) rfl (r_min rfl (.t rfl rfl) (.t rfl rfl) (c := ((min f.sure n : Nat) : Int)) (by split <;> omega)) hH1 ?_
 refine h_all (rs := [9]) (by kernel_rfl) (by simp) ?_
 refine List.forall_mem_cons.2 ⟨h_op rfl (wanted_none rfl) ?_, by simp⟩
 refine s_call rfl rfl rfl (vs := [.slice fa ((f.bytes.take n).length) fc]) ⟨(.t rfl rfl), trivial⟩ cb45 (Clone_ok w3 fa fc (f.bytes.take n) sm hx1 (Old.of_piece (i := 5) (xs := []) [] hS3 rfl rfl (by decide)) (by first | omega | simp) ) ?_
 rintro _ w4 ⟨ra1, rc1, sg1, rfl, hG1, ht1⟩
 have hS4 : St w0 K (fl [[(d, .cells #[.int .i32 1, .int .u32 0, .int .i64 (((D.room : Nat) : Int)), .int .i64 (((tot (putF D.F s (f.bytes.take n) (min f.sure n)) : Nat) : Int)), .map (some m), .bool D.off, .int .i64 (((D.writes : Nat) : Int)), .int .i64 (((D.armed : Nat) : Int)), .int .i64 D.keep, .int .i64 D.lose] 86 (0, 0))], [(bd, .cells #[.pointer (some ⟨d, 0, none⟩)] 33 (0, 0))], [(bf, .cells #[.slice fa f.bytes.length fc, .int .i64 (((f.sure : Nat) : Int))] 88 (0, 0))], [(bz, .cells #[.int .i64 (((n : Nat) : Int))] 3 (0, 0))], [(bs, .cells #[.string s] 9 (0, 0))], sm, sg1]) w4 := hS3.callL (xs := []) (xs' := []) (zs := [sg1]) [] rfl (by decide) ht1 rfl rfl
 refine wpList_nil ?_
 refine x_tn ?_
 have hH2 : Has w4 (fl [[(d, .cells #[.int .i32 1, .int .u32 0, .int .i64 (((D.room : Nat) : Int)), .int .i64 (((tot (putF D.F s (f.bytes.take n) (min f.sure n)) : Nat) : Int)), .map (some m), .bool D.off, .int .i64 (((D.writes : Nat) : Int)), .int .i64 (((D.armed : Nat) : Int)), .int .i64 D.keep, .int .i64 D.lose] 86 (0, 0))], [(bd, .cells #[.pointer (some ⟨d, 0, none⟩)] 33 (0, 0))], [(bf, .cells #[.slice fa f.bytes.length fc, .int .i64 (((f.sure : Nat) : Int))] 88 (0, 0))], [(bz, .cells #[.int .i64 (((n : Nat) : Int))] 3 (0, 0))], [(bs, .cells #[.string s] 9 (0, 0))]]) := (Has.cons_ (hS4.has (i := 0) rfl) (Has.cons_ (hS4.has (i := 1) rfl) (Has.cons_ (hS4.has (i := 2) rfl) (Has.cons_ (hS4.has (i := 3) rfl) (Has.cons_ (hS4.has (i := 4) rfl) Has.nil_)))))
 refine ⟨hH2, ?_⟩
 refine h_take (i := 14) NoP.only rfl rfl rfl (by kernel_rfl) (L' := [true, true, true, true, true, true, true, true, true, true, true, true, true, true, true, false]) rfl (r_build rfl Try.underlying88 ti88 pl88 (vs := [(0, .slice ra1 (((f.bytes.take n)).length) rc1), (1, .int .i64 (((min f.sure n : Nat) : Int)))]) ⟨rfl, (.t rfl rfl), ⟨rfl, (.t rfl rfl), trivial⟩⟩ rfl) hH2 ?_
 refine h_all (rs := [15]) (by kernel_rfl) (by simp) ?_
 refine List.forall_mem_cons.2 ⟨h_op rfl (wanted_none rfl) ?_, by simp⟩
 refine s_put (B := ((f.bytes.take n))) (k := (min f.sure n)) (i := 5) (j := 6) rfl rfl rfl Try.underlying84 Try.underlying9 (.t rfl rfl) (.t rfl rfl) (by first | exact (.t rfl rfl) | (rw [show ((f.bytes.take n)).length = ((f.bytes.take n)).length from by first | omega | (simp; done) | (simp; omega)]; exact (.t rfl rfl))) hM.absent hG1 hS4 rfl rfl rfl fun sm1 w5 hM1 hS5 => ?_
 have hS6 : St w0 K (fl [[(d, .cells #[.int .i32 1, .int .u32 0, .int .i64 (((D.room : Nat) : Int)), .int .i64 (((tot (putF D.F s (f.bytes.take n) (min f.sure n)) : Nat) : Int)), .map (some m), .bool D.off, .int .i64 (((D.writes : Nat) : Int)), .int .i64 (((D.armed : Nat) : Int)), .int .i64 D.keep, .int .i64 D.lose] 86 (0, 0))], [(bd, .cells #[.pointer (some ⟨d, 0, none⟩)] 33 (0, 0))], [(bf, .cells #[.slice fa f.bytes.length fc, .int .i64 (((f.sure : Nat) : Int))] 88 (0, 0))], [(bz, .cells #[.int .i64 (((n : Nat) : Int))] 3 (0, 0))], [(bs, .cells #[.string s] 9 (0, 0))], sm1]) w5 := St.pick (L := [[(d, .cells #[.int .i32 1, .int .u32 0, .int .i64 (((D.room : Nat) : Int)), .int .i64 (((tot (putF D.F s (f.bytes.take n) (min f.sure n)) : Nat) : Int)), .map (some m), .bool D.off, .int .i64 (((D.writes : Nat) : Int)), .int .i64 (((D.armed : Nat) : Int)), .int .i64 D.keep, .int .i64 D.lose] 86 (0, 0))], [(bd, .cells #[.pointer (some ⟨d, 0, none⟩)] 33 (0, 0))], [(bf, .cells #[.slice fa f.bytes.length fc, .int .i64 (((f.sure : Nat) : Int))] 88 (0, 0))], [(bz, .cells #[.int .i64 (((n : Nat) : Int))] 3 (0, 0))], [(bs, .cells #[.string s] 9 (0, 0))], sm1, []]) [0, 1, 2, 3, 4, 5] hS5 rfl (by decide)
 refine wpList_nil ?_
 refine x_tn ?_
 have hH3 : Has w5 (fl [[(d, .cells #[.int .i32 1, .int .u32 0, .int .i64 (((D.room : Nat) : Int)), .int .i64 (((tot (putF D.F s (f.bytes.take n) (min f.sure n)) : Nat) : Int)), .map (some m), .bool D.off, .int .i64 (((D.writes : Nat) : Int)), .int .i64 (((D.armed : Nat) : Int)), .int .i64 D.keep, .int .i64 D.lose] 86 (0, 0))], [(bd, .cells #[.pointer (some ⟨d, 0, none⟩)] 33 (0, 0))], [(bf, .cells #[.slice fa f.bytes.length fc, .int .i64 (((f.sure : Nat) : Int))] 88 (0, 0))], [(bz, .cells #[.int .i64 (((n : Nat) : Int))] 3 (0, 0))], [(bs, .cells #[.string s] 9 (0, 0))]]) := (Has.cons_ (hS6.has (i := 0) rfl) (Has.cons_ (hS6.has (i := 1) rfl) (Has.cons_ (hS6.has (i := 2) rfl) (Has.cons_ (hS6.has (i := 3) rfl) (Has.cons_ (hS6.has (i := 4) rfl) Has.nil_)))))
 refine ⟨hH3, ?_⟩
 refine h_done (by kernel_rfl) ?_
 refine only_n ?_
 refine k_end0 Try.results52 ?_
 refine ⟨_, rfl, ?_⟩
 exact ⟨_, rfl, hM1, hS6⟩

theorem write_cut (w0 : World) (K : List Nat) (d m : Nat) (D : Dk) (ok : D.ok) (sm : Hp) (hM : MapH U8 m none D.F sm) (s : ByteArray) (ls : s.size ≤ 1000000000000) (f : FileM) (fa : Option Addr) (fc : Nat) (hA : At U8 m D.F s f fa fc sm) (bd bf bz bs : Nat) (n : Nat) (hn : n ≤ f.bytes.length) (hfit : Fits D.room (putF D.F s (f.bytes.take n) (min f.sure n))) (hw : D.writes ≤ 4611686018427387904) (hS0 : St w0 K (fl [[(d, .cells (dkC 1 m D) DT (0, 0))], [(bd, .cells #[.pointer (some ⟨d, 0, none⟩)] PT (0, 0))], [(bf, .cells #[.slice fa f.bytes.length fc, .int .i64 (((f.sure : Nat) : Int))] FT (0, 0))], [(bz, .cells #[.int .i64 (((n : Nat) : Int))] IT (0, 0))], [(bs, .cells #[.string s] ST (0, 0))], sm]) w0) :
  Calls Try.prog 51 #[.pointer (some ⟨d, 0, none⟩), .func (.func 52) #[] #[.pointer (some ⟨bd, 0, none⟩), .pointer (some ⟨bf, 0, none⟩), .pointer (some ⟨bz, 0, none⟩), .pointer (some ⟨bs, 0, none⟩)]] w0 (Ret fun v w' => ∃ sm', v = .int .i64 ((D.wr (putF D.F s (f.bytes.take n) (min f.sure n))).1 : Nat) ∧ MapH U8 m none (D.wr (putF D.F s (f.bytes.take n) (min f.sure n))).2.F sm' ∧ St w0 K (fl [[(d, .cells (dkC 1 m ((D.wr (putF D.F s (f.bytes.take n) (min f.sure n))).2)) DT (0, 0))], [(bd, .cells #[.pointer (some ⟨d, 0, none⟩)] PT (0, 0))], [(bf, .cells #[.slice fa f.bytes.length fc, .int .i64 (((f.sure : Nat) : Int))] FT (0, 0))], [(bz, .cells #[.int .i64 (((n : Nat) : Int))] IT (0, 0))], [(bs, .cells #[.string s] ST (0, 0))], sm']) w') := by
 refine k_enter (vs := [.pointer (some ⟨d, 0, none⟩), .func (.func 52) #[] #[.pointer (some ⟨bd, 0, none⟩), .pointer (some ⟨bf, 0, none⟩), .pointer (some ⟨bz, 0, none⟩), .pointer (some ⟨bs, 0, none⟩)]]) Try.func51 rfl Try.ntmps51 rfl ?_
 have hS : St w0 K (fl [[(d, .cells #[.int .i32 1, .int .u32 0, .int .i64 (((D.room : Nat) : Int)), .int .i64 (((tot D.F : Nat) : Int)), .map (some m), .bool D.off, .int .i64 (((D.writes : Nat) : Int)), .int .i64 (((D.armed : Nat) : Int)), .int .i64 D.keep, .int .i64 D.lose] 86 (0, 0))], [(bd, .cells #[.pointer (some ⟨d, 0, none⟩)] 33 (0, 0))], [(bf, .cells #[.slice fa f.bytes.length fc, .int .i64 (((f.sure : Nat) : Int))] 88 (0, 0))], [(bz, .cells #[.int .i64 (((n : Nat) : Int))] 3 (0, 0))], [(bs, .cells #[.string s] 9 (0, 0))], sm]) w0 := hS0
 have ok1 := ok.room
 have ok2 := ok.fits
 have ok3 := ok.len
 have ok4 := ok.armed
 have ok5 := ok.keep
 have ok6 := ok.lose
 refine wp_seq ?_
 refine k_reg ?_
 refine s_val hS rfl rfl (r_assign rfl .c) ?_
 refine wpList_nil ?_
 refine x_tn ?_
 refine wp_seq ?_
 refine k_reg ?_
 refine s_val hS rfl rfl (r_move rfl (.t rfl rfl)) ?_
 refine s_call rfl rfl rfl (vs := [.pointer (some ⟨d, 0, none⟩)]) ⟨(.t rfl rfl), trivial⟩ cb55 (torn_ok w0 _ d m D ok hw (hS.give (xs := [[(d, .cells #[.int .i32 1, .int .u32 0, .int .i64 (((D.room : Nat) : Int)), .int .i64 (((tot D.F : Nat) : Int)), .map (some m), .bool D.off, .int .i64 (((D.writes : Nat) : Int)), .int .i64 (((D.armed : Nat) : Int)), .int .i64 D.keep, .int .i64 D.lose] 86 (0, 0))]]) [0] rfl (by decide))) ?_
 rintro _ w1 ⟨rfl, ht1⟩
 have hS1 : St w0 K (fl [[(d, .cells #[.int .i32 1, .int .u32 0, .int .i64 (((D.room : Nat) : Int)), .int .i64 (((tot D.F : Nat) : Int)), .map (some m), .bool D.off, .int .i64 (((D.writes + 1 : Nat) : Int)), .int .i64 (((D.armed - 1 : Nat) : Int)), .int .i64 D.keep, .int .i64 D.lose] 86 (0, 0))], [(bd, .cells #[.pointer (some ⟨d, 0, none⟩)] 33 (0, 0))], [(bf, .cells #[.slice fa f.bytes.length fc, .int .i64 (((f.sure : Nat) : Int))] 88 (0, 0))], [(bz, .cells #[.int .i64 (((n : Nat) : Int))] 3 (0, 0))], [(bs, .cells #[.string s] 9 (0, 0))], sm]) w1 := hS.callL (xs := [[(d, .cells #[.int .i32 1, .int .u32 0, .int .i64 (((D.room : Nat) : Int)), .int .i64 (((tot D.F : Nat) : Int)), .map (some m), .bool D.off, .int .i64 (((D.writes : Nat) : Int)), .int .i64 (((D.armed : Nat) : Int)), .int .i64 D.keep, .int .i64 D.lose] 86 (0, 0))]]) (xs' := [[(d, .cells #[.int .i32 1, .int .u32 0, .int .i64 (((D.room : Nat) : Int)), .int .i64 (((tot D.F : Nat) : Int)), .map (some m), .bool D.off, .int .i64 (((D.writes + 1 : Nat) : Int)), .int .i64 (((D.armed - 1 : Nat) : Int)), .int .i64 D.keep, .int .i64 D.lose] 86 (0, 0))]]) (zs := []) [0] rfl (by decide) ht1 rfl rfl
 by_cases hT : D.armed = 1
 ·
  refine s_asb (b' := true) (decide_eq_true hT) ?_
  refine s_val hS1 rfl rfl (r_assign rfl (.t rfl rfl)) ?_
  refine wpList_nil ?_
  refine x_tn ?_
  refine k_reb [(0, .pointer (some ⟨d, 0, none⟩)), (1, .func (.func 52) #[] #[.pointer (some ⟨bd, 0, none⟩), .pointer (some ⟨bf, 0, none⟩), .pointer (some ⟨bz, 0, none⟩), .pointer (some ⟨bs, 0, none⟩)]), (4, .int .i64 0), (5, .bool true)] ⟨rfl, rfl, rfl, rfl, trivial⟩ fun G1 => ?_
  refine wp_seq ?_
  refine wp_seq ?_
  refine k_reg ?_
  refine s_val hS1 rfl rfl (r_move rfl (.t rfl rfl)) ?_
  refine s_val hS1 rfl rfl (r_lnot rfl (.t rfl rfl)) ?_
  refine s_val hS1 rfl rfl (r_move rfl (.t rfl rfl)) ?_
  refine s_valg hS1 (wanted_of (j := 2) (b := false) (d := 10) rfl rfl rfl rfl) rfl (r_move rfl (.t rfl rfl)) ?_
  refine s_valg hS1 (wanted_of (j := 2) (b := false) (d := 10) rfl rfl rfl rfl) rfl (r_nilCheck rfl (.t rfl rfl)) ?_
  refine s_valg hS1 (wanted_of (j := 2) (b := false) (d := 10) rfl rfl rfl rfl) rfl (r_fieldN rfl Try.underlying86 rfl ti3 (by decide) (.t rfl rfl) (qq := 8) rfl) ?_
  refine s_valg hS1 (wanted_of (j := 2) (b := false) (d := 10) rfl rfl rfl rfl) rfl (r_load rfl one3 (.t rfl rfl) (St.cell_own (m := 0) rfl rfl)) ?_
  by_cases hK : D.keep > 0
  ·
   refine s_valg hS1 (wanted_of (j := 2) (b := false) (d := 10) rfl rfl rfl rfl) rfl (r_cmp_t rfl rfl (.t rfl rfl) .c (show D.keep > 0 from by omega)) ?_
   refine s_val hS1 rfl rfl (r_pick rfl (.t rfl rfl) (.t rfl rfl)) ?_
   refine wpList_nil ?_
   refine x_tn ?_
   refine k_reb [(0, .pointer (some ⟨d, 0, none⟩)), (1, .func (.func 52) #[] #[.pointer (some ⟨bd, 0, none⟩), .pointer (some ⟨bf, 0, none⟩), .pointer (some ⟨bz, 0, none⟩), .pointer (some ⟨bs, 0, none⟩)]), (4, .int .i64 0), (5, .bool true), (16, .bool true)] ⟨rfl, rfl, rfl, rfl, rfl, trivial⟩ fun G2 => ?_
   refine k_t (.t rfl rfl) ?_
   refine k_reg ?_
   refine s_val hS1 rfl rfl (r_move rfl (.t rfl rfl)) ?_
   refine s_callv rfl rfl rfl (cap := [.pointer (some ⟨bd, 0, none⟩), .pointer (some ⟨bf, 0, none⟩), .pointer (some ⟨bz, 0, none⟩), .pointer (some ⟨bs, 0, none⟩)]) (.t rfl rfl) (vs := []) trivial cb52 (Cut1_ok w1 _ d m { D with writes := D.writes + 1, armed := D.armed - 1 } (ok.put ok.fit (by omega)) sm hM s ls f fa fc hA bd bf bz bs n hn (hS1.give (xs := [[(d, .cells #[.int .i32 1, .int .u32 0, .int .i64 (((D.room : Nat) : Int)), .int .i64 (((tot D.F : Nat) : Int)), .map (some m), .bool D.off, .int .i64 (((D.writes + 1 : Nat) : Int)), .int .i64 (((D.armed - 1 : Nat) : Int)), .int .i64 D.keep, .int .i64 D.lose] 86 (0, 0))], [(bd, .cells #[.pointer (some ⟨d, 0, none⟩)] 33 (0, 0))], [(bf, .cells #[.slice fa f.bytes.length fc, .int .i64 (((f.sure : Nat) : Int))] 88 (0, 0))], [(bz, .cells #[.int .i64 (((n : Nat) : Int))] 3 (0, 0))], [(bs, .cells #[.string s] 9 (0, 0))], sm]) [0, 1, 2, 3, 4, 5] rfl (by decide))) ?_
   rintro _ w2 ⟨sm1, rfl, hM1, ht2⟩
   have hS2 : St w0 K (fl [[(d, .cells #[.int .i32 1, .int .u32 0, .int .i64 (((D.room : Nat) : Int)), .int .i64 (((tot (putF D.F s (f.bytes.take n) (min f.sure n)) : Nat) : Int)), .map (some m), .bool D.off, .int .i64 (((D.writes + 1 : Nat) : Int)), .int .i64 (((D.armed - 1 : Nat) : Int)), .int .i64 D.keep, .int .i64 D.lose] 86 (0, 0))], [(bd, .cells #[.pointer (some ⟨d, 0, none⟩)] 33 (0, 0))], [(bf, .cells #[.slice fa f.bytes.length fc, .int .i64 (((f.sure : Nat) : Int))] 88 (0, 0))], [(bz, .cells #[.int .i64 (((n : Nat) : Int))] 3 (0, 0))], [(bs, .cells #[.string s] 9 (0, 0))], sm1]) w2 := hS1.callL (xs := [[(d, .cells #[.int .i32 1, .int .u32 0, .int .i64 (((D.room : Nat) : Int)), .int .i64 (((tot D.F : Nat) : Int)), .map (some m), .bool D.off, .int .i64 (((D.writes + 1 : Nat) : Int)), .int .i64 (((D.armed - 1 : Nat) : Int)), .int .i64 D.keep, .int .i64 D.lose] 86 (0, 0))], [(bd, .cells #[.pointer (some ⟨d, 0, none⟩)] 33 (0, 0))], [(bf, .cells #[.slice fa f.bytes.length fc, .int .i64 (((f.sure : Nat) : Int))] 88 (0, 0))], [(bz, .cells #[.int .i64 (((n : Nat) : Int))] 3 (0, 0))], [(bs, .cells #[.string s] 9 (0, 0))], sm]) (xs' := [[(d, .cells #[.int .i32 1, .int .u32 0, .int .i64 (((D.room : Nat) : Int)), .int .i64 (((tot (putF D.F s (f.bytes.take n) (min f.sure n)) : Nat) : Int)), .map (some m), .bool D.off, .int .i64 (((D.writes + 1 : Nat) : Int)), .int .i64 (((D.armed - 1 : Nat) : Int)), .int .i64 D.keep, .int .i64 D.lose] 86 (0, 0))], [(bd, .cells #[.pointer (some ⟨d, 0, none⟩)] 33 (0, 0))], [(bf, .cells #[.slice fa f.bytes.length fc, .int .i64 (((f.sure : Nat) : Int))] 88 (0, 0))], [(bz, .cells #[.int .i64 (((n : Nat) : Int))] 3 (0, 0))], [(bs, .cells #[.string s] 9 (0, 0))], sm1]) (zs := []) [0, 1, 2, 3, 4, 5] rfl (by decide) ht2 rfl rfl
   refine wpList_nil ?_
   refine x_tn ?_
   refine k_reb [(0, .pointer (some ⟨d, 0, none⟩)), (4, .int .i64 0), (5, .bool true)] ⟨rfl, rfl, rfl, trivial⟩ fun G3 => ?_
   refine wp_seq ?_
   refine wp_seq ?_
   refine k_reg ?_
   refine s_val hS2 rfl rfl (r_move rfl (.t rfl rfl)) ?_
   refine wpList_nil ?_
   refine x_tn ?_
   refine k_reb [(0, .pointer (some ⟨d, 0, none⟩)), (4, .int .i64 0), (19, .bool true)] ⟨rfl, rfl, rfl, trivial⟩ fun G4 => ?_
   refine k_t (.t rfl rfl) ?_
   refine wp_seq ?_
   refine k_reg ?_
   refine s_val hS2 rfl rfl (r_move rfl (.t rfl rfl)) ?_
   refine s_call rfl rfl rfl (vs := [.pointer (some ⟨d, 0, none⟩)]) ⟨(.t rfl rfl), trivial⟩ cb56 (gone_ok w2 _ d m ({ D with writes := D.writes + 1, armed := D.armed - 1, F := ((putF D.F s (f.bytes.take n) (min f.sure n))) }) (ok.put hfit (by omega)) sm1 hM1 (hS2.give (xs := [[(d, .cells #[.int .i32 1, .int .u32 0, .int .i64 (((D.room : Nat) : Int)), .int .i64 (((tot (putF D.F s (f.bytes.take n) (min f.sure n)) : Nat) : Int)), .map (some m), .bool D.off, .int .i64 (((D.writes + 1 : Nat) : Int)), .int .i64 (((D.armed - 1 : Nat) : Int)), .int .i64 D.keep, .int .i64 D.lose] 86 (0, 0))], sm1]) [0, 5] rfl (by decide))) ?_
   rintro _ w3 ⟨sm2, rfl, hM2, ht3⟩
   have hS3 : St w0 K (fl [[(d, .cells #[.int .i32 1, .int .u32 0, .int .i64 (((D.room : Nat) : Int)), .int .i64 (((tot (goneF D.lose ((putF D.F s (f.bytes.take n) (min f.sure n)))) : Nat) : Int)), .map (some m), .bool true, .int .i64 (((D.writes + 1 : Nat) : Int)), .int .i64 (((D.armed - 1 : Nat) : Int)), .int .i64 D.keep, .int .i64 D.lose] 86 (0, 0))], [(bd, .cells #[.pointer (some ⟨d, 0, none⟩)] 33 (0, 0))], [(bf, .cells #[.slice fa f.bytes.length fc, .int .i64 (((f.sure : Nat) : Int))] 88 (0, 0))], [(bz, .cells #[.int .i64 (((n : Nat) : Int))] 3 (0, 0))], [(bs, .cells #[.string s] 9 (0, 0))], sm2]) w3 := hS2.callL (xs := [[(d, .cells #[.int .i32 1, .int .u32 0, .int .i64 (((D.room : Nat) : Int)), .int .i64 (((tot (putF D.F s (f.bytes.take n) (min f.sure n)) : Nat) : Int)), .map (some m), .bool D.off, .int .i64 (((D.writes + 1 : Nat) : Int)), .int .i64 (((D.armed - 1 : Nat) : Int)), .int .i64 D.keep, .int .i64 D.lose] 86 (0, 0))], sm1]) (xs' := [[(d, .cells #[.int .i32 1, .int .u32 0, .int .i64 (((D.room : Nat) : Int)), .int .i64 (((tot (goneF D.lose ((putF D.F s (f.bytes.take n) (min f.sure n)))) : Nat) : Int)), .map (some m), .bool true, .int .i64 (((D.writes + 1 : Nat) : Int)), .int .i64 (((D.armed - 1 : Nat) : Int)), .int .i64 D.keep, .int .i64 D.lose] 86 (0, 0))], sm2]) (zs := []) [0, 5] rfl (by decide) ht3 rfl rfl
   refine s_val hS3 rfl rfl (r_assign rfl (.t rfl rfl)) ?_
   refine wpList_nil ?_
   refine x_tn ?_
   refine k_reb [(4, .int .i64 104)] ⟨rfl, trivial⟩ fun G5 => ?_
   refine wp_ret ?_
   refine x_tr ?_
   refine k_ret1 Try.results51 rfl rfl ?_
   refine ⟨_, rfl, ?_⟩
   rw [wr_torn hT hK]
   exact ⟨_, rfl, hM2, hS3⟩
  ·
   refine s_valg hS1 (wanted_of (j := 2) (b := false) (d := 10) rfl rfl rfl rfl) rfl (r_cmp_f rfl rfl (.t rfl rfl) .c (show ¬ (D.keep > 0) from by omega)) ?_
   refine s_val hS1 rfl rfl (r_pick rfl (.t rfl rfl) (.t rfl rfl)) ?_
   refine wpList_nil ?_
   refine x_tn ?_
   refine k_reb [(0, .pointer (some ⟨d, 0, none⟩)), (1, .func (.func 52) #[] #[.pointer (some ⟨bd, 0, none⟩), .pointer (some ⟨bf, 0, none⟩), .pointer (some ⟨bz, 0, none⟩), .pointer (some ⟨bs, 0, none⟩)]), (4, .int .i64 0), (5, .bool true), (16, .bool false)] ⟨rfl, rfl, rfl, rfl, rfl, trivial⟩ fun G6 => ?_
   refine k_f (.t rfl rfl) ?_
   refine wp_skip ?_
   refine x_tn ?_
   refine k_reb [(0, .pointer (some ⟨d, 0, none⟩)), (4, .int .i64 0), (5, .bool true)] ⟨rfl, rfl, rfl, trivial⟩ fun G7 => ?_
   refine wp_seq ?_
   refine wp_seq ?_
   refine k_reg ?_
   refine s_val hS1 rfl rfl (r_move rfl (.t rfl rfl)) ?_
   refine wpList_nil ?_
   refine x_tn ?_
   refine k_reb [(0, .pointer (some ⟨d, 0, none⟩)), (4, .int .i64 0), (19, .bool true)] ⟨rfl, rfl, rfl, trivial⟩ fun G8 => ?_
   refine k_t (.t rfl rfl) ?_
   refine wp_seq ?_
   refine k_reg ?_
   refine s_val hS1 rfl rfl (r_move rfl (.t rfl rfl)) ?_
   refine s_call rfl rfl rfl (vs := [.pointer (some ⟨d, 0, none⟩)]) ⟨(.t rfl rfl), trivial⟩ cb56 (gone_ok w1 _ d m ({ D with writes := D.writes + 1, armed := D.armed - 1, F := D.F }) (ok.put ok.fit (by omega)) sm hM (hS1.give (xs := [[(d, .cells #[.int .i32 1, .int .u32 0, .int .i64 (((D.room : Nat) : Int)), .int .i64 (((tot D.F : Nat) : Int)), .map (some m), .bool D.off, .int .i64 (((D.writes + 1 : Nat) : Int)), .int .i64 (((D.armed - 1 : Nat) : Int)), .int .i64 D.keep, .int .i64 D.lose] 86 (0, 0))], sm]) [0, 5] rfl (by decide))) ?_
   rintro _ w4 ⟨sm3, rfl, hM3, ht4⟩
   have hS4 : St w0 K (fl [[(d, .cells #[.int .i32 1, .int .u32 0, .int .i64 (((D.room : Nat) : Int)), .int .i64 (((tot (goneF D.lose D.F) : Nat) : Int)), .map (some m), .bool true, .int .i64 (((D.writes + 1 : Nat) : Int)), .int .i64 (((D.armed - 1 : Nat) : Int)), .int .i64 D.keep, .int .i64 D.lose] 86 (0, 0))], [(bd, .cells #[.pointer (some ⟨d, 0, none⟩)] 33 (0, 0))], [(bf, .cells #[.slice fa f.bytes.length fc, .int .i64 (((f.sure : Nat) : Int))] 88 (0, 0))], [(bz, .cells #[.int .i64 (((n : Nat) : Int))] 3 (0, 0))], [(bs, .cells #[.string s] 9 (0, 0))], sm3]) w4 := hS1.callL (xs := [[(d, .cells #[.int .i32 1, .int .u32 0, .int .i64 (((D.room : Nat) : Int)), .int .i64 (((tot D.F : Nat) : Int)), .map (some m), .bool D.off, .int .i64 (((D.writes + 1 : Nat) : Int)), .int .i64 (((D.armed - 1 : Nat) : Int)), .int .i64 D.keep, .int .i64 D.lose] 86 (0, 0))], sm]) (xs' := [[(d, .cells #[.int .i32 1, .int .u32 0, .int .i64 (((D.room : Nat) : Int)), .int .i64 (((tot (goneF D.lose D.F) : Nat) : Int)), .map (some m), .bool true, .int .i64 (((D.writes + 1 : Nat) : Int)), .int .i64 (((D.armed - 1 : Nat) : Int)), .int .i64 D.keep, .int .i64 D.lose] 86 (0, 0))], sm3]) (zs := []) [0, 5] rfl (by decide) ht4 rfl rfl
   refine s_val hS4 rfl rfl (r_assign rfl (.t rfl rfl)) ?_
   refine wpList_nil ?_
   refine x_tn ?_
   refine k_reb [(4, .int .i64 104)] ⟨rfl, trivial⟩ fun G9 => ?_
   refine wp_ret ?_
   refine x_tr ?_
   refine k_ret1 Try.results51 rfl rfl ?_
   refine ⟨_, rfl, ?_⟩
   rw [wr_lost hT hK]
   exact ⟨_, rfl, hM3, hS4⟩
 ·
  refine s_asb (b' := false) (decide_eq_false hT) ?_
  refine s_val hS1 rfl rfl (r_assign rfl (.t rfl rfl)) ?_
  refine wpList_nil ?_
  refine x_tn ?_
  refine k_reb [(0, .pointer (some ⟨d, 0, none⟩)), (1, .func (.func 52) #[] #[.pointer (some ⟨bd, 0, none⟩), .pointer (some ⟨bf, 0, none⟩), .pointer (some ⟨bz, 0, none⟩), .pointer (some ⟨bs, 0, none⟩)]), (4, .int .i64 0), (5, .bool false)] ⟨rfl, rfl, rfl, rfl, trivial⟩ fun G10 => ?_
  refine wp_seq ?_
  refine wp_seq ?_
  refine k_reg ?_
  refine s_val hS1 rfl rfl (r_move rfl (.t rfl rfl)) ?_
  refine s_val hS1 rfl rfl (r_lnot rfl (.t rfl rfl)) ?_
  refine s_val hS1 rfl rfl (r_move rfl (.t rfl rfl)) ?_
  refine s_skip (unwanted_of (j := 2) (b := false) (b' := true) (d := 10) rfl rfl rfl rfl rfl) rfl ?_
  refine s_skip (unwanted_of (j := 2) (b := false) (b' := true) (d := 10) rfl rfl rfl rfl rfl) rfl ?_
  refine s_skip (unwanted_of (j := 2) (b := false) (b' := true) (d := 10) rfl rfl rfl rfl rfl) rfl ?_
  refine s_skip (unwanted_of (j := 2) (b := false) (b' := true) (d := 10) rfl rfl rfl rfl rfl) rfl ?_
  refine s_skip (unwanted_of (j := 2) (b := false) (b' := true) (d := 10) rfl rfl rfl rfl rfl) rfl ?_
  refine s_val hS1 rfl rfl (r_pick rfl (.t rfl rfl) .c) ?_
  refine wpList_nil ?_
  refine x_tn ?_
  refine k_reb [(0, .pointer (some ⟨d, 0, none⟩)), (1, .func (.func 52) #[] #[.pointer (some ⟨bd, 0, none⟩), .pointer (some ⟨bf, 0, none⟩), .pointer (some ⟨bz, 0, none⟩), .pointer (some ⟨bs, 0, none⟩)]), (4, .int .i64 0), (5, .bool false), (16, .bool true)] ⟨rfl, rfl, rfl, rfl, rfl, trivial⟩ fun G11 => ?_
  refine k_t (.t rfl rfl) ?_
  refine k_reg ?_
  refine s_val hS1 rfl rfl (r_move rfl (.t rfl rfl)) ?_
  refine s_callv rfl rfl rfl (cap := [.pointer (some ⟨bd, 0, none⟩), .pointer (some ⟨bf, 0, none⟩), .pointer (some ⟨bz, 0, none⟩), .pointer (some ⟨bs, 0, none⟩)]) (.t rfl rfl) (vs := []) trivial cb52 (Cut1_ok w1 _ d m { D with writes := D.writes + 1, armed := D.armed - 1 } (ok.put ok.fit (by omega)) sm hM s ls f fa fc hA bd bf bz bs n hn (hS1.give (xs := [[(d, .cells #[.int .i32 1, .int .u32 0, .int .i64 (((D.room : Nat) : Int)), .int .i64 (((tot D.F : Nat) : Int)), .map (some m), .bool D.off, .int .i64 (((D.writes + 1 : Nat) : Int)), .int .i64 (((D.armed - 1 : Nat) : Int)), .int .i64 D.keep, .int .i64 D.lose] 86 (0, 0))], [(bd, .cells #[.pointer (some ⟨d, 0, none⟩)] 33 (0, 0))], [(bf, .cells #[.slice fa f.bytes.length fc, .int .i64 (((f.sure : Nat) : Int))] 88 (0, 0))], [(bz, .cells #[.int .i64 (((n : Nat) : Int))] 3 (0, 0))], [(bs, .cells #[.string s] 9 (0, 0))], sm]) [0, 1, 2, 3, 4, 5] rfl (by decide))) ?_
  rintro _ w5 ⟨sm4, rfl, hM4, ht5⟩
  have hS5 : St w0 K (fl [[(d, .cells #[.int .i32 1, .int .u32 0, .int .i64 (((D.room : Nat) : Int)), .int .i64 (((tot (putF D.F s (f.bytes.take n) (min f.sure n)) : Nat) : Int)), .map (some m), .bool D.off, .int .i64 (((D.writes + 1 : Nat) : Int)), .int .i64 (((D.armed - 1 : Nat) : Int)), .int .i64 D.keep, .int .i64 D.lose] 86 (0, 0))], [(bd, .cells #[.pointer (some ⟨d, 0, none⟩)] 33 (0, 0))], [(bf, .cells #[.slice fa f.bytes.length fc, .int .i64 (((f.sure : Nat) : Int))] 88 (0, 0))], [(bz, .cells #[.int .i64 (((n : Nat) : Int))] 3 (0, 0))], [(bs, .cells #[.string s] 9 (0, 0))], sm4]) w5 := hS1.callL (xs := [[(d, .cells #[.int .i32 1, .int .u32 0, .int .i64 (((D.room : Nat) : Int)), .int .i64 (((tot D.F : Nat) : Int)), .map (some m), .bool D.off, .int .i64 (((D.writes + 1 : Nat) : Int)), .int .i64 (((D.armed - 1 : Nat) : Int)), .int .i64 D.keep, .int .i64 D.lose] 86 (0, 0))], [(bd, .cells #[.pointer (some ⟨d, 0, none⟩)] 33 (0, 0))], [(bf, .cells #[.slice fa f.bytes.length fc, .int .i64 (((f.sure : Nat) : Int))] 88 (0, 0))], [(bz, .cells #[.int .i64 (((n : Nat) : Int))] 3 (0, 0))], [(bs, .cells #[.string s] 9 (0, 0))], sm]) (xs' := [[(d, .cells #[.int .i32 1, .int .u32 0, .int .i64 (((D.room : Nat) : Int)), .int .i64 (((tot (putF D.F s (f.bytes.take n) (min f.sure n)) : Nat) : Int)), .map (some m), .bool D.off, .int .i64 (((D.writes + 1 : Nat) : Int)), .int .i64 (((D.armed - 1 : Nat) : Int)), .int .i64 D.keep, .int .i64 D.lose] 86 (0, 0))], [(bd, .cells #[.pointer (some ⟨d, 0, none⟩)] 33 (0, 0))], [(bf, .cells #[.slice fa f.bytes.length fc, .int .i64 (((f.sure : Nat) : Int))] 88 (0, 0))], [(bz, .cells #[.int .i64 (((n : Nat) : Int))] 3 (0, 0))], [(bs, .cells #[.string s] 9 (0, 0))], sm4]) (zs := []) [0, 1, 2, 3, 4, 5] rfl (by decide) ht5 rfl rfl
  refine wpList_nil ?_
  refine x_tn ?_
  refine k_reb [(0, .pointer (some ⟨d, 0, none⟩)), (4, .int .i64 0), (5, .bool false)] ⟨rfl, rfl, rfl, trivial⟩ fun G12 => ?_
  refine wp_seq ?_
  refine wp_seq ?_
  refine k_reg ?_
  refine s_val hS5 rfl rfl (r_move rfl (.t rfl rfl)) ?_
  refine wpList_nil ?_
  refine x_tn ?_
  refine k_reb [(0, .pointer (some ⟨d, 0, none⟩)), (4, .int .i64 0), (19, .bool false)] ⟨rfl, rfl, rfl, trivial⟩ fun G13 => ?_
  refine k_f (.t rfl rfl) ?_
  refine wp_skip ?_
  refine x_tn ?_
  refine k_reb [(4, .int .i64 0)] ⟨rfl, trivial⟩ fun G14 => ?_
  refine wp_seq ?_
  refine k_reg ?_
  refine s_val hS5 rfl rfl (r_assign rfl .c) ?_
  refine wpList_nil ?_
  refine x_tn ?_
  refine wp_ret ?_
  refine k_ret1 Try.results51 rfl rfl ?_
  refine ⟨_, rfl, ?_⟩
  rw [wr_on hT]
  exact ⟨_, rfl, hM4, hS5⟩

theorem Sync1_ok (w0 : World) (K : List Nat) (d m : Nat) (D : Dk) (ok : D.ok) (sm : Hp) (hM : MapH U8 m none D.F sm) (s : ByteArray) (ls : s.size ≤ 1000000000000) (f : FileM) (fa : Option Addr) (fc : Nat) (hA : At U8 m D.F s f fa fc sm) (bf bd bs : Nat) (hS0 : St w0 K (fl [[(d, .cells (dkC 1 m D) DT (0, 0))], [(bf, .cells #[.slice fa f.bytes.length fc, .int .i64 (((f.sure : Nat) : Int))] FT (0, 0))], [(bd, .cells #[.pointer (some ⟨d, 0, none⟩)] PT (0, 0))], [(bs, .cells #[.string s] ST (0, 0))], sm]) w0) :
  Calls Try.prog 65 #[.pointer (some ⟨bf, 0, none⟩), .pointer (some ⟨bd, 0, none⟩), .pointer (some ⟨bs, 0, none⟩)] w0 (Ret fun v w' => ∃ sm', v = .tuple #[] ∧ MapH U8 m none (putF D.F s f.bytes f.bytes.length) sm' ∧ St w0 K (fl [[(d, .cells (dkC 1 m ({ D with F := (putF D.F s f.bytes f.bytes.length) })) DT (0, 0))], [(bf, .cells #[.slice fa f.bytes.length fc, .int .i64 (((f.bytes.length : Nat) : Int))] FT (0, 0))], [(bd, .cells #[.pointer (some ⟨d, 0, none⟩)] PT (0, 0))], [(bs, .cells #[.string s] ST (0, 0))], sm']) w') := by
 refine k_enter (vs := [.pointer (some ⟨bf, 0, none⟩), .pointer (some ⟨bd, 0, none⟩), .pointer (some ⟨bs, 0, none⟩)]) Try.func65 rfl Try.ntmps65 rfl ?_
 have hS : St w0 K (fl [[(d, .cells #[.int .i32 1, .int .u32 0, .int .i64 (((D.room : Nat) : Int)), .int .i64 (((tot D.F : Nat) : Int)), .map (some m), .bool D.off, .int .i64 (((D.writes : Nat) : Int)), .int .i64 (((D.armed : Nat) : Int)), .int .i64 D.keep, .int .i64 D.lose] 86 (0, 0))], [(bf, .cells #[.slice fa f.bytes.length fc, .int .i64 (((f.sure : Nat) : Int))] 88 (0, 0))], [(bd, .cells #[.pointer (some ⟨d, 0, none⟩)] 33 (0, 0))], [(bs, .cells #[.string s] 9 (0, 0))], sm]) w0 := hS0
 have ok1 := ok.room
 have ok2 := ok.fits
 have ok3 := ok.len
 have ok4 := ok.armed
 have ok5 := ok.keep
 have ok6 := ok.lose
 have hlk := hA.1
 obtain ⟨hf1, hf2, hf3, hf4⟩ := ok.file hlk
 have hx := hA.sl (by omega) hf3
 have hnm := hM.names
 have htp := tot_put_at (B := f.bytes) (k := f.bytes.length) hnm hlk
 refine wp_seq ?_
 refine k_reg ?_
 refine s_val hS rfl rfl (r_fieldN rfl Try.underlying88 rfl ti22 (by decide) (.t rfl rfl) (qq := 0) rfl) ?_
 refine s_val hS rfl rfl (r_load rfl one22 (.t rfl rfl) (St.cell_own (m := 1) rfl rfl)) ?_
 refine s_val hS rfl rfl (r_len rfl rfl Try.underlying22 (.t rfl rfl)) ?_
 refine s_val hS rfl rfl (r_fieldN rfl Try.underlying88 rfl ti3 (by decide) (.t rfl rfl) (qq := 1) rfl) ?_
 refine s_storeB (m := 1) rfl rfl rfl one3 (.t rfl rfl) (.t rfl rfl) rfl hS rfl rfl (c' := #[.slice fa f.bytes.length fc, .int .i64 (((f.bytes.length : Nat) : Int))]) rfl (h' := (fl [[(d, .cells #[.int .i32 1, .int .u32 0, .int .i64 (((D.room : Nat) : Int)), .int .i64 (((tot D.F : Nat) : Int)), .map (some m), .bool D.off, .int .i64 (((D.writes : Nat) : Int)), .int .i64 (((D.armed : Nat) : Int)), .int .i64 D.keep, .int .i64 D.lose] 86 (0, 0))], [(bf, .cells #[.slice fa f.bytes.length fc, .int .i64 (((f.bytes.length : Nat) : Int))] 88 (0, 0))], [(bd, .cells #[.pointer (some ⟨d, 0, none⟩)] 33 (0, 0))], [(bs, .cells #[.string s] 9 (0, 0))], sm])) rfl fun w1 hS1 hB1 => ?_
 refine wpList_nil ?_
 refine x_tn ?_
 refine k_reb [(0, .pointer (some ⟨bf, 0, none⟩)), (1, .pointer (some ⟨bd, 0, none⟩)), (2, .pointer (some ⟨bs, 0, none⟩))] ⟨rfl, rfl, rfl, trivial⟩ fun G1 => ?_
 refine k_regt 6 mixed (by kernel_rfl) hS1 fun w2 hS2 hB2 => ?_
 refine t_val hS2 rfl rfl (r_load rfl one33 (.t rfl rfl) (St.cell_own (m := 2) rfl rfl)) ?_
 refine t_val hS2 rfl rfl (r_nilCheck rfl (.t rfl rfl)) ?_
 refine t_val hS2 rfl rfl (r_fieldN rfl Try.underlying86 rfl ti84 (by decide) (.t rfl rfl) (qq := 4) rfl) ?_
 refine t_val hS2 rfl rfl (r_load rfl one84 (.t rfl rfl) (St.cell_own (m := 0) rfl rfl)) ?_
 refine t_val hS2 rfl rfl (r_load rfl one9 (.t rfl rfl) (St.cell_own (m := 3) rfl rfl)) ?_
 refine t_val hS2 rfl rfl (r_loadA rfl agg88 ti88 rfl (.t rfl rfl) (St.block (m := 1) rfl)) ?_
 refine t_nil ?_
 obtain ⟨sm1, sg1, hM1, hG1, hS4, -⟩ := hA.open_ hS2 (i := 4) rfl
 replace hS4 : St w0 K (fl [[(d, .cells #[.int .i32 1, .int .u32 0, .int .i64 (((D.room : Nat) : Int)), .int .i64 (((tot D.F : Nat) : Int)), .map (some m), .bool D.off, .int .i64 (((D.writes : Nat) : Int)), .int .i64 (((D.armed : Nat) : Int)), .int .i64 D.keep, .int .i64 D.lose] 86 (0, 0))], [(bf, .cells #[.slice fa f.bytes.length fc, .int .i64 (((f.bytes.length : Nat) : Int))] 88 (0, 0))], [(bd, .cells #[.pointer (some ⟨d, 0, none⟩)] 33 (0, 0))], [(bs, .cells #[.string s] 9 (0, 0))], sm1, sg1]) w2 := hS4
 refine s_put (B := f.bytes) (k := f.bytes.length) (i := 4) (j := 5) rfl rfl rfl Try.underlying84 Try.underlying9 (.t rfl rfl) (.t rfl rfl) (by first | exact (.t rfl rfl) | (rw [show f.bytes.length = f.bytes.length from by first | omega | (simp; done) | (simp; omega)]; exact (.t rfl rfl))) hM1 hG1 hS4 rfl rfl rfl fun sm2 w3 hM2 hS5 => ?_
 have hS6 : St w0 K (fl [[(d, .cells #[.int .i32 1, .int .u32 0, .int .i64 (((D.room : Nat) : Int)), .int .i64 (((tot D.F : Nat) : Int)), .map (some m), .bool D.off, .int .i64 (((D.writes : Nat) : Int)), .int .i64 (((D.armed : Nat) : Int)), .int .i64 D.keep, .int .i64 D.lose] 86 (0, 0))], [(bf, .cells #[.slice fa f.bytes.length fc, .int .i64 (((f.bytes.length : Nat) : Int))] 88 (0, 0))], [(bd, .cells #[.pointer (some ⟨d, 0, none⟩)] 33 (0, 0))], [(bs, .cells #[.string s] 9 (0, 0))], sm2]) w3 := St.pick (L := [[(d, .cells #[.int .i32 1, .int .u32 0, .int .i64 (((D.room : Nat) : Int)), .int .i64 (((tot D.F : Nat) : Int)), .map (some m), .bool D.off, .int .i64 (((D.writes : Nat) : Int)), .int .i64 (((D.armed : Nat) : Int)), .int .i64 D.keep, .int .i64 D.lose] 86 (0, 0))], [(bf, .cells #[.slice fa f.bytes.length fc, .int .i64 (((f.bytes.length : Nat) : Int))] 88 (0, 0))], [(bd, .cells #[.pointer (some ⟨d, 0, none⟩)] 33 (0, 0))], [(bs, .cells #[.string s] 9 (0, 0))], sm2, []]) [0, 1, 2, 3, 4] hS5 rfl (by decide)
 refine wpList_nil ?_
 refine k_end0 Try.results65 ?_
 refine ⟨_, rfl, ?_⟩
 have he : tot (putF D.F s f.bytes f.bytes.length) = tot D.F := (by omega)
 rw [← he] at hS6
 exact ⟨_, rfl, hM2, hS6⟩

theorem write_sync (w0 : World) (K : List Nat) (d m : Nat) (D : Dk) (ok : D.ok) (sm : Hp) (hM : MapH U8 m none D.F sm) (s : ByteArray) (ls : s.size ≤ 1000000000000) (f : FileM) (fa : Option Addr) (fc : Nat) (hA : At U8 m D.F s f fa fc sm) (bf bd bs : Nat) (hfit : Fits D.room (putF D.F s f.bytes f.bytes.length)) (hw : D.writes ≤ 4611686018427387904) (hS0 : St w0 K (fl [[(d, .cells (dkC 1 m D) DT (0, 0))], [(bf, .cells #[.slice fa f.bytes.length fc, .int .i64 (((f.sure : Nat) : Int))] FT (0, 0))], [(bd, .cells #[.pointer (some ⟨d, 0, none⟩)] PT (0, 0))], [(bs, .cells #[.string s] ST (0, 0))], sm]) w0) :
  Calls Try.prog 51 #[.pointer (some ⟨d, 0, none⟩), .func (.func 65) #[] #[.pointer (some ⟨bf, 0, none⟩), .pointer (some ⟨bd, 0, none⟩), .pointer (some ⟨bs, 0, none⟩)]] w0 (Ret fun v w' => ∃ sm', v = .int .i64 ((D.wr (putF D.F s f.bytes f.bytes.length)).1 : Nat) ∧ MapH U8 m none (D.wr (putF D.F s f.bytes f.bytes.length)).2.F sm' ∧ St w0 K (fl [[(d, .cells (dkC 1 m ((D.wr (putF D.F s f.bytes f.bytes.length)).2)) DT (0, 0))], [], [], [], sm']) w') := by
 refine k_enter (vs := [.pointer (some ⟨d, 0, none⟩), .func (.func 65) #[] #[.pointer (some ⟨bf, 0, none⟩), .pointer (some ⟨bd, 0, none⟩), .pointer (some ⟨bs, 0, none⟩)]]) Try.func51 rfl Try.ntmps51 rfl ?_
 have hS : St w0 K (fl [[(d, .cells #[.int .i32 1, .int .u32 0, .int .i64 (((D.room : Nat) : Int)), .int .i64 (((tot D.F : Nat) : Int)), .map (some m), .bool D.off, .int .i64 (((D.writes : Nat) : Int)), .int .i64 (((D.armed : Nat) : Int)), .int .i64 D.keep, .int .i64 D.lose] 86 (0, 0))], [(bf, .cells #[.slice fa f.bytes.length fc, .int .i64 (((f.sure : Nat) : Int))] 88 (0, 0))], [(bd, .cells #[.pointer (some ⟨d, 0, none⟩)] 33 (0, 0))], [(bs, .cells #[.string s] 9 (0, 0))], sm]) w0 := hS0
 have ok1 := ok.room
 have ok2 := ok.fits
 have ok3 := ok.len
 have ok4 := ok.armed
 have ok5 := ok.keep
 have ok6 := ok.lose
 refine wp_seq ?_
 refine k_reg ?_
 refine s_val hS rfl rfl (r_assign rfl .c) ?_
 refine wpList_nil ?_
 refine x_tn ?_
 refine wp_seq ?_
 refine k_reg ?_
 refine s_val hS rfl rfl (r_move rfl (.t rfl rfl)) ?_
 refine s_call rfl rfl rfl (vs := [.pointer (some ⟨d, 0, none⟩)]) ⟨(.t rfl rfl), trivial⟩ cb55 (torn_ok w0 _ d m D ok hw (hS.give (xs := [[(d, .cells #[.int .i32 1, .int .u32 0, .int .i64 (((D.room : Nat) : Int)), .int .i64 (((tot D.F : Nat) : Int)), .map (some m), .bool D.off, .int .i64 (((D.writes : Nat) : Int)), .int .i64 (((D.armed : Nat) : Int)), .int .i64 D.keep, .int .i64 D.lose] 86 (0, 0))]]) [0] rfl (by decide))) ?_
 rintro _ w1 ⟨rfl, ht1⟩
 have hS1 : St w0 K (fl [[(d, .cells #[.int .i32 1, .int .u32 0, .int .i64 (((D.room : Nat) : Int)), .int .i64 (((tot D.F : Nat) : Int)), .map (some m), .bool D.off, .int .i64 (((D.writes + 1 : Nat) : Int)), .int .i64 (((D.armed - 1 : Nat) : Int)), .int .i64 D.keep, .int .i64 D.lose] 86 (0, 0))], [(bf, .cells #[.slice fa f.bytes.length fc, .int .i64 (((f.sure : Nat) : Int))] 88 (0, 0))], [(bd, .cells #[.pointer (some ⟨d, 0, none⟩)] 33 (0, 0))], [(bs, .cells #[.string s] 9 (0, 0))], sm]) w1 := hS.callL (xs := [[(d, .cells #[.int .i32 1, .int .u32 0, .int .i64 (((D.room : Nat) : Int)), .int .i64 (((tot D.F : Nat) : Int)), .map (some m), .bool D.off, .int .i64 (((D.writes : Nat) : Int)), .int .i64 (((D.armed : Nat) : Int)), .int .i64 D.keep, .int .i64 D.lose] 86 (0, 0))]]) (xs' := [[(d, .cells #[.int .i32 1, .int .u32 0, .int .i64 (((D.room : Nat) : Int)), .int .i64 (((tot D.F : Nat) : Int)), .map (some m), .bool D.off, .int .i64 (((D.writes + 1 : Nat) : Int)), .int .i64 (((D.armed - 1 : Nat) : Int)), .int .i64 D.keep, .int .i64 D.lose] 86 (0, 0))]]) (zs := []) [0] rfl (by decide) ht1 rfl rfl
 by_cases hT : D.armed = 1
 ·
  refine s_asb (b' := true) (decide_eq_true hT) ?_
  refine s_val hS1 rfl rfl (r_assign rfl (.t rfl rfl)) ?_
  refine wpList_nil ?_
  refine x_tn ?_
  refine k_reb [(0, .pointer (some ⟨d, 0, none⟩)), (1, .func (.func 65) #[] #[.pointer (some ⟨bf, 0, none⟩), .pointer (some ⟨bd, 0, none⟩), .pointer (some ⟨bs, 0, none⟩)]), (4, .int .i64 0), (5, .bool true)] ⟨rfl, rfl, rfl, rfl, trivial⟩ fun G1 => ?_
  refine wp_seq ?_
  refine wp_seq ?_
  refine k_reg ?_
  refine s_val hS1 rfl rfl (r_move rfl (.t rfl rfl)) ?_
  refine s_val hS1 rfl rfl (r_lnot rfl (.t rfl rfl)) ?_
  refine s_val hS1 rfl rfl (r_move rfl (.t rfl rfl)) ?_
  refine s_valg hS1 (wanted_of (j := 2) (b := false) (d := 10) rfl rfl rfl rfl) rfl (r_move rfl (.t rfl rfl)) ?_
  refine s_valg hS1 (wanted_of (j := 2) (b := false) (d := 10) rfl rfl rfl rfl) rfl (r_nilCheck rfl (.t rfl rfl)) ?_
  refine s_valg hS1 (wanted_of (j := 2) (b := false) (d := 10) rfl rfl rfl rfl) rfl (r_fieldN rfl Try.underlying86 rfl ti3 (by decide) (.t rfl rfl) (qq := 8) rfl) ?_
  refine s_valg hS1 (wanted_of (j := 2) (b := false) (d := 10) rfl rfl rfl rfl) rfl (r_load rfl one3 (.t rfl rfl) (St.cell_own (m := 0) rfl rfl)) ?_
  by_cases hK : D.keep > 0
  ·
   refine s_valg hS1 (wanted_of (j := 2) (b := false) (d := 10) rfl rfl rfl rfl) rfl (r_cmp_t rfl rfl (.t rfl rfl) .c (show D.keep > 0 from by omega)) ?_
   refine s_val hS1 rfl rfl (r_pick rfl (.t rfl rfl) (.t rfl rfl)) ?_
   refine wpList_nil ?_
   refine x_tn ?_
   refine k_reb [(0, .pointer (some ⟨d, 0, none⟩)), (1, .func (.func 65) #[] #[.pointer (some ⟨bf, 0, none⟩), .pointer (some ⟨bd, 0, none⟩), .pointer (some ⟨bs, 0, none⟩)]), (4, .int .i64 0), (5, .bool true), (16, .bool true)] ⟨rfl, rfl, rfl, rfl, rfl, trivial⟩ fun G2 => ?_
   refine k_t (.t rfl rfl) ?_
   refine k_reg ?_
   refine s_val hS1 rfl rfl (r_move rfl (.t rfl rfl)) ?_
   refine s_callv rfl rfl rfl (cap := [.pointer (some ⟨bf, 0, none⟩), .pointer (some ⟨bd, 0, none⟩), .pointer (some ⟨bs, 0, none⟩)]) (.t rfl rfl) (vs := []) trivial cb65 (Sync1_ok w1 _ d m { D with writes := D.writes + 1, armed := D.armed - 1 } (ok.put ok.fit (by omega)) sm hM s ls f fa fc hA bf bd bs (hS1.give (xs := [[(d, .cells #[.int .i32 1, .int .u32 0, .int .i64 (((D.room : Nat) : Int)), .int .i64 (((tot D.F : Nat) : Int)), .map (some m), .bool D.off, .int .i64 (((D.writes + 1 : Nat) : Int)), .int .i64 (((D.armed - 1 : Nat) : Int)), .int .i64 D.keep, .int .i64 D.lose] 86 (0, 0))], [(bf, .cells #[.slice fa f.bytes.length fc, .int .i64 (((f.sure : Nat) : Int))] 88 (0, 0))], [(bd, .cells #[.pointer (some ⟨d, 0, none⟩)] 33 (0, 0))], [(bs, .cells #[.string s] 9 (0, 0))], sm]) [0, 1, 2, 3, 4] rfl (by decide))) ?_
   rintro _ w2 ⟨sm1, rfl, hM1, ht2⟩
   have hS2 : St w0 K (fl [[(d, .cells #[.int .i32 1, .int .u32 0, .int .i64 (((D.room : Nat) : Int)), .int .i64 (((tot (putF D.F s f.bytes f.bytes.length) : Nat) : Int)), .map (some m), .bool D.off, .int .i64 (((D.writes + 1 : Nat) : Int)), .int .i64 (((D.armed - 1 : Nat) : Int)), .int .i64 D.keep, .int .i64 D.lose] 86 (0, 0))], [(bf, .cells #[.slice fa f.bytes.length fc, .int .i64 (((f.bytes.length : Nat) : Int))] 88 (0, 0))], [(bd, .cells #[.pointer (some ⟨d, 0, none⟩)] 33 (0, 0))], [(bs, .cells #[.string s] 9 (0, 0))], sm1]) w2 := hS1.callL (xs := [[(d, .cells #[.int .i32 1, .int .u32 0, .int .i64 (((D.room : Nat) : Int)), .int .i64 (((tot D.F : Nat) : Int)), .map (some m), .bool D.off, .int .i64 (((D.writes + 1 : Nat) : Int)), .int .i64 (((D.armed - 1 : Nat) : Int)), .int .i64 D.keep, .int .i64 D.lose] 86 (0, 0))], [(bf, .cells #[.slice fa f.bytes.length fc, .int .i64 (((f.sure : Nat) : Int))] 88 (0, 0))], [(bd, .cells #[.pointer (some ⟨d, 0, none⟩)] 33 (0, 0))], [(bs, .cells #[.string s] 9 (0, 0))], sm]) (xs' := [[(d, .cells #[.int .i32 1, .int .u32 0, .int .i64 (((D.room : Nat) : Int)), .int .i64 (((tot (putF D.F s f.bytes f.bytes.length) : Nat) : Int)), .map (some m), .bool D.off, .int .i64 (((D.writes + 1 : Nat) : Int)), .int .i64 (((D.armed - 1 : Nat) : Int)), .int .i64 D.keep, .int .i64 D.lose] 86 (0, 0))], [(bf, .cells #[.slice fa f.bytes.length fc, .int .i64 (((f.bytes.length : Nat) : Int))] 88 (0, 0))], [(bd, .cells #[.pointer (some ⟨d, 0, none⟩)] 33 (0, 0))], [(bs, .cells #[.string s] 9 (0, 0))], sm1]) (zs := []) [0, 1, 2, 3, 4] rfl (by decide) ht2 rfl rfl
   refine wpList_nil ?_
   refine x_tn ?_
   refine k_reb [(0, .pointer (some ⟨d, 0, none⟩)), (4, .int .i64 0), (5, .bool true)] ⟨rfl, rfl, rfl, trivial⟩ fun G3 => ?_
   refine wp_seq ?_
   refine wp_seq ?_
   refine k_reg ?_
   refine s_val hS2 rfl rfl (r_move rfl (.t rfl rfl)) ?_
   refine wpList_nil ?_
   refine x_tn ?_
   refine k_reb [(0, .pointer (some ⟨d, 0, none⟩)), (4, .int .i64 0), (19, .bool true)] ⟨rfl, rfl, rfl, trivial⟩ fun G4 => ?_
   refine k_t (.t rfl rfl) ?_
   refine wp_seq ?_
   refine k_reg ?_
   refine s_val hS2 rfl rfl (r_move rfl (.t rfl rfl)) ?_
   refine s_call rfl rfl rfl (vs := [.pointer (some ⟨d, 0, none⟩)]) ⟨(.t rfl rfl), trivial⟩ cb56 (gone_ok w2 _ d m ({ D with writes := D.writes + 1, armed := D.armed - 1, F := ((putF D.F s f.bytes f.bytes.length)) }) (ok.put hfit (by omega)) sm1 hM1 (hS2.give (xs := [[(d, .cells #[.int .i32 1, .int .u32 0, .int .i64 (((D.room : Nat) : Int)), .int .i64 (((tot (putF D.F s f.bytes f.bytes.length) : Nat) : Int)), .map (some m), .bool D.off, .int .i64 (((D.writes + 1 : Nat) : Int)), .int .i64 (((D.armed - 1 : Nat) : Int)), .int .i64 D.keep, .int .i64 D.lose] 86 (0, 0))], sm1]) [0, 4] rfl (by decide))) ?_
   rintro _ w3 ⟨sm2, rfl, hM2, ht3⟩
   have hS3 : St w0 K (fl [[(d, .cells #[.int .i32 1, .int .u32 0, .int .i64 (((D.room : Nat) : Int)), .int .i64 (((tot (goneF D.lose ((putF D.F s f.bytes f.bytes.length))) : Nat) : Int)), .map (some m), .bool true, .int .i64 (((D.writes + 1 : Nat) : Int)), .int .i64 (((D.armed - 1 : Nat) : Int)), .int .i64 D.keep, .int .i64 D.lose] 86 (0, 0))], [(bf, .cells #[.slice fa f.bytes.length fc, .int .i64 (((f.bytes.length : Nat) : Int))] 88 (0, 0))], [(bd, .cells #[.pointer (some ⟨d, 0, none⟩)] 33 (0, 0))], [(bs, .cells #[.string s] 9 (0, 0))], sm2]) w3 := hS2.callL (xs := [[(d, .cells #[.int .i32 1, .int .u32 0, .int .i64 (((D.room : Nat) : Int)), .int .i64 (((tot (putF D.F s f.bytes f.bytes.length) : Nat) : Int)), .map (some m), .bool D.off, .int .i64 (((D.writes + 1 : Nat) : Int)), .int .i64 (((D.armed - 1 : Nat) : Int)), .int .i64 D.keep, .int .i64 D.lose] 86 (0, 0))], sm1]) (xs' := [[(d, .cells #[.int .i32 1, .int .u32 0, .int .i64 (((D.room : Nat) : Int)), .int .i64 (((tot (goneF D.lose ((putF D.F s f.bytes f.bytes.length))) : Nat) : Int)), .map (some m), .bool true, .int .i64 (((D.writes + 1 : Nat) : Int)), .int .i64 (((D.armed - 1 : Nat) : Int)), .int .i64 D.keep, .int .i64 D.lose] 86 (0, 0))], sm2]) (zs := []) [0, 4] rfl (by decide) ht3 rfl rfl
   refine s_val hS3 rfl rfl (r_assign rfl (.t rfl rfl)) ?_
   refine wpList_nil ?_
   refine x_tn ?_
   refine k_reb [(4, .int .i64 104)] ⟨rfl, trivial⟩ fun G5 => ?_
   refine wp_ret ?_
   refine x_tr ?_
   refine k_ret1 Try.results51 rfl rfl ?_
   refine ⟨_, rfl, ?_⟩
   have hS4 : St w0 K (fl [[(d, .cells #[.int .i32 1, .int .u32 0, .int .i64 (((D.room : Nat) : Int)), .int .i64 (((tot (goneF D.lose ((putF D.F s f.bytes f.bytes.length))) : Nat) : Int)), .map (some m), .bool true, .int .i64 (((D.writes + 1 : Nat) : Int)), .int .i64 (((D.armed - 1 : Nat) : Int)), .int .i64 D.keep, .int .i64 D.lose] 86 (0, 0))], sm2]) w3 := hS3.pick [0, 4] rfl (by decide)
   have hS5 : St w0 K (fl [[(d, .cells #[.int .i32 1, .int .u32 0, .int .i64 (((D.room : Nat) : Int)), .int .i64 (((tot (goneF D.lose ((putF D.F s f.bytes f.bytes.length))) : Nat) : Int)), .map (some m), .bool true, .int .i64 (((D.writes + 1 : Nat) : Int)), .int .i64 (((D.armed - 1 : Nat) : Int)), .int .i64 D.keep, .int .i64 D.lose] 86 (0, 0))], [], [], [], sm2]) w3 := hS4
   rw [wr_torn hT hK]
   exact ⟨_, rfl, hM2, hS5⟩
  ·
   refine s_valg hS1 (wanted_of (j := 2) (b := false) (d := 10) rfl rfl rfl rfl) rfl (r_cmp_f rfl rfl (.t rfl rfl) .c (show ¬ (D.keep > 0) from by omega)) ?_
   refine s_val hS1 rfl rfl (r_pick rfl (.t rfl rfl) (.t rfl rfl)) ?_
   refine wpList_nil ?_
   refine x_tn ?_
   refine k_reb [(0, .pointer (some ⟨d, 0, none⟩)), (1, .func (.func 65) #[] #[.pointer (some ⟨bf, 0, none⟩), .pointer (some ⟨bd, 0, none⟩), .pointer (some ⟨bs, 0, none⟩)]), (4, .int .i64 0), (5, .bool true), (16, .bool false)] ⟨rfl, rfl, rfl, rfl, rfl, trivial⟩ fun G6 => ?_
   refine k_f (.t rfl rfl) ?_
   refine wp_skip ?_
   refine x_tn ?_
   refine k_reb [(0, .pointer (some ⟨d, 0, none⟩)), (4, .int .i64 0), (5, .bool true)] ⟨rfl, rfl, rfl, trivial⟩ fun G7 => ?_
   refine wp_seq ?_
   refine wp_seq ?_
   refine k_reg ?_
   refine s_val hS1 rfl rfl (r_move rfl (.t rfl rfl)) ?_
   refine wpList_nil ?_
   refine x_tn ?_
   refine k_reb [(0, .pointer (some ⟨d, 0, none⟩)), (4, .int .i64 0), (19, .bool true)] ⟨rfl, rfl, rfl, trivial⟩ fun G8 => ?_
   refine k_t (.t rfl rfl) ?_
   refine wp_seq ?_
   refine k_reg ?_
   refine s_val hS1 rfl rfl (r_move rfl (.t rfl rfl)) ?_
   refine s_call rfl rfl rfl (vs := [.pointer (some ⟨d, 0, none⟩)]) ⟨(.t rfl rfl), trivial⟩ cb56 (gone_ok w1 _ d m ({ D with writes := D.writes + 1, armed := D.armed - 1, F := D.F }) (ok.put ok.fit (by omega)) sm hM (hS1.give (xs := [[(d, .cells #[.int .i32 1, .int .u32 0, .int .i64 (((D.room : Nat) : Int)), .int .i64 (((tot D.F : Nat) : Int)), .map (some m), .bool D.off, .int .i64 (((D.writes + 1 : Nat) : Int)), .int .i64 (((D.armed - 1 : Nat) : Int)), .int .i64 D.keep, .int .i64 D.lose] 86 (0, 0))], sm]) [0, 4] rfl (by decide))) ?_
   rintro _ w4 ⟨sm3, rfl, hM3, ht4⟩
   have hS6 : St w0 K (fl [[(d, .cells #[.int .i32 1, .int .u32 0, .int .i64 (((D.room : Nat) : Int)), .int .i64 (((tot (goneF D.lose D.F) : Nat) : Int)), .map (some m), .bool true, .int .i64 (((D.writes + 1 : Nat) : Int)), .int .i64 (((D.armed - 1 : Nat) : Int)), .int .i64 D.keep, .int .i64 D.lose] 86 (0, 0))], [(bf, .cells #[.slice fa f.bytes.length fc, .int .i64 (((f.sure : Nat) : Int))] 88 (0, 0))], [(bd, .cells #[.pointer (some ⟨d, 0, none⟩)] 33 (0, 0))], [(bs, .cells #[.string s] 9 (0, 0))], sm3]) w4 := hS1.callL (xs := [[(d, .cells #[.int .i32 1, .int .u32 0, .int .i64 (((D.room : Nat) : Int)), .int .i64 (((tot D.F : Nat) : Int)), .map (some m), .bool D.off, .int .i64 (((D.writes + 1 : Nat) : Int)), .int .i64 (((D.armed - 1 : Nat) : Int)), .int .i64 D.keep, .int .i64 D.lose] 86 (0, 0))], sm]) (xs' := [[(d, .cells #[.int .i32 1, .int .u32 0, .int .i64 (((D.room : Nat) : Int)), .int .i64 (((tot (goneF D.lose D.F) : Nat) : Int)), .map (some m), .bool true, .int .i64 (((D.writes + 1 : Nat) : Int)), .int .i64 (((D.armed - 1 : Nat) : Int)), .int .i64 D.keep, .int .i64 D.lose] 86 (0, 0))], sm3]) (zs := []) [0, 4] rfl (by decide) ht4 rfl rfl
   refine s_val hS6 rfl rfl (r_assign rfl (.t rfl rfl)) ?_
   refine wpList_nil ?_
   refine x_tn ?_
   refine k_reb [(4, .int .i64 104)] ⟨rfl, trivial⟩ fun G9 => ?_
   refine wp_ret ?_
   refine x_tr ?_
   refine k_ret1 Try.results51 rfl rfl ?_
   refine ⟨_, rfl, ?_⟩
   have hS7 : St w0 K (fl [[(d, .cells #[.int .i32 1, .int .u32 0, .int .i64 (((D.room : Nat) : Int)), .int .i64 (((tot (goneF D.lose D.F) : Nat) : Int)), .map (some m), .bool true, .int .i64 (((D.writes + 1 : Nat) : Int)), .int .i64 (((D.armed - 1 : Nat) : Int)), .int .i64 D.keep, .int .i64 D.lose] 86 (0, 0))], sm3]) w4 := hS6.pick [0, 4] rfl (by decide)
   have hS8 : St w0 K (fl [[(d, .cells #[.int .i32 1, .int .u32 0, .int .i64 (((D.room : Nat) : Int)), .int .i64 (((tot (goneF D.lose D.F) : Nat) : Int)), .map (some m), .bool true, .int .i64 (((D.writes + 1 : Nat) : Int)), .int .i64 (((D.armed - 1 : Nat) : Int)), .int .i64 D.keep, .int .i64 D.lose] 86 (0, 0))], [], [], [], sm3]) w4 := hS7
   rw [wr_lost hT hK]
   exact ⟨_, rfl, hM3, hS8⟩
 ·
  refine s_asb (b' := false) (decide_eq_false hT) ?_
  refine s_val hS1 rfl rfl (r_assign rfl (.t rfl rfl)) ?_
  refine wpList_nil ?_
  refine x_tn ?_
  refine k_reb [(0, .pointer (some ⟨d, 0, none⟩)), (1, .func (.func 65) #[] #[.pointer (some ⟨bf, 0, none⟩), .pointer (some ⟨bd, 0, none⟩), .pointer (some ⟨bs, 0, none⟩)]), (4, .int .i64 0), (5, .bool false)] ⟨rfl, rfl, rfl, rfl, trivial⟩ fun G10 => ?_
  refine wp_seq ?_
  refine wp_seq ?_
  refine k_reg ?_
  refine s_val hS1 rfl rfl (r_move rfl (.t rfl rfl)) ?_
  refine s_val hS1 rfl rfl (r_lnot rfl (.t rfl rfl)) ?_
  refine s_val hS1 rfl rfl (r_move rfl (.t rfl rfl)) ?_
  refine s_skip (unwanted_of (j := 2) (b := false) (b' := true) (d := 10) rfl rfl rfl rfl rfl) rfl ?_
  refine s_skip (unwanted_of (j := 2) (b := false) (b' := true) (d := 10) rfl rfl rfl rfl rfl) rfl ?_
  refine s_skip (unwanted_of (j := 2) (b := false) (b' := true) (d := 10) rfl rfl rfl rfl rfl) rfl ?_
  refine s_skip (unwanted_of (j := 2) (b := false) (b' := true) (d := 10) rfl rfl rfl rfl rfl) rfl ?_
  refine s_skip (unwanted_of (j := 2) (b := false) (b' := true) (d := 10) rfl rfl rfl rfl rfl) rfl ?_
  refine s_val hS1 rfl rfl (r_pick rfl (.t rfl rfl) .c) ?_
  refine wpList_nil ?_
  refine x_tn ?_
  refine k_reb [(0, .pointer (some ⟨d, 0, none⟩)), (1, .func (.func 65) #[] #[.pointer (some ⟨bf, 0, none⟩), .pointer (some ⟨bd, 0, none⟩), .pointer (some ⟨bs, 0, none⟩)]), (4, .int .i64 0), (5, .bool false), (16, .bool true)] ⟨rfl, rfl, rfl, rfl, rfl, trivial⟩ fun G11 => ?_
  refine k_t (.t rfl rfl) ?_
  refine k_reg ?_
  refine s_val hS1 rfl rfl (r_move rfl (.t rfl rfl)) ?_
  refine s_callv rfl rfl rfl (cap := [.pointer (some ⟨bf, 0, none⟩), .pointer (some ⟨bd, 0, none⟩), .pointer (some ⟨bs, 0, none⟩)]) (.t rfl rfl) (vs := []) trivial cb65 (Sync1_ok w1 _ d m { D with writes := D.writes + 1, armed := D.armed - 1 } (ok.put ok.fit (by omega)) sm hM s ls f fa fc hA bf bd bs (hS1.give (xs := [[(d, .cells #[.int .i32 1, .int .u32 0, .int .i64 (((D.room : Nat) : Int)), .int .i64 (((tot D.F : Nat) : Int)), .map (some m), .bool D.off, .int .i64 (((D.writes + 1 : Nat) : Int)), .int .i64 (((D.armed - 1 : Nat) : Int)), .int .i64 D.keep, .int .i64 D.lose] 86 (0, 0))], [(bf, .cells #[.slice fa f.bytes.length fc, .int .i64 (((f.sure : Nat) : Int))] 88 (0, 0))], [(bd, .cells #[.pointer (some ⟨d, 0, none⟩)] 33 (0, 0))], [(bs, .cells #[.string s] 9 (0, 0))], sm]) [0, 1, 2, 3, 4] rfl (by decide))) ?_
  rintro _ w5 ⟨sm4, rfl, hM4, ht5⟩
  have hS9 : St w0 K (fl [[(d, .cells #[.int .i32 1, .int .u32 0, .int .i64 (((D.room : Nat) : Int)), .int .i64 (((tot (putF D.F s f.bytes f.bytes.length) : Nat) : Int)), .map (some m), .bool D.off, .int .i64 (((D.writes + 1 : Nat) : Int)), .int .i64 (((D.armed - 1 : Nat) : Int)), .int .i64 D.keep, .int .i64 D.lose] 86 (0, 0))], [(bf, .cells #[.slice fa f.bytes.length fc, .int .i64 (((f.bytes.length : Nat) : Int))] 88 (0, 0))], [(bd, .cells #[.pointer (some ⟨d, 0, none⟩)] 33 (0, 0))], [(bs, .cells #[.string s] 9 (0, 0))], sm4]) w5 := hS1.callL (xs := [[(d, .cells #[.int .i32 1, .int .u32 0, .int .i64 (((D.room : Nat) : Int)), .int .i64 (((tot D.F : Nat) : Int)), .map (some m), .bool D.off, .int .i64 (((D.writes + 1 : Nat) : Int)), .int .i64 (((D.armed - 1 : Nat) : Int)), .int .i64 D.keep, .int .i64 D.lose] 86 (0, 0))], [(bf, .cells #[.slice fa f.bytes.length fc, .int .i64 (((f.sure : Nat) : Int))] 88 (0, 0))], [(bd, .cells #[.pointer (some ⟨d, 0, none⟩)] 33 (0, 0))], [(bs, .cells #[.string s] 9 (0, 0))], sm]) (xs' := [[(d, .cells #[.int .i32 1, .int .u32 0, .int .i64 (((D.room : Nat) : Int)), .int .i64 (((tot (putF D.F s f.bytes f.bytes.length) : Nat) : Int)), .map (some m), .bool D.off, .int .i64 (((D.writes + 1 : Nat) : Int)), .int .i64 (((D.armed - 1 : Nat) : Int)), .int .i64 D.keep, .int .i64 D.lose] 86 (0, 0))], [(bf, .cells #[.slice fa f.bytes.length fc, .int .i64 (((f.bytes.length : Nat) : Int))] 88 (0, 0))], [(bd, .cells #[.pointer (some ⟨d, 0, none⟩)] 33 (0, 0))], [(bs, .cells #[.string s] 9 (0, 0))], sm4]) (zs := []) [0, 1, 2, 3, 4] rfl (by decide) ht5 rfl rfl
  refine wpList_nil ?_
  refine x_tn ?_
  refine k_reb [(0, .pointer (some ⟨d, 0, none⟩)), (4, .int .i64 0), (5, .bool false)] ⟨rfl, rfl, rfl, trivial⟩ fun G12 => ?_
  refine wp_seq ?_
  refine wp_seq ?_
  refine k_reg ?_
  refine s_val hS9 rfl rfl (r_move rfl (.t rfl rfl)) ?_
  refine wpList_nil ?_
  refine x_tn ?_
  refine k_reb [(0, .pointer (some ⟨d, 0, none⟩)), (4, .int .i64 0), (19, .bool false)] ⟨rfl, rfl, rfl, trivial⟩ fun G13 => ?_
  refine k_f (.t rfl rfl) ?_
  refine wp_skip ?_
  refine x_tn ?_
  refine k_reb [(4, .int .i64 0)] ⟨rfl, trivial⟩ fun G14 => ?_
  refine wp_seq ?_
  refine k_reg ?_
  refine s_val hS9 rfl rfl (r_assign rfl .c) ?_
  refine wpList_nil ?_
  refine x_tn ?_
  refine wp_ret ?_
  refine k_ret1 Try.results51 rfl rfl ?_
  refine ⟨_, rfl, ?_⟩
  have hS10 : St w0 K (fl [[(d, .cells #[.int .i32 1, .int .u32 0, .int .i64 (((D.room : Nat) : Int)), .int .i64 (((tot (putF D.F s f.bytes f.bytes.length) : Nat) : Int)), .map (some m), .bool D.off, .int .i64 (((D.writes + 1 : Nat) : Int)), .int .i64 (((D.armed - 1 : Nat) : Int)), .int .i64 D.keep, .int .i64 D.lose] 86 (0, 0))], sm4]) w5 := hS9.pick [0, 4] rfl (by decide)
  have hS11 : St w0 K (fl [[(d, .cells #[.int .i32 1, .int .u32 0, .int .i64 (((D.room : Nat) : Int)), .int .i64 (((tot (putF D.F s f.bytes f.bytes.length) : Nat) : Int)), .map (some m), .bool D.off, .int .i64 (((D.writes + 1 : Nat) : Int)), .int .i64 (((D.armed - 1 : Nat) : Int)), .int .i64 D.keep, .int .i64 D.lose] 86 (0, 0))], [], [], [], sm4]) w5 := hS10
  rw [wr_on hT]
  exact ⟨_, rfl, hM4, hS11⟩

end Go.Proofs.Ytdmiklegahdafaa

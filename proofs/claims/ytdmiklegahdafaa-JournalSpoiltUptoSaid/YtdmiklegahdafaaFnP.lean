/- Contracts of functions of the program, each walked once. -/
import Derived.Test.YtdmiklegahdafaaFnM
namespace Go.Proofs.Ytdmiklegahdafaa
open Go Go.RowKit K
namespace FP
theorem mixed : Try.prog.follows .mixedOrders = true := by kernel_rfl


end FP
open FP
attribute [local irreducible] Go.wpList Go.wpQuiet Go.wpStill Go.wpAny Go.Code.wp
set_option maxRecDepth 10000
set_option maxHeartbeats 8000000
set_option linter.unusedVariables false
set_option linter.unusedSimpArgs false
theorem Read_lv (w0 : World) (K : List Nat) (d m : Nat) (D : Dk) (h : Lv D) (sm : Hp) (hM : MapH U8 m none D.F sm) (s : ByteArray) {B : List Nat} {k : Nat} (ha : lookF D.F s = some ⟨s, B, k⟩) (hS0 : St w0 K (fl [[(d, .cells (dkC 0 m D) DT (0, 0))], sm]) w0) :
  Calls Try.prog 15 #[.pointer (some ⟨d, 0, none⟩), .string s] w0 (Ret fun v w' => ∃ a c sg, v = .tuple #[.slice a B.length c, .int .i64 0] ∧ Gr .u8 U8 a c B sg ∧ St w0 K (fl [[(d, .cells (dkC 0 m D) DT (0, 0))], sm, sg]) w') := by
  refine Calls.mono (Read_st w0 K d m D h.ok sm hM s (okName_size (h.file ha).1) hS0) ?_
  rintro _ w' ⟨v, he, B', e, a, c, sg, hR, hv, hG, hS⟩
  have := hR.eq.symm.trans (lv_read h ha).1
  cases this
  exact ⟨v, he, a, c, sg, hv, hG, hS⟩
theorem Cut_lv (w0 : World) (K : List Nat) (d m : Nat) (D : Dk) (h : Lv D) (sm : Hp) (hM : MapH U8 m none D.F sm) (s : ByteArray) {B : List Nat} {k : Nat} (ha : lookF D.F s = some ⟨s, B, k⟩) (n : Nat) (hn : n ≤ B.length) (hw : D.writes ≤ 1000000000000) (hS0 : St w0 K (fl [[(d, .cells (dkC 0 m D) DT (0, 0))], sm]) w0) :
  Calls Try.prog 24 #[.pointer (some ⟨d, 0, none⟩), .string s, .int .i64 (n : Nat)] w0 (Ret fun v w' => ∃ D1 sm', UpA D D1 s B (B.take n) (min k n) 1 ∧ v = .int .i64 0 ∧ MapH U8 m none D1.F sm' ∧ St w0 K (fl [[(d, .cells (dkC 0 m D1) DT (0, 0))], sm']) w') := by
  have q1 := (h.file ha).2.2.2.2.2
  have q2 := h.ok.fits
  have q3 := h.ok.room
  refine Calls.mono (Cut_st w0 K d m D h.ok sm hM s (okName_size (h.file ha).1) (n : Nat) (by omega) (by omega) hS0) ?_
  rintro _ w' ⟨v, he, e, D1, sm', hst, hv, hM1, hS⟩
  obtain ⟨rfl, hu⟩ := lv_cut' h ha hn hst
  exact ⟨v, he, D1, sm', hu, hv, hM1, hS⟩
theorem DAppend_lv (w0 : World) (K : List Nat) (d m : Nat) (D : Dk) (h : Lv D) (sm : Hp) (hM : MapH U8 m none D.F sm) (s : ByteArray) {B0 : List Nat} {k : Nat} (ha : lookF D.F s = some ⟨s, B0, k⟩) (aB : Option Addr) (cB : Nat) (B : List Nat) (vB : Hp) (hB : Sl .u8 aB cB B vB) (oB : Old w0 K vB) (hr : tot D.F + B.length ≤ D.room) (hw : D.writes ≤ 1000000000000) (hS0 : St w0 K (fl [[(d, .cells (dkC 0 m D) DT (0, 0))], sm]) w0) :
  Calls Try.prog 26 #[.pointer (some ⟨d, 0, none⟩), .string s, .slice aB B.length cB] w0 (Ret fun v w' => ∃ D1 sm', UpA D D1 s B0 (B0 ++ B) k 1 ∧ v = .int .i64 0 ∧ MapH U8 m none D1.F sm' ∧ St w0 K (fl [[(d, .cells (dkC 0 m D1) DT (0, 0))], sm']) w') := by
  refine Calls.mono (Append_st w0 K d m D h.ok sm hM s (okName_size (h.file ha).1) aB cB B vB hB oB (by omega) hS0) ?_
  rintro _ w' ⟨v, he, e, D1, sm', hst, hv, hM1, hS⟩
  obtain ⟨rfl, hu⟩ := lv_append' h ha hB.fit hr hst
  exact ⟨v, he, D1, sm', hu, hv, hM1, hS⟩
theorem DAppend_new (w0 : World) (K : List Nat) (d m : Nat) (D : Dk) (h : Lv D) (sm : Hp) (hM : MapH U8 m none D.F sm) (s : ByteArray) (hs : okName s = true) (ha : lookF D.F s = none) (hl : D.F.length < 256) (aB : Option Addr) (cB : Nat) (B : List Nat) (vB : Hp) (hB : Sl .u8 aB cB B vB) (oB : Old w0 K vB) (hr : tot D.F + B.length ≤ D.room) (hw : D.writes ≤ 1000000000000) (hS0 : St w0 K (fl [[(d, .cells (dkC 0 m D) DT (0, 0))], sm]) w0) :
  Calls Try.prog 26 #[.pointer (some ⟨d, 0, none⟩), .string s, .slice aB B.length cB] w0 (Ret fun v w' => ∃ D1 sm', Up D D1 s [] B 0 1 ∧ v = .int .i64 0 ∧ MapH U8 m none D1.F sm' ∧ St w0 K (fl [[(d, .cells (dkC 0 m D1) DT (0, 0))], sm']) w') := by
  refine Calls.mono (Append_st w0 K d m D h.ok sm hM s (okName_size hs) aB cB B vB hB oB (by omega) hS0) ?_
  rintro _ w' ⟨v, he, e, D1, sm', hst, hv, hM1, hS⟩
  obtain ⟨rfl, hu⟩ := lv_append0 h hs ha hl hB.fit hr hst
  exact ⟨v, he, D1, sm', hu, hv, hM1, hS⟩
end Go.Proofs.Ytdmiklegahdafaa

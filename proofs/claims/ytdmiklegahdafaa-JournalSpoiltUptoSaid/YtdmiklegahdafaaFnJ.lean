/- Contracts of functions of the program, each walked once. -/
import Derived.Test.YtdmiklegahdafaaFnI
import Derived.Test.YtdmiklegahdafaaKLab
namespace Go.Proofs.Ytdmiklegahdafaa
open Go Go.RowKit K
namespace FJ
theorem mixed : Try.prog.follows .mixedOrders = true := by kernel_rfl
theorem one30 : One Try.prog 30 = true := by kernel_rfl
theorem one37 : One Try.prog 37 = true := by kernel_rfl
theorem one43 : One Try.prog 43 = true := by kernel_rfl

end FJ
open FJ
attribute [local irreducible] Go.wpList Go.wpQuiet Go.wpStill Go.wpAny Go.Code.wp
set_option maxRecDepth 10000
set_option maxHeartbeats 8000000
set_option linter.unusedVariables false
set_option linter.unusedSimpArgs false
abbrev lk (l d : Nat) (s : ByteArray) (z k : Int) (b : Bool) : Hp := [(l, .cells #[.pointer (some ⟨d, 0, none⟩), .string s, .int .i64 z, .int .i64 k, .bool b] LT (0, 0))]
abbrev bk (b T : Nat) (v : Value) : Hp := [(b, .cells #[v] T (0, 0))]
theorem Open1_ok (w0 : World) (K : List Nat) (e : Nat) (be bl bo : Nat) (lv ov : Value) (hS0 : St w0 K (fl [[(be, .cells #[.int .i64 (e : Nat)] 37 (0, 0))], [(bl, .cells #[lv] 43 (0, 0))], [(bo, .cells #[ov] 30 (0, 0))]]) w0) :
  CallsD Try.prog 46 #[.pointer (some ⟨be, 0, none⟩), .pointer (some ⟨bl, 0, none⟩), .pointer (some ⟨bo, 0, none⟩)] .returning w0 (fun e_ u_ w_ => u_ = .returning ∧ Ret (fun v w' => ∃ l2 o2, (e = 0 → l2 = lv ∧ o2 = ov) ∧ (e ≠ 0 → l2 = .pointer none ∧ o2 = .slice none 0 0) ∧ St w0 K (fl [[(be, .cells #[.int .i64 (e : Nat)] 37 (0, 0))], [(bl, .cells #[l2] 43 (0, 0))], [(bo, .cells #[o2] 30 (0, 0))]]) w') e_ w_) := by
 refine k_enterDD (vs := [.pointer (some ⟨be, 0, none⟩), .pointer (some ⟨bl, 0, none⟩), .pointer (some ⟨bo, 0, none⟩)]) Try.func46 rfl Try.ntmps46 rfl ?_
 have hS : St w0 K (fl [[(be, .cells #[.int .i64 (((e : Nat) : Int))] 37 (0, 0))], [(bl, .cells #[lv] 43 (0, 0))], [(bo, .cells #[ov] 30 (0, 0))]]) w0 := hS0
 refine wp_seq ?_
 refine k_reg ?_
 refine s_val hS rfl rfl (r_load rfl one37 (.t rfl rfl) (St.cell_own (m := 0) rfl rfl)) ?_
 by_cases c1 : e ≠ 0
 ·
  refine s_val hS rfl rfl (r_cmp_t rfl rfl (.t rfl rfl) .c (show ¬ ((e : Nat) : Int) = 0 from by omega)) ?_
  refine wpList_nil ?_
  refine x_tn ?_
  refine k_reb [(1, .pointer (some ⟨bl, 0, none⟩)), (2, .pointer (some ⟨bo, 0, none⟩)), (4, .bool true)] ⟨rfl, rfl, rfl, trivial⟩ fun G1 => ?_
  refine k_t (.t rfl rfl) ?_
  refine k_reg ?_
  refine s_storeB (m := 1) rfl rfl rfl one43 (.t rfl rfl) .c rfl hS rfl rfl (c' := #[.pointer none]) rfl (h' := (fl [[(be, .cells #[.int .i64 (((e : Nat) : Int))] 37 (0, 0))], [(bl, .cells #[.pointer none] 43 (0, 0))], [(bo, .cells #[ov] 30 (0, 0))]])) rfl fun w1 hS1 hB1 => ?_
  refine s_storeB (m := 2) rfl rfl rfl one30 (.t rfl rfl) .c rfl hS1 rfl rfl (c' := #[.slice none 0 0]) rfl (h' := (fl [[(be, .cells #[.int .i64 (((e : Nat) : Int))] 37 (0, 0))], [(bl, .cells #[.pointer none] 43 (0, 0))], [(bo, .cells #[.slice none 0 0] 30 (0, 0))]])) rfl fun w2 hS2 hB2 => ?_
  refine wpList_nil ?_
  refine k_end0 Try.results46 ?_
  refine ⟨_, rfl, ?_⟩
  exact ⟨_, _, fun q => absurd q (by omega), fun _ => ⟨rfl, rfl⟩, hS2⟩
 ·
  refine s_val hS rfl rfl (r_cmp_f rfl rfl (.t rfl rfl) .c (show ¬ (¬ ((e : Nat) : Int) = 0) from by omega)) ?_
  refine wpList_nil ?_
  refine x_tn ?_
  refine k_reb [(1, .pointer (some ⟨bl, 0, none⟩)), (2, .pointer (some ⟨bo, 0, none⟩)), (4, .bool false)] ⟨rfl, rfl, rfl, trivial⟩ fun G2 => ?_
  refine k_f (.t rfl rfl) ?_
  refine wp_skip ?_
  refine k_end0 Try.results46 ?_
  refine ⟨_, rfl, ?_⟩
  exact ⟨_, _, fun _ => ⟨rfl, rfl⟩, fun q => absurd (show e = 0 from by omega) q, hS⟩

end Go.Proofs.Ytdmiklegahdafaa

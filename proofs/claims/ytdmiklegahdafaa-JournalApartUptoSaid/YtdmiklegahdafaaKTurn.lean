/- A turn of a log: a record more, and all of them taken away. -/
import Derived.Test.YtdmiklegahdafaaKLv
namespace Go.Proofs.Ytdmiklegahdafaa.K
open Go Go.RowKit
set_option linter.unusedSimpArgs false
set_option linter.unusedVariables false

def rowsT (rows : List (List (List Nat))) (i : Nat) : List (List Nat) := (rows.getD i []).take 300
def moreR (RR rows : List (List (List Nat))) (i : Nat) : List (List (List Nat)) := if i < rows.length then RR ++ [rowsT rows i] else RR
def clrR (X : List (List (List Nat))) (C : List Int) (c i : Nat) : List (List (List Nat)) := if (C.take c).contains (i : Int) then [] else X
def turnR (RR rows : List (List (List Nat))) (i : Nat) (C : List Int) : List (List (List Nat)) := clrR (moreR RR rows i) C 20 i
theorem clr_zero {X : List (List (List Nat))} {C : List Int} {i : Nat} : X = clrR X C 0 i := by simp [clrR]
theorem contains_succ {C : List Int} {c : Nat} (h : c < C.length) (x : Int) : (C.take (c + 1)).contains x = ((C.take c).contains x || (x == C.getD c 0)) := by
  rw [List.take_succ_eq_append_getElem h, List.getD_eq_getElem?_getD, List.getElem?_eq_getElem h, Bool.eq_iff_iff]
  simp only [List.contains_iff_mem, List.mem_append, List.mem_singleton, Bool.or_eq_true, beq_iff_eq, Option.getD_some]
theorem clr_no {X : List (List (List Nat))} {C : List Int} {c i : Nat} (h : c < C.length) (hn : ¬ C.getD c 0 = (i : Int)) : clrR X C c i = clrR X C (c + 1) i := by
  unfold clrR
  rw [contains_succ h]
  have : ((i : Int) == C.getD c 0) = false := by simpa using fun q => hn q.symm
  rw [this, Bool.or_false]
theorem clr_yes {X : List (List (List Nat))} {C : List Int} {c i : Nat} (h : c < C.length) (hn : C.getD c 0 = (i : Int)) : [] = clrR X C (c + 1) i := by
  unfold clrR
  rw [contains_succ h, hn]
  simp
theorem clr_end {X : List (List (List Nat))} {C : List Int} {c i : Nat} (h : (c = C.length ∧ c ≤ 20) ∨ c = 20) : clrR X C c i = clrR X C 20 i := by
  unfold clrR; rw [take_both h]
theorem clr_len {X : List (List (List Nat))} {C : List Int} {c i : Nat} : (logL (clrR X C c i)).length ≤ (logL X).length := by
  unfold clrR
  split
  · rw [logL_len, logL_len]; simp [recsL]
  · exact Nat.le_refl _
theorem turn_len {RR rows : List (List (List Nat))} {i : Nat} {C : List Int} : (logL (turnR RR rows i C)).length ≤ (logL RR).length + (8 + (bodyL (rowsT rows i)).length) := by
  have h1 : (logL (moreR RR rows i)).length ≤ (logL RR).length + (8 + (bodyL (rowsT rows i)).length) := by
    unfold moreR
    split
    · rw [logL_len_snoc]; omega
    · omega
  exact Nat.le_trans clr_len h1
theorem rowsT_none {rows : List (List (List Nat))} {i : Nat} (h : ¬ i < rows.length) : (bodyL (rowsT rows i)).length = 0 := by
  unfold rowsT
  rw [List.getD_eq_getElem?_getD, List.getElem?_eq_none (by omega)]; rfl
theorem rowsT_le {rows : List (List (List Nat))} {i : Nat} : (bodyL (rowsT rows i)).length ≤ (bodyL (rows.getD i [])).length ∧ (rowsT rows i).length ≤ 300 := ⟨bodyL_take_le _ _, List.length_take_le _ _⟩
theorem logL_rows (RR : List (List (List Nat))) : 8 * RR.length + 8 ≤ (logL RR).length := by have := recsL_long RR; rw [logL_len]; omega
end Go.Proofs.Ytdmiklegahdafaa.K

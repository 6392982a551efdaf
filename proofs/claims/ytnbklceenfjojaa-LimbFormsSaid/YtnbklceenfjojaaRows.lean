/-
  No cell of these rows narrows 'for every input' (looked for: loops, veiled, ifaces, maps, wideKeys, modest, calm, conditions, laid).
  DERIVED. THE GIVEN ROWS OF THIS SEAT. 8 by the template 'for every input the law returns true; each argument reads behind the call as it read before'; 0 by the template 'total and deterministic' (their statements: YtnbklceenfjojaaTotals.lean).
  GIVEN WITH THE SEED: the statements are not yours to turn. If you find one false, say at which input.
  Laid BY PROGRAM, IN A SANDBOX (cutbox-rows.mjs): the forced cells as the released guide's own fill.sh prints them over the translation 43c453ca2d3ea970… (all of the seat's roots in one cut). By AI agents, Wed Nov 11 2026. No macro, syntax, notation, axiom, sorry.
-/
import Derived.Test.YtnbklceenfjojaaChecked
import GoSem.Claim
import GoSem.ClaimJoined
import GoSem.ClaimMapViews
import Derived.JoinedTies
import Derived.KernelRfl
namespace Go.Proofs.Ytnbklceenfjojaa
/- THE CELL 'sum', in the pinned program and in every row, IS THE sha256 OF THE DUMP (.gsa) THAT YtnbklceenfjojaaProg.lean LOADS. Nothing in Lean hashes anything: it is a label: what it is worth is what the hold of that sum in a sandbox is worth. -/
noncomputable def Try.pinned : Pinned := { name := "ytnbklceenfjojaa", sum := "43c453ca2d3ea97073e5cd994cb4957d8a3e55ba7bb2177fd7ed931dadf13c20", checked := Try.checked }
namespace Rows
def none {H : Type} : Left H := { results := [], args := [] }

/-- 'fathomlaw2.LimbGcds': WHATEVER THE INPUT: true; the input reads as it did. -/
def limbGcdsSpec : ChangeSpec := { name := "limbGcds", fn := fun _ => fun
  | [d] => { results := [.lit (.bool true)], args := [d] }
  | _ => none }
def limbGcdsRow : OpenClaim := { program := "ytnbklceenfjojaa", sum := "43c453ca2d3ea97073e5cd994cb4957d8a3e55ba7bb2177fd7ed931dadf13c20", func := "fathom/fathomlaw2.LimbGcds", spec := "limbGcds", named := ["math/bits.overflowError"], apart := false }
def LimbGcdsSaid : Prop := limbGcdsRow.holds Try.pinned (OpenSpec.ofChange limbGcdsSpec)

/-- ITS FALSE NEIGHBOUR: 'it returns false'. Refute it at one input. -/
def limbGcdsWrong : ChangeSpec := { name := "limbGcds", fn := fun _ => fun
  | [d] => { results := [.lit (.bool false)], args := [d] }
  | _ => none }
def LimbGcdsWrongFalsely : Prop := limbGcdsRow.holds Try.pinned (OpenSpec.ofChange limbGcdsWrong)

/-- 'fathomlaw2.LimbReads': WHATEVER THE INPUT: true; the input reads as it did. -/
def limbReadsSpec : ChangeSpec := { name := "limbReads", fn := fun _ => fun
  | [d] => { results := [.lit (.bool true)], args := [d] }
  | _ => none }
def limbReadsRow : OpenClaim := { program := "ytnbklceenfjojaa", sum := "43c453ca2d3ea97073e5cd994cb4957d8a3e55ba7bb2177fd7ed931dadf13c20", func := "fathom/fathomlaw2.LimbReads", spec := "limbReads", named := ["math/bits.overflowError"], apart := false }
def LimbReadsSaid : Prop := limbReadsRow.holds Try.pinned (OpenSpec.ofChange limbReadsSpec)

/-- ITS FALSE NEIGHBOUR: 'it returns false'. Refute it at one input. -/
def limbReadsWrong : ChangeSpec := { name := "limbReads", fn := fun _ => fun
  | [d] => { results := [.lit (.bool false)], args := [d] }
  | _ => none }
def LimbReadsWrongFalsely : Prop := limbReadsRow.holds Try.pinned (OpenSpec.ofChange limbReadsWrong)

/-- 'fathomlaw2.LimbRing': WHATEVER THE INPUT: true; the input reads as it did. -/
def limbRingSpec : ChangeSpec := { name := "limbRing", fn := fun _ => fun
  | [d] => { results := [.lit (.bool true)], args := [d] }
  | _ => none }
def limbRingRow : OpenClaim := { program := "ytnbklceenfjojaa", sum := "43c453ca2d3ea97073e5cd994cb4957d8a3e55ba7bb2177fd7ed931dadf13c20", func := "fathom/fathomlaw2.LimbRing", spec := "limbRing", named := ["math/bits.overflowError"], apart := false }
def LimbRingSaid : Prop := limbRingRow.holds Try.pinned (OpenSpec.ofChange limbRingSpec)

/-- ITS FALSE NEIGHBOUR: 'it returns false'. Refute it at one input. -/
def limbRingWrong : ChangeSpec := { name := "limbRing", fn := fun _ => fun
  | [d] => { results := [.lit (.bool false)], args := [d] }
  | _ => none }
def LimbRingWrongFalsely : Prop := limbRingRow.holds Try.pinned (OpenSpec.ofChange limbRingWrong)

/-- 'fathomlaw2.LimbDivides': WHATEVER THE INPUT: true; the input reads as it did. -/
def limbDividesSpec : ChangeSpec := { name := "limbDivides", fn := fun _ => fun
  | [d] => { results := [.lit (.bool true)], args := [d] }
  | _ => none }
def limbDividesRow : OpenClaim := { program := "ytnbklceenfjojaa", sum := "43c453ca2d3ea97073e5cd994cb4957d8a3e55ba7bb2177fd7ed931dadf13c20", func := "fathom/fathomlaw2.LimbDivides", spec := "limbDivides", named := ["math/bits.overflowError"], apart := false }
def LimbDividesSaid : Prop := limbDividesRow.holds Try.pinned (OpenSpec.ofChange limbDividesSpec)

/-- ITS FALSE NEIGHBOUR: 'it returns false'. Refute it at one input. -/
def limbDividesWrong : ChangeSpec := { name := "limbDivides", fn := fun _ => fun
  | [d] => { results := [.lit (.bool false)], args := [d] }
  | _ => none }
def LimbDividesWrongFalsely : Prop := limbDividesRow.holds Try.pinned (OpenSpec.ofChange limbDividesWrong)

/-- 'fathomlaw2.LimbPowers': WHATEVER THE INPUT: true; the input reads as it did. -/
def limbPowersSpec : ChangeSpec := { name := "limbPowers", fn := fun _ => fun
  | [d] => { results := [.lit (.bool true)], args := [d] }
  | _ => none }
def limbPowersRow : OpenClaim := { program := "ytnbklceenfjojaa", sum := "43c453ca2d3ea97073e5cd994cb4957d8a3e55ba7bb2177fd7ed931dadf13c20", func := "fathom/fathomlaw2.LimbPowers", spec := "limbPowers", named := ["math/bits.overflowError"], apart := false }
def LimbPowersSaid : Prop := limbPowersRow.holds Try.pinned (OpenSpec.ofChange limbPowersSpec)

/-- ITS FALSE NEIGHBOUR: 'it returns false'. Refute it at one input. -/
def limbPowersWrong : ChangeSpec := { name := "limbPowers", fn := fun _ => fun
  | [d] => { results := [.lit (.bool false)], args := [d] }
  | _ => none }
def LimbPowersWrongFalsely : Prop := limbPowersRow.holds Try.pinned (OpenSpec.ofChange limbPowersWrong)

/-- 'fathomlaw2.LimbRoots': WHATEVER THE INPUT: true; the input reads as it did. -/
def limbRootsSpec : ChangeSpec := { name := "limbRoots", fn := fun _ => fun
  | [d] => { results := [.lit (.bool true)], args := [d] }
  | _ => none }
def limbRootsRow : OpenClaim := { program := "ytnbklceenfjojaa", sum := "43c453ca2d3ea97073e5cd994cb4957d8a3e55ba7bb2177fd7ed931dadf13c20", func := "fathom/fathomlaw2.LimbRoots", spec := "limbRoots", named := ["math/bits.overflowError"], apart := false }
def LimbRootsSaid : Prop := limbRootsRow.holds Try.pinned (OpenSpec.ofChange limbRootsSpec)

/-- ITS FALSE NEIGHBOUR: 'it returns false'. Refute it at one input. -/
def limbRootsWrong : ChangeSpec := { name := "limbRoots", fn := fun _ => fun
  | [d] => { results := [.lit (.bool false)], args := [d] }
  | _ => none }
def LimbRootsWrongFalsely : Prop := limbRootsRow.holds Try.pinned (OpenSpec.ofChange limbRootsWrong)

/-- 'fathomlaw2.LimbForms': WHATEVER THE INPUT: true; the input reads as it did. -/
def limbFormsSpec : ChangeSpec := { name := "limbForms", fn := fun _ => fun
  | [d] => { results := [.lit (.bool true)], args := [d] }
  | _ => none }
def limbFormsRow : OpenClaim := { program := "ytnbklceenfjojaa", sum := "43c453ca2d3ea97073e5cd994cb4957d8a3e55ba7bb2177fd7ed931dadf13c20", func := "fathom/fathomlaw2.LimbForms", spec := "limbForms", named := ["math/bits.overflowError"], apart := false }
def LimbFormsSaid : Prop := limbFormsRow.holds Try.pinned (OpenSpec.ofChange limbFormsSpec)

/-- ITS FALSE NEIGHBOUR: 'it returns false'. Refute it at one input. -/
def limbFormsWrong : ChangeSpec := { name := "limbForms", fn := fun _ => fun
  | [d] => { results := [.lit (.bool false)], args := [d] }
  | _ => none }
def LimbFormsWrongFalsely : Prop := limbFormsRow.holds Try.pinned (OpenSpec.ofChange limbFormsWrong)

/-- 'fathomlaw2.LimbGreat': WHATEVER THE INPUT: true; the input reads as it did. -/
def limbGreatSpec : ChangeSpec := { name := "limbGreat", fn := fun _ => fun
  | [] => { results := [.lit (.bool true)], args := [] }
  | _ => none }
def limbGreatRow : OpenClaim := { program := "ytnbklceenfjojaa", sum := "43c453ca2d3ea97073e5cd994cb4957d8a3e55ba7bb2177fd7ed931dadf13c20", func := "fathom/fathomlaw2.LimbGreat", spec := "limbGreat", named := ["math/bits.overflowError"], apart := false }
def LimbGreatSaid : Prop := limbGreatRow.holds Try.pinned (OpenSpec.ofChange limbGreatSpec)

/-- ITS FALSE NEIGHBOUR: 'it returns false'. Refute it at one input. -/
def limbGreatWrong : ChangeSpec := { name := "limbGreat", fn := fun _ => fun
  | [] => { results := [.lit (.bool false)], args := [] }
  | _ => none }
def LimbGreatWrongFalsely : Prop := limbGreatRow.holds Try.pinned (OpenSpec.ofChange limbGreatWrong)

/- THE SECOND FORM. 'bulk': how many values and letters a reading holds, each counted each time it is reached (what is shared counts as often as it is met; a slice's spare places count too). A statement '..UptoSaid' is the law's where the arguments, and the package variables that the reading takes, are together of bulk at most 1048576: NARROWER than '..Said'. Prove '..Said' where nothing that the law and all that it calls make is longer than what came in: it says more and counts as full. Else prove '..UptoSaid'. A law counts once. -/
mutual
def uptoBulk {H : Type} : DataW H → Nat
  | .lit (.string bytes) => bytes.length + 1
  | .lit _ => 1
  | .nil => 1
  | .ptr d => uptoBulk d + 1
  | .slice elems spare => uptoBulkAll elems + uptoBulkAll spare + 1
  | .agg parts => uptoBulkAll parts + 1
  | .iface _ d => uptoBulk d + 1
  | .map entries => uptoBulkEntries entries + 1
  | .held _ => 1
def uptoBulkAll {H : Type} : List (DataW H) → Nat
  | [] => 0
  | d :: r => uptoBulk d + uptoBulkAll r
def uptoBulkEntries {H : Type} : List (Lit × DataW H) → Nat
  | [] => 0
  | x :: r => uptoBulkEntry x + uptoBulkEntries r
def uptoBulkEntry {H : Type} : Lit × DataW H → Nat
  | (.string bytes, d) => bytes.length + uptoBulk d + 1
  | (_, d) => uptoBulk d + 1
 end
def uptoSmall : (H : Type) → List (DataW H) → Bool := fun _ ds => decide (uptoBulkAll ds ≤ 1048576)
def OpenSpec.upto (s : _root_.Go.ChangeSpec) : _root_.Go.OpenSpec := { _root_.Go.OpenSpec.ofChange s with cond := some uptoSmall }

/-- 'fathomlaw2.LimbGcds', WHERE WHAT IT READS IS OF BULK AT MOST 1048576: true; the input reads as it did. -/
def limbGcdsUptoRow : OpenClaim := { program := "ytnbklceenfjojaa", sum := "43c453ca2d3ea97073e5cd994cb4957d8a3e55ba7bb2177fd7ed931dadf13c20", func := "fathom/fathomlaw2.LimbGcds", spec := "limbGcds", named := ["math/bits.overflowError"], apart := false, narrowed := true }
def LimbGcdsUptoSaid : Prop := limbGcdsUptoRow.holds Try.pinned (OpenSpec.upto limbGcdsSpec)

/-- 'fathomlaw2.LimbReads', WHERE WHAT IT READS IS OF BULK AT MOST 1048576: true; the input reads as it did. -/
def limbReadsUptoRow : OpenClaim := { program := "ytnbklceenfjojaa", sum := "43c453ca2d3ea97073e5cd994cb4957d8a3e55ba7bb2177fd7ed931dadf13c20", func := "fathom/fathomlaw2.LimbReads", spec := "limbReads", named := ["math/bits.overflowError"], apart := false, narrowed := true }
def LimbReadsUptoSaid : Prop := limbReadsUptoRow.holds Try.pinned (OpenSpec.upto limbReadsSpec)

/-- 'fathomlaw2.LimbRing', WHERE WHAT IT READS IS OF BULK AT MOST 1048576: true; the input reads as it did. -/
def limbRingUptoRow : OpenClaim := { program := "ytnbklceenfjojaa", sum := "43c453ca2d3ea97073e5cd994cb4957d8a3e55ba7bb2177fd7ed931dadf13c20", func := "fathom/fathomlaw2.LimbRing", spec := "limbRing", named := ["math/bits.overflowError"], apart := false, narrowed := true }
def LimbRingUptoSaid : Prop := limbRingUptoRow.holds Try.pinned (OpenSpec.upto limbRingSpec)

/-- 'fathomlaw2.LimbDivides', WHERE WHAT IT READS IS OF BULK AT MOST 1048576: true; the input reads as it did. -/
def limbDividesUptoRow : OpenClaim := { program := "ytnbklceenfjojaa", sum := "43c453ca2d3ea97073e5cd994cb4957d8a3e55ba7bb2177fd7ed931dadf13c20", func := "fathom/fathomlaw2.LimbDivides", spec := "limbDivides", named := ["math/bits.overflowError"], apart := false, narrowed := true }
def LimbDividesUptoSaid : Prop := limbDividesUptoRow.holds Try.pinned (OpenSpec.upto limbDividesSpec)

/-- 'fathomlaw2.LimbPowers', WHERE WHAT IT READS IS OF BULK AT MOST 1048576: true; the input reads as it did. -/
def limbPowersUptoRow : OpenClaim := { program := "ytnbklceenfjojaa", sum := "43c453ca2d3ea97073e5cd994cb4957d8a3e55ba7bb2177fd7ed931dadf13c20", func := "fathom/fathomlaw2.LimbPowers", spec := "limbPowers", named := ["math/bits.overflowError"], apart := false, narrowed := true }
def LimbPowersUptoSaid : Prop := limbPowersUptoRow.holds Try.pinned (OpenSpec.upto limbPowersSpec)

/-- 'fathomlaw2.LimbRoots', WHERE WHAT IT READS IS OF BULK AT MOST 1048576: true; the input reads as it did. -/
def limbRootsUptoRow : OpenClaim := { program := "ytnbklceenfjojaa", sum := "43c453ca2d3ea97073e5cd994cb4957d8a3e55ba7bb2177fd7ed931dadf13c20", func := "fathom/fathomlaw2.LimbRoots", spec := "limbRoots", named := ["math/bits.overflowError"], apart := false, narrowed := true }
def LimbRootsUptoSaid : Prop := limbRootsUptoRow.holds Try.pinned (OpenSpec.upto limbRootsSpec)

/-- 'fathomlaw2.LimbForms', WHERE WHAT IT READS IS OF BULK AT MOST 1048576: true; the input reads as it did. -/
def limbFormsUptoRow : OpenClaim := { program := "ytnbklceenfjojaa", sum := "43c453ca2d3ea97073e5cd994cb4957d8a3e55ba7bb2177fd7ed931dadf13c20", func := "fathom/fathomlaw2.LimbForms", spec := "limbForms", named := ["math/bits.overflowError"], apart := false, narrowed := true }
def LimbFormsUptoSaid : Prop := limbFormsUptoRow.holds Try.pinned (OpenSpec.upto limbFormsSpec)

/-- 'fathomlaw2.LimbGreat', WHERE WHAT IT READS IS OF BULK AT MOST 1048576: true; the input reads as it did. -/
def limbGreatUptoRow : OpenClaim := { program := "ytnbklceenfjojaa", sum := "43c453ca2d3ea97073e5cd994cb4957d8a3e55ba7bb2177fd7ed931dadf13c20", func := "fathom/fathomlaw2.LimbGreat", spec := "limbGreat", named := ["math/bits.overflowError"], apart := false, narrowed := true }
def LimbGreatUptoSaid : Prop := limbGreatUptoRow.holds Try.pinned (OpenSpec.upto limbGreatSpec)

end Rows
end Go.Proofs.Ytnbklceenfjojaa

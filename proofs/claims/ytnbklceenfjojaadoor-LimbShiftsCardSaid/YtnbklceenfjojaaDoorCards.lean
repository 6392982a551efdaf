/-
  DERIVED. GIVEN WITH THE SEED: THE CARDS: each row of YtnbklceenfjojaaDoorRows.lean that lists a variable, with what it lists TIED to the program's text (the seventh form; the later family's looks); each row that meets fmt, with fmt's text TOLD by the authors' own Lean function (tested against real Go, not proved from fmt's source: count such statements apart). THE CARD IS WHAT COUNTS. Prove the row's statement (the work); the ties are given (YtnbklceenfjojaaDoorTie.lean); close each card by the builder's one call (the guide's Derived/Test/ToyasCard.lean, 'card_holds'). Laid BY PROGRAM, IN A SANDBOX (cutbox-door.mjs). By AI agents, Wed Nov 11 2026. No macro, syntax, notation, axiom, sorry.
-/
import Derived.Test.YtnbklceenfjojaaDoorRows
import GoSem.ClaimSeven
namespace Go.Proofs.YtnbklceenfjojaaDoor
namespace Rows

/-- THE TIED CARD OF 'fathomlaw2.LimbShifts'. -/
def limbShiftsCard : Claim7 := { stood := { row := limbShiftsRow, standIns := [], harness := (true, "c7f87ee0f8edebdb6a1c0dc4e490e325cdf6a95343ea30f9360fc5310f624ca8"), looks := false }, kinds := [], alts := [], laidByText := true, laidKinds := [.data], laidTests := true, laidLooks := .later }
def LimbShiftsCardSaid : Prop := Claim7.holds Tryd.pinned (.plain (OpenSpec.ofChange limbShiftsSpec)) limbShiftsCard

/-- THE TIED CARD OF 'fathomlaw2.LimbExact'. -/
def limbExactCard : Claim7 := { stood := { row := limbExactRow, standIns := [], harness := (true, "c7f87ee0f8edebdb6a1c0dc4e490e325cdf6a95343ea30f9360fc5310f624ca8"), looks := false }, kinds := [], alts := [], laidByText := true, laidKinds := [.data], laidTests := true, laidLooks := .later }
def LimbExactCardSaid : Prop := Claim7.holds Tryd.pinned (.plain (OpenSpec.ofChange limbExactSpec)) limbExactCard

/-- THE SECOND FORM's CARD OF 'fathomlaw2.LimbShifts'. -/
def limbShiftsUptoCard : Claim7 := { stood := { row := limbShiftsUptoRow, standIns := [], harness := (true, "c7f87ee0f8edebdb6a1c0dc4e490e325cdf6a95343ea30f9360fc5310f624ca8"), looks := false }, kinds := [], alts := [], laidByText := true, laidKinds := [.data], laidTests := true, laidLooks := .later }
def LimbShiftsUptoCardSaid : Prop := Claim7.holds Tryd.pinned (.plain (OpenSpec.upto limbShiftsSpec)) limbShiftsUptoCard

/-- THE SECOND FORM's CARD OF 'fathomlaw2.LimbExact'. -/
def limbExactUptoCard : Claim7 := { stood := { row := limbExactUptoRow, standIns := [], harness := (true, "c7f87ee0f8edebdb6a1c0dc4e490e325cdf6a95343ea30f9360fc5310f624ca8"), looks := false }, kinds := [], alts := [], laidByText := true, laidKinds := [.data], laidTests := true, laidLooks := .later }
def LimbExactUptoCardSaid : Prop := Claim7.holds Tryd.pinned (.plain (OpenSpec.upto limbExactSpec)) limbExactUptoCard
end Rows
end Go.Proofs.YtnbklceenfjojaaDoor

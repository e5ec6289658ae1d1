/-
  DERIVED. GIVEN WITH THE SEED: THE CARDS: each row of YtkihodadopcioaaGreatDoorRows.lean that lists a variable, with what it lists TIED to the program's text (the seventh form; the later family's looks); each row that meets fmt, with fmt's text TOLD by the authors' own Lean function (tested against real Go, not proved from fmt's source: count such statements apart). THE CARD IS WHAT COUNTS. Prove the row's statement (the work); the ties are given (YtkihodadopcioaaGreatDoorTie.lean); close each card by the builder's one call (the guide's Derived/Test/ToyasCard.lean, 'card_holds'). Laid BY PROGRAM, IN A SANDBOX (cutbox-door.mjs). By AI agents, Wed Nov 11 2026. No macro, syntax, notation, axiom, sorry.
-/
import Derived.Test.YtkihodadopcioaaGreatDoorRows
import GoSem.ClaimSeven
namespace Go.Proofs.YtkihodadopcioaaGreatDoor
namespace Rows

/-- THE TIED CARD OF 'yardsticklaw03.IntegerLimits'. -/
def integerLimitsCard : Claim7 := { stood := { row := integerLimitsRow, standIns := [], harness := (true, "ab81dbdd1fc851abdfd28b4a0d840f27d7d331c718d4b7cbe55c1dc53040e696"), looks := true }, kinds := [], alts := [], laidByText := true, laidKinds := [.data, .data, .data, .data, .sentinel, .sentinel, .pinned], laidTests := true, laidLooks := .later }
def IntegerLimitsCardSaid : Prop := Claim7.holds Tryz.pinned (.plain (OpenSpec.ofChange integerLimitsSpec)) integerLimitsCard

/-- THE TIED CARD OF 'yardsticklaw03.IntegerMatchesReference'. -/
def integerMatchesReferenceCard : Claim7 := { stood := { row := integerMatchesReferenceRow, standIns := [], harness := (true, "ab81dbdd1fc851abdfd28b4a0d840f27d7d331c718d4b7cbe55c1dc53040e696"), looks := true }, kinds := [], alts := [], laidByText := true, laidKinds := [.data, .data, .data, .data, .sentinel, .sentinel, .pinned], laidTests := true, laidLooks := .later }
def IntegerMatchesReferenceCardSaid : Prop := Claim7.holds Tryz.pinned (.plain (OpenSpec.ofChange integerMatchesReferenceSpec)) integerMatchesReferenceCard

/-- THE TIED CARD OF 'yardsticklaw03.IntegerText'. -/
def integerTextCard : Claim7 := { stood := { row := integerTextRow, standIns := [], harness := (true, "ab81dbdd1fc851abdfd28b4a0d840f27d7d331c718d4b7cbe55c1dc53040e696"), looks := true }, kinds := [], alts := [], laidByText := true, laidKinds := [.data, .data, .data, .data, .sentinel, .sentinel, .pinned], laidTests := true, laidLooks := .later }
def IntegerTextCardSaid : Prop := Claim7.holds Tryz.pinned (.plain (OpenSpec.ofChange integerTextSpec)) integerTextCard

/-- THE TIED CARD OF 'yardsticklaw12.DriftMatchesReference'. -/
def driftMatchesReferenceCard : Claim7 := { stood := { row := driftMatchesReferenceRow, standIns := [], harness := (true, "ab81dbdd1fc851abdfd28b4a0d840f27d7d331c718d4b7cbe55c1dc53040e696"), looks := true }, kinds := [], alts := [], laidByText := true, laidKinds := [.data, .data, .data, .data, .sentinel, .sentinel, .pinned], laidTests := true, laidLooks := .later }
def DriftMatchesReferenceCardSaid : Prop := Claim7.holds Tryz.pinned (.plain (OpenSpec.ofChange driftMatchesReferenceSpec)) driftMatchesReferenceCard

/-- THE TIED CARD OF 'yardsticklaw12.DriftOrder'. -/
def driftOrderCard : Claim7 := { stood := { row := driftOrderRow, standIns := [], harness := (true, "ab81dbdd1fc851abdfd28b4a0d840f27d7d331c718d4b7cbe55c1dc53040e696"), looks := true }, kinds := [], alts := [], laidByText := true, laidKinds := [.data, .data, .data, .data, .sentinel, .sentinel, .pinned], laidTests := true, laidLooks := .later }
def DriftOrderCardSaid : Prop := Claim7.holds Tryz.pinned (.plain (OpenSpec.ofChange driftOrderSpec)) driftOrderCard

/-- THE TIED CARD OF 'yardsticklaw12.DriftContradicts'. -/
def driftContradictsCard : Claim7 := { stood := { row := driftContradictsRow, standIns := [], harness := (true, "ab81dbdd1fc851abdfd28b4a0d840f27d7d331c718d4b7cbe55c1dc53040e696"), looks := true }, kinds := [], alts := [], laidByText := true, laidKinds := [.data, .data, .data, .data, .sentinel, .sentinel, .pinned], laidTests := true, laidLooks := .later }
def DriftContradictsCardSaid : Prop := Claim7.holds Tryz.pinned (.plain (OpenSpec.ofChange driftContradictsSpec)) driftContradictsCard

/-- THE TIED CARD OF 'yardsticklaw12.DriftExact'. -/
def driftExactCard : Claim7 := { stood := { row := driftExactRow, standIns := [], harness := (true, "ab81dbdd1fc851abdfd28b4a0d840f27d7d331c718d4b7cbe55c1dc53040e696"), looks := true }, kinds := [], alts := [], laidByText := true, laidKinds := [.data, .data, .data, .data, .sentinel, .sentinel, .pinned], laidTests := true, laidLooks := .later }
def DriftExactCardSaid : Prop := Claim7.holds Tryz.pinned (.plain (OpenSpec.ofChange driftExactSpec)) driftExactCard

/-- THE TIED CARD OF 'yardsticklaw12.DriftTrue'. -/
def driftTrueCard : Claim7 := { stood := { row := driftTrueRow, standIns := [], harness := (true, "ab81dbdd1fc851abdfd28b4a0d840f27d7d331c718d4b7cbe55c1dc53040e696"), looks := true }, kinds := [], alts := [], laidByText := true, laidKinds := [.data, .data, .data, .data, .sentinel, .sentinel, .pinned], laidTests := true, laidLooks := .later }
def DriftTrueCardSaid : Prop := Claim7.holds Tryz.pinned (.plain (OpenSpec.ofChange driftTrueSpec)) driftTrueCard

/-- THE TIED CARD OF 'yardsticklaw12.DriftNarrower'. -/
def driftNarrowerCard : Claim7 := { stood := { row := driftNarrowerRow, standIns := [], harness := (true, "ab81dbdd1fc851abdfd28b4a0d840f27d7d331c718d4b7cbe55c1dc53040e696"), looks := true }, kinds := [], alts := [], laidByText := true, laidKinds := [.data, .data, .data, .data, .sentinel, .sentinel, .pinned], laidTests := true, laidLooks := .later }
def DriftNarrowerCardSaid : Prop := Claim7.holds Tryz.pinned (.plain (OpenSpec.ofChange driftNarrowerSpec)) driftNarrowerCard

/-- THE TIED CARD OF 'yardsticklaw12.DriftUntil'. -/
def driftUntilCard : Claim7 := { stood := { row := driftUntilRow, standIns := [], harness := (true, "ab81dbdd1fc851abdfd28b4a0d840f27d7d331c718d4b7cbe55c1dc53040e696"), looks := true }, kinds := [], alts := [], laidByText := true, laidKinds := [.data, .data, .data, .data, .sentinel, .sentinel, .sentinel, .pinned], laidTests := true, laidLooks := .later }
def DriftUntilCardSaid : Prop := Claim7.holds Tryz.pinned (.plain (OpenSpec.ofChange driftUntilSpec)) driftUntilCard

/-- THE SECOND FORM's CARD OF 'yardsticklaw03.IntegerLimits'. -/
def integerLimitsUptoCard : Claim7 := { stood := { row := integerLimitsUptoRow, standIns := [], harness := (true, "ab81dbdd1fc851abdfd28b4a0d840f27d7d331c718d4b7cbe55c1dc53040e696"), looks := true }, kinds := [], alts := [], laidByText := true, laidKinds := [.data, .data, .data, .data, .sentinel, .sentinel, .pinned], laidTests := true, laidLooks := .later }
def IntegerLimitsUptoCardSaid : Prop := Claim7.holds Tryz.pinned (.plain (OpenSpec.upto integerLimitsSpec)) integerLimitsUptoCard

/-- THE SECOND FORM's CARD OF 'yardsticklaw03.IntegerMatchesReference'. -/
def integerMatchesReferenceUptoCard : Claim7 := { stood := { row := integerMatchesReferenceUptoRow, standIns := [], harness := (true, "ab81dbdd1fc851abdfd28b4a0d840f27d7d331c718d4b7cbe55c1dc53040e696"), looks := true }, kinds := [], alts := [], laidByText := true, laidKinds := [.data, .data, .data, .data, .sentinel, .sentinel, .pinned], laidTests := true, laidLooks := .later }
def IntegerMatchesReferenceUptoCardSaid : Prop := Claim7.holds Tryz.pinned (.plain (OpenSpec.upto integerMatchesReferenceSpec)) integerMatchesReferenceUptoCard

/-- THE SECOND FORM's CARD OF 'yardsticklaw03.IntegerText'. -/
def integerTextUptoCard : Claim7 := { stood := { row := integerTextUptoRow, standIns := [], harness := (true, "ab81dbdd1fc851abdfd28b4a0d840f27d7d331c718d4b7cbe55c1dc53040e696"), looks := true }, kinds := [], alts := [], laidByText := true, laidKinds := [.data, .data, .data, .data, .sentinel, .sentinel, .pinned], laidTests := true, laidLooks := .later }
def IntegerTextUptoCardSaid : Prop := Claim7.holds Tryz.pinned (.plain (OpenSpec.upto integerTextSpec)) integerTextUptoCard

/-- THE SECOND FORM's CARD OF 'yardsticklaw12.DriftMatchesReference'. -/
def driftMatchesReferenceUptoCard : Claim7 := { stood := { row := driftMatchesReferenceUptoRow, standIns := [], harness := (true, "ab81dbdd1fc851abdfd28b4a0d840f27d7d331c718d4b7cbe55c1dc53040e696"), looks := true }, kinds := [], alts := [], laidByText := true, laidKinds := [.data, .data, .data, .data, .sentinel, .sentinel, .pinned], laidTests := true, laidLooks := .later }
def DriftMatchesReferenceUptoCardSaid : Prop := Claim7.holds Tryz.pinned (.plain (OpenSpec.upto driftMatchesReferenceSpec)) driftMatchesReferenceUptoCard

/-- THE SECOND FORM's CARD OF 'yardsticklaw12.DriftOrder'. -/
def driftOrderUptoCard : Claim7 := { stood := { row := driftOrderUptoRow, standIns := [], harness := (true, "ab81dbdd1fc851abdfd28b4a0d840f27d7d331c718d4b7cbe55c1dc53040e696"), looks := true }, kinds := [], alts := [], laidByText := true, laidKinds := [.data, .data, .data, .data, .sentinel, .sentinel, .pinned], laidTests := true, laidLooks := .later }
def DriftOrderUptoCardSaid : Prop := Claim7.holds Tryz.pinned (.plain (OpenSpec.upto driftOrderSpec)) driftOrderUptoCard

/-- THE SECOND FORM's CARD OF 'yardsticklaw12.DriftContradicts'. -/
def driftContradictsUptoCard : Claim7 := { stood := { row := driftContradictsUptoRow, standIns := [], harness := (true, "ab81dbdd1fc851abdfd28b4a0d840f27d7d331c718d4b7cbe55c1dc53040e696"), looks := true }, kinds := [], alts := [], laidByText := true, laidKinds := [.data, .data, .data, .data, .sentinel, .sentinel, .pinned], laidTests := true, laidLooks := .later }
def DriftContradictsUptoCardSaid : Prop := Claim7.holds Tryz.pinned (.plain (OpenSpec.upto driftContradictsSpec)) driftContradictsUptoCard

/-- THE SECOND FORM's CARD OF 'yardsticklaw12.DriftExact'. -/
def driftExactUptoCard : Claim7 := { stood := { row := driftExactUptoRow, standIns := [], harness := (true, "ab81dbdd1fc851abdfd28b4a0d840f27d7d331c718d4b7cbe55c1dc53040e696"), looks := true }, kinds := [], alts := [], laidByText := true, laidKinds := [.data, .data, .data, .data, .sentinel, .sentinel, .pinned], laidTests := true, laidLooks := .later }
def DriftExactUptoCardSaid : Prop := Claim7.holds Tryz.pinned (.plain (OpenSpec.upto driftExactSpec)) driftExactUptoCard

/-- THE SECOND FORM's CARD OF 'yardsticklaw12.DriftTrue'. -/
def driftTrueUptoCard : Claim7 := { stood := { row := driftTrueUptoRow, standIns := [], harness := (true, "ab81dbdd1fc851abdfd28b4a0d840f27d7d331c718d4b7cbe55c1dc53040e696"), looks := true }, kinds := [], alts := [], laidByText := true, laidKinds := [.data, .data, .data, .data, .sentinel, .sentinel, .pinned], laidTests := true, laidLooks := .later }
def DriftTrueUptoCardSaid : Prop := Claim7.holds Tryz.pinned (.plain (OpenSpec.upto driftTrueSpec)) driftTrueUptoCard

/-- THE SECOND FORM's CARD OF 'yardsticklaw12.DriftNarrower'. -/
def driftNarrowerUptoCard : Claim7 := { stood := { row := driftNarrowerUptoRow, standIns := [], harness := (true, "ab81dbdd1fc851abdfd28b4a0d840f27d7d331c718d4b7cbe55c1dc53040e696"), looks := true }, kinds := [], alts := [], laidByText := true, laidKinds := [.data, .data, .data, .data, .sentinel, .sentinel, .pinned], laidTests := true, laidLooks := .later }
def DriftNarrowerUptoCardSaid : Prop := Claim7.holds Tryz.pinned (.plain (OpenSpec.upto driftNarrowerSpec)) driftNarrowerUptoCard

/-- THE SECOND FORM's CARD OF 'yardsticklaw12.DriftUntil'. -/
def driftUntilUptoCard : Claim7 := { stood := { row := driftUntilUptoRow, standIns := [], harness := (true, "ab81dbdd1fc851abdfd28b4a0d840f27d7d331c718d4b7cbe55c1dc53040e696"), looks := true }, kinds := [], alts := [], laidByText := true, laidKinds := [.data, .data, .data, .data, .sentinel, .sentinel, .sentinel, .pinned], laidTests := true, laidLooks := .later }
def DriftUntilUptoCardSaid : Prop := Claim7.holds Tryz.pinned (.plain (OpenSpec.upto driftUntilSpec)) driftUntilUptoCard
end Rows
end Go.Proofs.YtkihodadopcioaaGreatDoor

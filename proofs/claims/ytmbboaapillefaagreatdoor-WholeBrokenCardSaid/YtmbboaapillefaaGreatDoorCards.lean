/-
  DERIVED. GIVEN WITH THE SEED: THE CARDS: each row of YtmbboaapillefaaGreatDoorRows.lean that lists a variable, with what it lists TIED to the program's text (the seventh form; the later family's looks); each row that meets fmt, with fmt's text TOLD by the authors' own Lean function (tested against real Go, not proved from fmt's source: count such statements apart). THE CARD IS WHAT COUNTS. Prove the row's statement (the work); the ties are given (YtmbboaapillefaaGreatDoorTie.lean); close each card by the builder's one call (the guide's Derived/Test/ToyasCard.lean, 'card_holds'). Laid BY PROGRAM, IN A SANDBOX (cutbox-door.mjs). By AI agents, Wed Nov 11 2026. No macro, syntax, notation, axiom, sorry.
-/
import Derived.Test.YtmbboaapillefaaGreatDoorRows
import GoSem.ClaimSeven
namespace Go.Proofs.YtmbboaapillefaaGreatDoor
namespace Rows

/-- THE TIED CARD OF 'splicerylaw22.WholeProblems'. -/
def wholeProblemsCard : Claim7 := { stood := { row := wholeProblemsRow, standIns := [], harness := (true, "6a6599a78f00a47ea862cda47db67bb5001c0371fd9ba28e6aafdc606ded7f7f"), looks := false }, kinds := [], alts := [], laidByText := true, laidKinds := [.data, .funcs, .widerDeep, .mapped, .data], laidTests := true, laidLooks := .later }
def WholeProblemsCardSaid : Prop := Claim7.holds Tryz.pinned (.plain (OpenSpec.ofChange wholeProblemsSpec)) wholeProblemsCard

/-- THE TIED CARD OF 'splicerylaw22.WholeOrder'. -/
def wholeOrderCard : Claim7 := { stood := { row := wholeOrderRow, standIns := [], harness := (true, "6a6599a78f00a47ea862cda47db67bb5001c0371fd9ba28e6aafdc606ded7f7f"), looks := false }, kinds := [], alts := [], laidByText := true, laidKinds := [.data, .funcs, .widerDeep, .mapped, .data], laidTests := true, laidLooks := .later }
def WholeOrderCardSaid : Prop := Claim7.holds Tryz.pinned (.plain (OpenSpec.ofChange wholeOrderSpec)) wholeOrderCard

/-- THE TIED CARD OF 'splicerylaw22.WholeOrdered'. -/
def wholeOrderedCard : Claim7 := { stood := { row := wholeOrderedRow, standIns := [], harness := (true, "6a6599a78f00a47ea862cda47db67bb5001c0371fd9ba28e6aafdc606ded7f7f"), looks := false }, kinds := [], alts := [], laidByText := true, laidKinds := [.data, .funcs, .widerDeep, .mapped, .data], laidTests := true, laidLooks := .later }
def WholeOrderedCardSaid : Prop := Claim7.holds Tryz.pinned (.plain (OpenSpec.ofChange wholeOrderedSpec)) wholeOrderedCard

/-- THE TIED CARD OF 'splicerylaw22.WholeWeaker'. -/
def wholeWeakerCard : Claim7 := { stood := { row := wholeWeakerRow, standIns := [], harness := (true, "6a6599a78f00a47ea862cda47db67bb5001c0371fd9ba28e6aafdc606ded7f7f"), looks := false }, kinds := [], alts := [], laidByText := true, laidKinds := [.data, .funcs, .widerDeep, .mapped, .data], laidTests := true, laidLooks := .later }
def WholeWeakerCardSaid : Prop := Claim7.holds Tryz.pinned (.plain (OpenSpec.ofChange wholeWeakerSpec)) wholeWeakerCard

/-- THE TIED CARD OF 'splicerylaw22.WholeBroken'. -/
def wholeBrokenCard : Claim7 := { stood := { row := wholeBrokenRow, standIns := [], harness := (true, "6a6599a78f00a47ea862cda47db67bb5001c0371fd9ba28e6aafdc606ded7f7f"), looks := false }, kinds := [], alts := [], laidByText := true, laidKinds := [.data, .funcs, .widerDeep, .mapped, .data], laidTests := true, laidLooks := .later }
def WholeBrokenCardSaid : Prop := Claim7.holds Tryz.pinned (.plain (OpenSpec.ofChange wholeBrokenSpec)) wholeBrokenCard

/-- THE SECOND FORM's CARD OF 'splicerylaw22.WholeProblems'. -/
def wholeProblemsUptoCard : Claim7 := { stood := { row := wholeProblemsUptoRow, standIns := [], harness := (true, "6a6599a78f00a47ea862cda47db67bb5001c0371fd9ba28e6aafdc606ded7f7f"), looks := false }, kinds := [], alts := [], laidByText := true, laidKinds := [.data, .funcs, .widerDeep, .mapped, .data], laidTests := true, laidLooks := .later }
def WholeProblemsUptoCardSaid : Prop := Claim7.holds Tryz.pinned (.plain (OpenSpec.upto wholeProblemsSpec)) wholeProblemsUptoCard

/-- THE SECOND FORM's CARD OF 'splicerylaw22.WholeOrder'. -/
def wholeOrderUptoCard : Claim7 := { stood := { row := wholeOrderUptoRow, standIns := [], harness := (true, "6a6599a78f00a47ea862cda47db67bb5001c0371fd9ba28e6aafdc606ded7f7f"), looks := false }, kinds := [], alts := [], laidByText := true, laidKinds := [.data, .funcs, .widerDeep, .mapped, .data], laidTests := true, laidLooks := .later }
def WholeOrderUptoCardSaid : Prop := Claim7.holds Tryz.pinned (.plain (OpenSpec.upto wholeOrderSpec)) wholeOrderUptoCard

/-- THE SECOND FORM's CARD OF 'splicerylaw22.WholeOrdered'. -/
def wholeOrderedUptoCard : Claim7 := { stood := { row := wholeOrderedUptoRow, standIns := [], harness := (true, "6a6599a78f00a47ea862cda47db67bb5001c0371fd9ba28e6aafdc606ded7f7f"), looks := false }, kinds := [], alts := [], laidByText := true, laidKinds := [.data, .funcs, .widerDeep, .mapped, .data], laidTests := true, laidLooks := .later }
def WholeOrderedUptoCardSaid : Prop := Claim7.holds Tryz.pinned (.plain (OpenSpec.upto wholeOrderedSpec)) wholeOrderedUptoCard

/-- THE SECOND FORM's CARD OF 'splicerylaw22.WholeWeaker'. -/
def wholeWeakerUptoCard : Claim7 := { stood := { row := wholeWeakerUptoRow, standIns := [], harness := (true, "6a6599a78f00a47ea862cda47db67bb5001c0371fd9ba28e6aafdc606ded7f7f"), looks := false }, kinds := [], alts := [], laidByText := true, laidKinds := [.data, .funcs, .widerDeep, .mapped, .data], laidTests := true, laidLooks := .later }
def WholeWeakerUptoCardSaid : Prop := Claim7.holds Tryz.pinned (.plain (OpenSpec.upto wholeWeakerSpec)) wholeWeakerUptoCard

/-- THE SECOND FORM's CARD OF 'splicerylaw22.WholeBroken'. -/
def wholeBrokenUptoCard : Claim7 := { stood := { row := wholeBrokenUptoRow, standIns := [], harness := (true, "6a6599a78f00a47ea862cda47db67bb5001c0371fd9ba28e6aafdc606ded7f7f"), looks := false }, kinds := [], alts := [], laidByText := true, laidKinds := [.data, .funcs, .widerDeep, .mapped, .data], laidTests := true, laidLooks := .later }
def WholeBrokenUptoCardSaid : Prop := Claim7.holds Tryz.pinned (.plain (OpenSpec.upto wholeBrokenSpec)) wholeBrokenUptoCard
end Rows
end Go.Proofs.YtmbboaapillefaaGreatDoor

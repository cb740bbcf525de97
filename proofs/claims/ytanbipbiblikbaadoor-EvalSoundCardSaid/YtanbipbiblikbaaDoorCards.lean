/-
  DERIVED. GIVEN WITH THE SEED: THE CARDS: each row of YtanbipbiblikbaaDoorRows.lean that lists a variable, with what it lists TIED to the program's text (the seventh form; the later family's looks); each row that meets fmt, with fmt's text TOLD by the authors' own Lean function (tested against real Go, not proved from fmt's source: count such statements apart). THE CARD IS WHAT COUNTS. Prove the row's statement (the work); the ties are given (YtanbipbiblikbaaDoorTie.lean); close each card by the builder's one call (the guide's Derived/Test/ToyasCard.lean, 'card_holds'). Laid BY PROGRAM, IN A SANDBOX (cutbox-door.mjs). By AI agents, Wed Nov 11 2026. No macro, syntax, notation, axiom, sorry.
-/
import Derived.Test.YtanbipbiblikbaaDoorRows
import GoSem.ClaimSeven
namespace Go.Proofs.YtanbipbiblikbaaDoor
namespace Rows

/-- THE TIED CARD OF 'splicerylaw11.EvalOps'. -/
def evalOpsCard : Claim7 := { stood := { row := evalOpsRow, standIns := [], harness := (true, "c1a61b6da9c13a68ed58bc810ebf6cde6d178099776de3ae8897716772155efb"), looks := true }, kinds := [], alts := [], laidByText := true, laidKinds := [.funcs], laidTests := true, laidLooks := .later }
def EvalOpsCardSaid : Prop := Claim7.holds Tryd.pinned (.plain (OpenSpec.ofChange evalOpsSpec)) evalOpsCard

/-- THE TIED CARD OF 'splicerylaw11.EvalNumbers'. -/
def evalNumbersCard : Claim7 := { stood := { row := evalNumbersRow, standIns := [], harness := (true, "c1a61b6da9c13a68ed58bc810ebf6cde6d178099776de3ae8897716772155efb"), looks := true }, kinds := [], alts := [], laidByText := true, laidKinds := [.funcs], laidTests := true, laidLooks := .later }
def EvalNumbersCardSaid : Prop := Claim7.holds Tryd.pinned (.plain (OpenSpec.ofChange evalNumbersSpec)) evalNumbersCard

/-- THE TIED CARD OF 'splicerylaw11.EvalMost'. -/
def evalMostCard : Claim7 := { stood := { row := evalMostRow, standIns := [], harness := (true, "c1a61b6da9c13a68ed58bc810ebf6cde6d178099776de3ae8897716772155efb"), looks := true }, kinds := [], alts := [], laidByText := true, laidKinds := [.funcs], laidTests := true, laidLooks := .later }
def EvalMostCardSaid : Prop := Claim7.holds Tryd.pinned (.plain (OpenSpec.ofChange evalMostSpec)) evalMostCard

/-- THE TIED CARD OF 'splicerylaw11.EvalCalls'. -/
def evalCallsCard : Claim7 := { stood := { row := evalCallsRow, standIns := [], harness := (true, "c1a61b6da9c13a68ed58bc810ebf6cde6d178099776de3ae8897716772155efb"), looks := true }, kinds := [], alts := [], laidByText := true, laidKinds := [.funcs], laidTests := true, laidLooks := .later }
def EvalCallsCardSaid : Prop := Claim7.holds Tryd.pinned (.plain (OpenSpec.ofChange evalCallsSpec)) evalCallsCard

/-- THE TIED CARD OF 'splicerylaw11.EvalFuel'. -/
def evalFuelCard : Claim7 := { stood := { row := evalFuelRow, standIns := [], harness := (true, "c1a61b6da9c13a68ed58bc810ebf6cde6d178099776de3ae8897716772155efb"), looks := true }, kinds := [], alts := [], laidByText := true, laidKinds := [.funcs], laidTests := true, laidLooks := .later }
def EvalFuelCardSaid : Prop := Claim7.holds Tryd.pinned (.plain (OpenSpec.ofChange evalFuelSpec)) evalFuelCard

/-- THE TIED CARD OF 'splicerylaw11.EvalSound'. -/
def evalSoundCard : Claim7 := { stood := { row := evalSoundRow, standIns := [], harness := (true, "c1a61b6da9c13a68ed58bc810ebf6cde6d178099776de3ae8897716772155efb"), looks := true }, kinds := [], alts := [], laidByText := true, laidKinds := [.funcs], laidTests := true, laidLooks := .later }
def EvalSoundCardSaid : Prop := Claim7.holds Tryd.pinned (.plain (OpenSpec.ofChange evalSoundSpec)) evalSoundCard

/-- THE TIED CARD OF 'splicerylaw11.EvalNames'. -/
def evalNamesCard : Claim7 := { stood := { row := evalNamesRow, standIns := [], harness := (true, "c1a61b6da9c13a68ed58bc810ebf6cde6d178099776de3ae8897716772155efb"), looks := true }, kinds := [], alts := [], laidByText := true, laidKinds := [.funcs], laidTests := true, laidLooks := .later }
def EvalNamesCardSaid : Prop := Claim7.holds Tryd.pinned (.plain (OpenSpec.ofChange evalNamesSpec)) evalNamesCard

/-- THE SECOND FORM's CARD OF 'splicerylaw11.EvalOps'. -/
def evalOpsUptoCard : Claim7 := { stood := { row := evalOpsUptoRow, standIns := [], harness := (true, "c1a61b6da9c13a68ed58bc810ebf6cde6d178099776de3ae8897716772155efb"), looks := true }, kinds := [], alts := [], laidByText := true, laidKinds := [.funcs], laidTests := true, laidLooks := .later }
def EvalOpsUptoCardSaid : Prop := Claim7.holds Tryd.pinned (.plain (OpenSpec.upto evalOpsSpec)) evalOpsUptoCard

/-- THE SECOND FORM's CARD OF 'splicerylaw11.EvalNumbers'. -/
def evalNumbersUptoCard : Claim7 := { stood := { row := evalNumbersUptoRow, standIns := [], harness := (true, "c1a61b6da9c13a68ed58bc810ebf6cde6d178099776de3ae8897716772155efb"), looks := true }, kinds := [], alts := [], laidByText := true, laidKinds := [.funcs], laidTests := true, laidLooks := .later }
def EvalNumbersUptoCardSaid : Prop := Claim7.holds Tryd.pinned (.plain (OpenSpec.upto evalNumbersSpec)) evalNumbersUptoCard

/-- THE SECOND FORM's CARD OF 'splicerylaw11.EvalMost'. -/
def evalMostUptoCard : Claim7 := { stood := { row := evalMostUptoRow, standIns := [], harness := (true, "c1a61b6da9c13a68ed58bc810ebf6cde6d178099776de3ae8897716772155efb"), looks := true }, kinds := [], alts := [], laidByText := true, laidKinds := [.funcs], laidTests := true, laidLooks := .later }
def EvalMostUptoCardSaid : Prop := Claim7.holds Tryd.pinned (.plain (OpenSpec.upto evalMostSpec)) evalMostUptoCard

/-- THE SECOND FORM's CARD OF 'splicerylaw11.EvalCalls'. -/
def evalCallsUptoCard : Claim7 := { stood := { row := evalCallsUptoRow, standIns := [], harness := (true, "c1a61b6da9c13a68ed58bc810ebf6cde6d178099776de3ae8897716772155efb"), looks := true }, kinds := [], alts := [], laidByText := true, laidKinds := [.funcs], laidTests := true, laidLooks := .later }
def EvalCallsUptoCardSaid : Prop := Claim7.holds Tryd.pinned (.plain (OpenSpec.upto evalCallsSpec)) evalCallsUptoCard

/-- THE SECOND FORM's CARD OF 'splicerylaw11.EvalFuel'. -/
def evalFuelUptoCard : Claim7 := { stood := { row := evalFuelUptoRow, standIns := [], harness := (true, "c1a61b6da9c13a68ed58bc810ebf6cde6d178099776de3ae8897716772155efb"), looks := true }, kinds := [], alts := [], laidByText := true, laidKinds := [.funcs], laidTests := true, laidLooks := .later }
def EvalFuelUptoCardSaid : Prop := Claim7.holds Tryd.pinned (.plain (OpenSpec.upto evalFuelSpec)) evalFuelUptoCard

/-- THE SECOND FORM's CARD OF 'splicerylaw11.EvalSound'. -/
def evalSoundUptoCard : Claim7 := { stood := { row := evalSoundUptoRow, standIns := [], harness := (true, "c1a61b6da9c13a68ed58bc810ebf6cde6d178099776de3ae8897716772155efb"), looks := true }, kinds := [], alts := [], laidByText := true, laidKinds := [.funcs], laidTests := true, laidLooks := .later }
def EvalSoundUptoCardSaid : Prop := Claim7.holds Tryd.pinned (.plain (OpenSpec.upto evalSoundSpec)) evalSoundUptoCard

/-- THE SECOND FORM's CARD OF 'splicerylaw11.EvalNames'. -/
def evalNamesUptoCard : Claim7 := { stood := { row := evalNamesUptoRow, standIns := [], harness := (true, "c1a61b6da9c13a68ed58bc810ebf6cde6d178099776de3ae8897716772155efb"), looks := true }, kinds := [], alts := [], laidByText := true, laidKinds := [.funcs], laidTests := true, laidLooks := .later }
def EvalNamesUptoCardSaid : Prop := Claim7.holds Tryd.pinned (.plain (OpenSpec.upto evalNamesSpec)) evalNamesUptoCard
end Rows
end Go.Proofs.YtanbipbiblikbaaDoor

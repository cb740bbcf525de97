/-
  NARROWER THAN 'FOR EVERY INPUT', by the rows' own cells (each row's printed sentence says how): WholeProblems: laid · WholeOrder: laid · WholeOrdered: laid · WholeWeaker: laid · WholeBroken: laid.
  DERIVED. THE GIVEN ROWS OF THIS SEAT. 5 by the template 'for every input the law returns true; each argument reads behind the call as it read before'; 0 by the template 'total and deterministic' (their statements: YtmbboaapillefaaGreatDoorTotals.lean).
  GIVEN WITH THE SEED: the statements are not yours to turn. If you find one false, say at which input.
  Laid BY PROGRAM, IN A SANDBOX (cutbox-rows.mjs): the forced cells as the released guide's own fill.sh prints them over the translation ca1ab4703b34df73… (all of the seat's roots in one cut). By AI agents, Wed Nov 11 2026. No macro, syntax, notation, axiom, sorry.
-/
import Derived.Test.YtmbboaapillefaaGreatDoorChecked
import GoSem.Claim
import GoSem.ClaimJoined
import GoSem.ClaimMapViews
import Derived.JoinedTies
import Derived.KernelRfl
namespace Go.Proofs.YtmbboaapillefaaGreatDoor
/- THE CELL 'sum', in the pinned program and in every row, IS THE sha256 OF THE DUMP (.gsa) THAT YtmbboaapillefaaGreatDoorProg.lean LOADS. Nothing in Lean hashes anything: it is a label: what it is worth is what the hold of that sum in a sandbox is worth. -/
noncomputable def Tryz.pinned : Pinned := { name := "ytmbboaapillefaagreatdoor", sum := "ca1ab4703b34df73762d92cffe75b4964e1b042ba85c6d7334d22ff82eef1749", checked := Tryz.checked }
namespace Rows
def none {H : Type} : Left H := { results := [], args := [] }

/- WHAT THE LISTED PACKAGE-LEVEL VARIABLES READ AS WHEN THE CALL BEGINS. Each datum BY PROGRAM (the guide's laid-datum.mjs) off the statement by which the dump's own 'gosem.cut.vars' lays the variable. In a bare row this is a premise. The card (YtmbboaapillefaaGreatDoorCards.lean) ties it to the program's text. -/
def laid_splicery_lex_signs {H : Type} : DataW H := .agg [.lit (.string [61, 61]), .lit (.string [45, 62]), .lit (.string [40]), .lit (.string [41]), .lit (.string [123]), .lit (.string [125]), .lit (.string [91]), .lit (.string [93]), .lit (.string [44]), .lit (.string [58]), .lit (.string [46]), .lit (.string [61]), .lit (.string [43]), .lit (.string [45]), .lit (.string [42]), .lit (.string [47]), .lit (.string [37]), .lit (.string [60])]
def laid_splicery_lex_kinds {H : Type} : DataW H := .iface "func table" (.agg [.agg [.iface "func" (.lit (.string [115, 112, 108, 105, 99, 101, 114, 121, 47, 108, 101, 120, 46, 108, 101, 116, 116, 101, 114])), .iface "func" (.lit (.string [115, 112, 108, 105, 99, 101, 114, 121, 47, 108, 101, 120, 46, 101, 105, 116, 104, 101, 114]))], .agg [.iface "func" (.lit (.string [115, 112, 108, 105, 99, 101, 114, 121, 47, 108, 101, 120, 46, 100, 105, 103, 105, 116])), .iface "func" (.lit (.string [115, 112, 108, 105, 99, 101, 114, 121, 47, 108, 101, 120, 46, 100, 105, 103, 105, 116]))]])
def laid_splicery_lex_keywords {H : Type} : DataW H := .agg [.lit (.string [109, 111, 100, 117, 108, 101]), .lit (.string [117, 115, 101]), .lit (.string [114, 101, 99]), .lit (.string [99, 97, 115, 101]), .lit (.string [102, 117, 110]), .lit (.string [111, 110]), .lit (.string [116, 101, 115, 116]), .lit (.string [99, 111, 110, 118]), .lit (.string [116, 114, 117, 101]), .lit (.string [102, 97, 108, 115, 101]), .lit (.string [110, 111, 116]), .lit (.string [97, 110, 100]), .lit (.string [111, 114]), .lit (.string [105, 102]), .lit (.string [116, 104, 101, 110]), .lit (.string [101, 108, 115, 101]), .lit (.string [108, 101, 116]), .lit (.string [105, 110]), .lit (.string [109, 97, 116, 99, 104]), .lit (.string [102, 111, 108, 100]), .lit (.string [111, 118, 101, 114]), .lit (.string [100, 111]), .lit (.string [108, 101, 110]), .lit (.string [106, 111, 105, 110]), .lit (.string [76, 105, 115, 116]), .lit (.string [73, 110, 116]), .lit (.string [66, 111, 111, 108])]
def laid_splicery_whole_fits {H : Type} : DataW H := .map [(.int .i64 3, .lit (.int .i64 36)), (.int .i64 7, .lit (.int .i64 1)), (.int .i64 8, .lit (.int .i64 1)), (.int .i64 9, .lit (.int .i64 2)), (.int .i64 10, .lit (.int .i64 2))]
def laid_splicery_whole_kids {H : Type} : DataW H := .agg [.lit (.int .i64 0), .lit (.int .i64 0), .lit (.int .i64 0), .lit (.int .i64 (-1)), .lit (.int .i64 2), .lit (.int .i64 3), .lit (.int .i64 2), .lit (.int .i64 (-1)), .lit (.int .i64 1), .lit (.int .i64 1), .lit (.int .i64 (-1)), .lit (.int .i64 (-1)), .lit (.int .i64 3)]

/-- 'splicerylaw22.WholeProblems': WHATEVER THE INPUT: true; the input reads as it did. -/
def wholeProblemsSpec : ChangeSpec := { name := "wholeProblems", fn := fun _ => fun
  | [d1, d2, d3, d4, d5] => { results := [.lit (.bool true)], args := [d1, d2, d3, d4, d5] }
  | _ => none }
def wholeProblemsRow : OpenClaim := { program := "ytmbboaapillefaagreatdoor", sum := "ca1ab4703b34df73762d92cffe75b4964e1b042ba85c6d7334d22ff82eef1749", func := "splicery/splicerylaw22.WholeProblems", spec := "wholeProblems", unfollowed := true, recurses := true, named := ["splicery/lex.keywords", "splicery/lex.kinds", "splicery/lex.signs", "splicery/whole.kids", "splicery/whole.fits"], plainKeys := false, apart := false, laid := [("splicery/lex.signs", laid_splicery_lex_signs), ("splicery/lex.kinds", laid_splicery_lex_kinds), ("splicery/lex.keywords", laid_splicery_lex_keywords), ("splicery/whole.fits", laid_splicery_whole_fits), ("splicery/whole.kids", laid_splicery_whole_kids)] }
def WholeProblemsSaid : Prop := wholeProblemsRow.holds Tryz.pinned (OpenSpec.ofChange wholeProblemsSpec)

/-- ITS FALSE NEIGHBOUR: 'it returns false'. Refute it at one input. -/
def wholeProblemsWrong : ChangeSpec := { name := "wholeProblems", fn := fun _ => fun
  | [d1, d2, d3, d4, d5] => { results := [.lit (.bool false)], args := [d1, d2, d3, d4, d5] }
  | _ => none }
def WholeProblemsWrongFalsely : Prop := wholeProblemsRow.holds Tryz.pinned (OpenSpec.ofChange wholeProblemsWrong)

/-- 'splicerylaw22.WholeOrder': WHATEVER THE INPUT: true; the input reads as it did. -/
def wholeOrderSpec : ChangeSpec := { name := "wholeOrder", fn := fun _ => fun
  | [d1, d2, d3, d4] => { results := [.lit (.bool true)], args := [d1, d2, d3, d4] }
  | _ => none }
def wholeOrderRow : OpenClaim := { program := "ytmbboaapillefaagreatdoor", sum := "ca1ab4703b34df73762d92cffe75b4964e1b042ba85c6d7334d22ff82eef1749", func := "splicery/splicerylaw22.WholeOrder", spec := "wholeOrder", unfollowed := true, recurses := true, named := ["splicery/whole.fits", "splicery/lex.keywords", "splicery/lex.kinds", "splicery/lex.signs", "splicery/whole.kids"], plainKeys := false, apart := false, laid := [("splicery/lex.signs", laid_splicery_lex_signs), ("splicery/lex.kinds", laid_splicery_lex_kinds), ("splicery/lex.keywords", laid_splicery_lex_keywords), ("splicery/whole.fits", laid_splicery_whole_fits), ("splicery/whole.kids", laid_splicery_whole_kids)] }
def WholeOrderSaid : Prop := wholeOrderRow.holds Tryz.pinned (OpenSpec.ofChange wholeOrderSpec)

/-- ITS FALSE NEIGHBOUR: 'it returns false'. Refute it at one input. -/
def wholeOrderWrong : ChangeSpec := { name := "wholeOrder", fn := fun _ => fun
  | [d1, d2, d3, d4] => { results := [.lit (.bool false)], args := [d1, d2, d3, d4] }
  | _ => none }
def WholeOrderWrongFalsely : Prop := wholeOrderRow.holds Tryz.pinned (OpenSpec.ofChange wholeOrderWrong)

/-- 'splicerylaw22.WholeOrdered': WHATEVER THE INPUT: true; the input reads as it did. -/
def wholeOrderedSpec : ChangeSpec := { name := "wholeOrdered", fn := fun _ => fun
  | [d1, d2, d3, d4] => { results := [.lit (.bool true)], args := [d1, d2, d3, d4] }
  | _ => none }
def wholeOrderedRow : OpenClaim := { program := "ytmbboaapillefaagreatdoor", sum := "ca1ab4703b34df73762d92cffe75b4964e1b042ba85c6d7334d22ff82eef1749", func := "splicery/splicerylaw22.WholeOrdered", spec := "wholeOrdered", unfollowed := true, recurses := true, named := ["splicery/whole.fits", "splicery/lex.keywords", "splicery/lex.kinds", "splicery/lex.signs", "splicery/whole.kids"], plainKeys := false, apart := false, laid := [("splicery/lex.signs", laid_splicery_lex_signs), ("splicery/lex.kinds", laid_splicery_lex_kinds), ("splicery/lex.keywords", laid_splicery_lex_keywords), ("splicery/whole.fits", laid_splicery_whole_fits), ("splicery/whole.kids", laid_splicery_whole_kids)] }
def WholeOrderedSaid : Prop := wholeOrderedRow.holds Tryz.pinned (OpenSpec.ofChange wholeOrderedSpec)

/-- ITS FALSE NEIGHBOUR: 'it returns false'. Refute it at one input. -/
def wholeOrderedWrong : ChangeSpec := { name := "wholeOrdered", fn := fun _ => fun
  | [d1, d2, d3, d4] => { results := [.lit (.bool false)], args := [d1, d2, d3, d4] }
  | _ => none }
def WholeOrderedWrongFalsely : Prop := wholeOrderedRow.holds Tryz.pinned (OpenSpec.ofChange wholeOrderedWrong)

/-- 'splicerylaw22.WholeWeaker': WHATEVER THE INPUT: true; the input reads as it did. -/
def wholeWeakerSpec : ChangeSpec := { name := "wholeWeaker", fn := fun _ => fun
  | [d1, d2, d3] => { results := [.lit (.bool true)], args := [d1, d2, d3] }
  | _ => none }
def wholeWeakerRow : OpenClaim := { program := "ytmbboaapillefaagreatdoor", sum := "ca1ab4703b34df73762d92cffe75b4964e1b042ba85c6d7334d22ff82eef1749", func := "splicery/splicerylaw22.WholeWeaker", spec := "wholeWeaker", unfollowed := true, recurses := true, named := ["splicery/lex.keywords", "splicery/lex.kinds", "splicery/lex.signs", "splicery/whole.kids", "splicery/whole.fits"], plainKeys := false, apart := false, laid := [("splicery/lex.signs", laid_splicery_lex_signs), ("splicery/lex.kinds", laid_splicery_lex_kinds), ("splicery/lex.keywords", laid_splicery_lex_keywords), ("splicery/whole.fits", laid_splicery_whole_fits), ("splicery/whole.kids", laid_splicery_whole_kids)] }
def WholeWeakerSaid : Prop := wholeWeakerRow.holds Tryz.pinned (OpenSpec.ofChange wholeWeakerSpec)

/-- ITS FALSE NEIGHBOUR: 'it returns false'. Refute it at one input. -/
def wholeWeakerWrong : ChangeSpec := { name := "wholeWeaker", fn := fun _ => fun
  | [d1, d2, d3] => { results := [.lit (.bool false)], args := [d1, d2, d3] }
  | _ => none }
def WholeWeakerWrongFalsely : Prop := wholeWeakerRow.holds Tryz.pinned (OpenSpec.ofChange wholeWeakerWrong)

/-- 'splicerylaw22.WholeBroken': WHATEVER THE INPUT: true; the input reads as it did. -/
def wholeBrokenSpec : ChangeSpec := { name := "wholeBroken", fn := fun _ => fun
  | [d1, d2, d3] => { results := [.lit (.bool true)], args := [d1, d2, d3] }
  | _ => none }
def wholeBrokenRow : OpenClaim := { program := "ytmbboaapillefaagreatdoor", sum := "ca1ab4703b34df73762d92cffe75b4964e1b042ba85c6d7334d22ff82eef1749", func := "splicery/splicerylaw22.WholeBroken", spec := "wholeBroken", unfollowed := true, recurses := true, named := ["splicery/whole.fits", "splicery/lex.keywords", "splicery/lex.kinds", "splicery/lex.signs", "splicery/whole.kids"], plainKeys := false, apart := false, laid := [("splicery/lex.signs", laid_splicery_lex_signs), ("splicery/lex.kinds", laid_splicery_lex_kinds), ("splicery/lex.keywords", laid_splicery_lex_keywords), ("splicery/whole.fits", laid_splicery_whole_fits), ("splicery/whole.kids", laid_splicery_whole_kids)] }
def WholeBrokenSaid : Prop := wholeBrokenRow.holds Tryz.pinned (OpenSpec.ofChange wholeBrokenSpec)

/-- ITS FALSE NEIGHBOUR: 'it returns false'. Refute it at one input. -/
def wholeBrokenWrong : ChangeSpec := { name := "wholeBroken", fn := fun _ => fun
  | [d1, d2, d3] => { results := [.lit (.bool false)], args := [d1, d2, d3] }
  | _ => none }
def WholeBrokenWrongFalsely : Prop := wholeBrokenRow.holds Tryz.pinned (OpenSpec.ofChange wholeBrokenWrong)

/- THE SECOND FORM. 'bulk': how many values and letters a reading holds, each counted each time it is reached (what is shared counts as often as it is met; a slice's spare places count too). A statement '..UptoSaid' is the law's where the arguments, and the package variables that the reading takes, are together of bulk at most 1048576: NARROWER than '..Said'. Prove '..Said' where nothing that the law and all that it calls make is longer than what came in: it says more and counts as full. Else prove '..UptoSaid'. A law counts once. -/
mutual
def uptoBulk {H : Type} : DataW H → Nat
  | .lit (.string bytes) => bytes.length + 1
  | .lit _ => 1
  | .nil => 1
  | .ptr d => uptoBulk d + 1
  | .slice elems spare => uptoBulkAll elems + uptoBulkAll spare + 1
  | .agg parts => uptoBulkAll parts + 1
  | .iface _ d => uptoBulk d + 1
  | .map entries => uptoBulkEntries entries + 1
  | .held _ => 1
def uptoBulkAll {H : Type} : List (DataW H) → Nat
  | [] => 0
  | d :: r => uptoBulk d + uptoBulkAll r
def uptoBulkEntries {H : Type} : List (Lit × DataW H) → Nat
  | [] => 0
  | x :: r => uptoBulkEntry x + uptoBulkEntries r
def uptoBulkEntry {H : Type} : Lit × DataW H → Nat
  | (.string bytes, d) => bytes.length + uptoBulk d + 1
  | (_, d) => uptoBulk d + 1
 end
def uptoSmall : (H : Type) → List (DataW H) → Bool := fun _ ds => decide (uptoBulkAll ds ≤ 1048576)
def OpenSpec.upto (s : _root_.Go.ChangeSpec) : _root_.Go.OpenSpec := { _root_.Go.OpenSpec.ofChange s with cond := some uptoSmall }

/-- 'splicerylaw22.WholeProblems', WHERE WHAT IT READS IS OF BULK AT MOST 1048576: true; the input reads as it did. -/
def wholeProblemsUptoRow : OpenClaim := { program := "ytmbboaapillefaagreatdoor", sum := "ca1ab4703b34df73762d92cffe75b4964e1b042ba85c6d7334d22ff82eef1749", func := "splicery/splicerylaw22.WholeProblems", spec := "wholeProblems", unfollowed := true, recurses := true, named := ["splicery/lex.keywords", "splicery/lex.kinds", "splicery/lex.signs", "splicery/whole.kids", "splicery/whole.fits"], plainKeys := false, apart := false, laid := [("splicery/lex.signs", laid_splicery_lex_signs), ("splicery/lex.kinds", laid_splicery_lex_kinds), ("splicery/lex.keywords", laid_splicery_lex_keywords), ("splicery/whole.fits", laid_splicery_whole_fits), ("splicery/whole.kids", laid_splicery_whole_kids)], narrowed := true }
def WholeProblemsUptoSaid : Prop := wholeProblemsUptoRow.holds Tryz.pinned (OpenSpec.upto wholeProblemsSpec)

/-- 'splicerylaw22.WholeOrder', WHERE WHAT IT READS IS OF BULK AT MOST 1048576: true; the input reads as it did. -/
def wholeOrderUptoRow : OpenClaim := { program := "ytmbboaapillefaagreatdoor", sum := "ca1ab4703b34df73762d92cffe75b4964e1b042ba85c6d7334d22ff82eef1749", func := "splicery/splicerylaw22.WholeOrder", spec := "wholeOrder", unfollowed := true, recurses := true, named := ["splicery/whole.fits", "splicery/lex.keywords", "splicery/lex.kinds", "splicery/lex.signs", "splicery/whole.kids"], plainKeys := false, apart := false, laid := [("splicery/lex.signs", laid_splicery_lex_signs), ("splicery/lex.kinds", laid_splicery_lex_kinds), ("splicery/lex.keywords", laid_splicery_lex_keywords), ("splicery/whole.fits", laid_splicery_whole_fits), ("splicery/whole.kids", laid_splicery_whole_kids)], narrowed := true }
def WholeOrderUptoSaid : Prop := wholeOrderUptoRow.holds Tryz.pinned (OpenSpec.upto wholeOrderSpec)

/-- 'splicerylaw22.WholeOrdered', WHERE WHAT IT READS IS OF BULK AT MOST 1048576: true; the input reads as it did. -/
def wholeOrderedUptoRow : OpenClaim := { program := "ytmbboaapillefaagreatdoor", sum := "ca1ab4703b34df73762d92cffe75b4964e1b042ba85c6d7334d22ff82eef1749", func := "splicery/splicerylaw22.WholeOrdered", spec := "wholeOrdered", unfollowed := true, recurses := true, named := ["splicery/whole.fits", "splicery/lex.keywords", "splicery/lex.kinds", "splicery/lex.signs", "splicery/whole.kids"], plainKeys := false, apart := false, laid := [("splicery/lex.signs", laid_splicery_lex_signs), ("splicery/lex.kinds", laid_splicery_lex_kinds), ("splicery/lex.keywords", laid_splicery_lex_keywords), ("splicery/whole.fits", laid_splicery_whole_fits), ("splicery/whole.kids", laid_splicery_whole_kids)], narrowed := true }
def WholeOrderedUptoSaid : Prop := wholeOrderedUptoRow.holds Tryz.pinned (OpenSpec.upto wholeOrderedSpec)

/-- 'splicerylaw22.WholeWeaker', WHERE WHAT IT READS IS OF BULK AT MOST 1048576: true; the input reads as it did. -/
def wholeWeakerUptoRow : OpenClaim := { program := "ytmbboaapillefaagreatdoor", sum := "ca1ab4703b34df73762d92cffe75b4964e1b042ba85c6d7334d22ff82eef1749", func := "splicery/splicerylaw22.WholeWeaker", spec := "wholeWeaker", unfollowed := true, recurses := true, named := ["splicery/lex.keywords", "splicery/lex.kinds", "splicery/lex.signs", "splicery/whole.kids", "splicery/whole.fits"], plainKeys := false, apart := false, laid := [("splicery/lex.signs", laid_splicery_lex_signs), ("splicery/lex.kinds", laid_splicery_lex_kinds), ("splicery/lex.keywords", laid_splicery_lex_keywords), ("splicery/whole.fits", laid_splicery_whole_fits), ("splicery/whole.kids", laid_splicery_whole_kids)], narrowed := true }
def WholeWeakerUptoSaid : Prop := wholeWeakerUptoRow.holds Tryz.pinned (OpenSpec.upto wholeWeakerSpec)

/-- 'splicerylaw22.WholeBroken', WHERE WHAT IT READS IS OF BULK AT MOST 1048576: true; the input reads as it did. -/
def wholeBrokenUptoRow : OpenClaim := { program := "ytmbboaapillefaagreatdoor", sum := "ca1ab4703b34df73762d92cffe75b4964e1b042ba85c6d7334d22ff82eef1749", func := "splicery/splicerylaw22.WholeBroken", spec := "wholeBroken", unfollowed := true, recurses := true, named := ["splicery/whole.fits", "splicery/lex.keywords", "splicery/lex.kinds", "splicery/lex.signs", "splicery/whole.kids"], plainKeys := false, apart := false, laid := [("splicery/lex.signs", laid_splicery_lex_signs), ("splicery/lex.kinds", laid_splicery_lex_kinds), ("splicery/lex.keywords", laid_splicery_lex_keywords), ("splicery/whole.fits", laid_splicery_whole_fits), ("splicery/whole.kids", laid_splicery_whole_kids)], narrowed := true }
def WholeBrokenUptoSaid : Prop := wholeBrokenUptoRow.holds Tryz.pinned (OpenSpec.upto wholeBrokenSpec)

end Rows
end Go.Proofs.YtmbboaapillefaaGreatDoor

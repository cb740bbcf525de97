/-
  No cell of these rows narrows 'for every input' (looked for: loops, veiled, ifaces, maps, wideKeys, modest, calm, conditions, laid).
  DERIVED. THE GIVEN ROWS OF THIS SEAT. 8 by the template 'for every input the law returns true; each argument reads behind the call as it read before'; 0 by the template 'total and deterministic' (their statements: YtjkcjbicleohkaaTotals.lean).
  GIVEN WITH THE SEED: the statements are not yours to turn. If you find one false, say at which input.
  Laid BY PROGRAM, IN A SANDBOX (cutbox-rows.mjs): the forced cells as the released guide's own fill.sh prints them over the translation aded8fae0a9ee79a… (all of the seat's roots in one cut). By AI agents, Wed Nov 11 2026. No macro, syntax, notation, axiom, sorry.
-/
import Derived.Test.YtjkcjbicleohkaaChecked
import GoSem.Claim
import GoSem.ClaimJoined
import GoSem.ClaimMapViews
import Derived.JoinedTies
import Derived.KernelRfl
namespace Go.Proofs.Ytjkcjbicleohkaa
/- THE CELL 'sum', in the pinned program and in every row, IS THE sha256 OF THE DUMP (.gsa) THAT YtjkcjbicleohkaaProg.lean LOADS. Nothing in Lean hashes anything: it is a label: what it is worth is what the hold of that sum in a sandbox is worth. -/
noncomputable def Try.pinned : Pinned := { name := "ytjkcjbicleohkaa", sum := "aded8fae0a9ee79a95c370be3a36500423aaabd5b27da379bf5573c1eab9e11e", checked := Try.checked }
namespace Rows
def none {H : Type} : Left H := { results := [], args := [] }

/-- 'splicerylaw16.MatchLeast': WHATEVER THE INPUT: true; the input reads as it did. -/
def matchLeastSpec : ChangeSpec := { name := "matchLeast", fn := fun _ => fun
  | [d1, d2, d3] => { results := [.lit (.bool true)], args := [d1, d2, d3] }
  | _ => none }
def matchLeastRow : OpenClaim := { program := "ytjkcjbicleohkaa", sum := "aded8fae0a9ee79a95c370be3a36500423aaabd5b27da379bf5573c1eab9e11e", func := "splicery/splicerylaw16.MatchLeast", spec := "matchLeast", unfollowed := true, recurses := true, plainKeys := false, apart := false }
def MatchLeastSaid : Prop := matchLeastRow.holds Try.pinned (OpenSpec.ofChange matchLeastSpec)

/-- ITS FALSE NEIGHBOUR: 'it returns false'. Refute it at one input. -/
def matchLeastWrong : ChangeSpec := { name := "matchLeast", fn := fun _ => fun
  | [d1, d2, d3] => { results := [.lit (.bool false)], args := [d1, d2, d3] }
  | _ => none }
def MatchLeastWrongFalsely : Prop := matchLeastRow.holds Try.pinned (OpenSpec.ofChange matchLeastWrong)

/-- 'splicerylaw16.MatchCosts': WHATEVER THE INPUT: true; the input reads as it did. -/
def matchCostsSpec : ChangeSpec := { name := "matchCosts", fn := fun _ => fun
  | [d1, d2, d3, d4] => { results := [.lit (.bool true)], args := [d1, d2, d3, d4] }
  | _ => none }
def matchCostsRow : OpenClaim := { program := "ytjkcjbicleohkaa", sum := "aded8fae0a9ee79a95c370be3a36500423aaabd5b27da379bf5573c1eab9e11e", func := "splicery/splicerylaw16.MatchCosts", spec := "matchCosts", unfollowed := true, recurses := true, plainKeys := false, apart := false }
def MatchCostsSaid : Prop := matchCostsRow.holds Try.pinned (OpenSpec.ofChange matchCostsSpec)

/-- ITS FALSE NEIGHBOUR: 'it returns false'. Refute it at one input. -/
def matchCostsWrong : ChangeSpec := { name := "matchCosts", fn := fun _ => fun
  | [d1, d2, d3, d4] => { results := [.lit (.bool false)], args := [d1, d2, d3, d4] }
  | _ => none }
def MatchCostsWrongFalsely : Prop := matchCostsRow.holds Try.pinned (OpenSpec.ofChange matchCostsWrong)

/-- 'splicerylaw16.MatchChecks': WHATEVER THE INPUT: true; the input reads as it did. -/
def matchChecksSpec : ChangeSpec := { name := "matchChecks", fn := fun _ => fun
  | [d1, d2, d3, d4, d5, d6] => { results := [.lit (.bool true)], args := [d1, d2, d3, d4, d5, d6] }
  | _ => none }
def matchChecksRow : OpenClaim := { program := "ytjkcjbicleohkaa", sum := "aded8fae0a9ee79a95c370be3a36500423aaabd5b27da379bf5573c1eab9e11e", func := "splicery/splicerylaw16.MatchChecks", spec := "matchChecks", unfollowed := true, recurses := true, plainKeys := false, apart := false }
def MatchChecksSaid : Prop := matchChecksRow.holds Try.pinned (OpenSpec.ofChange matchChecksSpec)

/-- ITS FALSE NEIGHBOUR: 'it returns false'. Refute it at one input. -/
def matchChecksWrong : ChangeSpec := { name := "matchChecks", fn := fun _ => fun
  | [d1, d2, d3, d4, d5, d6] => { results := [.lit (.bool false)], args := [d1, d2, d3, d4, d5, d6] }
  | _ => none }
def MatchChecksWrongFalsely : Prop := matchChecksRow.holds Try.pinned (OpenSpec.ofChange matchChecksWrong)

/-- 'splicerylaw16.MatchBound': WHATEVER THE INPUT: true; the input reads as it did. -/
def matchBoundSpec : ChangeSpec := { name := "matchBound", fn := fun _ => fun
  | [d1, d2, d3, d4, d5] => { results := [.lit (.bool true)], args := [d1, d2, d3, d4, d5] }
  | _ => none }
def matchBoundRow : OpenClaim := { program := "ytjkcjbicleohkaa", sum := "aded8fae0a9ee79a95c370be3a36500423aaabd5b27da379bf5573c1eab9e11e", func := "splicery/splicerylaw16.MatchBound", spec := "matchBound", unfollowed := true, recurses := true, plainKeys := false, apart := false }
def MatchBoundSaid : Prop := matchBoundRow.holds Try.pinned (OpenSpec.ofChange matchBoundSpec)

/-- ITS FALSE NEIGHBOUR: 'it returns false'. Refute it at one input. -/
def matchBoundWrong : ChangeSpec := { name := "matchBound", fn := fun _ => fun
  | [d1, d2, d3, d4, d5] => { results := [.lit (.bool false)], args := [d1, d2, d3, d4, d5] }
  | _ => none }
def MatchBoundWrongFalsely : Prop := matchBoundRow.holds Try.pinned (OpenSpec.ofChange matchBoundWrong)

/-- 'splicerylaw16.MatchDistance': WHATEVER THE INPUT: true; the input reads as it did. -/
def matchDistanceSpec : ChangeSpec := { name := "matchDistance", fn := fun _ => fun
  | [d1, d2, d3] => { results := [.lit (.bool true)], args := [d1, d2, d3] }
  | _ => none }
def matchDistanceRow : OpenClaim := { program := "ytjkcjbicleohkaa", sum := "aded8fae0a9ee79a95c370be3a36500423aaabd5b27da379bf5573c1eab9e11e", func := "splicery/splicerylaw16.MatchDistance", spec := "matchDistance", unfollowed := true, recurses := true, plainKeys := false, apart := false }
def MatchDistanceSaid : Prop := matchDistanceRow.holds Try.pinned (OpenSpec.ofChange matchDistanceSpec)

/-- ITS FALSE NEIGHBOUR: 'it returns false'. Refute it at one input. -/
def matchDistanceWrong : ChangeSpec := { name := "matchDistance", fn := fun _ => fun
  | [d1, d2, d3] => { results := [.lit (.bool false)], args := [d1, d2, d3] }
  | _ => none }
def MatchDistanceWrongFalsely : Prop := matchDistanceRow.holds Try.pinned (OpenSpec.ofChange matchDistanceWrong)

/-- 'splicerylaw16.MatchEdits': WHATEVER THE INPUT: true; the input reads as it did. -/
def matchEditsSpec : ChangeSpec := { name := "matchEdits", fn := fun _ => fun
  | [d1, d2, d3, d4] => { results := [.lit (.bool true)], args := [d1, d2, d3, d4] }
  | _ => none }
def matchEditsRow : OpenClaim := { program := "ytjkcjbicleohkaa", sum := "aded8fae0a9ee79a95c370be3a36500423aaabd5b27da379bf5573c1eab9e11e", func := "splicery/splicerylaw16.MatchEdits", spec := "matchEdits", unfollowed := true, recurses := true, plainKeys := false, apart := false }
def MatchEditsSaid : Prop := matchEditsRow.holds Try.pinned (OpenSpec.ofChange matchEditsSpec)

/-- ITS FALSE NEIGHBOUR: 'it returns false'. Refute it at one input. -/
def matchEditsWrong : ChangeSpec := { name := "matchEdits", fn := fun _ => fun
  | [d1, d2, d3, d4] => { results := [.lit (.bool false)], args := [d1, d2, d3, d4] }
  | _ => none }
def MatchEditsWrongFalsely : Prop := matchEditsRow.holds Try.pinned (OpenSpec.ofChange matchEditsWrong)

/-- 'splicerylaw16.MatchParts': WHATEVER THE INPUT: true; the input reads as it did. -/
def matchPartsSpec : ChangeSpec := { name := "matchParts", fn := fun _ => fun
  | [d1, d2, d3] => { results := [.lit (.bool true)], args := [d1, d2, d3] }
  | _ => none }
def matchPartsRow : OpenClaim := { program := "ytjkcjbicleohkaa", sum := "aded8fae0a9ee79a95c370be3a36500423aaabd5b27da379bf5573c1eab9e11e", func := "splicery/splicerylaw16.MatchParts", spec := "matchParts", unfollowed := true, recurses := true, plainKeys := false, apart := false }
def MatchPartsSaid : Prop := matchPartsRow.holds Try.pinned (OpenSpec.ofChange matchPartsSpec)

/-- ITS FALSE NEIGHBOUR: 'it returns false'. Refute it at one input. -/
def matchPartsWrong : ChangeSpec := { name := "matchParts", fn := fun _ => fun
  | [d1, d2, d3] => { results := [.lit (.bool false)], args := [d1, d2, d3] }
  | _ => none }
def MatchPartsWrongFalsely : Prop := matchPartsRow.holds Try.pinned (OpenSpec.ofChange matchPartsWrong)

/-- 'splicerylaw16.MatchUsable': WHATEVER THE INPUT: true; the input reads as it did. -/
def matchUsableSpec : ChangeSpec := { name := "matchUsable", fn := fun _ => fun
  | [d1, d2, d3, d4] => { results := [.lit (.bool true)], args := [d1, d2, d3, d4] }
  | _ => none }
def matchUsableRow : OpenClaim := { program := "ytjkcjbicleohkaa", sum := "aded8fae0a9ee79a95c370be3a36500423aaabd5b27da379bf5573c1eab9e11e", func := "splicery/splicerylaw16.MatchUsable", spec := "matchUsable", unfollowed := true, recurses := true, plainKeys := false, apart := false }
def MatchUsableSaid : Prop := matchUsableRow.holds Try.pinned (OpenSpec.ofChange matchUsableSpec)

/-- ITS FALSE NEIGHBOUR: 'it returns false'. Refute it at one input. -/
def matchUsableWrong : ChangeSpec := { name := "matchUsable", fn := fun _ => fun
  | [d1, d2, d3, d4] => { results := [.lit (.bool false)], args := [d1, d2, d3, d4] }
  | _ => none }
def MatchUsableWrongFalsely : Prop := matchUsableRow.holds Try.pinned (OpenSpec.ofChange matchUsableWrong)

/- THE SECOND FORM. 'bulk': how many values and letters a reading holds, each counted each time it is reached (what is shared counts as often as it is met; a slice's spare places count too). A statement '..UptoSaid' is the law's where the arguments, and the package variables that the reading takes, are together of bulk at most 1048576: NARROWER than '..Said'. Prove '..Said' where nothing that the law and all that it calls make is longer than what came in: it says more and counts as full. Else prove '..UptoSaid'. A law counts once. -/
mutual
def uptoBulk {H : Type} : DataW H → Nat
  | .lit (.string bytes) => bytes.length + 1
  | .lit _ => 1
  | .nil => 1
  | .ptr d => uptoBulk d + 1
  | .slice elems spare => uptoBulkAll elems + uptoBulkAll spare + 1
  | .agg parts => uptoBulkAll parts + 1
  | .iface _ d => uptoBulk d + 1
  | .map entries => uptoBulkEntries entries + 1
  | .held _ => 1
def uptoBulkAll {H : Type} : List (DataW H) → Nat
  | [] => 0
  | d :: r => uptoBulk d + uptoBulkAll r
def uptoBulkEntries {H : Type} : List (Lit × DataW H) → Nat
  | [] => 0
  | x :: r => uptoBulkEntry x + uptoBulkEntries r
def uptoBulkEntry {H : Type} : Lit × DataW H → Nat
  | (.string bytes, d) => bytes.length + uptoBulk d + 1
  | (_, d) => uptoBulk d + 1
 end
def uptoSmall : (H : Type) → List (DataW H) → Bool := fun _ ds => decide (uptoBulkAll ds ≤ 1048576)
def OpenSpec.upto (s : _root_.Go.ChangeSpec) : _root_.Go.OpenSpec := { _root_.Go.OpenSpec.ofChange s with cond := some uptoSmall }

/-- 'splicerylaw16.MatchLeast', WHERE WHAT IT READS IS OF BULK AT MOST 1048576: true; the input reads as it did. -/
def matchLeastUptoRow : OpenClaim := { program := "ytjkcjbicleohkaa", sum := "aded8fae0a9ee79a95c370be3a36500423aaabd5b27da379bf5573c1eab9e11e", func := "splicery/splicerylaw16.MatchLeast", spec := "matchLeast", unfollowed := true, recurses := true, plainKeys := false, apart := false, narrowed := true }
def MatchLeastUptoSaid : Prop := matchLeastUptoRow.holds Try.pinned (OpenSpec.upto matchLeastSpec)

/-- 'splicerylaw16.MatchCosts', WHERE WHAT IT READS IS OF BULK AT MOST 1048576: true; the input reads as it did. -/
def matchCostsUptoRow : OpenClaim := { program := "ytjkcjbicleohkaa", sum := "aded8fae0a9ee79a95c370be3a36500423aaabd5b27da379bf5573c1eab9e11e", func := "splicery/splicerylaw16.MatchCosts", spec := "matchCosts", unfollowed := true, recurses := true, plainKeys := false, apart := false, narrowed := true }
def MatchCostsUptoSaid : Prop := matchCostsUptoRow.holds Try.pinned (OpenSpec.upto matchCostsSpec)

/-- 'splicerylaw16.MatchChecks', WHERE WHAT IT READS IS OF BULK AT MOST 1048576: true; the input reads as it did. -/
def matchChecksUptoRow : OpenClaim := { program := "ytjkcjbicleohkaa", sum := "aded8fae0a9ee79a95c370be3a36500423aaabd5b27da379bf5573c1eab9e11e", func := "splicery/splicerylaw16.MatchChecks", spec := "matchChecks", unfollowed := true, recurses := true, plainKeys := false, apart := false, narrowed := true }
def MatchChecksUptoSaid : Prop := matchChecksUptoRow.holds Try.pinned (OpenSpec.upto matchChecksSpec)

/-- 'splicerylaw16.MatchBound', WHERE WHAT IT READS IS OF BULK AT MOST 1048576: true; the input reads as it did. -/
def matchBoundUptoRow : OpenClaim := { program := "ytjkcjbicleohkaa", sum := "aded8fae0a9ee79a95c370be3a36500423aaabd5b27da379bf5573c1eab9e11e", func := "splicery/splicerylaw16.MatchBound", spec := "matchBound", unfollowed := true, recurses := true, plainKeys := false, apart := false, narrowed := true }
def MatchBoundUptoSaid : Prop := matchBoundUptoRow.holds Try.pinned (OpenSpec.upto matchBoundSpec)

/-- 'splicerylaw16.MatchDistance', WHERE WHAT IT READS IS OF BULK AT MOST 1048576: true; the input reads as it did. -/
def matchDistanceUptoRow : OpenClaim := { program := "ytjkcjbicleohkaa", sum := "aded8fae0a9ee79a95c370be3a36500423aaabd5b27da379bf5573c1eab9e11e", func := "splicery/splicerylaw16.MatchDistance", spec := "matchDistance", unfollowed := true, recurses := true, plainKeys := false, apart := false, narrowed := true }
def MatchDistanceUptoSaid : Prop := matchDistanceUptoRow.holds Try.pinned (OpenSpec.upto matchDistanceSpec)

/-- 'splicerylaw16.MatchEdits', WHERE WHAT IT READS IS OF BULK AT MOST 1048576: true; the input reads as it did. -/
def matchEditsUptoRow : OpenClaim := { program := "ytjkcjbicleohkaa", sum := "aded8fae0a9ee79a95c370be3a36500423aaabd5b27da379bf5573c1eab9e11e", func := "splicery/splicerylaw16.MatchEdits", spec := "matchEdits", unfollowed := true, recurses := true, plainKeys := false, apart := false, narrowed := true }
def MatchEditsUptoSaid : Prop := matchEditsUptoRow.holds Try.pinned (OpenSpec.upto matchEditsSpec)

/-- 'splicerylaw16.MatchParts', WHERE WHAT IT READS IS OF BULK AT MOST 1048576: true; the input reads as it did. -/
def matchPartsUptoRow : OpenClaim := { program := "ytjkcjbicleohkaa", sum := "aded8fae0a9ee79a95c370be3a36500423aaabd5b27da379bf5573c1eab9e11e", func := "splicery/splicerylaw16.MatchParts", spec := "matchParts", unfollowed := true, recurses := true, plainKeys := false, apart := false, narrowed := true }
def MatchPartsUptoSaid : Prop := matchPartsUptoRow.holds Try.pinned (OpenSpec.upto matchPartsSpec)

/-- 'splicerylaw16.MatchUsable', WHERE WHAT IT READS IS OF BULK AT MOST 1048576: true; the input reads as it did. -/
def matchUsableUptoRow : OpenClaim := { program := "ytjkcjbicleohkaa", sum := "aded8fae0a9ee79a95c370be3a36500423aaabd5b27da379bf5573c1eab9e11e", func := "splicery/splicerylaw16.MatchUsable", spec := "matchUsable", unfollowed := true, recurses := true, plainKeys := false, apart := false, narrowed := true }
def MatchUsableUptoSaid : Prop := matchUsableUptoRow.holds Try.pinned (OpenSpec.upto matchUsableSpec)

end Rows
end Go.Proofs.Ytjkcjbicleohkaa

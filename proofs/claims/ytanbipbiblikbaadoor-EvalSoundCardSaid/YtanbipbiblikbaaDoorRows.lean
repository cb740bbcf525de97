/-
  NARROWER THAN 'FOR EVERY INPUT', by the rows' own cells (each row's printed sentence says how): EvalOps: laid · EvalNumbers: laid · EvalMost: laid · EvalCalls: laid · EvalFuel: laid · EvalSound: laid · EvalNames: laid.
  DERIVED. THE GIVEN ROWS OF THIS SEAT. 7 by the template 'for every input the law returns true; each argument reads behind the call as it read before'; 0 by the template 'total and deterministic' (their statements: YtanbipbiblikbaaDoorTotals.lean).
  GIVEN WITH THE SEED: the statements are not yours to turn. If you find one false, say at which input.
  Laid BY PROGRAM, IN A SANDBOX (cutbox-rows.mjs): the forced cells as the released guide's own fill.sh prints them over the translation b694eda62ffbe5a1… (all of the seat's roots in one cut). By AI agents, Wed Nov 11 2026. No macro, syntax, notation, axiom, sorry.
-/
import Derived.Test.YtanbipbiblikbaaDoorChecked
import GoSem.Claim
import GoSem.ClaimJoined
import GoSem.ClaimMapViews
import Derived.JoinedTies
import Derived.KernelRfl
namespace Go.Proofs.YtanbipbiblikbaaDoor
/- THE CELL 'sum', in the pinned program and in every row, IS THE sha256 OF THE DUMP (.gsa) THAT YtanbipbiblikbaaDoorProg.lean LOADS. Nothing in Lean hashes anything: it is a label: what it is worth is what the hold of that sum in a sandbox is worth. -/
noncomputable def Tryd.pinned : Pinned := { name := "ytanbipbiblikbaadoor", sum := "b694eda62ffbe5a172972c32091adb998be82e9847e10652cb79727b482f774d", checked := Tryd.checked }
namespace Rows
def none {H : Type} : Left H := { results := [], args := [] }

/- WHAT THE LISTED PACKAGE-LEVEL VARIABLES READ AS WHEN THE CALL BEGINS. Each datum BY PROGRAM (the guide's laid-datum.mjs) off the statement by which the dump's own 'gosem.cut.vars' lays the variable. In a bare row this is a premise. The card (YtanbipbiblikbaaDoorCards.lean) ties it to the program's text. -/
def laid_splicery_eval_numbers {H : Type} : DataW H := .iface "func table" (.agg [.iface "func" (.lit (.string [115, 112, 108, 105, 99, 101, 114, 121, 47, 101, 118, 97, 108, 46, 110, 117, 109, 98, 101, 114, 115, 36, 49])), .iface "func" (.lit (.string [115, 112, 108, 105, 99, 101, 114, 121, 47, 101, 118, 97, 108, 46, 110, 117, 109, 98, 101, 114, 115, 36, 50])), .iface "func" (.lit (.string [115, 112, 108, 105, 99, 101, 114, 121, 47, 101, 118, 97, 108, 46, 116, 105, 109, 101, 115])), .iface "func" (.lit (.string [115, 112, 108, 105, 99, 101, 114, 121, 47, 101, 118, 97, 108, 46, 100, 105, 118, 105, 100, 101])), .iface "func" (.lit (.string [115, 112, 108, 105, 99, 101, 114, 121, 47, 101, 118, 97, 108, 46, 114, 101, 115, 116]))])

/-- 'splicerylaw11.EvalOps': WHATEVER THE INPUT: true; the input reads as it did. -/
def evalOpsSpec : ChangeSpec := { name := "evalOps", fn := fun _ => fun
  | [d1, d2, d3, d4] => { results := [.lit (.bool true)], args := [d1, d2, d3, d4] }
  | _ => none }
def evalOpsRow : OpenClaim := { program := "ytanbipbiblikbaadoor", sum := "b694eda62ffbe5a172972c32091adb998be82e9847e10652cb79727b482f774d", func := "splicery/splicerylaw11.EvalOps", spec := "evalOps", unfollowed := true, recurses := true, named := ["splicery/eval.numbers"], plainKeys := false, apart := false, laid := [("splicery/eval.numbers", laid_splicery_eval_numbers)] }
def EvalOpsSaid : Prop := evalOpsRow.holds Tryd.pinned (OpenSpec.ofChange evalOpsSpec)

/-- ITS FALSE NEIGHBOUR: 'it returns false'. Refute it at one input. -/
def evalOpsWrong : ChangeSpec := { name := "evalOps", fn := fun _ => fun
  | [d1, d2, d3, d4] => { results := [.lit (.bool false)], args := [d1, d2, d3, d4] }
  | _ => none }
def EvalOpsWrongFalsely : Prop := evalOpsRow.holds Tryd.pinned (OpenSpec.ofChange evalOpsWrong)

/-- 'splicerylaw11.EvalNumbers': WHATEVER THE INPUT: true; the input reads as it did. -/
def evalNumbersSpec : ChangeSpec := { name := "evalNumbers", fn := fun _ => fun
  | [d1, d2] => { results := [.lit (.bool true)], args := [d1, d2] }
  | _ => none }
def evalNumbersRow : OpenClaim := { program := "ytanbipbiblikbaadoor", sum := "b694eda62ffbe5a172972c32091adb998be82e9847e10652cb79727b482f774d", func := "splicery/splicerylaw11.EvalNumbers", spec := "evalNumbers", unfollowed := true, recurses := true, named := ["splicery/eval.numbers"], plainKeys := false, apart := false, laid := [("splicery/eval.numbers", laid_splicery_eval_numbers)] }
def EvalNumbersSaid : Prop := evalNumbersRow.holds Tryd.pinned (OpenSpec.ofChange evalNumbersSpec)

/-- ITS FALSE NEIGHBOUR: 'it returns false'. Refute it at one input. -/
def evalNumbersWrong : ChangeSpec := { name := "evalNumbers", fn := fun _ => fun
  | [d1, d2] => { results := [.lit (.bool false)], args := [d1, d2] }
  | _ => none }
def EvalNumbersWrongFalsely : Prop := evalNumbersRow.holds Tryd.pinned (OpenSpec.ofChange evalNumbersWrong)

/-- 'splicerylaw11.EvalMost': WHATEVER THE INPUT: true; the input reads as it did. -/
def evalMostSpec : ChangeSpec := { name := "evalMost", fn := fun _ => fun
  | [d1, d2] => { results := [.lit (.bool true)], args := [d1, d2] }
  | _ => none }
def evalMostRow : OpenClaim := { program := "ytanbipbiblikbaadoor", sum := "b694eda62ffbe5a172972c32091adb998be82e9847e10652cb79727b482f774d", func := "splicery/splicerylaw11.EvalMost", spec := "evalMost", unfollowed := true, recurses := true, named := ["splicery/eval.numbers"], plainKeys := false, apart := false, laid := [("splicery/eval.numbers", laid_splicery_eval_numbers)] }
def EvalMostSaid : Prop := evalMostRow.holds Tryd.pinned (OpenSpec.ofChange evalMostSpec)

/-- ITS FALSE NEIGHBOUR: 'it returns false'. Refute it at one input. -/
def evalMostWrong : ChangeSpec := { name := "evalMost", fn := fun _ => fun
  | [d1, d2] => { results := [.lit (.bool false)], args := [d1, d2] }
  | _ => none }
def EvalMostWrongFalsely : Prop := evalMostRow.holds Tryd.pinned (OpenSpec.ofChange evalMostWrong)

/-- 'splicerylaw11.EvalCalls': WHATEVER THE INPUT: true; the input reads as it did. -/
def evalCallsSpec : ChangeSpec := { name := "evalCalls", fn := fun _ => fun
  | [d1, d2, d3, d4, d5, d6, d7] => { results := [.lit (.bool true)], args := [d1, d2, d3, d4, d5, d6, d7] }
  | _ => none }
def evalCallsRow : OpenClaim := { program := "ytanbipbiblikbaadoor", sum := "b694eda62ffbe5a172972c32091adb998be82e9847e10652cb79727b482f774d", func := "splicery/splicerylaw11.EvalCalls", spec := "evalCalls", unfollowed := true, recurses := true, named := ["splicery/eval.numbers"], plainKeys := false, apart := false, laid := [("splicery/eval.numbers", laid_splicery_eval_numbers)] }
def EvalCallsSaid : Prop := evalCallsRow.holds Tryd.pinned (OpenSpec.ofChange evalCallsSpec)

/-- ITS FALSE NEIGHBOUR: 'it returns false'. Refute it at one input. -/
def evalCallsWrong : ChangeSpec := { name := "evalCalls", fn := fun _ => fun
  | [d1, d2, d3, d4, d5, d6, d7] => { results := [.lit (.bool false)], args := [d1, d2, d3, d4, d5, d6, d7] }
  | _ => none }
def EvalCallsWrongFalsely : Prop := evalCallsRow.holds Tryd.pinned (OpenSpec.ofChange evalCallsWrong)

/-- 'splicerylaw11.EvalFuel': WHATEVER THE INPUT: true; the input reads as it did. -/
def evalFuelSpec : ChangeSpec := { name := "evalFuel", fn := fun _ => fun
  | [d1, d2, d3, d4] => { results := [.lit (.bool true)], args := [d1, d2, d3, d4] }
  | _ => none }
def evalFuelRow : OpenClaim := { program := "ytanbipbiblikbaadoor", sum := "b694eda62ffbe5a172972c32091adb998be82e9847e10652cb79727b482f774d", func := "splicery/splicerylaw11.EvalFuel", spec := "evalFuel", unfollowed := true, recurses := true, named := ["splicery/eval.numbers"], plainKeys := false, apart := false, laid := [("splicery/eval.numbers", laid_splicery_eval_numbers)] }
def EvalFuelSaid : Prop := evalFuelRow.holds Tryd.pinned (OpenSpec.ofChange evalFuelSpec)

/-- ITS FALSE NEIGHBOUR: 'it returns false'. Refute it at one input. -/
def evalFuelWrong : ChangeSpec := { name := "evalFuel", fn := fun _ => fun
  | [d1, d2, d3, d4] => { results := [.lit (.bool false)], args := [d1, d2, d3, d4] }
  | _ => none }
def EvalFuelWrongFalsely : Prop := evalFuelRow.holds Tryd.pinned (OpenSpec.ofChange evalFuelWrong)

/-- 'splicerylaw11.EvalSound': WHATEVER THE INPUT: true; the input reads as it did. -/
def evalSoundSpec : ChangeSpec := { name := "evalSound", fn := fun _ => fun
  | [d1, d2, d3, d4] => { results := [.lit (.bool true)], args := [d1, d2, d3, d4] }
  | _ => none }
def evalSoundRow : OpenClaim := { program := "ytanbipbiblikbaadoor", sum := "b694eda62ffbe5a172972c32091adb998be82e9847e10652cb79727b482f774d", func := "splicery/splicerylaw11.EvalSound", spec := "evalSound", unfollowed := true, recurses := true, named := ["splicery/eval.numbers"], plainKeys := false, apart := false, laid := [("splicery/eval.numbers", laid_splicery_eval_numbers)] }
def EvalSoundSaid : Prop := evalSoundRow.holds Tryd.pinned (OpenSpec.ofChange evalSoundSpec)

/-- ITS FALSE NEIGHBOUR: 'it returns false'. Refute it at one input. -/
def evalSoundWrong : ChangeSpec := { name := "evalSound", fn := fun _ => fun
  | [d1, d2, d3, d4] => { results := [.lit (.bool false)], args := [d1, d2, d3, d4] }
  | _ => none }
def EvalSoundWrongFalsely : Prop := evalSoundRow.holds Tryd.pinned (OpenSpec.ofChange evalSoundWrong)

/-- 'splicerylaw11.EvalNames': WHATEVER THE INPUT: true; the input reads as it did. -/
def evalNamesSpec : ChangeSpec := { name := "evalNames", fn := fun _ => fun
  | [d1, d2, d3, d4] => { results := [.lit (.bool true)], args := [d1, d2, d3, d4] }
  | _ => none }
def evalNamesRow : OpenClaim := { program := "ytanbipbiblikbaadoor", sum := "b694eda62ffbe5a172972c32091adb998be82e9847e10652cb79727b482f774d", func := "splicery/splicerylaw11.EvalNames", spec := "evalNames", unfollowed := true, recurses := true, named := ["splicery/eval.numbers"], plainKeys := false, apart := false, laid := [("splicery/eval.numbers", laid_splicery_eval_numbers)] }
def EvalNamesSaid : Prop := evalNamesRow.holds Tryd.pinned (OpenSpec.ofChange evalNamesSpec)

/-- ITS FALSE NEIGHBOUR: 'it returns false'. Refute it at one input. -/
def evalNamesWrong : ChangeSpec := { name := "evalNames", fn := fun _ => fun
  | [d1, d2, d3, d4] => { results := [.lit (.bool false)], args := [d1, d2, d3, d4] }
  | _ => none }
def EvalNamesWrongFalsely : Prop := evalNamesRow.holds Tryd.pinned (OpenSpec.ofChange evalNamesWrong)

/- THE SECOND FORM. 'bulk': how many values and letters a reading holds, each counted each time it is reached (what is shared counts as often as it is met; a slice's spare places count too). A statement '..UptoSaid' is the law's where the arguments, and the package variables that the reading takes, are together of bulk at most 1048576: NARROWER than '..Said'. Prove '..Said' where nothing that the law and all that it calls make is longer than what came in: it says more and counts as full. Else prove '..UptoSaid'. A law counts once. -/
mutual
def uptoBulk {H : Type} : DataW H → Nat
  | .lit (.string bytes) => bytes.length + 1
  | .lit _ => 1
  | .nil => 1
  | .ptr d => uptoBulk d + 1
  | .slice elems spare => uptoBulkAll elems + uptoBulkAll spare + 1
  | .agg parts => uptoBulkAll parts + 1
  | .iface _ d => uptoBulk d + 1
  | .map entries => uptoBulkEntries entries + 1
  | .held _ => 1
def uptoBulkAll {H : Type} : List (DataW H) → Nat
  | [] => 0
  | d :: r => uptoBulk d + uptoBulkAll r
def uptoBulkEntries {H : Type} : List (Lit × DataW H) → Nat
  | [] => 0
  | x :: r => uptoBulkEntry x + uptoBulkEntries r
def uptoBulkEntry {H : Type} : Lit × DataW H → Nat
  | (.string bytes, d) => bytes.length + uptoBulk d + 1
  | (_, d) => uptoBulk d + 1
 end
def uptoSmall : (H : Type) → List (DataW H) → Bool := fun _ ds => decide (uptoBulkAll ds ≤ 1048576)
def OpenSpec.upto (s : _root_.Go.ChangeSpec) : _root_.Go.OpenSpec := { _root_.Go.OpenSpec.ofChange s with cond := some uptoSmall }

/-- 'splicerylaw11.EvalOps', WHERE WHAT IT READS IS OF BULK AT MOST 1048576: true; the input reads as it did. -/
def evalOpsUptoRow : OpenClaim := { program := "ytanbipbiblikbaadoor", sum := "b694eda62ffbe5a172972c32091adb998be82e9847e10652cb79727b482f774d", func := "splicery/splicerylaw11.EvalOps", spec := "evalOps", unfollowed := true, recurses := true, named := ["splicery/eval.numbers"], plainKeys := false, apart := false, laid := [("splicery/eval.numbers", laid_splicery_eval_numbers)], narrowed := true }
def EvalOpsUptoSaid : Prop := evalOpsUptoRow.holds Tryd.pinned (OpenSpec.upto evalOpsSpec)

/-- 'splicerylaw11.EvalNumbers', WHERE WHAT IT READS IS OF BULK AT MOST 1048576: true; the input reads as it did. -/
def evalNumbersUptoRow : OpenClaim := { program := "ytanbipbiblikbaadoor", sum := "b694eda62ffbe5a172972c32091adb998be82e9847e10652cb79727b482f774d", func := "splicery/splicerylaw11.EvalNumbers", spec := "evalNumbers", unfollowed := true, recurses := true, named := ["splicery/eval.numbers"], plainKeys := false, apart := false, laid := [("splicery/eval.numbers", laid_splicery_eval_numbers)], narrowed := true }
def EvalNumbersUptoSaid : Prop := evalNumbersUptoRow.holds Tryd.pinned (OpenSpec.upto evalNumbersSpec)

/-- 'splicerylaw11.EvalMost', WHERE WHAT IT READS IS OF BULK AT MOST 1048576: true; the input reads as it did. -/
def evalMostUptoRow : OpenClaim := { program := "ytanbipbiblikbaadoor", sum := "b694eda62ffbe5a172972c32091adb998be82e9847e10652cb79727b482f774d", func := "splicery/splicerylaw11.EvalMost", spec := "evalMost", unfollowed := true, recurses := true, named := ["splicery/eval.numbers"], plainKeys := false, apart := false, laid := [("splicery/eval.numbers", laid_splicery_eval_numbers)], narrowed := true }
def EvalMostUptoSaid : Prop := evalMostUptoRow.holds Tryd.pinned (OpenSpec.upto evalMostSpec)

/-- 'splicerylaw11.EvalCalls', WHERE WHAT IT READS IS OF BULK AT MOST 1048576: true; the input reads as it did. -/
def evalCallsUptoRow : OpenClaim := { program := "ytanbipbiblikbaadoor", sum := "b694eda62ffbe5a172972c32091adb998be82e9847e10652cb79727b482f774d", func := "splicery/splicerylaw11.EvalCalls", spec := "evalCalls", unfollowed := true, recurses := true, named := ["splicery/eval.numbers"], plainKeys := false, apart := false, laid := [("splicery/eval.numbers", laid_splicery_eval_numbers)], narrowed := true }
def EvalCallsUptoSaid : Prop := evalCallsUptoRow.holds Tryd.pinned (OpenSpec.upto evalCallsSpec)

/-- 'splicerylaw11.EvalFuel', WHERE WHAT IT READS IS OF BULK AT MOST 1048576: true; the input reads as it did. -/
def evalFuelUptoRow : OpenClaim := { program := "ytanbipbiblikbaadoor", sum := "b694eda62ffbe5a172972c32091adb998be82e9847e10652cb79727b482f774d", func := "splicery/splicerylaw11.EvalFuel", spec := "evalFuel", unfollowed := true, recurses := true, named := ["splicery/eval.numbers"], plainKeys := false, apart := false, laid := [("splicery/eval.numbers", laid_splicery_eval_numbers)], narrowed := true }
def EvalFuelUptoSaid : Prop := evalFuelUptoRow.holds Tryd.pinned (OpenSpec.upto evalFuelSpec)

/-- 'splicerylaw11.EvalSound', WHERE WHAT IT READS IS OF BULK AT MOST 1048576: true; the input reads as it did. -/
def evalSoundUptoRow : OpenClaim := { program := "ytanbipbiblikbaadoor", sum := "b694eda62ffbe5a172972c32091adb998be82e9847e10652cb79727b482f774d", func := "splicery/splicerylaw11.EvalSound", spec := "evalSound", unfollowed := true, recurses := true, named := ["splicery/eval.numbers"], plainKeys := false, apart := false, laid := [("splicery/eval.numbers", laid_splicery_eval_numbers)], narrowed := true }
def EvalSoundUptoSaid : Prop := evalSoundUptoRow.holds Tryd.pinned (OpenSpec.upto evalSoundSpec)

/-- 'splicerylaw11.EvalNames', WHERE WHAT IT READS IS OF BULK AT MOST 1048576: true; the input reads as it did. -/
def evalNamesUptoRow : OpenClaim := { program := "ytanbipbiblikbaadoor", sum := "b694eda62ffbe5a172972c32091adb998be82e9847e10652cb79727b482f774d", func := "splicery/splicerylaw11.EvalNames", spec := "evalNames", unfollowed := true, recurses := true, named := ["splicery/eval.numbers"], plainKeys := false, apart := false, laid := [("splicery/eval.numbers", laid_splicery_eval_numbers)], narrowed := true }
def EvalNamesUptoSaid : Prop := evalNamesUptoRow.holds Tryd.pinned (OpenSpec.upto evalNamesSpec)

end Rows
end Go.Proofs.YtanbipbiblikbaaDoor

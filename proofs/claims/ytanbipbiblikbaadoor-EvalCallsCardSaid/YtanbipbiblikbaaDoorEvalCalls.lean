/-
  For all lists of integers and integers, EvalCalls returns true and its arguments read afterwards as they did. Condition: the package variable numbers of package eval holds its five functions, which the card ties to the text.
-/
import Derived.Test.YtanbipbiblikbaaDoorRows
import Derived.Test.YtanbipbiblikbaaDoorCards
import Derived.Test.YtanbipbiblikbaaDoorTie
import Derived.Test.YtanbipbiblikbaaDoorPc7
namespace Go.Proofs.YtanbipbiblikbaaDoor
open Xe
set_option maxRecDepth 100000

theorem spec6 {H : Type} (ds : List (DataW H)) (h : ds.length = Tryd.f6.params.toList.length) : Rows.evalCallsSpec.fn H ds = { results := [.lit (.bool true)], args := ds, vars := [] } := by
  rw [Tryd.params6] at h
  match ds, h with
  | [d1, d2, d3, d4, d5, d6, d7], _ => rfl
theorem args6 {W : World} {vs : List Value} (hL : laidMetH Tryd.prog Cg W) (h : ArgsW Tryd.prog (ef W) Tryd.f6.params.toList vs) : aC Tryd.prog W (ef W) [] 6 vs.toArray (Is (ef W) [] (.bool true)) := by
  rw [Tryd.params6] at h
  obtain ⟨l, ul, vs, rfl, hl, hli, k1⟩ := zX h
  obtain ⟨which, vs, rfl, hwhichi, k2⟩ := pV k1
  obtain ⟨m, um, vs, rfl, hm, hmi, k3⟩ := zX k2
  obtain ⟨pl, vs, rfl, hpli, k4⟩ := pV k3
  obtain ⟨how, vs, rfl, hhowi, k5⟩ := pV k4
  obtain ⟨wth, vs, rfl, hwthi, k6⟩ := pV k5
  obtain ⟨fuel, vs, rfl, hfueli, k7⟩ := pV k6
  obtain rfl := k7.nil_inv
  exact p4 W (ef W) l ul which m um pl how wth fuel hl hm (nums_of hL) hli hwhichi hmi hpli hhowi hwthi hfueli
theorem reads6 (os : Os) {H : Type} (enc : TypeId × Value → H) : ∃ places, DataW.whole enc Tryd.prog ((World.doorLaid Tryd.prog 600 os).forCall (fun _ _ => 0) ⟨#[], #[.slice none 0 0, .int .i64 0, .slice none 0 0, .int .i64 0, .int .i64 0, .int .i64 0, .int .i64 0], []⟩).memory Tryd.f6.params.toList Rows.evalCallsSpec.vars false #[.slice none 0 0, .int .i64 0, .slice none 0 0, .int .i64 0, .int .i64 0, .int .i64 0, .int .i64 0].toList 8 = some ([.nil, .lit (.int .i64 0), .nil, .lit (.int .i64 0), .lit (.int .i64 0), .lit (.int .i64 0), .lit (.int .i64 0)], [], places) :=
  ⟨[], by kernel_rfl⟩
theorem lifted6 (os : Os) (started : os.Started) (H : Type) (enc : TypeId × Value → H) (F : Stop.Interp) :
    ReturnsInHanded {} Tryd.checked os 6 .any ((OpenSpec.ofChange Rows.evalCallsSpec).preRow enc Tryd.prog Tryd.f6 Rows.evalCallsRow.domain false Rows.evalCallsRow.laid) (((OpenSpec.ofChange Rows.evalCallsSpec).at F).post enc Tryd.prog Tryd.f6 false true false false) := by
  obtain ⟨places, hx⟩ := reads6 os enc
  exact zg (C := Tryd.checked) (s := Rows.evalCallsSpec) (tb := 4) (laid := Cg) [3, 9, 22, 29, 30, 32, 35, 36, 38, 46, 47, 48, 50, 52, 24, 26, 68, 58, 76] ownKn started (by kernel_rfl) Tryd.func6 (by kernel_rfl) (by kernel_rfl) Tryd.underlying4 (by kernel_rfl) (by kernel_rfl) rfl (fun ds h => spec6 ds h)
    (witness_row_at (enc := enc) (C := Tryd.checked) false (World.doorLaid Tryd.prog 600 os) #[.slice none 0 0, .int .i64 0, .slice none 0 0, .int .i64 0, .int .i64 0, .int .i64 0, .int .i64 0] rfl (by kernel_rfl) (by kernel_rfl) (by kernel_rfl)
      (OpenSpec.preRow_of_cond 8 hx (by kernel_rfl) (fun k hk => by cases hk) (by kernel_rfl) (GK os _))) (fun _ _ hL h => args6 hL h)
theorem evalCalls_said : Rows.EvalCallsSaid :=
  OpenClaim.holds_of_cond 6 Tryd.f6 rfl rfl rfl rfl rfl rfl rfl ⟨rfl, rfl, rfl, rfl, rfl⟩ rfl rfl rfl rfl rfl (by kernel_rfl) Tryd.func6 (by kernel_rfl)
    (of_decide_eq_true (by kernel_rfl)) (by unfold Func.isWrapper; first | (rw [if_pos (by decide +kernel)]; kernel_rfl) | (rw [if_neg (by decide +kernel)]; exact ⟨rfl, rfl⟩))
    (fun os started H enc _ F => by rw [OpenClaim.pre_eq_preRow]; exact lifted6 os started H enc F)
theorem plain6 (f : FuncId) (fn : Func) (hf : Tryd.pinned.checked.prog.funcNamed "splicery/splicerylaw11.EvalCalls" = some f) (hfn : Tryd.pinned.checked.prog.funcs[f]? = some fn) :
    true = Tryd.pinned.checked.prog.looks [] ∧ ∀ (j : Nat) t, fn.params[j]? = some t → Tryd.pinned.checked.prog.wantsStandIn t = false := by
  obtain rfl : f = 6 := Option.some.inj ((show Tryd.prog.funcNamed "splicery/splicerylaw11.EvalCalls" = some 6 by kernel_rfl).symm.trans hf) |>.symm
  obtain rfl : fn = Tryd.f6 := (Option.some.inj (Tryd.func6.symm.trans hfn)).symm
  refine ⟨by kernel_rfl, fun j t ht => ?_⟩
  have hall : (Tryd.f6.params.toList.all fun t => !Tryd.prog.wantsStandIn t) = true := by kernel_rfl
  have := List.all_eq_true.1 hall t (Array.mem_toList_iff.2 (Array.mem_of_getElem? ht))
  exact (show Tryd.prog.wantsStandIn t = false by simpa using this)
theorem evalCalls_card : Rows.EvalCallsCardSaid :=
  Claim7.holds_tied_plain_at .later [] _ _ _ _ evalCalls_said (fun _ h => by cases h) (by kernel_rfl) (fun _ h => by cases h) evalCalls_row_tie rfl ⟨rfl, rfl⟩ (by kernel_rfl) rfl plain6 (by kernel_rfl)
#print axioms evalCalls_card
end Go.Proofs.YtanbipbiblikbaaDoor

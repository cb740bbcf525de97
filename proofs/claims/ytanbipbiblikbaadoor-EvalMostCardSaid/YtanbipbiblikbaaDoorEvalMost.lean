/-
  For all lists of integers and IDs, EvalMost returns true and its arguments read afterwards as they did. Condition: the package variable numbers of package eval holds its five functions, which the card ties to the text.
-/
import Derived.Test.YtanbipbiblikbaaDoorRows
import Derived.Test.YtanbipbiblikbaaDoorCards
import Derived.Test.YtanbipbiblikbaaDoorTie
import Derived.Test.YtanbipbiblikbaaDoorPk6
namespace Go.Proofs.YtanbipbiblikbaaDoor
open Xe
set_option maxRecDepth 100000

theorem spec5 {H : Type} (ds : List (DataW H)) (h : ds.length = Tryd.f5.params.toList.length) : Rows.evalMostSpec.fn H ds = { results := [.lit (.bool true)], args := ds, vars := [] } := by
  rw [Tryd.params5] at h
  match ds, h with
  | [d1, d2], _ => rfl
theorem args5 {W : World} {vs : List Value} (hL : laidMetH Tryd.prog laidN W) (h : ArgsW Tryd.prog (memOf W) Tryd.f5.params.toList vs) : CallOk Tryd.prog W (memOf W) [] 5 vs.toArray (Is (memOf W) [] (.bool true)) := by
  rw [Tryd.params5] at h
  obtain ⟨l, ul, vs, rfl, hl, hli, k1⟩ := arg_ints h
  obtain ⟨other, vs, rfl, k2⟩ := arg_id k1
  obtain rfl := k2.nil_inv
  exact EvalMost_ok W (memOf W) l ul other hl (nums_of hL) hli
theorem reads5 (os : Os) {H : Type} (enc : TypeId × Value → H) : ∃ places, DataW.whole enc Tryd.prog ((World.doorLaid Tryd.prog 600 os).forCall (fun _ _ => 0) ⟨#[], #[.slice none 0 0, .agg #[.int .i64 0, .int .i64 0, .int .i64 0]], []⟩).memory Tryd.f5.params.toList Rows.evalMostSpec.vars false #[.slice none 0 0, .agg #[.int .i64 0, .int .i64 0, .int .i64 0]].toList 8 = some ([.nil, .agg [.lit (.int .i64 0), .lit (.int .i64 0), .lit (.int .i64 0)]], [], places) :=
  ⟨[], by kernel_rfl⟩
theorem lifted5 (os : Os) (started : os.Started) (H : Type) (enc : TypeId × Value → H) (F : Stop.Interp) :
    ReturnsInHanded {} Tryd.checked os 5 .any ((OpenSpec.ofChange Rows.evalMostSpec).preRow enc Tryd.prog Tryd.f5 Rows.evalMostRow.domain false Rows.evalMostRow.laid) (((OpenSpec.ofChange Rows.evalMostSpec).at F).post enc Tryd.prog Tryd.f5 false true false false) := by
  obtain ⟨places, hx⟩ := reads5 os enc
  exact law_liftedT (C := Tryd.checked) (s := Rows.evalMostSpec) (tb := 4) (laid := laidN) [3, 9, 22, 29, 30, 32, 35, 36, 38, 46, 47, 48, 50, 52, 24, 26, 68, 58, 76] ownKn started (by kernel_rfl) Tryd.func5 (by kernel_rfl) (by kernel_rfl) Tryd.underlying4 (by kernel_rfl) (by kernel_rfl) rfl (fun ds h => spec5 ds h)
    (witness_row_at (enc := enc) (C := Tryd.checked) false (World.doorLaid Tryd.prog 600 os) #[.slice none 0 0, .agg #[.int .i64 0, .int .i64 0, .int .i64 0]] rfl (by kernel_rfl) (by kernel_rfl) (by kernel_rfl)
      (OpenSpec.preRow_of_cond 8 hx (by kernel_rfl) (fun k hk => by cases hk) (by kernel_rfl) (door_met os _))) (fun _ _ hL h => args5 hL h)
theorem evalMost_said : Rows.EvalMostSaid :=
  OpenClaim.holds_of_cond 5 Tryd.f5 rfl rfl rfl rfl rfl rfl rfl ⟨rfl, rfl, rfl, rfl, rfl⟩ rfl rfl rfl rfl rfl (by kernel_rfl) Tryd.func5 (by kernel_rfl)
    (of_decide_eq_true (by kernel_rfl)) (by unfold Func.isWrapper; first | (rw [if_pos (by decide +kernel)]; kernel_rfl) | (rw [if_neg (by decide +kernel)]; exact ⟨rfl, rfl⟩))
    (fun os started H enc _ F => by rw [OpenClaim.pre_eq_preRow]; exact lifted5 os started H enc F)
theorem plain5 (f : FuncId) (fn : Func) (hf : Tryd.pinned.checked.prog.funcNamed "splicery/splicerylaw11.EvalMost" = some f) (hfn : Tryd.pinned.checked.prog.funcs[f]? = some fn) :
    true = Tryd.pinned.checked.prog.looks [] ∧ ∀ (j : Nat) t, fn.params[j]? = some t → Tryd.pinned.checked.prog.wantsStandIn t = false := by
  obtain rfl : f = 5 := Option.some.inj ((show Tryd.prog.funcNamed "splicery/splicerylaw11.EvalMost" = some 5 by kernel_rfl).symm.trans hf) |>.symm
  obtain rfl : fn = Tryd.f5 := (Option.some.inj (Tryd.func5.symm.trans hfn)).symm
  refine ⟨by kernel_rfl, fun j t ht => ?_⟩
  have hall : (Tryd.f5.params.toList.all fun t => !Tryd.prog.wantsStandIn t) = true := by kernel_rfl
  have := List.all_eq_true.1 hall t (Array.mem_toList_iff.2 (Array.mem_of_getElem? ht))
  exact (show Tryd.prog.wantsStandIn t = false by simpa using this)
theorem evalMost_card : Rows.EvalMostCardSaid :=
  Claim7.holds_tied_plain_at .later [] _ _ _ _ evalMost_said (fun _ h => by cases h) (by kernel_rfl) (fun _ h => by cases h) evalMost_row_tie rfl ⟨rfl, rfl⟩ (by kernel_rfl) rfl plain5 (by kernel_rfl)
#print axioms evalMost_card
end Go.Proofs.YtanbipbiblikbaaDoor

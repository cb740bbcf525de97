/-
  For all integers and lists of integers, EvalOps returns true and its arguments read afterwards as they did. Condition: the package variable numbers of package eval holds its five functions, which the card ties to the text.
-/
import Derived.Test.YtanbipbiblikbaaDoorRows
import Derived.Test.YtanbipbiblikbaaDoorCards
import Derived.Test.YtanbipbiblikbaaDoorTie
import Derived.Test.YtanbipbiblikbaaDoorPk5
namespace Go.Proofs.YtanbipbiblikbaaDoor
open Xe
set_option maxRecDepth 100000

theorem spec3 {H : Type} (ds : List (DataW H)) (h : ds.length = Tryd.f3.params.toList.length) : Rows.evalOpsSpec.fn H ds = { results := [.lit (.bool true)], args := ds, vars := [] } := by
  rw [Tryd.params3] at h
  match ds, h with
  | [d1, d2, d3, d4], _ => rfl
theorem args3 {W : World} {vs : List Value} (hL : laidMetH Tryd.prog laidN W) (h : ArgsW Tryd.prog (memOf W) Tryd.f3.params.toList vs) : CallOk Tryd.prog W (memOf W) [] 3 vs.toArray (Is (memOf W) [] (.bool true)) := by
  rw [Tryd.params3] at h
  obtain ⟨a, vs, rfl, hai, k1⟩ := arg_int h
  obtain ⟨b, vs, rfl, hbi, k2⟩ := arg_int k1
  obtain ⟨l, ul, vs, rfl, hl, hli, k3⟩ := arg_ints k2
  obtain ⟨m, um, vs, rfl, hm, hmi, k4⟩ := arg_ints k3
  obtain rfl := k4.nil_inv
  exact EvalOps_ok W (memOf W) [] a b l ul m um (Kn.of hl) (Kn.of hm) (nums_of hL) hai hbi hli hmi
theorem reads3 (os : Os) {H : Type} (enc : TypeId × Value → H) : ∃ places, DataW.whole enc Tryd.prog ((World.doorLaid Tryd.prog 600 os).forCall (fun _ _ => 0) ⟨#[], #[.int .i64 0, .int .i64 0, .slice none 0 0, .slice none 0 0], []⟩).memory Tryd.f3.params.toList Rows.evalOpsSpec.vars false #[.int .i64 0, .int .i64 0, .slice none 0 0, .slice none 0 0].toList 8 = some ([.lit (.int .i64 0), .lit (.int .i64 0), .nil, .nil], [], places) :=
  ⟨[], by kernel_rfl⟩
theorem lifted3 (os : Os) (started : os.Started) (H : Type) (enc : TypeId × Value → H) (F : Stop.Interp) :
    ReturnsInHanded {} Tryd.checked os 3 .any ((OpenSpec.ofChange Rows.evalOpsSpec).preRow enc Tryd.prog Tryd.f3 Rows.evalOpsRow.domain false Rows.evalOpsRow.laid) (((OpenSpec.ofChange Rows.evalOpsSpec).at F).post enc Tryd.prog Tryd.f3 false true false false) := by
  obtain ⟨places, hx⟩ := reads3 os enc
  exact law_liftedT (C := Tryd.checked) (s := Rows.evalOpsSpec) (tb := 4) (laid := laidN) [3, 9, 22, 29, 30, 32, 35, 36, 38, 46, 47, 48, 50, 52, 24, 26, 68, 58, 76] ownKn started (by kernel_rfl) Tryd.func3 (by kernel_rfl) (by kernel_rfl) Tryd.underlying4 (by kernel_rfl) (by kernel_rfl) rfl (fun ds h => spec3 ds h)
    (witness_row_at (enc := enc) (C := Tryd.checked) false (World.doorLaid Tryd.prog 600 os) #[.int .i64 0, .int .i64 0, .slice none 0 0, .slice none 0 0] rfl (by kernel_rfl) (by kernel_rfl) (by kernel_rfl)
      (OpenSpec.preRow_of_cond 8 hx (by kernel_rfl) (fun k hk => by cases hk) (by kernel_rfl) (door_met os _))) (fun _ _ hL h => args3 hL h)
theorem evalOps_said : Rows.EvalOpsSaid :=
  OpenClaim.holds_of_cond 3 Tryd.f3 rfl rfl rfl rfl rfl rfl rfl ⟨rfl, rfl, rfl, rfl, rfl⟩ rfl rfl rfl rfl rfl (by kernel_rfl) Tryd.func3 (by kernel_rfl)
    (of_decide_eq_true (by kernel_rfl)) (by unfold Func.isWrapper; first | (rw [if_pos (by decide +kernel)]; kernel_rfl) | (rw [if_neg (by decide +kernel)]; exact ⟨rfl, rfl⟩))
    (fun os started H enc _ F => by rw [OpenClaim.pre_eq_preRow]; exact lifted3 os started H enc F)
theorem plain3 (f : FuncId) (fn : Func) (hf : Tryd.pinned.checked.prog.funcNamed "splicery/splicerylaw11.EvalOps" = some f) (hfn : Tryd.pinned.checked.prog.funcs[f]? = some fn) :
    true = Tryd.pinned.checked.prog.looks [] ∧ ∀ (j : Nat) t, fn.params[j]? = some t → Tryd.pinned.checked.prog.wantsStandIn t = false := by
  obtain rfl : f = 3 := Option.some.inj ((show Tryd.prog.funcNamed "splicery/splicerylaw11.EvalOps" = some 3 by kernel_rfl).symm.trans hf) |>.symm
  obtain rfl : fn = Tryd.f3 := (Option.some.inj (Tryd.func3.symm.trans hfn)).symm
  refine ⟨by kernel_rfl, fun j t ht => ?_⟩
  have hall : (Tryd.f3.params.toList.all fun t => !Tryd.prog.wantsStandIn t) = true := by kernel_rfl
  have := List.all_eq_true.1 hall t (Array.mem_toList_iff.2 (Array.mem_of_getElem? ht))
  exact (show Tryd.prog.wantsStandIn t = false by simpa using this)
theorem evalOps_card : Rows.EvalOpsCardSaid :=
  Claim7.holds_tied_plain_at .later [] _ _ _ _ evalOps_said (fun _ h => by cases h) (by kernel_rfl) (fun _ h => by cases h) evalOps_row_tie rfl ⟨rfl, rfl⟩ (by kernel_rfl) rfl plain3 (by kernel_rfl)
#print axioms evalOps_card
end Go.Proofs.YtanbipbiblikbaaDoor

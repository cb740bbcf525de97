/-
  For all lists of integers and integers, EvalNames returns true and its arguments read afterwards as they did. Condition: the package variable numbers of package eval holds its five functions, which the card ties to the text.
-/
import Derived.Test.YtanbipbiblikbaaDoorRows
import Derived.Test.YtanbipbiblikbaaDoorCards
import Derived.Test.YtanbipbiblikbaaDoorTie
import Derived.Test.YtanbipbiblikbaaDoorPn6
namespace Go.Proofs.YtanbipbiblikbaaDoor
open Xe
set_option maxRecDepth 100000

theorem spec9 {H : Type} (ds : List (DataW H)) (h : ds.length = Tryd.f9.params.toList.length) : Rows.evalNamesSpec.fn H ds = { results := [.lit (.bool true)], args := ds, vars := [] } := by
  rw [Tryd.params9] at h
  match ds, h with
  | [d1, d2, d3, d4], _ => rfl
theorem args9 {W : World} {vs : List Value} (hL : laidMetH Tryd.prog B3 W) (h : ArgsW Tryd.prog (dW W) Tryd.f9.params.toList vs) : aA Tryd.prog W (dW W) [] 9 vs.toArray (Is (dW W) [] (.bool true)) := by
  rw [Tryd.params9] at h
  obtain ⟨l, ul, vs, rfl, hl, hli, k1⟩ := zI h
  obtain ⟨which, vs, rfl, hwhichi, k2⟩ := Cu k1
  obtain ⟨m, um, vs, rfl, hm, hmi, k3⟩ := zI k2
  obtain ⟨fuel, vs, rfl, hfueli, k4⟩ := Cu k3
  obtain rfl := k4.nil_inv
  exact pz W (dW W) l ul which m um fuel hl hm (nums_of hL) hli hwhichi hmi hfueli
theorem reads9 (os : Os) {H : Type} (enc : TypeId × Value → H) : ∃ places, DataW.whole enc Tryd.prog ((World.doorLaid Tryd.prog 600 os).forCall (fun _ _ => 0) ⟨#[], #[.slice none 0 0, .int .i64 0, .slice none 0 0, .int .i64 0], []⟩).memory Tryd.f9.params.toList Rows.evalNamesSpec.vars false #[.slice none 0 0, .int .i64 0, .slice none 0 0, .int .i64 0].toList 8 = some ([.nil, .lit (.int .i64 0), .nil, .lit (.int .i64 0)], [], places) :=
  ⟨[], by kernel_rfl⟩
theorem lifted9 (os : Os) (started : os.Started) (H : Type) (enc : TypeId × Value → H) (F : Stop.Interp) :
    ReturnsInHanded {} Tryd.checked os 9 .any ((OpenSpec.ofChange Rows.evalNamesSpec).preRow enc Tryd.prog Tryd.f9 Rows.evalNamesRow.domain false Rows.evalNamesRow.laid) (((OpenSpec.ofChange Rows.evalNamesSpec).at F).post enc Tryd.prog Tryd.f9 false true false false) := by
  obtain ⟨places, hx⟩ := reads9 os enc
  exact yP (C := Tryd.checked) (s := Rows.evalNamesSpec) (tb := 4) (laid := B3) [3, 9, 22, 29, 30, 32, 35, 36, 38, 46, 47, 48, 50, 52, 24, 26, 68, 58, 76] ownKn started (by kernel_rfl) Tryd.func9 (by kernel_rfl) (by kernel_rfl) Tryd.underlying4 (by kernel_rfl) (by kernel_rfl) rfl (fun ds h => spec9 ds h)
    (witness_row_at (enc := enc) (C := Tryd.checked) false (World.doorLaid Tryd.prog 600 os) #[.slice none 0 0, .int .i64 0, .slice none 0 0, .int .i64 0] rfl (by kernel_rfl) (by kernel_rfl) (by kernel_rfl)
      (OpenSpec.preRow_of_cond 8 hx (by kernel_rfl) (fun k hk => by cases hk) (by kernel_rfl) (Gx os _))) (fun _ _ hL h => args9 hL h)
theorem evalNames_said : Rows.EvalNamesSaid :=
  OpenClaim.holds_of_cond 9 Tryd.f9 rfl rfl rfl rfl rfl rfl rfl ⟨rfl, rfl, rfl, rfl, rfl⟩ rfl rfl rfl rfl rfl (by kernel_rfl) Tryd.func9 (by kernel_rfl)
    (of_decide_eq_true (by kernel_rfl)) (by unfold Func.isWrapper; first | (rw [if_pos (by decide +kernel)]; kernel_rfl) | (rw [if_neg (by decide +kernel)]; exact ⟨rfl, rfl⟩))
    (fun os started H enc _ F => by rw [OpenClaim.pre_eq_preRow]; exact lifted9 os started H enc F)
theorem plain9 (f : FuncId) (fn : Func) (hf : Tryd.pinned.checked.prog.funcNamed "splicery/splicerylaw11.EvalNames" = some f) (hfn : Tryd.pinned.checked.prog.funcs[f]? = some fn) :
    true = Tryd.pinned.checked.prog.looks [] ∧ ∀ (j : Nat) t, fn.params[j]? = some t → Tryd.pinned.checked.prog.wantsStandIn t = false := by
  obtain rfl : f = 9 := Option.some.inj ((show Tryd.prog.funcNamed "splicery/splicerylaw11.EvalNames" = some 9 by kernel_rfl).symm.trans hf) |>.symm
  obtain rfl : fn = Tryd.f9 := (Option.some.inj (Tryd.func9.symm.trans hfn)).symm
  refine ⟨by kernel_rfl, fun j t ht => ?_⟩
  have hall : (Tryd.f9.params.toList.all fun t => !Tryd.prog.wantsStandIn t) = true := by kernel_rfl
  have := List.all_eq_true.1 hall t (Array.mem_toList_iff.2 (Array.mem_of_getElem? ht))
  exact (show Tryd.prog.wantsStandIn t = false by simpa using this)
theorem evalNames_card : Rows.EvalNamesCardSaid :=
  Claim7.holds_tied_plain_at .later [] _ _ _ _ evalNames_said (fun _ h => by cases h) (by kernel_rfl) (fun _ h => by cases h) evalNames_row_tie rfl ⟨rfl, rfl⟩ (by kernel_rfl) rfl plain9 (by kernel_rfl)
#print axioms evalNames_card
end Go.Proofs.YtanbipbiblikbaaDoor

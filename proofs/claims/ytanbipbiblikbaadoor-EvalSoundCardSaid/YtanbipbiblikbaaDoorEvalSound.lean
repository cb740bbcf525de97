/-
  For all lists of integers and integers, EvalSound returns true and its arguments read afterwards as they did. Condition: the package variable numbers of package eval holds its five functions, which the card ties to the text.
-/
import Derived.Test.YtanbipbiblikbaaDoorRows
import Derived.Test.YtanbipbiblikbaaDoorCards
import Derived.Test.YtanbipbiblikbaaDoorTie
import Derived.Test.YtanbipbiblikbaaDoorPs6
namespace Go.Proofs.YtanbipbiblikbaaDoor
open Xe
set_option maxRecDepth 100000

theorem spec8 {H : Type} (ds : List (DataW H)) (h : ds.length = Tryd.f8.params.toList.length) : Rows.evalSoundSpec.fn H ds = { results := [.lit (.bool true)], args := ds, vars := [] } := by
  rw [Tryd.params8] at h
  match ds, h with
  | [d1, d2, d3, d4], _ => rfl
theorem args8 {W : World} {vs : List Value} (hL : laidMetH Tryd.prog Bq W) (h : ArgsW Tryd.prog (dW W) Tryd.f8.params.toList vs) : aA Tryd.prog W (dW W) [] 8 vs.toArray (Is (dW W) [] (.bool true)) := by
  rw [Tryd.params8] at h
  obtain ⟨l, ul, vs, rfl, hl, hli, k1⟩ := yZ h
  obtain ⟨which, vs, rfl, hwhichi, k2⟩ := BS k1
  obtain ⟨m, um, vs, rfl, hm, hmi, k3⟩ := yZ k2
  obtain ⟨fuel, vs, rfl, hfueli, k4⟩ := BS k3
  obtain rfl := k4.nil_inv
  exact oW W (dW W) l ul which m um fuel hl hm (nums_of hL) hli hwhichi hmi hfueli
theorem reads8 (os : Os) {H : Type} (enc : TypeId × Value → H) : ∃ places, DataW.whole enc Tryd.prog ((World.doorLaid Tryd.prog 600 os).forCall (fun _ _ => 0) ⟨#[], #[.slice none 0 0, .int .i64 0, .slice none 0 0, .int .i64 0], []⟩).memory Tryd.f8.params.toList Rows.evalSoundSpec.vars false #[.slice none 0 0, .int .i64 0, .slice none 0 0, .int .i64 0].toList 8 = some ([.nil, .lit (.int .i64 0), .nil, .lit (.int .i64 0)], [], places) :=
  ⟨[], by kernel_rfl⟩
theorem lifted8 (os : Os) (started : os.Started) (H : Type) (enc : TypeId × Value → H) (F : Stop.Interp) :
    ReturnsInHanded {} Tryd.checked os 8 .any ((OpenSpec.ofChange Rows.evalSoundSpec).preRow enc Tryd.prog Tryd.f8 Rows.evalSoundRow.domain false Rows.evalSoundRow.laid) (((OpenSpec.ofChange Rows.evalSoundSpec).at F).post enc Tryd.prog Tryd.f8 false true false false) := by
  obtain ⟨places, hx⟩ := reads8 os enc
  exact yf (C := Tryd.checked) (s := Rows.evalSoundSpec) (tb := 4) (laid := Bq) [3, 9, 22, 29, 30, 32, 35, 36, 38, 46, 47, 48, 50, 52, 24, 26, 68, 58, 76] ownKn started (by kernel_rfl) Tryd.func8 (by kernel_rfl) (by kernel_rfl) Tryd.underlying4 (by kernel_rfl) (by kernel_rfl) rfl (fun ds h => spec8 ds h)
    (witness_row_at (enc := enc) (C := Tryd.checked) false (World.doorLaid Tryd.prog 600 os) #[.slice none 0 0, .int .i64 0, .slice none 0 0, .int .i64 0] rfl (by kernel_rfl) (by kernel_rfl) (by kernel_rfl)
      (OpenSpec.preRow_of_cond 8 hx (by kernel_rfl) (fun k hk => by cases hk) (by kernel_rfl) (FH os _))) (fun _ _ hL h => args8 hL h)
theorem evalSound_said : Rows.EvalSoundSaid :=
  OpenClaim.holds_of_cond 8 Tryd.f8 rfl rfl rfl rfl rfl rfl rfl ⟨rfl, rfl, rfl, rfl, rfl⟩ rfl rfl rfl rfl rfl (by kernel_rfl) Tryd.func8 (by kernel_rfl)
    (of_decide_eq_true (by kernel_rfl)) (by unfold Func.isWrapper; first | (rw [if_pos (by decide +kernel)]; kernel_rfl) | (rw [if_neg (by decide +kernel)]; exact ⟨rfl, rfl⟩))
    (fun os started H enc _ F => by rw [OpenClaim.pre_eq_preRow]; exact lifted8 os started H enc F)
theorem plain8 (f : FuncId) (fn : Func) (hf : Tryd.pinned.checked.prog.funcNamed "splicery/splicerylaw11.EvalSound" = some f) (hfn : Tryd.pinned.checked.prog.funcs[f]? = some fn) :
    true = Tryd.pinned.checked.prog.looks [] ∧ ∀ (j : Nat) t, fn.params[j]? = some t → Tryd.pinned.checked.prog.wantsStandIn t = false := by
  obtain rfl : f = 8 := Option.some.inj ((show Tryd.prog.funcNamed "splicery/splicerylaw11.EvalSound" = some 8 by kernel_rfl).symm.trans hf) |>.symm
  obtain rfl : fn = Tryd.f8 := (Option.some.inj (Tryd.func8.symm.trans hfn)).symm
  refine ⟨by kernel_rfl, fun j t ht => ?_⟩
  have hall : (Tryd.f8.params.toList.all fun t => !Tryd.prog.wantsStandIn t) = true := by kernel_rfl
  have := List.all_eq_true.1 hall t (Array.mem_toList_iff.2 (Array.mem_of_getElem? ht))
  exact (show Tryd.prog.wantsStandIn t = false by simpa using this)
theorem evalSound_card : Rows.EvalSoundCardSaid :=
  Claim7.holds_tied_plain_at .later [] _ _ _ _ evalSound_said (fun _ h => by cases h) (by kernel_rfl) (fun _ h => by cases h) evalSound_row_tie rfl ⟨rfl, rfl⟩ (by kernel_rfl) rfl plain8 (by kernel_rfl)
#print axioms evalSound_card
end Go.Proofs.YtanbipbiblikbaaDoor

/-
  For all lists of integers and integers, WholeWeaker returns true and its arguments read afterwards as they did. Condition: five package variables hold what qt card ties to qt text.
-/
import Derived.Test.YtmbboaapillefaaGreatDoorRows
import Derived.Test.YtmbboaapillefaaGreatDoorCards
import Derived.Test.YtmbboaapillefaaGreatDoorTie
import Derived.Test.YtmbboaapillefaaGreatDoorPk6
namespace Go.Proofs.YtmbboaapillefaaGreatDoor
open Xe Pm
set_option maxRecDepth 100000

theorem WholeWeaker_ok (w0 : World) (M : Mem) (l : List Int) (p : Int) (n0 : Int) (ul : Value) (hM : yT M) (hl : Rd M (bU l) ul) (hli : ∀ x ∈ l, lM x) (hpi : lM p) (hn0i : lM n0) : jk Tryz.prog w0 M [] 6 [ul, (lX p), (lX n0)].toArray (fun u M' Γ' => u = .bool true ∧ M' = M ∧ Γ' = []) := by
  refine D0 hM (FL hli hpi hn0i) rfl (fun t => ?_) (fun _ => rfl) rfl rfl
  match t with
  | 0 => exact .inr ⟨_, rfl, hl⟩
  | 1 => exact .inr ⟨_, rfl, ⟨rfl, rfl⟩⟩
  | 2 => exact .inr ⟨_, rfl, ⟨rfl, rfl⟩⟩
  | t + 3 => exact .inl rfl
theorem spec6 {H : Type} (ds : List (DataW H)) (h : ds.length = Tryz.f6.params.toList.length) : Rows.wholeWeakerSpec.fn H ds = { results := [.lit (.bool true)], args := ds, vars := [] } := by
  rw [Tryz.params6] at h
  match ds, h with
  | [d1, d2, d3], _ => rfl
theorem args6 {W : World} {vs : List Value} (hL : laidMetH Tryz.prog nK W) (h : lb Tryz.prog (ef W) Tryz.f6.params.toList vs) : jk Tryz.prog W (ef W) [] 6 vs.toArray (Is (ef W) [] (.bool true)) := by
  rw [Tryz.params6] at h
  obtain ⟨l, ul, vs, rfl, hl, hli, k1⟩ := P4 h
  obtain ⟨p, vs, rfl, hpi, k2⟩ := JN k1
  obtain ⟨n0, vs, rfl, hn0i, k3⟩ := JN k2
  obtain rfl := k3.nil_inv
  exact WholeWeaker_ok W (ef W) l p n0 ul (gr_of hL) hl hli hpi hn0i
theorem reads6 (os : Os) {H : Type} (enc : TypeId × Value → H) : ∃ places, DataW.whole enc Tryz.prog ((World.doorLaid Tryz.prog 3000 os).forCall (fun _ _ => 0) ⟨#[], #[.slice none 0 0, .int .i64 0, .int .i64 0], []⟩).memory Tryz.f6.params.toList Rows.wholeWeakerSpec.vars false #[.slice none 0 0, .int .i64 0, .int .i64 0].toList 8 = some ([.nil, .lit (.int .i64 0), .lit (.int .i64 0)], [], places) :=
  ⟨[], by kernel_rfl⟩
theorem lifted6 (os : Os) (started : os.Started) (H : Type) (enc : TypeId × Value → H) (F : Stop.Interp) :
    ReturnsInHanded {} Tryz.checked os 6 .any ((OpenSpec.ofChange Rows.wholeWeakerSpec).preRow enc Tryz.prog Tryz.f6 Rows.wholeWeakerRow.domain false Rows.wholeWeakerRow.laid) (((OpenSpec.ofChange Rows.wholeWeakerSpec).at F).post enc Tryz.prog Tryz.f6 false true false false) := by
  obtain ⟨places, hx⟩ := reads6 os enc
  exact Er (C := Tryz.checked) (s := Rows.wholeWeakerSpec) (tb := 4) (laid := nK) [3, 22] ownKn started (by kernel_rfl) Tryz.func6 (by kernel_rfl) (by kernel_rfl) Tryz.underlying4 (by kernel_rfl) (by kernel_rfl) rfl (fun ds h => spec6 ds h)
    (witness_row_at (enc := enc) (C := Tryz.checked) false (World.doorLaid Tryz.prog 3000 os) #[.slice none 0 0, .int .i64 0, .int .i64 0] rfl (by kernel_rfl) (by kernel_rfl) (by kernel_rfl)
      (OpenSpec.preRow_of_cond 8 hx (by kernel_rfl) (fun k hk => by cases hk) (by kernel_rfl) (Pz os _))) (fun _ _ hL h => args6 hL h)
theorem wholeWeaker_said : Rows.WholeWeakerSaid :=
  OpenClaim.holds_of_cond 6 Tryz.f6 rfl rfl rfl rfl rfl rfl rfl ⟨rfl, rfl, rfl, rfl, rfl⟩ rfl rfl rfl rfl rfl (by kernel_rfl) Tryz.func6 (by kernel_rfl)
    (of_decide_eq_true (by kernel_rfl)) (by unfold Func.isWrapper; first | (rw [if_pos (by decide +kernel)]; kernel_rfl) | (rw [if_neg (by decide +kernel)]; exact ⟨rfl, rfl⟩))
    (fun os started H enc _ F => by rw [OpenClaim.pre_eq_preRow]; exact lifted6 os started H enc F)
theorem plain6 (f : FuncId) (fn : Func) (hf : Tryz.pinned.checked.prog.funcNamed "splicery/splicerylaw22.WholeWeaker" = some f) (hfn : Tryz.pinned.checked.prog.funcs[f]? = some fn) :
    false = Tryz.pinned.checked.prog.looks [] ∧ ∀ (j : Nat) t, fn.params[j]? = some t → Tryz.pinned.checked.prog.wantsStandIn t = false := by
  obtain rfl : f = 6 := Option.some.inj ((show Tryz.prog.funcNamed "splicery/splicerylaw22.WholeWeaker" = some 6 by kernel_rfl).symm.trans hf) |>.symm
  obtain rfl : fn = Tryz.f6 := (Option.some.inj (Tryz.func6.symm.trans hfn)).symm
  refine ⟨by kernel_rfl, fun j t ht => ?_⟩
  have hall : (Tryz.f6.params.toList.all fun t => !Tryz.prog.wantsStandIn t) = true := by kernel_rfl
  have := List.all_eq_true.1 hall t (Array.mem_toList_iff.2 (Array.mem_of_getElem? ht))
  exact (show Tryz.prog.wantsStandIn t = false by simpa using this)
theorem wholeWeaker_card : Rows.WholeWeakerCardSaid :=
  Claim7.holds_tied_plain_at .later [] _ _ _ _ wholeWeaker_said (fun _ h => by cases h) (by kernel_rfl) (fun _ h => by cases h) wholeWeaker_row_tie rfl ⟨rfl, rfl⟩ (by kernel_rfl) rfl plain6 (by kernel_rfl)
#print axioms wholeWeaker_card
end Go.Proofs.YtmbboaapillefaaGreatDoor

/-
  For all lists of integers and integers, WholeOrder returns true and its arguments read afterwards as they did. Condition: B5 package variables hold what the card ties to the text.
-/
import Derived.Test.YtmbboaapillefaaGreatDoorRows
import Derived.Test.YtmbboaapillefaaGreatDoorCards
import Derived.Test.YtmbboaapillefaaGreatDoorTie
import Derived.Test.YtmbboaapillefaaGreatDoorPk7
namespace Go.Proofs.YtmbboaapillefaaGreatDoor
open Xe Pm
set_option maxRecDepth 100000

theorem WholeOrder_ok (w0 : World) (M : Mem) (l : List Int) (p : Int) (how : Int) (by0 : Int) (ul : Value) (hM : GrOk M) (hl : Rd M (aY l) ul) (hli : ∀ x ∈ l, InI x) (hpi : InI p) (hhowi : InI how) (hby0i : InI by0) : uW Tryz.prog w0 M [] 4 [ul, (bG p), (bG how), (bG by0)].toArray (fun u M' Γ' => u = .bool true ∧ M' = M ∧ Γ' = []) := by
  refine zq hM (ES hli hpi hhowi hby0i) rfl (fun t => ?_) (fun _ => rfl) rfl rfl
  match t with
  | 0 => exact .inr ⟨_, rfl, hl⟩
  | 1 => exact .inr ⟨_, rfl, ⟨rfl, rfl⟩⟩
  | 2 => exact .inr ⟨_, rfl, ⟨rfl, rfl⟩⟩
  | 3 => exact .inr ⟨_, rfl, ⟨rfl, rfl⟩⟩
  | t + 4 => exact .inl rfl
theorem spec4 {H : Type} (ds : List (DataW H)) (h : ds.length = Tryz.f4.params.toList.length) : Rows.wholeOrderSpec.fn H ds = { results := [.lit (.bool true)], args := ds, vars := [] } := by
  rw [Tryz.params4] at h
  match ds, h with
  | [d1, d2, d3, d4], _ => rfl
theorem args4 {W : World} {vs : List Value} (hL : laidMetH Tryz.prog kg W) (h : ArgsW Tryz.prog (cE W) Tryz.f4.params.toList vs) : uW Tryz.prog W (cE W) [] 4 vs.toArray (Is (cE W) [] (.bool true)) := by
  rw [Tryz.params4] at h
  obtain ⟨l, ul, vs, rfl, hl, hli, k1⟩ := II h
  obtain ⟨p, vs, rfl, hpi, k2⟩ := yw k1
  obtain ⟨how, vs, rfl, hhowi, k3⟩ := yw k2
  obtain ⟨by0, vs, rfl, hby0i, k4⟩ := yw k3
  obtain rfl := k4.nil_inv
  exact WholeOrder_ok W (cE W) l p how by0 ul (gr_of hL) hl hli hpi hhowi hby0i
theorem reads4 (os : Os) {H : Type} (enc : TypeId × Value → H) : ∃ places, DataW.whole enc Tryz.prog ((World.doorLaid Tryz.prog 3000 os).forCall (fun _ _ => 0) ⟨#[], #[.slice none 0 0, .int .i64 0, .int .i64 0, .int .i64 0], []⟩).memory Tryz.f4.params.toList Rows.wholeOrderSpec.vars false #[.slice none 0 0, .int .i64 0, .int .i64 0, .int .i64 0].toList 8 = some ([.nil, .lit (.int .i64 0), .lit (.int .i64 0), .lit (.int .i64 0)], [], places) :=
  ⟨[], by kernel_rfl⟩
theorem lifted4 (os : Os) (started : os.Started) (H : Type) (enc : TypeId × Value → H) (F : Stop.Interp) :
    ReturnsInHanded {} Tryz.checked os 4 .any ((OpenSpec.ofChange Rows.wholeOrderSpec).preRow enc Tryz.prog Tryz.f4 Rows.wholeOrderRow.domain false Rows.wholeOrderRow.laid) (((OpenSpec.ofChange Rows.wholeOrderSpec).at F).post enc Tryz.prog Tryz.f4 false true false false) := by
  obtain ⟨places, hx⟩ := reads4 os enc
  exact zQ (C := Tryz.checked) (s := Rows.wholeOrderSpec) (tb := 4) (laid := kg) [3, 22] ownKn started (by kernel_rfl) Tryz.func4 (by kernel_rfl) (by kernel_rfl) Tryz.underlying4 (by kernel_rfl) (by kernel_rfl) rfl (fun ds h => spec4 ds h)
    (witness_row_at (enc := enc) (C := Tryz.checked) false (World.doorLaid Tryz.prog 3000 os) #[.slice none 0 0, .int .i64 0, .int .i64 0, .int .i64 0] rfl (by kernel_rfl) (by kernel_rfl) (by kernel_rfl)
      (OpenSpec.preRow_of_cond 8 hx (by kernel_rfl) (fun k hk => by cases hk) (by kernel_rfl) (Ij os _))) (fun _ _ hL h => args4 hL h)
theorem wholeOrder_said : Rows.WholeOrderSaid :=
  OpenClaim.holds_of_cond 4 Tryz.f4 rfl rfl rfl rfl rfl rfl rfl ⟨rfl, rfl, rfl, rfl, rfl⟩ rfl rfl rfl rfl rfl (by kernel_rfl) Tryz.func4 (by kernel_rfl)
    (of_decide_eq_true (by kernel_rfl)) (by unfold Func.isWrapper; first | (rw [if_pos (by decide +kernel)]; kernel_rfl) | (rw [if_neg (by decide +kernel)]; exact ⟨rfl, rfl⟩))
    (fun os started H enc _ F => by rw [OpenClaim.pre_eq_preRow]; exact lifted4 os started H enc F)
theorem plain4 (f : FuncId) (fn : Func) (hf : Tryz.pinned.checked.prog.funcNamed "splicery/splicerylaw22.WholeOrder" = some f) (hfn : Tryz.pinned.checked.prog.funcs[f]? = some fn) :
    false = Tryz.pinned.checked.prog.looks [] ∧ ∀ (j : Nat) t, fn.params[j]? = some t → Tryz.pinned.checked.prog.wantsStandIn t = false := by
  obtain rfl : f = 4 := Option.some.inj ((show Tryz.prog.funcNamed "splicery/splicerylaw22.WholeOrder" = some 4 by kernel_rfl).symm.trans hf) |>.symm
  obtain rfl : fn = Tryz.f4 := (Option.some.inj (Tryz.func4.symm.trans hfn)).symm
  refine ⟨by kernel_rfl, fun j t ht => ?_⟩
  have hall : (Tryz.f4.params.toList.all fun t => !Tryz.prog.wantsStandIn t) = true := by kernel_rfl
  have := List.all_eq_true.1 hall t (Array.mem_toList_iff.2 (Array.mem_of_getElem? ht))
  exact (show Tryz.prog.wantsStandIn t = false by simpa using this)
theorem wholeOrder_card : Rows.WholeOrderCardSaid :=
  Claim7.holds_tied_plain_at .later [] _ _ _ _ wholeOrder_said (fun _ h => by cases h) (by kernel_rfl) (fun _ h => by cases h) wholeOrder_row_tie rfl ⟨rfl, rfl⟩ (by kernel_rfl) rfl plain4 (by kernel_rfl)
#print axioms wholeOrder_card
end Go.Proofs.YtmbboaapillefaaGreatDoor

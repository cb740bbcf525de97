/-
  For all lists of integers and of bytes, ValueBytes returns true and its arguments read afterwards as they did. Condition: the package variable constants of package hash holds its 64 words, which the card ties to the text.
-/
import Derived.Test.YtfgkhhfkodlbpaaDoorRows
import Derived.Test.YtfgkhhfkodlbpaaDoorCards
import Derived.Test.YtfgkhhfkodlbpaaDoorTie
import Derived.Test.YtfgkhhfkodlbpaaDoorPk5
namespace Go.Proofs.YtfgkhhfkodlbpaaDoor
open Xe Pm
set_option maxRecDepth 100000

theorem spec3 {H : Type} (ds : List (DataW H)) (h : ds.length = Tryd.f3.params.toList.length) : Rows.valueBytesSpec.fn H ds = { results := [.lit (.bool true)], args := ds, vars := [] } := by
  rw [Tryd.params3] at h
  match ds, h with
  | [d1, d2, d3, d4], _ => rfl
theorem args3 {W : World} {vs : List Value} (hL : laidMetH Tryd.prog laidN W) (h : ArgsW Tryd.prog (memOf W) Tryd.f3.params.toList vs) : CallOk Tryd.prog W (memOf W) [] 3 vs.toArray (Is (memOf W) [] (.bool true)) := by
  rw [Tryd.params3] at h
  obtain ⟨l, ul, vs, rfl, hl, hli, h⟩ := arg_ints h
  obtain ⟨m, um, vs, rfl, hm, hmi, h⟩ := arg_ints h
  obtain ⟨n, un, vs, rfl, hn, hni, h⟩ := arg_ints h
  obtain ⟨r, ur, vs, rfl, hr, hri, h⟩ := arg_bytes h
  obtain rfl := h.nil_inv
  exact ValueBytes_ok W (memOf W) l m n r ul um un ur (gr_of hL) hl hm hn hr hli hmi hni hri
theorem reads3 (os : Os) {H : Type} (enc : TypeId × Value → H) : ∃ places, DataW.whole enc Tryd.prog ((World.doorLaid Tryd.prog 600 os).forCall (fun _ _ => 0) ⟨#[], #[.slice none 0 0, .slice none 0 0, .slice none 0 0, .slice none 0 0], []⟩).memory Tryd.f3.params.toList Rows.valueBytesSpec.vars false #[.slice none 0 0, .slice none 0 0, .slice none 0 0, .slice none 0 0].toList 8 = some ([.nil, .nil, .nil, .nil], [], places) :=
  ⟨[], by kernel_rfl⟩
theorem lifted3 (os : Os) (started : os.Started) (H : Type) (enc : TypeId × Value → H) (F : Stop.Interp) :
    ReturnsInHanded {} Tryd.checked os 3 .any ((OpenSpec.ofChange Rows.valueBytesSpec).preRow enc Tryd.prog Tryd.f3 Rows.valueBytesRow.domain false Rows.valueBytesRow.laid) (((OpenSpec.ofChange Rows.valueBytesSpec).at F).post enc Tryd.prog Tryd.f3 false true false false) := by
  obtain ⟨places, hx⟩ := reads3 os enc
  exact law_liftedT (C := Tryd.checked) (s := Rows.valueBytesSpec) (tb := 4) (laid := laidN) [3, 5, 22, 23] ownKn started (by kernel_rfl) Tryd.func3 (by kernel_rfl) (by kernel_rfl) Tryd.underlying4 (by kernel_rfl) (by kernel_rfl) rfl (fun ds h => spec3 ds h)
    (witness_row_at (enc := enc) (C := Tryd.checked) false (World.doorLaid Tryd.prog 600 os) #[.slice none 0 0, .slice none 0 0, .slice none 0 0, .slice none 0 0] rfl (by kernel_rfl) (by kernel_rfl) (by kernel_rfl)
      (OpenSpec.preRow_of_cond 8 hx (by kernel_rfl) (fun k hk => by cases hk) (by kernel_rfl) (door_met os _))) (fun _ _ hL h => args3 hL h)
theorem valueBytes_said : Rows.ValueBytesSaid :=
  OpenClaim.holds_of_cond 3 Tryd.f3 rfl rfl rfl rfl rfl rfl rfl ⟨rfl, rfl, rfl, rfl, rfl⟩ rfl rfl rfl rfl rfl (by kernel_rfl) Tryd.func3 (by kernel_rfl)
    (of_decide_eq_true (by kernel_rfl)) (by unfold Func.isWrapper; first | (rw [if_pos (by decide +kernel)]; kernel_rfl) | (rw [if_neg (by decide +kernel)]; exact ⟨rfl, rfl⟩))
    (fun os started H enc _ F => by rw [OpenClaim.pre_eq_preRow]; exact lifted3 os started H enc F)
theorem plain3 (f : FuncId) (fn : Func) (hf : Tryd.pinned.checked.prog.funcNamed "splicery/splicerylaw04.ValueBytes" = some f) (hfn : Tryd.pinned.checked.prog.funcs[f]? = some fn) :
    false = Tryd.pinned.checked.prog.looks [] ∧ ∀ (j : Nat) t, fn.params[j]? = some t → Tryd.pinned.checked.prog.wantsStandIn t = false := by
  obtain rfl : f = 3 := Option.some.inj ((show Tryd.prog.funcNamed "splicery/splicerylaw04.ValueBytes" = some 3 by kernel_rfl).symm.trans hf) |>.symm
  obtain rfl : fn = Tryd.f3 := (Option.some.inj (Tryd.func3.symm.trans hfn)).symm
  refine ⟨by kernel_rfl, fun j t ht => ?_⟩
  have hall : (Tryd.f3.params.toList.all fun t => !Tryd.prog.wantsStandIn t) = true := by kernel_rfl
  have := List.all_eq_true.1 hall t (Array.mem_toList_iff.2 (Array.mem_of_getElem? ht))
  exact (show Tryd.prog.wantsStandIn t = false by simpa using this)
theorem valueBytes_card : Rows.ValueBytesCardSaid :=
  Claim7.holds_tied_plain_at .later [] _ _ _ _ valueBytes_said (fun _ h => by cases h) (by kernel_rfl) (fun _ h => by cases h) valueBytes_row_tie rfl ⟨rfl, rfl⟩ (by kernel_rfl) rfl plain3 (by kernel_rfl)
#print axioms valueBytes_card
end Go.Proofs.YtfgkhhfkodlbpaaDoor

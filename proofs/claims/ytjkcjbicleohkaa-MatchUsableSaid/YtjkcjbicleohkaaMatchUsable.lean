/-
  For all lists of integers and all integers, MatchUsable returns true and its arguments read afterwards as they did. No condition.
-/
import Derived.Test.YtjkcjbicleohkaaRows
import Derived.Test.YtjkcjbicleohkaaWL8
import Derived.Test.YtjkcjbicleohkaaXeM
namespace Go.Proofs.Ytjkcjbicleohkaa
open Xe

theorem own10 : ownKnob Try.prog.godebug = none := by kernel_rfl
theorem spec10 {H : Type} (ds : List (DataW H)) (h : ds.length = Try.f10.params.toList.length) : Rows.matchUsableSpec.fn H ds = { results := [.lit (.bool true)], args := ds, vars := [] } := by
  rw [Try.params10] at h
  match ds, h with
  | [d1, d2, d3, d4], _ => rfl
theorem args10 {W : World} {bs : List Arg} {vs : List Value} (h : ArgsOk (memOf W) 22 3 Try.f10.params.toList bs vs) : CallOk Try.prog W (memOf W) [] 10 vs.toArray (Is (memOf W) [] (.bool true)) := by
  rw [Try.params10] at h
  obtain ⟨l0, v0, bs0, vs0, rfl, rfl, r0, q0, h0⟩ := ArgsOk.ints_inv h
  obtain ⟨n1, bs1, vs1, rfl, rfl, q1, h1⟩ := ArgsOk.num_inv (by decide) h0
  obtain ⟨n2, bs2, vs2, rfl, rfl, q2, h2⟩ := ArgsOk.num_inv (by decide) h1
  obtain ⟨n3, bs3, vs3, rfl, rfl, q3, h3⟩ := ArgsOk.num_inv (by decide) h2
  obtain ⟨rfl, rfl⟩ := ArgsOk.nil_inv h3
  exact MatchUsable_ok W (memOf W) [] l0 n1 n2 n3 v0 r0 q0 q1 q2 q3
theorem lifted10 (os : Os) (started : os.Started) (H : Type) (enc : TypeId × Value → H) :
    ReturnsInHanded {} Try.checked os 10 .any (Rows.matchUsableSpec.pre6 enc Try.prog Try.f10 Rows.matchUsableRow.domain false) (Rows.matchUsableSpec.post enc Try.prog Try.f10 false true false false) :=
  law_lifted (C := Try.checked) (ti := 22) (tn := 3) (e := 3) (tb := 4) own10 started (by kernel_rfl) Try.func10 Try.underlying22 Try.underlying3 (by kernel_rfl) (by kernel_rfl) Try.underlying3 Try.underlying4 (by rw [Try.params10]; rfl) (by kernel_rfl) rfl (fun ds h => spec10 ds h)
    (ChangeSpec.witness6 (enc := enc) (C := Try.checked) false ⟨#[], #[.slice none 0 0, .int .i64 0, .int .i64 0, .int .i64 0], []⟩ 8 (by kernel_rfl) (by kernel_rfl) (by kernel_rfl) (by kernel_rfl)) (fun _ _ _ h => args10 h)
theorem matchUsable_holds : Rows.MatchUsableSaid :=
  OpenClaim.holds_of_wide 10 Try.f10 rfl rfl rfl rfl rfl rfl rfl ⟨rfl, rfl, rfl, rfl, rfl⟩ rfl rfl rfl rfl rfl (by kernel_rfl) Try.func10 (by kernel_rfl)
    (of_decide_eq_true (by kernel_rfl)) (by unfold Func.isWrapper; first | (rw [if_pos (by decide +kernel)]; kernel_rfl) | (rw [if_neg (by decide +kernel)]; exact ⟨rfl, rfl⟩))
    (fun os started H enc _ => lifted10 os started H enc)
#print axioms matchUsable_holds
end Go.Proofs.Ytjkcjbicleohkaa

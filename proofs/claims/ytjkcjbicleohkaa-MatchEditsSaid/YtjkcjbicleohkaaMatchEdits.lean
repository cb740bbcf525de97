/-
  For all lists of integers and every integer, MatchEdits returns true and its arguments read afterwards as they did. No condition.
-/
import Derived.Test.YtjkcjbicleohkaaRows
import Derived.Test.YtjkcjbicleohkaaWL6
import Derived.Test.YtjkcjbicleohkaaXeM
namespace Go.Proofs.Ytjkcjbicleohkaa
open Xe

theorem own8 : ownKnob Try.prog.godebug = none := by kernel_rfl
theorem spec8 {H : Type} (ds : List (DataW H)) (h : ds.length = Try.f8.params.toList.length) : Rows.matchEditsSpec.fn H ds = { results := [.lit (.bool true)], args := ds, vars := [] } := by
  rw [Try.params8] at h
  match ds, h with
  | [d1, d2, d3, d4], _ => rfl
theorem args8 {W : World} {bs : List Arg} {vs : List Value} (h : ArgsOk (memOf W) 22 3 Try.f8.params.toList bs vs) : CallOk Try.prog W (memOf W) [] 8 vs.toArray (Is (memOf W) [] (.bool true)) := by
  rw [Try.params8] at h
  obtain ⟨l0, v0, bs0, vs0, rfl, rfl, r0, q0, h0⟩ := ArgsOk.ints_inv h
  obtain ⟨l1, v1, bs1, vs1, rfl, rfl, r1, q1, h1⟩ := ArgsOk.ints_inv h0
  obtain ⟨l2, v2, bs2, vs2, rfl, rfl, r2, q2, h2⟩ := ArgsOk.ints_inv h1
  obtain ⟨n3, bs3, vs3, rfl, rfl, q3, h3⟩ := ArgsOk.num_inv (by decide) h2
  obtain ⟨rfl, rfl⟩ := ArgsOk.nil_inv h3
  exact MatchEdits_ok W (memOf W) [] l0 l1 l2 n3 v0 v1 v2 r0 r1 r2 q0 q1 q2 q3
theorem lifted8 (os : Os) (started : os.Started) (H : Type) (enc : TypeId × Value → H) :
    ReturnsInHanded {} Try.checked os 8 .any (Rows.matchEditsSpec.pre6 enc Try.prog Try.f8 Rows.matchEditsRow.domain false) (Rows.matchEditsSpec.post enc Try.prog Try.f8 false true false false) :=
  law_lifted (C := Try.checked) (ti := 22) (tn := 3) (e := 3) (tb := 4) own8 started (by kernel_rfl) Try.func8 Try.underlying22 Try.underlying3 (by kernel_rfl) (by kernel_rfl) Try.underlying3 Try.underlying4 (by rw [Try.params8]; rfl) (by kernel_rfl) rfl (fun ds h => spec8 ds h)
    (ChangeSpec.witness6 (enc := enc) (C := Try.checked) false ⟨#[], #[.slice none 0 0, .slice none 0 0, .slice none 0 0, .int .i64 0], []⟩ 8 (by kernel_rfl) (by kernel_rfl) (by kernel_rfl) (by kernel_rfl)) (fun _ _ _ h => args8 h)
theorem matchEdits_holds : Rows.MatchEditsSaid :=
  OpenClaim.holds_of_wide 8 Try.f8 rfl rfl rfl rfl rfl rfl rfl ⟨rfl, rfl, rfl, rfl, rfl⟩ rfl rfl rfl rfl rfl (by kernel_rfl) Try.func8 (by kernel_rfl)
    (of_decide_eq_true (by kernel_rfl)) (by unfold Func.isWrapper; first | (rw [if_pos (by decide +kernel)]; kernel_rfl) | (rw [if_neg (by decide +kernel)]; exact ⟨rfl, rfl⟩))
    (fun os started H enc _ => lifted8 os started H enc)
#print axioms matchEdits_holds
end Go.Proofs.Ytjkcjbicleohkaa

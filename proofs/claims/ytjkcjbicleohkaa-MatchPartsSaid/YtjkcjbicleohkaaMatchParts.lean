/-
  For all lists of integers and every integer, MatchParts returns true and its arguments read afterwards as they did. No condition.
-/
import Derived.Test.YtjkcjbicleohkaaRows
import Derived.Test.YtjkcjbicleohkaaWL7
import Derived.Test.YtjkcjbicleohkaaXeM
namespace Go.Proofs.Ytjkcjbicleohkaa
open Xe

theorem own9 : ownKnob Try.prog.godebug = none := by kernel_rfl
theorem spec9 {H : Type} (ds : List (DataW H)) (h : ds.length = Try.f9.params.toList.length) : Rows.matchPartsSpec.fn H ds = { results := [.lit (.bool true)], args := ds, vars := [] } := by
  rw [Try.params9] at h
  match ds, h with
  | [d1, d2, d3], _ => rfl
theorem args9 {W : World} {bs : List Arg} {vs : List Value} (h : ArgsOk (memOf W) 22 3 Try.f9.params.toList bs vs) : CallOk Try.prog W (memOf W) [] 9 vs.toArray (Is (memOf W) [] (.bool true)) := by
  rw [Try.params9] at h
  obtain ⟨l0, v0, bs0, vs0, rfl, rfl, r0, q0, h0⟩ := ArgsOk.ints_inv h
  obtain ⟨l1, v1, bs1, vs1, rfl, rfl, r1, q1, h1⟩ := ArgsOk.ints_inv h0
  obtain ⟨n2, bs2, vs2, rfl, rfl, q2, h2⟩ := ArgsOk.num_inv (by decide) h1
  obtain ⟨rfl, rfl⟩ := ArgsOk.nil_inv h2
  exact MatchParts_ok W (memOf W) [] l0 l1 n2 v0 v1 r0 r1 q0 q1 q2
theorem lifted9 (os : Os) (started : os.Started) (H : Type) (enc : TypeId × Value → H) :
    ReturnsInHanded {} Try.checked os 9 .any (Rows.matchPartsSpec.pre6 enc Try.prog Try.f9 Rows.matchPartsRow.domain false) (Rows.matchPartsSpec.post enc Try.prog Try.f9 false true false false) :=
  law_lifted (C := Try.checked) (ti := 22) (tn := 3) (e := 3) (tb := 4) own9 started (by kernel_rfl) Try.func9 Try.underlying22 Try.underlying3 (by kernel_rfl) (by kernel_rfl) Try.underlying3 Try.underlying4 (by rw [Try.params9]; rfl) (by kernel_rfl) rfl (fun ds h => spec9 ds h)
    (ChangeSpec.witness6 (enc := enc) (C := Try.checked) false ⟨#[], #[.slice none 0 0, .slice none 0 0, .int .i64 0], []⟩ 8 (by kernel_rfl) (by kernel_rfl) (by kernel_rfl) (by kernel_rfl)) (fun _ _ _ h => args9 h)
theorem matchParts_holds : Rows.MatchPartsSaid :=
  OpenClaim.holds_of_wide 9 Try.f9 rfl rfl rfl rfl rfl rfl rfl ⟨rfl, rfl, rfl, rfl, rfl⟩ rfl rfl rfl rfl rfl (by kernel_rfl) Try.func9 (by kernel_rfl)
    (of_decide_eq_true (by kernel_rfl)) (by unfold Func.isWrapper; first | (rw [if_pos (by decide +kernel)]; kernel_rfl) | (rw [if_neg (by decide +kernel)]; exact ⟨rfl, rfl⟩))
    (fun os started H enc _ => lifted9 os started H enc)
#print axioms matchParts_holds
end Go.Proofs.Ytjkcjbicleohkaa

/-
  For all lists of integers, programs, names, types and integers, ValueTypes returns true and its arguments read afterwards as they did. No condition.
-/
import Derived.Test.YtfgkhhfkodlbpaaRows
import Derived.Test.YtfgkhhfkodlbpaaVw
import Derived.Test.YtfgkhhfkodlbpaaArg
namespace Go.Proofs.Ytfgkhhfkodlbpaa
open Xe
set_option maxRecDepth 20000

theorem own3 : ownKnob Try.prog.godebug = none := by kernel_rfl
theorem spec3 {H : Type} (ds : List (DataW H)) (h : ds.length = Try.f3.params.toList.length) : Rows.valueTypesSpec.fn H ds = { results := [.lit (.bool true)], args := ds, vars := [] } := by
  rw [Try.params3] at h
  match ds, h with
  | [d1, d2, d3, d4, d5, d6], _ => rfl
theorem args3 {W : World} {vs : List Value} (h : ArgsW Try.prog (memOf W) Try.f3.params.toList vs) : CallOk Try.prog W (memOf W) [] 3 vs.toArray (Is (memOf W) [] (.bool true)) := by
  rw [Try.params3] at h
  obtain ⟨n, un, vs, rfl, hn, hni, k1⟩ := arg_ints h
  obtain ⟨p, usp, vs, rfl, hp, k2⟩ := arg_prog k1
  obtain ⟨i, vs, rfl, k3⟩ := arg_id k2
  obtain ⟨a, usa, vs, rfl, ha, k4⟩ := arg_ty k3
  obtain ⟨b, usb, vs, rfl, hb, k5⟩ := arg_ty k4
  obtain ⟨m, vs, rfl, hmi, k6⟩ := arg_int k5
  obtain rfl := k6.nil_inv
  exact ValueTypes_ok W (memOf W) [] n un p usp i a usa b usb m (Kn.of hn) (Kn.of hp) (Kn.of ha) (Kn.of hb) hni hmi
theorem lifted3 (os : Os) (started : os.Started) (H : Type) (enc : TypeId × Value → H) :
    ReturnsInHanded {} Try.checked os 3 .any (Rows.valueTypesSpec.pre6 enc Try.prog Try.f3 Rows.valueTypesRow.domain false) (Rows.valueTypesSpec.post enc Try.prog Try.f3 false true false false) :=
  law_liftedW (C := Try.checked) (tb := 4) [3, 9, 22, 23, 24, 26, 28, 29, 31, 40, 41, 42, 44, 46, 51, 53, 66, 77, 79] own3 started (by kernel_rfl) Try.func3 (by kernel_rfl) (by kernel_rfl) Try.underlying4 (by kernel_rfl) (by kernel_rfl) rfl (fun ds h => spec3 ds h)
    (ChangeSpec.witness6 (enc := enc) (C := Try.checked) false ⟨#[], #[.slice none 0 0, .agg #[.slice none 0 0, .slice none 0 0], .agg #[.int .i64 0, .int .i64 0, .int .i64 0], .agg #[.int .i64 0, .int .i64 0, .int .i64 0, .int .i64 0, .slice none 0 0], .agg #[.int .i64 0, .int .i64 0, .int .i64 0, .int .i64 0, .slice none 0 0], .int .i64 0], []⟩ 8 (by kernel_rfl) (by kernel_rfl) (by kernel_rfl) (by kernel_rfl)) (fun _ _ h => args3 h)
theorem valueTypes_holds : Rows.ValueTypesSaid :=
  OpenClaim.holds_of_wide 3 Try.f3 rfl rfl rfl rfl rfl rfl rfl ⟨rfl, rfl, rfl, rfl, rfl⟩ rfl rfl rfl rfl rfl (by kernel_rfl) Try.func3 (by kernel_rfl)
    (of_decide_eq_true (by kernel_rfl)) (by unfold Func.isWrapper; first | (rw [if_pos (by decide +kernel)]; kernel_rfl) | (rw [if_neg (by decide +kernel)]; exact ⟨rfl, rfl⟩))
    (fun os started H enc _ => lifted3 os started H enc)
#print axioms valueTypes_holds
end Go.Proofs.Ytfgkhhfkodlbpaa

/-
  For all lists of integers and integers, ValueParts returns true and its arguments read afterwards as they did. No condition.
-/
import Derived.Test.YtfgkhhfkodlbpaaRows
import Derived.Test.YtfgkhhfkodlbpaaVB
import Derived.Test.YtfgkhhfkodlbpaaArg
namespace Go.Proofs.Ytfgkhhfkodlbpaa
open Xe
set_option maxRecDepth 20000

theorem own8 : ownKnob Try.prog.godebug = none := by kernel_rfl
theorem spec8 {H : Type} (ds : List (DataW H)) (h : ds.length = Try.f8.params.toList.length) : Rows.valuePartsSpec.fn H ds = { results := [.lit (.bool true)], args := ds, vars := [] } := by
  rw [Try.params8] at h
  match ds, h with
  | [d1, d2, d3, d4], _ => rfl
theorem args8 {W : World} {vs : List Value} (h : ArgsW Try.prog (memOf W) Try.f8.params.toList vs) : CallOk Try.prog W (memOf W) [] 8 vs.toArray (Is (memOf W) [] (.bool true)) := by
  rw [Try.params8] at h
  obtain ⟨l, ul, vs, rfl, hl, hli, k1⟩ := arg_ints h
  obtain ⟨ma, uma, vs, rfl, hma, hmai, k2⟩ := arg_ints k1
  obtain ⟨w, vs, rfl, hwi, k3⟩ := arg_int k2
  obtain ⟨o, vs, rfl, hoi, k4⟩ := arg_int k3
  obtain rfl := k4.nil_inv
  exact ValueParts_ok W (memOf W) [] l ul ma uma w o (Kn.of hl) (Kn.of hma) hli hmai hwi hoi
theorem lifted8 (os : Os) (started : os.Started) (H : Type) (enc : TypeId × Value → H) :
    ReturnsInHanded {} Try.checked os 8 .any (Rows.valuePartsSpec.pre6 enc Try.prog Try.f8 Rows.valuePartsRow.domain false) (Rows.valuePartsSpec.post enc Try.prog Try.f8 false true false false) :=
  law_liftedW (C := Try.checked) (tb := 4) [3, 9, 22, 23, 24, 26, 28, 29, 31, 40, 41, 42, 44, 46, 51, 53, 66, 77, 79] own8 started (by kernel_rfl) Try.func8 (by kernel_rfl) (by kernel_rfl) Try.underlying4 (by kernel_rfl) (by kernel_rfl) rfl (fun ds h => spec8 ds h)
    (ChangeSpec.witness6 (enc := enc) (C := Try.checked) false ⟨#[], #[.slice none 0 0, .slice none 0 0, .int .i64 0, .int .i64 0], []⟩ 8 (by kernel_rfl) (by kernel_rfl) (by kernel_rfl) (by kernel_rfl)) (fun _ _ h => args8 h)
theorem valueParts_holds : Rows.ValuePartsSaid :=
  OpenClaim.holds_of_wide 8 Try.f8 rfl rfl rfl rfl rfl rfl rfl ⟨rfl, rfl, rfl, rfl, rfl⟩ rfl rfl rfl rfl rfl (by kernel_rfl) Try.func8 (by kernel_rfl)
    (of_decide_eq_true (by kernel_rfl)) (by unfold Func.isWrapper; first | (rw [if_pos (by decide +kernel)]; kernel_rfl) | (rw [if_neg (by decide +kernel)]; exact ⟨rfl, rfl⟩))
    (fun os started H enc _ => lifted8 os started H enc)
#print axioms valueParts_holds
end Go.Proofs.Ytfgkhhfkodlbpaa

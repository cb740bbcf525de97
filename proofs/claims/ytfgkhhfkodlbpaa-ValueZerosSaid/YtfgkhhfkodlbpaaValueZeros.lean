/-
  For all lists of integers, programs, types and integers, ValueZeros returns true and its arguments read afterwards as they did. No condition.
-/
import Derived.Test.YtfgkhhfkodlbpaaRows
import Derived.Test.YtfgkhhfkodlbpaaVC
import Derived.Test.YtfgkhhfkodlbpaaArg
namespace Go.Proofs.Ytfgkhhfkodlbpaa
open Xe
set_option maxRecDepth 20000

theorem own6 : ownKnob Try.prog.godebug = none := by kernel_rfl
theorem spec6 {H : Type} (ds : List (DataW H)) (h : ds.length = Try.f6.params.toList.length) : Rows.valueZerosSpec.fn H ds = { results := [.lit (.bool true)], args := ds, vars := [] } := by
  rw [Try.params6] at h
  match ds, h with
  | [d1, d2, d3, d4, d5], _ => rfl
theorem args6 {W : World} {vs : List Value} (h : ArgsW Try.prog (memOf W) Try.f6.params.toList vs) : CallOk Try.prog W (memOf W) [] 6 vs.toArray (Is (memOf W) [] (.bool true)) := by
  rw [Try.params6] at h
  obtain ⟨l, ul, vs, rfl, hl, hli, k1⟩ := arg_ints h
  obtain ⟨ma, uma, vs, rfl, hma, hmai, k2⟩ := arg_ints k1
  obtain ⟨p, usp, vs, rfl, hp, k3⟩ := arg_prog k2
  obtain ⟨t, ust, vs, rfl, ht, k4⟩ := arg_ty k3
  obtain ⟨tu, vs, rfl, htui, k5⟩ := arg_int k4
  obtain rfl := k5.nil_inv
  exact ValueZeros_ok W (memOf W) [] l ul ma uma p usp t ust tu (Kn.of hl) (Kn.of hma) (Kn.of hp) (Kn.of ht) hli hmai htui
theorem lifted6 (os : Os) (started : os.Started) (H : Type) (enc : TypeId × Value → H) :
    ReturnsInHanded {} Try.checked os 6 .any (Rows.valueZerosSpec.pre6 enc Try.prog Try.f6 Rows.valueZerosRow.domain false) (Rows.valueZerosSpec.post enc Try.prog Try.f6 false true false false) :=
  law_liftedW (C := Try.checked) (tb := 4) [3, 9, 22, 23, 24, 26, 28, 29, 31, 40, 41, 42, 44, 46, 51, 53, 66, 77, 79] own6 started (by kernel_rfl) Try.func6 (by kernel_rfl) (by kernel_rfl) Try.underlying4 (by kernel_rfl) (by kernel_rfl) rfl (fun ds h => spec6 ds h)
    (ChangeSpec.witness6 (enc := enc) (C := Try.checked) false ⟨#[], #[.slice none 0 0, .slice none 0 0, .agg #[.slice none 0 0, .slice none 0 0], .agg #[.int .i64 0, .int .i64 0, .int .i64 0, .int .i64 0, .slice none 0 0], .int .i64 0], []⟩ 8 (by kernel_rfl) (by kernel_rfl) (by kernel_rfl) (by kernel_rfl)) (fun _ _ h => args6 h)
theorem valueZeros_holds : Rows.ValueZerosSaid :=
  OpenClaim.holds_of_wide 6 Try.f6 rfl rfl rfl rfl rfl rfl rfl ⟨rfl, rfl, rfl, rfl, rfl⟩ rfl rfl rfl rfl rfl (by kernel_rfl) Try.func6 (by kernel_rfl)
    (of_decide_eq_true (by kernel_rfl)) (by unfold Func.isWrapper; first | (rw [if_pos (by decide +kernel)]; kernel_rfl) | (rw [if_neg (by decide +kernel)]; exact ⟨rfl, rfl⟩))
    (fun os started H enc _ => lifted6 os started H enc)
#print axioms valueZeros_holds
end Go.Proofs.Ytfgkhhfkodlbpaa

/-
  For all lists of integers and values, ValueOrders returns true and its arguments read afterwards as they did. No condition.
-/
import Derived.Test.YtfgkhhfkodlbpaaRows
import Derived.Test.YtfgkhhfkodlbpaaVA
import Derived.Test.YtfgkhhfkodlbpaaArg
namespace Go.Proofs.Ytfgkhhfkodlbpaa
open Xe
set_option maxRecDepth 20000

theorem own5 : ownKnob Try.prog.godebug = none := by kernel_rfl
theorem spec5 {H : Type} (ds : List (DataW H)) (h : ds.length = Try.f5.params.toList.length) : Rows.valueOrdersSpec.fn H ds = { results := [.lit (.bool true)], args := ds, vars := [] } := by
  rw [Try.params5] at h
  match ds, h with
  | [d1, d2, d3, d4, d5], _ => rfl
theorem args5 {W : World} {vs : List Value} (h : ArgsW Try.prog (memOf W) Try.f5.params.toList vs) : CallOk Try.prog W (memOf W) [] 5 vs.toArray (Is (memOf W) [] (.bool true)) := by
  rw [Try.params5] at h
  obtain ⟨l, ul, vs, rfl, hl, hli, k1⟩ := arg_ints h
  obtain ⟨ma, uma, vs, rfl, hma, hmai, k2⟩ := arg_ints k1
  obtain ⟨mb, umb, vs, rfl, hmb, hmbi, k3⟩ := arg_ints k2
  obtain ⟨x, usx, vs, rfl, hx, hxo, k4⟩ := arg_val k3
  obtain ⟨y, usy, vs, rfl, hy, hyo, k5⟩ := arg_val k4
  obtain rfl := k5.nil_inv
  exact ValueOrders_ok W (memOf W) [] l ul ma uma mb umb x usx y usy (Kn.of hl) (Kn.of hma) (Kn.of hmb) (Kn.of hx) (Kn.of hy) hli hmai hmbi hxo hyo
theorem lifted5 (os : Os) (started : os.Started) (H : Type) (enc : TypeId × Value → H) :
    ReturnsInHanded {} Try.checked os 5 .any (Rows.valueOrdersSpec.pre6 enc Try.prog Try.f5 Rows.valueOrdersRow.domain false) (Rows.valueOrdersSpec.post enc Try.prog Try.f5 false true false false) :=
  law_liftedW (C := Try.checked) (tb := 4) [3, 9, 22, 23, 24, 26, 28, 29, 31, 40, 41, 42, 44, 46, 51, 53, 66, 77, 79] own5 started (by kernel_rfl) Try.func5 (by kernel_rfl) (by kernel_rfl) Try.underlying4 (by kernel_rfl) (by kernel_rfl) rfl (fun ds h => spec5 ds h)
    (ChangeSpec.witness6 (enc := enc) (C := Try.checked) false ⟨#[], #[.slice none 0 0, .slice none 0 0, .slice none 0 0, .agg #[.int .i64 0, .int .i64 0, .slice none 0 0], .agg #[.int .i64 0, .int .i64 0, .slice none 0 0]], []⟩ 8 (by kernel_rfl) (by kernel_rfl) (by kernel_rfl) (by kernel_rfl)) (fun _ _ h => args5 h)
theorem valueOrders_holds : Rows.ValueOrdersSaid :=
  OpenClaim.holds_of_wide 5 Try.f5 rfl rfl rfl rfl rfl rfl rfl ⟨rfl, rfl, rfl, rfl, rfl⟩ rfl rfl rfl rfl rfl (by kernel_rfl) Try.func5 (by kernel_rfl)
    (of_decide_eq_true (by kernel_rfl)) (by unfold Func.isWrapper; first | (rw [if_pos (by decide +kernel)]; kernel_rfl) | (rw [if_neg (by decide +kernel)]; exact ⟨rfl, rfl⟩))
    (fun os started H enc _ => lifted5 os started H enc)
#print axioms valueOrders_holds
end Go.Proofs.Ytfgkhhfkodlbpaa

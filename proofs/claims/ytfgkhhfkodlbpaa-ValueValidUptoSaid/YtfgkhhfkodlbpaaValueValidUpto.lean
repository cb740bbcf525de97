/-
  For all lists of integers, integers, types and values of at most 1048576 values and letters together, ValueValid returns true and its arguments read afterwards as they did.
-/
import Derived.Test.YtfgkhhfkodlbpaaRows
import Derived.Test.YtfgkhhfkodlbpaaVD
import Derived.Test.YtfgkhhfkodlbpaaUp
namespace Go.Proofs.Ytfgkhhfkodlbpaa
open Xe
set_option maxRecDepth 20000

theorem own4 : ownKnob Try.prog.godebug = none := by kernel_rfl
theorem spec4 {H : Type} (ds : List (DataW H)) (h : ds.length = Try.f4.params.toList.length) : Rows.valueValidSpec.fn H ds = { results := [.lit (.bool true)], args := ds, vars := [] } := by
  rw [Try.params4] at h
  match ds, h with
  | [d1, d2, d3, d4, d5, d6, d7, d8], _ => rfl
theorem args4 {W : World} {vs : List Value} (h : ArgsB Try.prog (memOf W) 1048576 Try.f4.params.toList vs) : CallOk Try.prog W (memOf W) [] 4 vs.toArray (Is (memOf W) [] (.bool true)) := by
  rw [Try.params4] at h
  obtain ⟨l, ul, vs, rfl, hl, hli, k1⟩ := argB_ints h
  obtain ⟨ma, uma, vs, rfl, hma, hmai, k2⟩ := argB_ints k1
  obtain ⟨w, vs, rfl, hwi, k3⟩ := argB_int k2
  obtain ⟨p, vs, rfl, hpi, k4⟩ := argB_int k3
  obtain ⟨q, vs, rfl, hqi, k5⟩ := argB_int k4
  obtain ⟨r, vs, rfl, hri, k6⟩ := argB_int k5
  obtain ⟨t, ust, vs, rfl, ht, k7⟩ := argB_ty k6
  obtain ⟨v, usv, vs, rfl, hv, hvo, hvz, k8⟩ := argB_val k7
  obtain rfl := k8.nil_inv
  exact ValueValid_ok W (memOf W) [] l ul ma uma w p q r t ust v usv (Kn.of hl) (Kn.of hma) (Kn.of ht) (Kn.of hv) hli hmai hwi hpi hqi hri hvz
theorem lifted4 (os : Os) (started : os.Started) (H : Type) (enc : TypeId × Value → H) (F : Stop.Interp) :
    ReturnsInHanded {} Try.checked os 4 .any ((Rows.OpenSpec.upto Rows.valueValidSpec).pre6 enc Try.prog Try.f4 Rows.valueValidUptoRow.domain false) (((Rows.OpenSpec.upto Rows.valueValidSpec).at F).post enc Try.prog Try.f4 false true false false) :=
  law_liftedU (C := Try.checked) (s := Rows.valueValidSpec) (k := Rows.uptoSmall) (tb := 4) bulk_ok 1048576 bulk_small [3, 5, 9, 22, 23, 24, 26, 28, 29, 31, 40, 41, 42, 44, 46, 51, 53, 66, 69, 77, 79] own4 started (by kernel_rfl) Try.func4 (by kernel_rfl) (by kernel_rfl) Try.underlying4 (by kernel_rfl) (by kernel_rfl) rfl (fun ds h => spec4 ds h)
    (OpenSpec.witness (enc := enc) (C := Try.checked) (s := Rows.OpenSpec.upto Rows.valueValidSpec) (k := Rows.uptoSmall) rfl false ⟨#[], #[.slice none 0 0, .slice none 0 0, .int .i64 0, .int .i64 0, .int .i64 0, .int .i64 0, .agg #[.int .i64 0, .int .i64 0, .int .i64 0, .int .i64 0, .slice none 0 0], .agg #[.int .i64 0, .int .i64 0, .slice none 0 0]], []⟩ 8 (by kernel_rfl) (by kernel_rfl) (by kernel_rfl) (x := ([.nil, .nil, .lit (.int .i64 0), .lit (.int .i64 0), .lit (.int .i64 0), .lit (.int .i64 0), .agg [.lit (.int .i64 0), .agg [.lit (.int .i64 0), .lit (.int .i64 0), .lit (.int .i64 0)], .nil], .agg [.lit (.int .i64 0), .lit (.int .i64 0), .nil]], [], [])) (by kernel_rfl) rfl (by kernel_rfl)) (fun _ _ h => args4 h)
theorem valueValidUpto_holds : Rows.ValueValidUptoSaid :=
  OpenClaim.holds_of_cond 4 Try.f4 rfl rfl rfl rfl rfl rfl rfl ⟨rfl, rfl, rfl, rfl, rfl⟩ rfl rfl rfl rfl rfl (by kernel_rfl) Try.func4 (by kernel_rfl)
    (of_decide_eq_true (by kernel_rfl)) (by unfold Func.isWrapper; first | (rw [if_pos (by decide +kernel)]; kernel_rfl) | (rw [if_neg (by decide +kernel)]; exact ⟨rfl, rfl⟩))
    (fun os started H enc _ F => lifted4 os started H enc F)
#print axioms valueValidUpto_holds
end Go.Proofs.Ytfgkhhfkodlbpaa

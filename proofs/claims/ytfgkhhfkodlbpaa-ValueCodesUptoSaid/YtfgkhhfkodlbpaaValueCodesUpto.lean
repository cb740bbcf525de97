/-
  For all lists of integers, values, integers and bytes of at most 1048576 values and letters together, ValueCodes returns true and its arguments read afterwards as they did.
-/
import Derived.Test.YtfgkhhfkodlbpaaRows
import Derived.Test.YtfgkhhfkodlbpaaVH
import Derived.Test.YtfgkhhfkodlbpaaUp
namespace Go.Proofs.Ytfgkhhfkodlbpaa
open Xe
set_option maxRecDepth 20000

theorem own7 : ownKnob Try.prog.godebug = none := by kernel_rfl
theorem spec7 {H : Type} (ds : List (DataW H)) (h : ds.length = Try.f7.params.toList.length) : Rows.valueCodesSpec.fn H ds = { results := [.lit (.bool true)], args := ds, vars := [] } := by
  rw [Try.params7] at h
  match ds, h with
  | [d1, d2, d3, d4, d5, d6, d7], _ => rfl
theorem args7 {W : World} {vs : List Value} (h : ArgsB Try.prog (memOf W) 1048576 Try.f7.params.toList vs) : CallOk Try.prog W (memOf W) [] 7 vs.toArray (Is (memOf W) [] (.bool true)) := by
  rw [Try.params7] at h
  obtain ⟨l, ul, vs, rfl, hl, hli, k1⟩ := argB_ints h
  obtain ⟨ma, uma, vs, rfl, hma, hmai, k2⟩ := argB_ints k1
  obtain ⟨v, usv, vs, rfl, hv, hvo, hvz, k3⟩ := argB_val k2
  obtain ⟨w, vs, rfl, hwi, k4⟩ := argB_int k3
  obtain ⟨y, vs, rfl, hyi, k5⟩ := argB_byte k4
  obtain ⟨b, ub, vs, rfl, hb, hbi, k6⟩ := argB_bytes k5
  obtain ⟨q, vs, rfl, hqi, k7⟩ := argB_int k6
  obtain rfl := k7.nil_inv
  exact ValueCodes_ok W (memOf W) [] l ul ma uma v usv w y b ub q (Kn.of hl) (Kn.of hma) (Kn.of hv) (Kn.of hb) hli hmai hwi hqi hyi hbi hvo hvz
theorem lifted7 (os : Os) (started : os.Started) (H : Type) (enc : TypeId × Value → H) (F : Stop.Interp) :
    ReturnsInHanded {} Try.checked os 7 .any ((Rows.OpenSpec.upto Rows.valueCodesSpec).pre6 enc Try.prog Try.f7 Rows.valueCodesUptoRow.domain false) (((Rows.OpenSpec.upto Rows.valueCodesSpec).at F).post enc Try.prog Try.f7 false true false false) :=
  law_liftedU (C := Try.checked) (s := Rows.valueCodesSpec) (k := Rows.uptoSmall) (tb := 4) bulk_ok 1048576 bulk_small [3, 5, 9, 22, 23, 24, 26, 28, 29, 31, 40, 41, 42, 44, 46, 51, 53, 66, 69, 77, 79] own7 started (by kernel_rfl) Try.func7 (by kernel_rfl) (by kernel_rfl) Try.underlying4 (by kernel_rfl) (by kernel_rfl) rfl (fun ds h => spec7 ds h)
    (OpenSpec.witness (enc := enc) (C := Try.checked) (s := Rows.OpenSpec.upto Rows.valueCodesSpec) (k := Rows.uptoSmall) rfl false ⟨#[], #[.slice none 0 0, .slice none 0 0, .agg #[.int .i64 0, .int .i64 0, .slice none 0 0], .int .i64 0, .int .u8 0, .slice none 0 0, .int .i64 0], []⟩ 8 (by kernel_rfl) (by kernel_rfl) (by kernel_rfl) (x := ([.nil, .nil, .agg [.lit (.int .i64 0), .lit (.int .i64 0), .nil], .lit (.int .i64 0), .lit (.int .u8 0), .nil, .lit (.int .i64 0)], [], [])) (by kernel_rfl) rfl (by kernel_rfl)) (fun _ _ h => args7 h)
theorem valueCodesUpto_holds : Rows.ValueCodesUptoSaid :=
  OpenClaim.holds_of_cond 7 Try.f7 rfl rfl rfl rfl rfl rfl rfl ⟨rfl, rfl, rfl, rfl, rfl⟩ rfl rfl rfl rfl rfl (by kernel_rfl) Try.func7 (by kernel_rfl)
    (of_decide_eq_true (by kernel_rfl)) (by unfold Func.isWrapper; first | (rw [if_pos (by decide +kernel)]; kernel_rfl) | (rw [if_neg (by decide +kernel)]; exact ⟨rfl, rfl⟩))
    (fun os started H enc _ F => lifted7 os started H enc F)
#print axioms valueCodesUpto_holds
end Go.Proofs.Ytfgkhhfkodlbpaa

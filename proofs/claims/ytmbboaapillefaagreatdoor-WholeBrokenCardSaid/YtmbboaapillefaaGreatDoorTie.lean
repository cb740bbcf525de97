/-
  DERIVED. GIVEN WITH THE SEED: THE PROGRAM's TIES (one call each: nine closed facts by the kernel) AND EACH ROW's TIE, after the 31st guide's Derived/Test/Toyas{Tie, Card}.lean. No idea stands in it: it is a product of the set-up. Laid BY PROGRAM, IN A SANDBOX (cutbox-door.mjs). By AI agents, Wed Nov 11 2026. No macro, syntax, notation, axiom, sorry.
-/
import Derived.Test.YtmbboaapillefaaGreatDoorRows
import Derived.LaidByTextLater
import Derived.SevenTiedAt
import Derived.LaidSub
import Derived.LaidOnce
namespace Go.Proofs.YtmbboaapillefaaGreatDoor
open Go
set_option maxRecDepth 100000
theorem seatTie1 : Tryz.prog.laidByTextLater [("splicery/lex.signs", Rows.laid_splicery_lex_signs), ("splicery/lex.kinds", Rows.laid_splicery_lex_kinds), ("splicery/lex.keywords", Rows.laid_splicery_lex_keywords), ("splicery/whole.fits", Rows.laid_splicery_whole_fits), ("splicery/whole.kids", Rows.laid_splicery_whole_kids)] [.data, .funcs, .widerDeep, .mapped, .data] true :=
  Program.laidByTextLater_by_one 61 8 28 (by kernel_rfl) (by kernel_rfl) (by kernel_rfl) (by kernel_rfl) (by kernel_rfl) (by kernel_rfl) (fun _ _ => by kernel_rfl)
theorem noOwnUnsafe : Tryz.pinned.checked.prog.headLifts.contains "ownunsafe" = false := by kernel_rfl
theorem tie : Tryz.prog.laidByTextLater [("splicery/lex.signs", Rows.laid_splicery_lex_signs), ("splicery/lex.kinds", Rows.laid_splicery_lex_kinds), ("splicery/lex.keywords", Rows.laid_splicery_lex_keywords), ("splicery/whole.fits", Rows.laid_splicery_whole_fits), ("splicery/whole.kids", Rows.laid_splicery_whole_kids)] [.data, .funcs, .widerDeep, .mapped, .data] true :=
  Program.laidByTextLater.sub seatTie1 ["splicery/lex.signs", "splicery/lex.kinds", "splicery/lex.keywords", "splicery/whole.fits", "splicery/whole.kids"] (by kernel_rfl) (by kernel_rfl)
theorem wholeProblems_row_tie : Rows.wholeProblemsRow.laidByTextAt .later Tryz.pinned [.data, .funcs, .widerDeep, .mapped, .data] true :=
  OpenClaim.laidByTextAt_later rfl rfl tie noOwnUnsafe
theorem wholeOrder_row_tie : Rows.wholeOrderRow.laidByTextAt .later Tryz.pinned [.data, .funcs, .widerDeep, .mapped, .data] true :=
  OpenClaim.laidByTextAt_later rfl rfl tie noOwnUnsafe
theorem wholeOrdered_row_tie : Rows.wholeOrderedRow.laidByTextAt .later Tryz.pinned [.data, .funcs, .widerDeep, .mapped, .data] true :=
  OpenClaim.laidByTextAt_later rfl rfl tie noOwnUnsafe
theorem wholeWeaker_row_tie : Rows.wholeWeakerRow.laidByTextAt .later Tryz.pinned [.data, .funcs, .widerDeep, .mapped, .data] true :=
  OpenClaim.laidByTextAt_later rfl rfl tie noOwnUnsafe
theorem wholeBroken_row_tie : Rows.wholeBrokenRow.laidByTextAt .later Tryz.pinned [.data, .funcs, .widerDeep, .mapped, .data] true :=
  OpenClaim.laidByTextAt_later rfl rfl tie noOwnUnsafe
theorem wholeProblemsUpto_row_tie : Rows.wholeProblemsUptoRow.laidByTextAt .later Tryz.pinned [.data, .funcs, .widerDeep, .mapped, .data] true :=
  OpenClaim.laidByTextAt_later rfl rfl tie noOwnUnsafe
theorem wholeOrderUpto_row_tie : Rows.wholeOrderUptoRow.laidByTextAt .later Tryz.pinned [.data, .funcs, .widerDeep, .mapped, .data] true :=
  OpenClaim.laidByTextAt_later rfl rfl tie noOwnUnsafe
theorem wholeOrderedUpto_row_tie : Rows.wholeOrderedUptoRow.laidByTextAt .later Tryz.pinned [.data, .funcs, .widerDeep, .mapped, .data] true :=
  OpenClaim.laidByTextAt_later rfl rfl tie noOwnUnsafe
theorem wholeWeakerUpto_row_tie : Rows.wholeWeakerUptoRow.laidByTextAt .later Tryz.pinned [.data, .funcs, .widerDeep, .mapped, .data] true :=
  OpenClaim.laidByTextAt_later rfl rfl tie noOwnUnsafe
theorem wholeBrokenUpto_row_tie : Rows.wholeBrokenUptoRow.laidByTextAt .later Tryz.pinned [.data, .funcs, .widerDeep, .mapped, .data] true :=
  OpenClaim.laidByTextAt_later rfl rfl tie noOwnUnsafe
end Go.Proofs.YtmbboaapillefaaGreatDoor

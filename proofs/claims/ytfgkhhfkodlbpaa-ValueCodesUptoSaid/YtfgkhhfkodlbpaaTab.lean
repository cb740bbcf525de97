/- CLOSED FACTS on the program: types, fields, functions. Printed by gentab.py. -/
import Derived.Test.YtfgkhhfkodlbpaaProg
import Derived.Test.YtfgkhhfkodlbpaaXe2
import Derived.KernelRfl
namespace Go.Proofs.Ytfgkhhfkodlbpaa
open Xe

theorem mix : Try.prog.follows .mixedOrders = true := by kernel_rfl
theorem flat3 : flatB Try.prog 3 = true := by kernel_rfl
theorem flat5 : flatB Try.prog 5 = true := by kernel_rfl
theorem flat9 : flatB Try.prog 9 = true := by kernel_rfl
theorem flat23 : flatB Try.prog 23 = true := by kernel_rfl
theorem flat24 : flatB Try.prog 24 = true := by kernel_rfl
theorem flat29 : flatB Try.prog 29 = true := by kernel_rfl
theorem flat40 : flatB Try.prog 40 = true := by kernel_rfl
theorem flat51 : flatB Try.prog 51 = true := by kernel_rfl
theorem flat69 : flatB Try.prog 69 = true := by kernel_rfl
theorem flat77 : flatB Try.prog 77 = true := by kernel_rfl
theorem flat92 : flatB Try.prog 92 = true := by kernel_rfl
theorem flat96 : flatB Try.prog 96 = true := by kernel_rfl
theorem flat102 : flatB Try.prog 102 = true := by kernel_rfl
theorem agg26 : aggB Try.prog 26 2 = true := by kernel_rfl
theorem agg28 : aggB Try.prog 28 3 = true := by kernel_rfl
theorem agg31 : aggB Try.prog 31 5 = true := by kernel_rfl
theorem agg46 : aggB Try.prog 46 31 = true := by kernel_rfl
theorem agg53 : aggB Try.prog 53 3 = true := by kernel_rfl
theorem agg66 : aggB Try.prog 66 11 = true := by kernel_rfl
theorem size3 : sizeB Try.prog 3 1 = true := by kernel_rfl
theorem size5 : sizeB Try.prog 5 1 = true := by kernel_rfl
theorem size24 : sizeB Try.prog 24 1 = true := by kernel_rfl
theorem size26 : sizeB Try.prog 26 2 = true := by kernel_rfl
theorem size28 : sizeB Try.prog 28 3 = true := by kernel_rfl
theorem size31 : sizeB Try.prog 31 5 = true := by kernel_rfl
theorem size40 : sizeB Try.prog 40 1 = true := by kernel_rfl
theorem size46 : sizeB Try.prog 46 31 = true := by kernel_rfl
theorem size51 : sizeB Try.prog 51 1 = true := by kernel_rfl
theorem size53 : sizeB Try.prog 53 3 = true := by kernel_rfl
theorem size66 : sizeB Try.prog 66 11 = true := by kernel_rfl
theorem size77 : sizeB Try.prog 77 1 = true := by kernel_rfl
theorem size92 : sizeB Try.prog 92 1 = true := by kernel_rfl
theorem size96 : sizeB Try.prog 96 1 = true := by kernel_rfl
theorem size102 : sizeB Try.prog 102 1 = true := by kernel_rfl
theorem size104 : sizeB Try.prog 104 5 = true := by kernel_rfl
theorem slice22 : sliceB Try.prog 22 3 1 = true := by kernel_rfl
theorem slice23 : sliceB Try.prog 23 79 6 = true := by kernel_rfl
theorem slice24 : sliceB Try.prog 24 46 31 = true := by kernel_rfl
theorem slice29 : sliceB Try.prog 29 31 5 = true := by kernel_rfl
theorem slice40 : sliceB Try.prog 40 66 11 = true := by kernel_rfl
theorem slice42 : sliceB Try.prog 42 9 1 = true := by kernel_rfl
theorem slice51 : sliceB Try.prog 51 53 3 = true := by kernel_rfl
theorem slice69 : sliceB Try.prog 69 5 1 = true := by kernel_rfl
theorem slice72 : sliceB Try.prog 72 69 1 = true := by kernel_rfl
theorem field26_0 : fieldB Try.prog 26 0 0 = true := by kernel_rfl
theorem field26_1 : fieldB Try.prog 26 1 1 = true := by kernel_rfl
theorem field31_0 : fieldB Try.prog 31 0 0 = true := by kernel_rfl
theorem field31_1 : fieldB Try.prog 31 1 1 = true := by kernel_rfl
theorem field31_2 : fieldB Try.prog 31 2 4 = true := by kernel_rfl
theorem field46_0 : fieldB Try.prog 46 0 0 = true := by kernel_rfl
theorem field46_1 : fieldB Try.prog 46 1 3 = true := by kernel_rfl
theorem field46_3 : fieldB Try.prog 46 3 7 = true := by kernel_rfl
theorem field46_4 : fieldB Try.prog 46 4 8 = true := by kernel_rfl
theorem field53_0 : fieldB Try.prog 53 0 0 = true := by kernel_rfl
theorem field53_1 : fieldB Try.prog 53 1 1 = true := by kernel_rfl
theorem field53_2 : fieldB Try.prog 53 2 2 = true := by kernel_rfl
theorem field66_2 : fieldB Try.prog 66 2 4 = true := by kernel_rfl
theorem field79_3 : fieldB Try.prog 79 3 5 = true := by kernel_rfl
theorem func9 : funcB Try.prog 9 = true := by kernel_rfl
theorem func10 : funcB Try.prog 10 = true := by kernel_rfl
theorem func11 : funcB Try.prog 11 = true := by kernel_rfl
theorem func12 : funcB Try.prog 12 = true := by kernel_rfl
theorem func13 : funcB Try.prog 13 = true := by kernel_rfl
theorem func14 : funcB Try.prog 14 = true := by kernel_rfl
theorem func15 : funcB Try.prog 15 = true := by kernel_rfl
theorem func16 : funcB Try.prog 16 = true := by kernel_rfl
theorem func17 : funcB Try.prog 17 = true := by kernel_rfl
theorem func18 : funcB Try.prog 18 = true := by kernel_rfl
theorem func19 : funcB Try.prog 19 = true := by kernel_rfl
theorem func20 : funcB Try.prog 20 = true := by kernel_rfl
theorem func21 : funcB Try.prog 21 = true := by kernel_rfl
theorem func22 : funcB Try.prog 22 = true := by kernel_rfl
theorem func23 : funcB Try.prog 23 = true := by kernel_rfl
theorem func24 : funcB Try.prog 24 = true := by kernel_rfl
theorem func25 : funcB Try.prog 25 = true := by kernel_rfl
theorem func26 : funcB Try.prog 26 = true := by kernel_rfl
theorem func27 : funcB Try.prog 27 = true := by kernel_rfl
theorem func28 : funcB Try.prog 28 = true := by kernel_rfl
theorem func29 : funcB Try.prog 29 = true := by kernel_rfl
theorem func30 : funcB Try.prog 30 = true := by kernel_rfl
theorem func31 : funcB Try.prog 31 = true := by kernel_rfl
theorem func32 : funcB Try.prog 32 = true := by kernel_rfl
theorem func33 : funcB Try.prog 33 = true := by kernel_rfl
theorem func34 : funcB Try.prog 34 = true := by kernel_rfl
theorem func35 : funcB Try.prog 35 = true := by kernel_rfl
theorem func36 : funcB Try.prog 36 = true := by kernel_rfl
theorem func37 : funcB Try.prog 37 = true := by kernel_rfl
theorem func38 : funcB Try.prog 38 = true := by kernel_rfl
theorem func39 : funcB Try.prog 39 = true := by kernel_rfl
theorem func40 : funcB Try.prog 40 = true := by kernel_rfl
theorem func41 : funcB Try.prog 41 = true := by kernel_rfl
theorem func42 : funcB Try.prog 42 = true := by kernel_rfl
theorem func43 : funcB Try.prog 43 = true := by kernel_rfl
theorem func44 : funcB Try.prog 44 = true := by kernel_rfl
theorem func45 : funcB Try.prog 45 = true := by kernel_rfl
theorem func46 : funcB Try.prog 46 = true := by kernel_rfl
theorem func47 : funcB Try.prog 47 = true := by kernel_rfl
theorem func48 : funcB Try.prog 48 = true := by kernel_rfl
theorem func49 : funcB Try.prog 49 = true := by kernel_rfl
theorem func50 : funcB Try.prog 50 = true := by kernel_rfl
theorem func51 : funcB Try.prog 51 = true := by kernel_rfl
theorem func52 : funcB Try.prog 52 = true := by kernel_rfl
theorem func53 : funcB Try.prog 53 = true := by kernel_rfl
theorem func54 : funcB Try.prog 54 = true := by kernel_rfl
theorem func55 : funcB Try.prog 55 = true := by kernel_rfl
theorem func56 : funcB Try.prog 56 = true := by kernel_rfl
theorem func57 : funcB Try.prog 57 = true := by kernel_rfl
theorem func58 : funcB Try.prog 58 = true := by kernel_rfl
theorem func59 : funcB Try.prog 59 = true := by kernel_rfl
theorem func60 : funcB Try.prog 60 = true := by kernel_rfl
theorem func61 : funcB Try.prog 61 = true := by kernel_rfl
theorem func62 : funcB Try.prog 62 = true := by kernel_rfl
theorem func63 : funcB Try.prog 63 = true := by kernel_rfl
theorem func64 : funcB Try.prog 64 = true := by kernel_rfl
theorem func65 : funcB Try.prog 65 = true := by kernel_rfl
theorem func66 : funcB Try.prog 66 = true := by kernel_rfl
theorem func67 : funcB Try.prog 67 = true := by kernel_rfl
theorem func68 : funcB Try.prog 68 = true := by kernel_rfl
theorem func69 : funcB Try.prog 69 = true := by kernel_rfl
theorem func70 : funcB Try.prog 70 = true := by kernel_rfl
theorem func71 : funcB Try.prog 71 = true := by kernel_rfl
theorem func72 : funcB Try.prog 72 = true := by kernel_rfl
theorem func73 : funcB Try.prog 73 = true := by kernel_rfl
theorem zero3 : zeroB Try.prog 3 = some (.int .i64 0) := by kernel_rfl
theorem zero5 : zeroB Try.prog 5 = some (.int .u8 0) := by kernel_rfl
theorem zero9 : zeroB Try.prog 9 = some (.string ByteArray.empty) := by kernel_rfl
theorem zero26 : zeroB Try.prog 26 = some (.agg [.slice none 0 0, .slice none 0 0].toArray) := by kernel_rfl
theorem zero28 : zeroB Try.prog 28 = some (.agg [.int .i64 0, .int .i64 0, .int .i64 0].toArray) := by kernel_rfl
theorem zero31 : zeroB Try.prog 31 = some (.agg [.int .i64 0, .int .i64 0, .int .i64 0, .int .i64 0, .slice none 0 0].toArray) := by kernel_rfl
theorem zero46 : zeroB Try.prog 46 = some (.agg [.int .i64 0, .int .i64 0, .int .i64 0, .int .i64 0, .int .i64 0, .int .i64 0, .int .i64 0, .string ByteArray.empty, .slice none 0 0, .int .i64 0, .int .i64 0, .int .i64 0, .int .i64 0, .slice none 0 0, .int .i64 0, .int .i64 0, .int .i64 0, .int .i64 0, .int .i64 0, .int .i64 0, .int .i64 0, .int .i64 0, .int .i64 0, .int .i64 0, .int .i64 0, .int .i64 0, .slice none 0 0, .slice none 0 0, .slice none 0 0, .int .i64 0, .slice none 0 0].toArray) := by kernel_rfl
theorem zero53 : zeroB Try.prog 53 = some (.agg [.int .i64 0, .int .i64 0, .slice none 0 0].toArray) := by kernel_rfl
theorem zero66 : zeroB Try.prog 66 = some (.agg [.int .i64 0, .int .i64 0, .int .i64 0, .string ByteArray.empty, .int .i64 0, .int .i64 0, .int .i64 0, .int .i64 0, .slice none 0 0, .int .i64 0, .int .i64 0].toArray) := by kernel_rfl
theorem zero69 : zeroB Try.prog 69 = some (.slice none 0 0) := by kernel_rfl
theorem zero79 : zeroB Try.prog 79 = some (.agg [.int .i64 0, .int .i64 0, .int .i64 0, .string ByteArray.empty, .slice none 0 0, .slice none 0 0].toArray) := by kernel_rfl
theorem zero92 : zeroB Try.prog 92 = some (.nilFunc) := by kernel_rfl
theorem zero96 : zeroB Try.prog 96 = some (.nilFunc) := by kernel_rfl
theorem zero97 : zeroB Try.prog 97 = some (.agg [.int .i64 0, .int .i64 0, .int .i64 0].toArray) := by kernel_rfl
theorem zero102 : zeroB Try.prog 102 = some (.nilFunc) := by kernel_rfl
theorem zero104 : zeroB Try.prog 104 = some (.agg [.int .i64 0, .int .i64 0, .int .i64 0, .int .i64 0, .int .i64 0].toArray) := by kernel_rfl
theorem elem22 : ElemOk Try.prog 22 3 1 8 := ElemOk.mk' (z := .int .i64 0) Try.underlying22 (by kernel_rfl) rfl rfl
theorem elem23 : ElemOk Try.prog 23 79 6 88 := ElemOk.mk' (z := .agg [.int .i64 0, .int .i64 0, .int .i64 0, .string ByteArray.empty, .slice none 0 0, .slice none 0 0].toArray) Try.underlying23 (by kernel_rfl) rfl rfl
theorem elem24 : ElemOk Try.prog 24 46 31 352 := ElemOk.mk' (z := .agg [.int .i64 0, .int .i64 0, .int .i64 0, .int .i64 0, .int .i64 0, .int .i64 0, .int .i64 0, .string ByteArray.empty, .slice none 0 0, .int .i64 0, .int .i64 0, .int .i64 0, .int .i64 0, .slice none 0 0, .int .i64 0, .int .i64 0, .int .i64 0, .int .i64 0, .int .i64 0, .int .i64 0, .int .i64 0, .int .i64 0, .int .i64 0, .int .i64 0, .int .i64 0, .int .i64 0, .slice none 0 0, .slice none 0 0, .slice none 0 0, .int .i64 0, .slice none 0 0].toArray) Try.underlying24 (by kernel_rfl) rfl rfl
theorem elem29 : ElemOk Try.prog 29 31 5 56 := ElemOk.mk' (z := .agg [.int .i64 0, .int .i64 0, .int .i64 0, .int .i64 0, .slice none 0 0].toArray) Try.underlying29 (by kernel_rfl) rfl rfl
theorem elem40 : ElemOk Try.prog 40 66 11 112 := ElemOk.mk' (z := .agg [.int .i64 0, .int .i64 0, .int .i64 0, .string ByteArray.empty, .int .i64 0, .int .i64 0, .int .i64 0, .int .i64 0, .slice none 0 0, .int .i64 0, .int .i64 0].toArray) Try.underlying40 (by kernel_rfl) rfl rfl
theorem elem42 : ElemOk Try.prog 42 9 1 16 := ElemOk.mk' (z := .string ByteArray.empty) Try.underlying42 (by kernel_rfl) rfl rfl
theorem elem51 : ElemOk Try.prog 51 53 3 40 := ElemOk.mk' (z := .agg [.int .i64 0, .int .i64 0, .slice none 0 0].toArray) Try.underlying51 (by kernel_rfl) rfl rfl
theorem elem69 : ElemOk Try.prog 69 5 1 1 := ElemOk.mk' (z := .int .u8 0) Try.underlying69 (by kernel_rfl) rfl rfl
theorem elem72 : ElemOk Try.prog 72 69 1 24 := ElemOk.mk' (z := .slice none 0 0) Try.underlying72 (by kernel_rfl) rfl rfl
theorem elem77 : ElemOk Try.prog 77 28 3 24 := ElemOk.mk' (z := .agg [.int .i64 0, .int .i64 0, .int .i64 0].toArray) Try.underlying77 (by kernel_rfl) rfl rfl
theorem places26 : placesB Try.prog 26 = some [(0, 1), (1, 1)] := by kernel_rfl
theorem places28 : placesB Try.prog 28 = some [(0, 1), (1, 1), (2, 1)] := by kernel_rfl
theorem places31 : placesB Try.prog 31 = some [(0, 1), (1, 3), (4, 1)] := by kernel_rfl
theorem places46 : placesB Try.prog 46 = some [(0, 3), (3, 1), (4, 3), (7, 1), (8, 1), (9, 5), (14, 15), (29, 1), (30, 1)] := by kernel_rfl
theorem places53 : placesB Try.prog 53 = some [(0, 1), (1, 1), (2, 1)] := by kernel_rfl
theorem places66 : placesB Try.prog 66 = some [(0, 3), (3, 1), (4, 5), (9, 1), (10, 1)] := by kernel_rfl
theorem places79 : placesB Try.prog 79 = some [(0, 3), (3, 1), (4, 1), (5, 1)] := by kernel_rfl
end Go.Proofs.Ytfgkhhfkodlbpaa

/- CLOSED FACTS on the program: types, fields, functions. Printed by gentab.py. -/
import Derived.Test.YtjkcjbicleohkaaProg
import Derived.Test.YtjkcjbicleohkaaXeH
import Derived.KernelRfl
namespace Go.Proofs.Ytjkcjbicleohkaa
open Xe

theorem mix : Try.prog.follows .mixedOrders = true := by kernel_rfl
theorem flat3 : flatB Try.prog 3 = true := by kernel_rfl
theorem flat4 : flatB Try.prog 4 = true := by kernel_rfl
theorem flat22 : flatB Try.prog 22 = true := by kernel_rfl
theorem flat25 : flatB Try.prog 25 = true := by kernel_rfl
theorem flat28 : flatB Try.prog 28 = true := by kernel_rfl
theorem flat34 : flatB Try.prog 34 = true := by kernel_rfl
theorem flat74 : flatB Try.prog 74 = true := by kernel_rfl
theorem flat95 : flatB Try.prog 95 = true := by kernel_rfl
theorem flat96 : flatB Try.prog 96 = true := by kernel_rfl
theorem agg24 : aggB Try.prog 24 3 = true := by kernel_rfl
theorem agg27 : aggB Try.prog 27 5 = true := by kernel_rfl
theorem agg31 : aggB Try.prog 31 15 = true := by kernel_rfl
theorem agg51 : aggB Try.prog 51 6 = true := by kernel_rfl
theorem agg80 : aggB Try.prog 80 16 = true := by kernel_rfl
theorem agg102 : aggB Try.prog 102 2 = true := by kernel_rfl
theorem size3 : sizeB Try.prog 3 1 = true := by kernel_rfl
theorem size22 : sizeB Try.prog 22 1 = true := by kernel_rfl
theorem size24 : sizeB Try.prog 24 3 = true := by kernel_rfl
theorem size27 : sizeB Try.prog 27 5 = true := by kernel_rfl
theorem size28 : sizeB Try.prog 28 1 = true := by kernel_rfl
theorem size29 : sizeB Try.prog 29 1 = true := by kernel_rfl
theorem size31 : sizeB Try.prog 31 15 = true := by kernel_rfl
theorem size51 : sizeB Try.prog 51 6 = true := by kernel_rfl
theorem size74 : sizeB Try.prog 74 1 = true := by kernel_rfl
theorem size80 : sizeB Try.prog 80 16 = true := by kernel_rfl
theorem size95 : sizeB Try.prog 95 1 = true := by kernel_rfl
theorem size96 : sizeB Try.prog 96 1 = true := by kernel_rfl
theorem size102 : sizeB Try.prog 102 2 = true := by kernel_rfl
theorem slice22 : sliceB Try.prog 22 3 1 = true := by kernel_rfl
theorem slice25 : sliceB Try.prog 25 27 5 = true := by kernel_rfl
theorem slice28 : sliceB Try.prog 28 31 15 = true := by kernel_rfl
theorem slice34 : sliceB Try.prog 34 51 6 = true := by kernel_rfl
theorem slice35 : sliceB Try.prog 35 22 1 = true := by kernel_rfl
theorem slice42 : sliceB Try.prog 42 83 6 = true := by kernel_rfl
theorem slice44 : sliceB Try.prog 44 49 17 = true := by kernel_rfl
theorem slice56 : sliceB Try.prog 56 34 1 = true := by kernel_rfl
theorem slice71 : sliceB Try.prog 71 4 1 = true := by kernel_rfl
theorem slice74 : sliceB Try.prog 74 80 16 = true := by kernel_rfl
theorem slice100 : sliceB Try.prog 100 102 2 = true := by kernel_rfl
theorem field27_0 : fieldB Try.prog 27 0 0 = true := by kernel_rfl
theorem field27_1 : fieldB Try.prog 27 1 1 = true := by kernel_rfl
theorem field27_2 : fieldB Try.prog 27 2 4 = true := by kernel_rfl
theorem field31_0 : fieldB Try.prog 31 0 0 = true := by kernel_rfl
theorem field31_1 : fieldB Try.prog 31 1 3 = true := by kernel_rfl
theorem field31_2 : fieldB Try.prog 31 2 4 = true := by kernel_rfl
theorem field31_3 : fieldB Try.prog 31 3 5 = true := by kernel_rfl
theorem field31_4 : fieldB Try.prog 31 4 8 = true := by kernel_rfl
theorem field31_5 : fieldB Try.prog 31 5 13 = true := by kernel_rfl
theorem field31_6 : fieldB Try.prog 31 6 14 = true := by kernel_rfl
theorem field49_0 : fieldB Try.prog 49 0 0 = true := by kernel_rfl
theorem field49_1 : fieldB Try.prog 49 1 15 = true := by kernel_rfl
theorem field49_2 : fieldB Try.prog 49 2 16 = true := by kernel_rfl
theorem field51_0 : fieldB Try.prog 51 0 0 = true := by kernel_rfl
theorem field51_1 : fieldB Try.prog 51 1 3 = true := by kernel_rfl
theorem field80_0 : fieldB Try.prog 80 0 0 = true := by kernel_rfl
theorem field80_1 : fieldB Try.prog 80 1 15 = true := by kernel_rfl
theorem field83_0 : fieldB Try.prog 83 0 0 = true := by kernel_rfl
theorem field83_1 : fieldB Try.prog 83 1 3 = true := by kernel_rfl
theorem func11 : funcB Try.prog 11 = true := by kernel_rfl
theorem func12 : funcB Try.prog 12 = true := by kernel_rfl
theorem func13 : funcB Try.prog 13 = true := by kernel_rfl
theorem func14 : funcB Try.prog 14 = true := by kernel_rfl
theorem func15 : funcB Try.prog 15 = true := by kernel_rfl
theorem func16 : funcB Try.prog 16 = true := by kernel_rfl
theorem func17 : funcB Try.prog 17 = true := by kernel_rfl
theorem func18 : funcB Try.prog 18 = true := by kernel_rfl
theorem func19 : funcB Try.prog 19 = true := by kernel_rfl
theorem func20 : funcB Try.prog 20 = true := by kernel_rfl
theorem func21 : funcB Try.prog 21 = true := by kernel_rfl
theorem func22 : funcB Try.prog 22 = true := by kernel_rfl
theorem func23 : funcB Try.prog 23 = true := by kernel_rfl
theorem func24 : funcB Try.prog 24 = true := by kernel_rfl
theorem func25 : funcB Try.prog 25 = true := by kernel_rfl
theorem func26 : funcB Try.prog 26 = true := by kernel_rfl
theorem func27 : funcB Try.prog 27 = true := by kernel_rfl
theorem func28 : funcB Try.prog 28 = true := by kernel_rfl
theorem func29 : funcB Try.prog 29 = true := by kernel_rfl
theorem func30 : funcB Try.prog 30 = true := by kernel_rfl
theorem func31 : funcB Try.prog 31 = true := by kernel_rfl
theorem func32 : funcB Try.prog 32 = true := by kernel_rfl
theorem func33 : funcB Try.prog 33 = true := by kernel_rfl
theorem func34 : funcB Try.prog 34 = true := by kernel_rfl
theorem func35 : funcB Try.prog 35 = true := by kernel_rfl
theorem func36 : funcB Try.prog 36 = true := by kernel_rfl
theorem func37 : funcB Try.prog 37 = true := by kernel_rfl
theorem func38 : funcB Try.prog 38 = true := by kernel_rfl
theorem func39 : funcB Try.prog 39 = true := by kernel_rfl
theorem func40 : funcB Try.prog 40 = true := by kernel_rfl
theorem func41 : funcB Try.prog 41 = true := by kernel_rfl
theorem func42 : funcB Try.prog 42 = true := by kernel_rfl
theorem func43 : funcB Try.prog 43 = true := by kernel_rfl
theorem func44 : funcB Try.prog 44 = true := by kernel_rfl
theorem func45 : funcB Try.prog 45 = true := by kernel_rfl
theorem func46 : funcB Try.prog 46 = true := by kernel_rfl
theorem func47 : funcB Try.prog 47 = true := by kernel_rfl
theorem func48 : funcB Try.prog 48 = true := by kernel_rfl
theorem func49 : funcB Try.prog 49 = true := by kernel_rfl
theorem func50 : funcB Try.prog 50 = true := by kernel_rfl
theorem func51 : funcB Try.prog 51 = true := by kernel_rfl
theorem func52 : funcB Try.prog 52 = true := by kernel_rfl
theorem func53 : funcB Try.prog 53 = true := by kernel_rfl
theorem func54 : funcB Try.prog 54 = true := by kernel_rfl
theorem zero3 : zeroB Try.prog 3 = some (.int .i64 0) := by kernel_rfl
theorem zero4 : zeroB Try.prog 4 = some (.bool false) := by kernel_rfl
theorem zero9 : zeroB Try.prog 9 = some (.string ByteArray.empty) := by kernel_rfl
theorem zero22 : zeroB Try.prog 22 = some (.slice none 0 0) := by kernel_rfl
theorem zero24 : zeroB Try.prog 24 = some (.agg [.int .i64 0, .int .i64 0, .int .i64 0].toArray) := by kernel_rfl
theorem zero27 : zeroB Try.prog 27 = some (.agg [.int .i64 0, .int .i64 0, .int .i64 0, .int .i64 0, .slice none 0 0].toArray) := by kernel_rfl
theorem zero31 : zeroB Try.prog 31 = some (.agg [.int .i64 0, .int .i64 0, .int .i64 0, .int .i64 0, .int .i64 0, .int .i64 0, .int .i64 0, .int .i64 0, .int .i64 0, .int .i64 0, .int .i64 0, .int .i64 0, .slice none 0 0, .slice none 0 0, .slice none 0 0].toArray) := by kernel_rfl
theorem zero34 : zeroB Try.prog 34 = some (.slice none 0 0) := by kernel_rfl
theorem zero49 : zeroB Try.prog 49 = some (.agg [.int .i64 0, .int .i64 0, .int .i64 0, .int .i64 0, .int .i64 0, .int .i64 0, .int .i64 0, .int .i64 0, .int .i64 0, .int .i64 0, .int .i64 0, .int .i64 0, .slice none 0 0, .slice none 0 0, .slice none 0 0, .int .i64 0, .int .i64 0].toArray) := by kernel_rfl
theorem zero51 : zeroB Try.prog 51 = some (.agg [.int .i64 0, .int .i64 0, .int .i64 0, .int .i64 0, .int .i64 0, .int .i64 0].toArray) := by kernel_rfl
theorem zero74 : zeroB Try.prog 74 = some (.slice none 0 0) := by kernel_rfl
theorem zero80 : zeroB Try.prog 80 = some (.agg [.int .i64 0, .int .i64 0, .int .i64 0, .int .i64 0, .int .i64 0, .int .i64 0, .int .i64 0, .int .i64 0, .int .i64 0, .int .i64 0, .int .i64 0, .int .i64 0, .slice none 0 0, .slice none 0 0, .slice none 0 0, .int .i64 0].toArray) := by kernel_rfl
theorem zero83 : zeroB Try.prog 83 = some (.agg [.int .i64 0, .int .i64 0, .int .i64 0, .int .i64 0, .int .i64 0, .int .i64 0].toArray) := by kernel_rfl
theorem zero95 : zeroB Try.prog 95 = some (.map none) := by kernel_rfl
theorem zero96 : zeroB Try.prog 96 = some (.nilFunc) := by kernel_rfl
theorem zero102 : zeroB Try.prog 102 = some (.agg [.int .i64 0, .int .i64 0].toArray) := by kernel_rfl
theorem elem22 : ElemOk Try.prog 22 3 1 8 := ElemOk.mk' (z := .int .i64 0) Try.underlying22 (by kernel_rfl) rfl rfl
theorem elem25 : ElemOk Try.prog 25 27 5 56 := ElemOk.mk' (z := .agg [.int .i64 0, .int .i64 0, .int .i64 0, .int .i64 0, .slice none 0 0].toArray) Try.underlying25 (by kernel_rfl) rfl rfl
theorem elem28 : ElemOk Try.prog 28 31 15 168 := ElemOk.mk' (z := .agg [.int .i64 0, .int .i64 0, .int .i64 0, .int .i64 0, .int .i64 0, .int .i64 0, .int .i64 0, .int .i64 0, .int .i64 0, .int .i64 0, .int .i64 0, .int .i64 0, .slice none 0 0, .slice none 0 0, .slice none 0 0].toArray) Try.underlying28 (by kernel_rfl) rfl rfl
theorem elem29 : ElemOk Try.prog 29 9 1 16 := ElemOk.mk' (z := .string ByteArray.empty) Try.underlying29 (by kernel_rfl) rfl rfl
theorem elem34 : ElemOk Try.prog 34 51 6 48 := ElemOk.mk' (z := .agg [.int .i64 0, .int .i64 0, .int .i64 0, .int .i64 0, .int .i64 0, .int .i64 0].toArray) Try.underlying34 (by kernel_rfl) rfl rfl
theorem elem35 : ElemOk Try.prog 35 22 1 24 := ElemOk.mk' (z := .slice none 0 0) Try.underlying35 (by kernel_rfl) rfl rfl
theorem elem42 : ElemOk Try.prog 42 83 6 48 := ElemOk.mk' (z := .agg [.int .i64 0, .int .i64 0, .int .i64 0, .int .i64 0, .int .i64 0, .int .i64 0].toArray) Try.underlying42 (by kernel_rfl) rfl rfl
theorem elem44 : ElemOk Try.prog 44 49 17 184 := ElemOk.mk' (z := .agg [.int .i64 0, .int .i64 0, .int .i64 0, .int .i64 0, .int .i64 0, .int .i64 0, .int .i64 0, .int .i64 0, .int .i64 0, .int .i64 0, .int .i64 0, .int .i64 0, .slice none 0 0, .slice none 0 0, .slice none 0 0, .int .i64 0, .int .i64 0].toArray) Try.underlying44 (by kernel_rfl) rfl rfl
theorem elem56 : ElemOk Try.prog 56 34 1 24 := ElemOk.mk' (z := .slice none 0 0) Try.underlying56 (by kernel_rfl) rfl rfl
theorem elem71 : ElemOk Try.prog 71 4 1 1 := ElemOk.mk' (z := .bool false) Try.underlying71 (by kernel_rfl) rfl rfl
theorem elem74 : ElemOk Try.prog 74 80 16 176 := ElemOk.mk' (z := .agg [.int .i64 0, .int .i64 0, .int .i64 0, .int .i64 0, .int .i64 0, .int .i64 0, .int .i64 0, .int .i64 0, .int .i64 0, .int .i64 0, .int .i64 0, .int .i64 0, .slice none 0 0, .slice none 0 0, .slice none 0 0, .int .i64 0].toArray) Try.underlying74 (by kernel_rfl) rfl rfl
theorem elem100 : ElemOk Try.prog 100 102 2 16 := ElemOk.mk' (z := .agg [.int .i64 0, .int .i64 0].toArray) Try.underlying100 (by kernel_rfl) rfl rfl
theorem places24 : placesB Try.prog 24 = some [(0, 1), (1, 1), (2, 1)] := by kernel_rfl
theorem places27 : placesB Try.prog 27 = some [(0, 1), (1, 3), (4, 1)] := by kernel_rfl
theorem places31 : placesB Try.prog 31 = some [(0, 3), (3, 1), (4, 1), (5, 3), (8, 5), (13, 1), (14, 1)] := by kernel_rfl
theorem places49 : placesB Try.prog 49 = some [(0, 15), (15, 1), (16, 1)] := by kernel_rfl
theorem places51 : placesB Try.prog 51 = some [(0, 3), (3, 3)] := by kernel_rfl
theorem places80 : placesB Try.prog 80 = some [(0, 15), (15, 1)] := by kernel_rfl
theorem places83 : placesB Try.prog 83 = some [(0, 3), (3, 3)] := by kernel_rfl
end Go.Proofs.Ytjkcjbicleohkaa

/- What the program's tables say of its types (made by wip/tools/tfacts.py): each a closed fact that the kernel reckons. -/
import Derived.Test.YtlpjemobbjijdaaGreatDoorV33
import Derived.Test.YtlpjemobbjijdaaGreatDoorProg
import Derived.KernelRfl
namespace Go.Proofs
open Go Go.V
set_option maxRecDepth 100000
theorem ti1 : xb0 Tryz.prog 1 = some { agg := false, sz := 1, bytes := 8, zero := [.lit .nilFunc], shape := .func } := by kernel_rfl
theorem ti3 : xb0 Tryz.prog 3 = some { agg := false, sz := 1, bytes := 8, zero := [.int .i64 (0)], shape := .int .i64 } := by kernel_rfl
theorem ti4 : xb0 Tryz.prog 4 = some { agg := false, sz := 1, bytes := 1, zero := [.bool false], shape := .bool } := by kernel_rfl
theorem ti5 : xb0 Tryz.prog 5 = some { agg := false, sz := 1, bytes := 1, zero := [.int .u8 (0)], shape := .int .u8 } := by kernel_rfl
theorem ti9 : xb0 Tryz.prog 9 = some { agg := false, sz := 1, bytes := 16, zero := [.str []], shape := .str } := by kernel_rfl
theorem ti10 : xb0 Tryz.prog 10 = some { agg := false, sz := 1, bytes := 16, zero := [.str []], shape := .str } := by kernel_rfl
theorem ti21 : xb0 Tryz.prog 21 = some { agg := false, sz := 1, bytes := 4, zero := [.int .i32 (0)], shape := .int .i32 } := by kernel_rfl
theorem ti22 : xb0 Tryz.prog 22 = some { agg := false, sz := 1, bytes := 24, zero := [.sl 0 [] (some 0)], shape := .slice 50 } := by kernel_rfl
theorem ti24 : xb0 Tryz.prog 24 = some { agg := true, sz := 3, bytes := 40, zero := [.int .i64 (0), .int .i64 (0), .sl 0 [] (some 0)], shape := .struct [(0, 3), (1, 3), (2, 22)] } := by kernel_rfl
theorem ti25 : xb0 Tryz.prog 25 = some { agg := false, sz := 1, bytes := 24, zero := [.sl 0 [] (some 0)], shape := .slice 9 } := by kernel_rfl
theorem ti27 : xb0 Tryz.prog 27 = some { agg := true, sz := 7, bytes := 128, zero := [.str [], .int .i64 (0), .int .i64 (0), .sl 0 [] (some 0), .sl 0 [] (some 0), .sl 0 [] (some 0), .sl 0 [] (some 0)], shape := .struct [(0, 9), (1, 24), (4, 25), (5, 25), (6, 25)] } := by kernel_rfl
theorem ti29 : xb0 Tryz.prog 29 = some { agg := false, sz := 1, bytes := 8, zero := [.int .i64 (0)], shape := .int .i64 } := by kernel_rfl
theorem ti36 : xb0 Tryz.prog 36 = some { agg := false, sz := 1, bytes := 24, zero := [.sl 0 [] (some 0)], shape := .slice 3 } := by kernel_rfl
theorem ti42 : xb0 Tryz.prog 42 = some { agg := false, sz := 1, bytes := 24, zero := [.sl 0 [] (some 0)], shape := .slice 71 } := by kernel_rfl
theorem ti44 : xb0 Tryz.prog 44 = some { agg := true, sz := 5, bytes := 32, zero := [.int .u8 (0), .int .u8 (0), .int .u8 (0), .bool false, .sl 0 [] (some 0)], shape := .struct [(0, 5), (1, 5), (2, 5), (3, 4), (4, 42)] } := by kernel_rfl
theorem ti46 : xb0 Tryz.prog 46 = some { agg := true, sz := 6, bytes := 40, zero := [.int .u8 (0), .int .u8 (0), .int .u8 (0), .bool false, .sl 0 [] (some 0), .int .u8 (0)], shape := .struct [(0, 44), (5, 5)] } := by kernel_rfl
theorem ti50 : xb0 Tryz.prog 50 = some { agg := false, sz := 1, bytes := 24, zero := [.sl 0 [] (some 0)], shape := .slice 70 } := by kernel_rfl
theorem ti54 : xb0 Tryz.prog 54 = some { agg := false, sz := 1, bytes := 8, zero := [.lit .nilFunc], shape := .func } := by kernel_rfl
theorem ti55 : xb0 Tryz.prog 55 = some { agg := false, sz := 1, bytes := 24, zero := [.sl 0 [] (some 0)], shape := .slice 5 } := by kernel_rfl
theorem ti70 : xb0 Tryz.prog 70 = some { agg := true, sz := 2, bytes := 16, zero := [.int .i64 (0), .int .i64 (0)], shape := .struct [(0, 3), (1, 3)] } := by kernel_rfl
theorem et70 : kH0 Tryz.prog 70 = true := by kernel_rfl
theorem ti71 : xb0 Tryz.prog 71 = some { agg := false, sz := 1, bytes := 2, zero := [.int .u16 (0)], shape := .int .u16 } := by kernel_rfl
theorem ti72 : xb0 Tryz.prog 72 = some { agg := false, sz := 1, bytes := 24, zero := [.sl 0 [] (some 0)], shape := .slice 25 } := by kernel_rfl
theorem ti82 : xb0 Tryz.prog 82 = some { agg := false, sz := 1, bytes := 8, zero := [.lit .nilFunc], shape := .func } := by kernel_rfl
theorem ti87 : xb0 Tryz.prog 87 = some { agg := false, sz := 1, bytes := 8, zero := [.lit (.pointer none)], shape := .ptr 89 } := by kernel_rfl
theorem ti89 : xb0 Tryz.prog 89 = some { agg := true, sz := 2, bytes := 32, zero := [.lit (.pointer none), .sl 0 [] (some 0)], shape := .struct [(0, 87), (1, 55)] } := by kernel_rfl
theorem ti99 : xb0 Tryz.prog 99 = some { agg := false, sz := 1, bytes := 8, zero := [.lit (.map none)], shape := .map 9 3 } := by kernel_rfl
theorem zdT9 : xb0 Tryz.prog 104 = some { agg := false, sz := 1, bytes := 8, zero := [.lit .nilFunc], shape := .func } := by kernel_rfl
theorem xdT9 : xb0 Tryz.prog 107 = some { agg := false, sz := 1, bytes := 24, zero := [.sl 0 [] (some 0)], shape := .slice 115 } := by kernel_rfl
theorem wdT9 : xb0 Tryz.prog 111 = some { agg := true, sz := 2, bytes := 16, zero := [.int .i64 (0), .int .i64 (0)], shape := .struct [(0, 3), (1, 29)] } := by kernel_rfl
theorem vdT9 : kH0 Tryz.prog 111 = true := by kernel_rfl
theorem kdT9 : xb0 Tryz.prog 113 = some { agg := false, sz := 1, bytes := 1, zero := [.int .u8 (0)], shape := .int .u8 } := by kernel_rfl
theorem qdU9 : xb0 Tryz.prog 115 = some { agg := true, sz := 4, bytes := 40, zero := [.int .u8 (0), .str [], .int .i64 (0), .int .i64 (0)], shape := .struct [(0, 113), (1, 9), (2, 3), (3, 3)] } := by kernel_rfl
theorem zdU9 : kH0 Tryz.prog 115 = true := by kernel_rfl
theorem xdU9 : xb0 Tryz.prog 116 = some { agg := false, sz := 1, bytes := 8, zero := [.lit (.pointer none)], shape := .ptr 118 } := by kernel_rfl
theorem wdU9 : xb0 Tryz.prog 118 = some { agg := true, sz := 9, bytes := 160, zero := [.sl 0 [] (some 0), .int .i64 (0), .str [], .int .i64 (0), .int .i64 (0), .sl 0 [] (some 0), .sl 0 [] (some 0), .sl 0 [] (some 0), .sl 0 [] (some 0)], shape := .struct [(0, 107), (1, 3), (2, 27)] } := by kernel_rfl
theorem vdU9 : xb0 Tryz.prog 119 = some { agg := false, sz := 1, bytes := 24, zero := [.sl 0 [] (some 0)], shape := .slice 1 } := by kernel_rfl
theorem kdU9 : xb0 Tryz.prog 123 = some { agg := true, sz := 10, bytes := 168, zero := [.sl 0 [] (some 0), .int .i64 (0), .int .i64 (0), .str [], .int .i64 (0), .int .i64 (0), .sl 0 [] (some 0), .sl 0 [] (some 0), .sl 0 [] (some 0), .sl 0 [] (some 0)], shape := .struct [(0, 107), (1, 3), (2, 3), (3, 27)] } := by kernel_rfl
theorem qdV9 : xb0 Tryz.prog 138 = some { agg := false, sz := 1, bytes := 8, zero := [.lit .nilFunc], shape := .func } := by kernel_rfl
theorem zdV9 : xb0 Tryz.prog 143 = some { agg := false, sz := 1, bytes := 8, zero := [.lit .nilFunc], shape := .func } := by kernel_rfl
theorem xdV9 : xb0 Tryz.prog 145 = some { agg := false, sz := 1, bytes := 8, zero := [.lit (.pointer none)], shape := .ptr 5 } := by kernel_rfl
theorem wdV9 : xb0 Tryz.prog 168 = some { agg := false, sz := 1, bytes := 8, zero := [.int .u64 (0)], shape := .int .u64 } := by kernel_rfl
theorem vdV9 : xb0 Tryz.prog 178 = some { agg := false, sz := 1, bytes := 8, zero := [.int .i64 (0)], shape := .int .i64 } := by kernel_rfl
theorem kdV9 : xb0 Tryz.prog 186 = some { agg := false, sz := 1, bytes := 4, zero := [.int .u32 (0)], shape := .int .u32 } := by kernel_rfl
theorem qdW9 : xb0 Tryz.prog 188 = some { agg := false, sz := 1, bytes := 8, zero := [.int .u64 (0)], shape := .int .u64 } := by kernel_rfl
theorem zdW9 : xb0 Tryz.prog 194 = some { agg := true, sz := 5, bytes := 80, zero := [.str [], .str [], .str [], .str [], .str []], shape := .array 5 9 } := by kernel_rfl
theorem xdW9 : kH0 Tryz.prog 194 = true := by kernel_rfl
theorem wdW9 : xb0 Tryz.prog 199 = some { agg := false, sz := 1, bytes := 8, zero := [.int .u64 (0)], shape := .int .u64 } := by kernel_rfl
theorem vdW9 : xb0 Tryz.prog 203 = some { agg := false, sz := 1, bytes := 8, zero := [.lit (.pointer none)], shape := .ptr 3 } := by kernel_rfl
theorem kdW9 : xb0 Tryz.prog 208 = some { agg := true, sz := 256, bytes := 256, zero := [.bool false, .bool false, .bool false, .bool false, .bool false, .bool false, .bool false, .bool false, .bool false, .bool false, .bool false, .bool false, .bool false, .bool false, .bool false, .bool false, .bool false, .bool false, .bool false, .bool false, .bool false, .bool false, .bool false, .bool false, .bool false, .bool false, .bool false, .bool false, .bool false, .bool false, .bool false, .bool false, .bool false, .bool false, .bool false, .bool false, .bool false, .bool false, .bool false, .bool false, .bool false, .bool false, .bool false, .bool false, .bool false, .bool false, .bool false, .bool false, .bool false, .bool false, .bool false, .bool false, .bool false, .bool false, .bool false, .bool false, .bool false, .bool false, .bool false, .bool false, .bool false, .bool false, .bool false, .bool false, .bool false, .bool false, .bool false, .bool false, .bool false, .bool false, .bool false, .bool false, .bool false, .bool false, .bool false, .bool false, .bool false, .bool false, .bool false, .bool false, .bool false, .bool false, .bool false, .bool false, .bool false, .bool false, .bool false, .bool false, .bool false, .bool false, .bool false, .bool false, .bool false, .bool false, .bool false, .bool false, .bool false, .bool false, .bool false, .bool false, .bool false, .bool false, .bool false, .bool false, .bool false, .bool false, .bool false, .bool false, .bool false, .bool false, .bool false, .bool false, .bool false, .bool false, .bool false, .bool false, .bool false, .bool false, .bool false, .bool false, .bool false, .bool false, .bool false, .bool false, .bool false, .bool false, .bool false, .bool false, .bool false, .bool false, .bool false, .bool false, .bool false, .bool false, .bool false, .bool false, .bool false, .bool false, .bool false, .bool false, .bool false, .bool false, .bool false, .bool false, .bool false, .bool false, .bool false, .bool false, .bool false, .bool false, .bool false, .bool false, .bool false, .bool false, .bool false, .bool false, .bool false, .bool false, .bool false, .bool false, .bool false, .bool false, .bool false, .bool false, .bool false, .bool false, .bool false, .bool false, .bool false, .bool false, .bool false, .bool false, .bool false, .bool false, .bool false, .bool false, .bool false, .bool false, .bool false, .bool false, .bool false, .bool false, .bool false, .bool false, .bool false, .bool false, .bool false, .bool false, .bool false, .bool false, .bool false, .bool false, .bool false, .bool false, .bool false, .bool false, .bool false, .bool false, .bool false, .bool false, .bool false, .bool false, .bool false, .bool false, .bool false, .bool false, .bool false, .bool false, .bool false, .bool false, .bool false, .bool false, .bool false, .bool false, .bool false, .bool false, .bool false, .bool false, .bool false, .bool false, .bool false, .bool false, .bool false, .bool false, .bool false, .bool false, .bool false, .bool false, .bool false, .bool false, .bool false, .bool false, .bool false, .bool false, .bool false, .bool false, .bool false, .bool false, .bool false, .bool false, .bool false, .bool false, .bool false, .bool false, .bool false, .bool false, .bool false, .bool false, .bool false, .bool false, .bool false, .bool false, .bool false, .bool false, .bool false, .bool false], shape := .array 256 4 } := by kernel_rfl
theorem qdX9 : kH0 Tryz.prog 208 = true := by kernel_rfl
theorem zdX9 : xb0 Tryz.prog 212 = some { agg := false, sz := 1, bytes := 8, zero := [.lit (.pointer none)], shape := .ptr 208 } := by kernel_rfl
theorem xdX9 : xb0 Tryz.prog 216 = some { agg := true, sz := 256, bytes := 256, zero := [.int .u8 (0), .int .u8 (0), .int .u8 (0), .int .u8 (0), .int .u8 (0), .int .u8 (0), .int .u8 (0), .int .u8 (0), .int .u8 (0), .int .u8 (0), .int .u8 (0), .int .u8 (0), .int .u8 (0), .int .u8 (0), .int .u8 (0), .int .u8 (0), .int .u8 (0), .int .u8 (0), .int .u8 (0), .int .u8 (0), .int .u8 (0), .int .u8 (0), .int .u8 (0), .int .u8 (0), .int .u8 (0), .int .u8 (0), .int .u8 (0), .int .u8 (0), .int .u8 (0), .int .u8 (0), .int .u8 (0), .int .u8 (0), .int .u8 (0), .int .u8 (0), .int .u8 (0), .int .u8 (0), .int .u8 (0), .int .u8 (0), .int .u8 (0), .int .u8 (0), .int .u8 (0), .int .u8 (0), .int .u8 (0), .int .u8 (0), .int .u8 (0), .int .u8 (0), .int .u8 (0), .int .u8 (0), .int .u8 (0), .int .u8 (0), .int .u8 (0), .int .u8 (0), .int .u8 (0), .int .u8 (0), .int .u8 (0), .int .u8 (0), .int .u8 (0), .int .u8 (0), .int .u8 (0), .int .u8 (0), .int .u8 (0), .int .u8 (0), .int .u8 (0), .int .u8 (0), .int .u8 (0), .int .u8 (0), .int .u8 (0), .int .u8 (0), .int .u8 (0), .int .u8 (0), .int .u8 (0), .int .u8 (0), .int .u8 (0), .int .u8 (0), .int .u8 (0), .int .u8 (0), .int .u8 (0), .int .u8 (0), .int .u8 (0), .int .u8 (0), .int .u8 (0), .int .u8 (0), .int .u8 (0), .int .u8 (0), .int .u8 (0), .int .u8 (0), .int .u8 (0), .int .u8 (0), .int .u8 (0), .int .u8 (0), .int .u8 (0), .int .u8 (0), .int .u8 (0), .int .u8 (0), .int .u8 (0), .int .u8 (0), .int .u8 (0), .int .u8 (0), .int .u8 (0), .int .u8 (0), .int .u8 (0), .int .u8 (0), .int .u8 (0), .int .u8 (0), .int .u8 (0), .int .u8 (0), .int .u8 (0), .int .u8 (0), .int .u8 (0), .int .u8 (0), .int .u8 (0), .int .u8 (0), .int .u8 (0), .int .u8 (0), .int .u8 (0), .int .u8 (0), .int .u8 (0), .int .u8 (0), .int .u8 (0), .int .u8 (0), .int .u8 (0), .int .u8 (0), .int .u8 (0), .int .u8 (0), .int .u8 (0), .int .u8 (0), .int .u8 (0), .int .u8 (0), .int .u8 (0), .int .u8 (0), .int .u8 (0), .int .u8 (0), .int .u8 (0), .int .u8 (0), .int .u8 (0), .int .u8 (0), .int .u8 (0), .int .u8 (0), .int .u8 (0), .int .u8 (0), .int .u8 (0), .int .u8 (0), .int .u8 (0), .int .u8 (0), .int .u8 (0), .int .u8 (0), .int .u8 (0), .int .u8 (0), .int .u8 (0), .int .u8 (0), .int .u8 (0), .int .u8 (0), .int .u8 (0), .int .u8 (0), .int .u8 (0), .int .u8 (0), .int .u8 (0), .int .u8 (0), .int .u8 (0), .int .u8 (0), .int .u8 (0), .int .u8 (0), .int .u8 (0), .int .u8 (0), .int .u8 (0), .int .u8 (0), .int .u8 (0), .int .u8 (0), .int .u8 (0), .int .u8 (0), .int .u8 (0), .int .u8 (0), .int .u8 (0), .int .u8 (0), .int .u8 (0), .int .u8 (0), .int .u8 (0), .int .u8 (0), .int .u8 (0), .int .u8 (0), .int .u8 (0), .int .u8 (0), .int .u8 (0), .int .u8 (0), .int .u8 (0), .int .u8 (0), .int .u8 (0), .int .u8 (0), .int .u8 (0), .int .u8 (0), .int .u8 (0), .int .u8 (0), .int .u8 (0), .int .u8 (0), .int .u8 (0), .int .u8 (0), .int .u8 (0), .int .u8 (0), .int .u8 (0), .int .u8 (0), .int .u8 (0), .int .u8 (0), .int .u8 (0), .int .u8 (0), .int .u8 (0), .int .u8 (0), .int .u8 (0), .int .u8 (0), .int .u8 (0), .int .u8 (0), .int .u8 (0), .int .u8 (0), .int .u8 (0), .int .u8 (0), .int .u8 (0), .int .u8 (0), .int .u8 (0), .int .u8 (0), .int .u8 (0), .int .u8 (0), .int .u8 (0), .int .u8 (0), .int .u8 (0), .int .u8 (0), .int .u8 (0), .int .u8 (0), .int .u8 (0), .int .u8 (0), .int .u8 (0), .int .u8 (0), .int .u8 (0), .int .u8 (0), .int .u8 (0), .int .u8 (0), .int .u8 (0), .int .u8 (0), .int .u8 (0), .int .u8 (0), .int .u8 (0), .int .u8 (0), .int .u8 (0), .int .u8 (0), .int .u8 (0), .int .u8 (0), .int .u8 (0), .int .u8 (0), .int .u8 (0), .int .u8 (0), .int .u8 (0), .int .u8 (0), .int .u8 (0), .int .u8 (0), .int .u8 (0), .int .u8 (0), .int .u8 (0), .int .u8 (0)], shape := .array 256 5 } := by kernel_rfl
theorem wdX9 : kH0 Tryz.prog 216 = true := by kernel_rfl
theorem vdX9 : xb0 Tryz.prog 218 = some { agg := true, sz := 2, bytes := 2, zero := [.int .u8 (0), .int .u8 (0)], shape := .struct [(0, 5), (1, 5)] } := by kernel_rfl
theorem kdX9 : kH0 Tryz.prog 218 = true := by kernel_rfl
theorem qdY9 : xb0 Tryz.prog 219 = some { agg := true, sz := 32, bytes := 32, zero := [.int .u8 (0), .int .u8 (0), .int .u8 (0), .int .u8 (0), .int .u8 (0), .int .u8 (0), .int .u8 (0), .int .u8 (0), .int .u8 (0), .int .u8 (0), .int .u8 (0), .int .u8 (0), .int .u8 (0), .int .u8 (0), .int .u8 (0), .int .u8 (0), .int .u8 (0), .int .u8 (0), .int .u8 (0), .int .u8 (0), .int .u8 (0), .int .u8 (0), .int .u8 (0), .int .u8 (0), .int .u8 (0), .int .u8 (0), .int .u8 (0), .int .u8 (0), .int .u8 (0), .int .u8 (0), .int .u8 (0), .int .u8 (0)], shape := .array 16 218 } := by kernel_rfl
theorem zdY9 : kH0 Tryz.prog 219 = true := by kernel_rfl
theorem en4 : qa0 Tryz.prog 4 = true := by kernel_rfl
theorem en5 : qa0 Tryz.prog 5 = true := by kernel_rfl
theorem en6 : qa0 Tryz.prog 6 = true := by kernel_rfl
theorem en11 : qa0 Tryz.prog 11 = true := by kernel_rfl
theorem en12 : qa0 Tryz.prog 12 = true := by kernel_rfl
theorem en13 : qa0 Tryz.prog 13 = true := by kernel_rfl
theorem en14 : qa0 Tryz.prog 14 = true := by kernel_rfl
theorem en15 : qa0 Tryz.prog 15 = true := by kernel_rfl
theorem en16 : qa0 Tryz.prog 16 = true := by kernel_rfl
theorem en17 : qa0 Tryz.prog 17 = true := by kernel_rfl
theorem en18 : qa0 Tryz.prog 18 = true := by kernel_rfl
theorem en19 : qa0 Tryz.prog 19 = true := by kernel_rfl
theorem en20 : qa0 Tryz.prog 20 = true := by kernel_rfl
theorem en21 : qa0 Tryz.prog 21 = true := by kernel_rfl
theorem en22 : qa0 Tryz.prog 22 = true := by kernel_rfl
theorem en23 : qa0 Tryz.prog 23 = true := by kernel_rfl
theorem en24 : qa0 Tryz.prog 24 = true := by kernel_rfl
theorem en25 : qa0 Tryz.prog 25 = true := by kernel_rfl
theorem en26 : qa0 Tryz.prog 26 = true := by kernel_rfl
theorem en32 : qa0 Tryz.prog 32 = true := by kernel_rfl
theorem en33 : qa0 Tryz.prog 33 = true := by kernel_rfl
theorem en34 : qa0 Tryz.prog 34 = true := by kernel_rfl
theorem en35 : qa0 Tryz.prog 35 = true := by kernel_rfl
theorem en36 : qa0 Tryz.prog 36 = true := by kernel_rfl
theorem en37 : qa0 Tryz.prog 37 = true := by kernel_rfl
theorem en38 : qa0 Tryz.prog 38 = true := by kernel_rfl
theorem en39 : qa0 Tryz.prog 39 = true := by kernel_rfl
theorem en40 : qa0 Tryz.prog 40 = true := by kernel_rfl
theorem en41 : qa0 Tryz.prog 41 = true := by kernel_rfl
theorem en42 : qa0 Tryz.prog 42 = true := by kernel_rfl
theorem en43 : qa0 Tryz.prog 43 = true := by kernel_rfl
theorem en44 : qa0 Tryz.prog 44 = true := by kernel_rfl
theorem en45 : qa0 Tryz.prog 45 = true := by kernel_rfl
theorem en46 : qa0 Tryz.prog 46 = true := by kernel_rfl
theorem en47 : qa0 Tryz.prog 47 = true := by kernel_rfl
theorem en48 : qa0 Tryz.prog 48 = true := by kernel_rfl
theorem en49 : qa0 Tryz.prog 49 = true := by kernel_rfl
theorem en50 : qa0 Tryz.prog 50 = true := by kernel_rfl
theorem en51 : qa0 Tryz.prog 51 = true := by kernel_rfl
theorem en52 : qa0 Tryz.prog 52 = true := by kernel_rfl
theorem en53 : qa0 Tryz.prog 53 = true := by kernel_rfl
theorem en54 : qa0 Tryz.prog 54 = true := by kernel_rfl
theorem en55 : qa0 Tryz.prog 55 = true := by kernel_rfl
theorem en56 : qa0 Tryz.prog 56 = true := by kernel_rfl
theorem en57 : qa0 Tryz.prog 57 = true := by kernel_rfl
theorem en58 : qa0 Tryz.prog 58 = true := by kernel_rfl
theorem en59 : qa0 Tryz.prog 59 = true := by kernel_rfl
theorem en60 : qa0 Tryz.prog 60 = true := by kernel_rfl
theorem en61 : qa0 Tryz.prog 61 = true := by kernel_rfl
theorem en62 : qa0 Tryz.prog 62 = true := by kernel_rfl
theorem en63 : qa0 Tryz.prog 63 = true := by kernel_rfl
theorem en64 : qa0 Tryz.prog 64 = true := by kernel_rfl
theorem en65 : qa0 Tryz.prog 65 = true := by kernel_rfl
theorem en66 : qa0 Tryz.prog 66 = true := by kernel_rfl
theorem en67 : qa0 Tryz.prog 67 = true := by kernel_rfl
theorem en68 : qa0 Tryz.prog 68 = true := by kernel_rfl
theorem en69 : qa0 Tryz.prog 69 = true := by kernel_rfl
theorem en70 : qa0 Tryz.prog 70 = true := by kernel_rfl
theorem en71 : qa0 Tryz.prog 71 = true := by kernel_rfl
theorem en72 : qa0 Tryz.prog 72 = true := by kernel_rfl
theorem en73 : qa0 Tryz.prog 73 = true := by kernel_rfl
theorem en74 : qa0 Tryz.prog 74 = true := by kernel_rfl
theorem en75 : qa0 Tryz.prog 75 = true := by kernel_rfl
theorem en76 : qa0 Tryz.prog 76 = true := by kernel_rfl
theorem en78 : qa0 Tryz.prog 78 = true := by kernel_rfl
theorem en79 : qa0 Tryz.prog 79 = true := by kernel_rfl
theorem en80 : qa0 Tryz.prog 80 = true := by kernel_rfl
theorem en81 : qa0 Tryz.prog 81 = true := by kernel_rfl
theorem en82 : qa0 Tryz.prog 82 = true := by kernel_rfl
theorem en83 : qa0 Tryz.prog 83 = true := by kernel_rfl
theorem en84 : qa0 Tryz.prog 84 = true := by kernel_rfl
theorem en85 : qa0 Tryz.prog 85 = true := by kernel_rfl
theorem en86 : qa0 Tryz.prog 86 = true := by kernel_rfl
theorem en87 : qa0 Tryz.prog 87 = true := by kernel_rfl
theorem en88 : qa0 Tryz.prog 88 = true := by kernel_rfl
theorem en89 : qa0 Tryz.prog 89 = true := by kernel_rfl
theorem en90 : qa0 Tryz.prog 90 = true := by kernel_rfl
theorem en91 : qa0 Tryz.prog 91 = true := by kernel_rfl
theorem en92 : qa0 Tryz.prog 92 = true := by kernel_rfl
theorem en93 : qa0 Tryz.prog 93 = true := by kernel_rfl
theorem en94 : qa0 Tryz.prog 94 = true := by kernel_rfl
theorem en95 : qa0 Tryz.prog 95 = true := by kernel_rfl
theorem en96 : qa0 Tryz.prog 96 = true := by kernel_rfl
theorem en97 : qa0 Tryz.prog 97 = true := by kernel_rfl
theorem en98 : qa0 Tryz.prog 98 = true := by kernel_rfl
theorem en99 : qa0 Tryz.prog 99 = true := by kernel_rfl
theorem xdY9 : qa0 Tryz.prog 100 = true := by kernel_rfl
theorem wdY9 : qa0 Tryz.prog 101 = true := by kernel_rfl
theorem vdY9 : qa0 Tryz.prog 102 = true := by kernel_rfl
theorem xaU9 : qa0 Tryz.prog 103 = true := by kernel_rfl
theorem kcO9 : qa0 Tryz.prog 104 = true := by kernel_rfl
theorem qcP9 : qa0 Tryz.prog 105 = true := by kernel_rfl
theorem kdY9 : qa0 Tryz.prog 106 = true := by kernel_rfl
theorem kbS9 : qa0 Tryz.prog 107 = true := by kernel_rfl
theorem kaz9 : qa0 Tryz.prog 108 = true := by kernel_rfl
theorem qdZ9 : qa0 Tryz.prog 109 = true := by kernel_rfl
theorem zdZ9 : qa0 Tryz.prog 110 = true := by kernel_rfl
theorem xdZ9 : qa0 Tryz.prog 111 = true := by kernel_rfl
theorem wdZ9 : qa0 Tryz.prog 112 = true := by kernel_rfl
theorem vdZ9 : qa0 Tryz.prog 113 = true := by kernel_rfl
theorem kdZ9 : qa0 Tryz.prog 114 = true := by kernel_rfl
theorem qea9 : qa0 Tryz.prog 115 = true := by kernel_rfl
theorem zea9 : qa0 Tryz.prog 116 = true := by kernel_rfl
theorem xea9 : qa0 Tryz.prog 117 = true := by kernel_rfl
theorem wea9 : qa0 Tryz.prog 119 = true := by kernel_rfl
theorem vea9 : qa0 Tryz.prog 120 = true := by kernel_rfl
theorem kea9 : qa0 Tryz.prog 121 = true := by kernel_rfl
theorem qeb9 : qa0 Tryz.prog 122 = true := by kernel_rfl
theorem zeb9 : qa0 Tryz.prog 124 = true := by kernel_rfl
theorem xeb9 : qa0 Tryz.prog 125 = true := by kernel_rfl
theorem web9 : qa0 Tryz.prog 126 = true := by kernel_rfl
theorem veb9 : qa0 Tryz.prog 127 = true := by kernel_rfl
theorem keb9 : qa0 Tryz.prog 128 = true := by kernel_rfl
theorem zcP9 : qa0 Tryz.prog 129 = true := by kernel_rfl
theorem qec9 : qa0 Tryz.prog 130 = true := by kernel_rfl
theorem zec9 : qa0 Tryz.prog 131 = true := by kernel_rfl
theorem xec9 : qa0 Tryz.prog 132 = true := by kernel_rfl
theorem wec9 : qa0 Tryz.prog 133 = true := by kernel_rfl
theorem vec9 : qa0 Tryz.prog 134 = true := by kernel_rfl
theorem kec9 : qa0 Tryz.prog 135 = true := by kernel_rfl
theorem qed9 : qa0 Tryz.prog 136 = true := by kernel_rfl
theorem zed9 : qa0 Tryz.prog 137 = true := by kernel_rfl
theorem xed9 : qa0 Tryz.prog 138 = true := by kernel_rfl
theorem wed9 : qa0 Tryz.prog 139 = true := by kernel_rfl
theorem ved9 : qa0 Tryz.prog 140 = true := by kernel_rfl
theorem ked9 : qa0 Tryz.prog 141 = true := by kernel_rfl
theorem qee9 : qa0 Tryz.prog 142 = true := by kernel_rfl
theorem zee9 : qa0 Tryz.prog 143 = true := by kernel_rfl
theorem xee9 : qa0 Tryz.prog 144 = true := by kernel_rfl
theorem wee9 : qa0 Tryz.prog 146 = true := by kernel_rfl
theorem vee9 : qa0 Tryz.prog 147 = true := by kernel_rfl
theorem kee9 : qa0 Tryz.prog 148 = true := by kernel_rfl
theorem qef9 : qa0 Tryz.prog 149 = true := by kernel_rfl
theorem zef9 : qa0 Tryz.prog 150 = true := by kernel_rfl
theorem xef9 : qa0 Tryz.prog 151 = true := by kernel_rfl
theorem wef9 : qa0 Tryz.prog 152 = true := by kernel_rfl
theorem vef9 : qa0 Tryz.prog 153 = true := by kernel_rfl
theorem kef9 : qa0 Tryz.prog 154 = true := by kernel_rfl
theorem qeg9 : qa0 Tryz.prog 155 = true := by kernel_rfl
theorem zeg9 : qa0 Tryz.prog 156 = true := by kernel_rfl
theorem xeg9 : qa0 Tryz.prog 157 = true := by kernel_rfl
theorem weg9 : qa0 Tryz.prog 158 = true := by kernel_rfl
theorem veg9 : qa0 Tryz.prog 159 = true := by kernel_rfl
theorem keg9 : qa0 Tryz.prog 160 = true := by kernel_rfl
theorem qeh9 : qa0 Tryz.prog 161 = true := by kernel_rfl
theorem zeh9 : qa0 Tryz.prog 163 = true := by kernel_rfl
theorem xeh9 : qa0 Tryz.prog 164 = true := by kernel_rfl
theorem weh9 : qa0 Tryz.prog 166 = true := by kernel_rfl
theorem veh9 : qa0 Tryz.prog 167 = true := by kernel_rfl
theorem keh9 : qa0 Tryz.prog 168 = true := by kernel_rfl
theorem qei9 : qa0 Tryz.prog 169 = true := by kernel_rfl
theorem zei9 : qa0 Tryz.prog 170 = true := by kernel_rfl
theorem xei9 : qa0 Tryz.prog 171 = true := by kernel_rfl
theorem wei9 : qa0 Tryz.prog 172 = true := by kernel_rfl
theorem vei9 : qa0 Tryz.prog 173 = true := by kernel_rfl
theorem kei9 : qa0 Tryz.prog 174 = true := by kernel_rfl
theorem mixed : Tryz.prog.follows .mixedOrders = true := by kernel_rfl
end Go.Proofs

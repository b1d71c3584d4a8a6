/- What the program's tables say of its types (made by wip/tools/tfacts.py): each a closed fact that the kernel reckons. -/
import Derived.Test.YtlpjemobbjijdaaGreatDoorV33
import Derived.Test.YtlpjemobbjijdaaGreatDoorProg
import Derived.KernelRfl
namespace Go.Proofs
open Go Go.V
set_option maxRecDepth 100000
theorem ti1 : zb0 Tryz.prog 1 = some { agg := false, sz := 1, bytes := 8, zero := [.lit .nilFunc], shape := .func } := by kernel_rfl
theorem ti3 : zb0 Tryz.prog 3 = some { agg := false, sz := 1, bytes := 8, zero := [.int .i64 (0)], shape := .int .i64 } := by kernel_rfl
theorem ti4 : zb0 Tryz.prog 4 = some { agg := false, sz := 1, bytes := 1, zero := [.bool false], shape := .bool } := by kernel_rfl
theorem ti5 : zb0 Tryz.prog 5 = some { agg := false, sz := 1, bytes := 1, zero := [.int .u8 (0)], shape := .int .u8 } := by kernel_rfl
theorem ti9 : zb0 Tryz.prog 9 = some { agg := false, sz := 1, bytes := 16, zero := [.str []], shape := .str } := by kernel_rfl
theorem ti21 : zb0 Tryz.prog 21 = some { agg := false, sz := 1, bytes := 4, zero := [.int .i32 (0)], shape := .int .i32 } := by kernel_rfl
theorem ti22 : zb0 Tryz.prog 22 = some { agg := false, sz := 1, bytes := 24, zero := [.sl 0 [] (some 0)], shape := .slice 50 } := by kernel_rfl
theorem ti24 : zb0 Tryz.prog 24 = some { agg := true, sz := 3, bytes := 40, zero := [.int .i64 (0), .int .i64 (0), .sl 0 [] (some 0)], shape := .struct [(0, 3), (1, 3), (2, 22)] } := by kernel_rfl
theorem ti25 : zb0 Tryz.prog 25 = some { agg := false, sz := 1, bytes := 24, zero := [.sl 0 [] (some 0)], shape := .slice 9 } := by kernel_rfl
theorem ti27 : zb0 Tryz.prog 27 = some { agg := true, sz := 7, bytes := 128, zero := [.str [], .int .i64 (0), .int .i64 (0), .sl 0 [] (some 0), .sl 0 [] (some 0), .sl 0 [] (some 0), .sl 0 [] (some 0)], shape := .struct [(0, 9), (1, 24), (4, 25), (5, 25), (6, 25)] } := by kernel_rfl
theorem ti29 : zb0 Tryz.prog 29 = some { agg := false, sz := 1, bytes := 8, zero := [.int .i64 (0)], shape := .int .i64 } := by kernel_rfl
theorem ti36 : zb0 Tryz.prog 36 = some { agg := false, sz := 1, bytes := 24, zero := [.sl 0 [] (some 0)], shape := .slice 3 } := by kernel_rfl
theorem ti50 : zb0 Tryz.prog 50 = some { agg := false, sz := 1, bytes := 24, zero := [.sl 0 [] (some 0)], shape := .slice 70 } := by kernel_rfl
theorem ti54 : zb0 Tryz.prog 54 = some { agg := false, sz := 1, bytes := 8, zero := [.lit .nilFunc], shape := .func } := by kernel_rfl
theorem ti55 : zb0 Tryz.prog 55 = some { agg := false, sz := 1, bytes := 24, zero := [.sl 0 [] (some 0)], shape := .slice 5 } := by kernel_rfl
theorem ti70 : zb0 Tryz.prog 70 = some { agg := true, sz := 2, bytes := 16, zero := [.int .i64 (0), .int .i64 (0)], shape := .struct [(0, 3), (1, 3)] } := by kernel_rfl
theorem et70 : qD0 Tryz.prog 70 = true := by kernel_rfl
theorem ti72 : zb0 Tryz.prog 72 = some { agg := false, sz := 1, bytes := 24, zero := [.sl 0 [] (some 0)], shape := .slice 25 } := by kernel_rfl
theorem ti82 : zb0 Tryz.prog 82 = some { agg := false, sz := 1, bytes := 8, zero := [.lit .nilFunc], shape := .func } := by kernel_rfl
theorem ti87 : zb0 Tryz.prog 87 = some { agg := false, sz := 1, bytes := 8, zero := [.lit (.pointer none)], shape := .ptr 89 } := by kernel_rfl
theorem ti89 : zb0 Tryz.prog 89 = some { agg := true, sz := 2, bytes := 32, zero := [.lit (.pointer none), .sl 0 [] (some 0)], shape := .struct [(0, 87), (1, 55)] } := by kernel_rfl
theorem ti99 : zb0 Tryz.prog 99 = some { agg := false, sz := 1, bytes := 8, zero := [.lit (.map none)], shape := .map 9 3 } := by kernel_rfl
theorem zds9 : zb0 Tryz.prog 104 = some { agg := false, sz := 1, bytes := 8, zero := [.lit .nilFunc], shape := .func } := by kernel_rfl
theorem xds9 : zb0 Tryz.prog 107 = some { agg := false, sz := 1, bytes := 24, zero := [.sl 0 [] (some 0)], shape := .slice 115 } := by kernel_rfl
theorem wds9 : zb0 Tryz.prog 111 = some { agg := true, sz := 2, bytes := 16, zero := [.int .i64 (0), .int .i64 (0)], shape := .struct [(0, 3), (1, 29)] } := by kernel_rfl
theorem vds9 : qD0 Tryz.prog 111 = true := by kernel_rfl
theorem kds9 : zb0 Tryz.prog 113 = some { agg := false, sz := 1, bytes := 1, zero := [.int .u8 (0)], shape := .int .u8 } := by kernel_rfl
theorem qdt9 : zb0 Tryz.prog 115 = some { agg := true, sz := 4, bytes := 40, zero := [.int .u8 (0), .str [], .int .i64 (0), .int .i64 (0)], shape := .struct [(0, 113), (1, 9), (2, 3), (3, 3)] } := by kernel_rfl
theorem zdt9 : qD0 Tryz.prog 115 = true := by kernel_rfl
theorem xdt9 : zb0 Tryz.prog 116 = some { agg := false, sz := 1, bytes := 8, zero := [.lit (.pointer none)], shape := .ptr 118 } := by kernel_rfl
theorem wdt9 : zb0 Tryz.prog 118 = some { agg := true, sz := 9, bytes := 160, zero := [.sl 0 [] (some 0), .int .i64 (0), .str [], .int .i64 (0), .int .i64 (0), .sl 0 [] (some 0), .sl 0 [] (some 0), .sl 0 [] (some 0), .sl 0 [] (some 0)], shape := .struct [(0, 107), (1, 3), (2, 27)] } := by kernel_rfl
theorem vdt9 : zb0 Tryz.prog 119 = some { agg := false, sz := 1, bytes := 24, zero := [.sl 0 [] (some 0)], shape := .slice 1 } := by kernel_rfl
theorem kdt9 : zb0 Tryz.prog 123 = some { agg := true, sz := 10, bytes := 168, zero := [.sl 0 [] (some 0), .int .i64 (0), .int .i64 (0), .str [], .int .i64 (0), .int .i64 (0), .sl 0 [] (some 0), .sl 0 [] (some 0), .sl 0 [] (some 0), .sl 0 [] (some 0)], shape := .struct [(0, 107), (1, 3), (2, 3), (3, 27)] } := by kernel_rfl
theorem qdu9 : zb0 Tryz.prog 138 = some { agg := false, sz := 1, bytes := 8, zero := [.lit .nilFunc], shape := .func } := by kernel_rfl
theorem zdu9 : zb0 Tryz.prog 143 = some { agg := false, sz := 1, bytes := 8, zero := [.lit .nilFunc], shape := .func } := by kernel_rfl
theorem xdu9 : zb0 Tryz.prog 145 = some { agg := false, sz := 1, bytes := 8, zero := [.lit (.pointer none)], shape := .ptr 5 } := by kernel_rfl
theorem wdu9 : zb0 Tryz.prog 168 = some { agg := false, sz := 1, bytes := 8, zero := [.int .u64 (0)], shape := .int .u64 } := by kernel_rfl
theorem vdu9 : zb0 Tryz.prog 178 = some { agg := false, sz := 1, bytes := 8, zero := [.int .i64 (0)], shape := .int .i64 } := by kernel_rfl
theorem kdu9 : zb0 Tryz.prog 186 = some { agg := false, sz := 1, bytes := 4, zero := [.int .u32 (0)], shape := .int .u32 } := by kernel_rfl
theorem qdv9 : zb0 Tryz.prog 188 = some { agg := false, sz := 1, bytes := 8, zero := [.int .u64 (0)], shape := .int .u64 } := by kernel_rfl
theorem zdv9 : zb0 Tryz.prog 194 = some { agg := true, sz := 5, bytes := 80, zero := [.str [], .str [], .str [], .str [], .str []], shape := .array 5 9 } := by kernel_rfl
theorem xdv9 : qD0 Tryz.prog 194 = true := by kernel_rfl
theorem wdv9 : zb0 Tryz.prog 199 = some { agg := false, sz := 1, bytes := 8, zero := [.int .u64 (0)], shape := .int .u64 } := by kernel_rfl
theorem vdv9 : zb0 Tryz.prog 203 = some { agg := false, sz := 1, bytes := 8, zero := [.lit (.pointer none)], shape := .ptr 3 } := by kernel_rfl
theorem kdv9 : zb0 Tryz.prog 208 = some { agg := true, sz := 256, bytes := 256, zero := [.bool false, .bool false, .bool false, .bool false, .bool false, .bool false, .bool false, .bool false, .bool false, .bool false, .bool false, .bool false, .bool false, .bool false, .bool false, .bool false, .bool false, .bool false, .bool false, .bool false, .bool false, .bool false, .bool false, .bool false, .bool false, .bool false, .bool false, .bool false, .bool false, .bool false, .bool false, .bool false, .bool false, .bool false, .bool false, .bool false, .bool false, .bool false, .bool false, .bool false, .bool false, .bool false, .bool false, .bool false, .bool false, .bool false, .bool false, .bool false, .bool false, .bool false, .bool false, .bool false, .bool false, .bool false, .bool false, .bool false, .bool false, .bool false, .bool false, .bool false, .bool false, .bool false, .bool false, .bool false, .bool false, .bool false, .bool false, .bool false, .bool false, .bool false, .bool false, .bool false, .bool false, .bool false, .bool false, .bool false, .bool false, .bool false, .bool false, .bool false, .bool false, .bool false, .bool false, .bool false, .bool false, .bool false, .bool false, .bool false, .bool false, .bool false, .bool false, .bool false, .bool false, .bool false, .bool false, .bool false, .bool false, .bool false, .bool false, .bool false, .bool false, .bool false, .bool false, .bool false, .bool false, .bool false, .bool false, .bool false, .bool false, .bool false, .bool false, .bool false, .bool false, .bool false, .bool false, .bool false, .bool false, .bool false, .bool false, .bool false, .bool false, .bool false, .bool false, .bool false, .bool false, .bool false, .bool false, .bool false, .bool false, .bool false, .bool false, .bool false, .bool false, .bool false, .bool false, .bool false, .bool false, .bool false, .bool false, .bool false, .bool false, .bool false, .bool false, .bool false, .bool false, .bool false, .bool false, .bool false, .bool false, .bool false, .bool false, .bool false, .bool false, .bool false, .bool false, .bool false, .bool false, .bool false, .bool false, .bool false, .bool false, .bool false, .bool false, .bool false, .bool false, .bool false, .bool false, .bool false, .bool false, .bool false, .bool false, .bool false, .bool false, .bool false, .bool false, .bool false, .bool false, .bool false, .bool false, .bool false, .bool false, .bool false, .bool false, .bool false, .bool false, .bool false, .bool false, .bool false, .bool false, .bool false, .bool false, .bool false, .bool false, .bool false, .bool false, .bool false, .bool false, .bool false, .bool false, .bool false, .bool false, .bool false, .bool false, .bool false, .bool false, .bool false, .bool false, .bool false, .bool false, .bool false, .bool false, .bool false, .bool false, .bool false, .bool false, .bool false, .bool false, .bool false, .bool false, .bool false, .bool false, .bool false, .bool false, .bool false, .bool false, .bool false, .bool false, .bool false, .bool false, .bool false, .bool false, .bool false, .bool false, .bool false, .bool false, .bool false, .bool false, .bool false, .bool false, .bool false, .bool false, .bool false, .bool false, .bool false, .bool false, .bool false, .bool false, .bool false, .bool false, .bool false, .bool false, .bool false, .bool false, .bool false, .bool false, .bool false], shape := .array 256 4 } := by kernel_rfl
theorem qdw9 : qD0 Tryz.prog 208 = true := by kernel_rfl
theorem zdw9 : zb0 Tryz.prog 212 = some { agg := false, sz := 1, bytes := 8, zero := [.lit (.pointer none)], shape := .ptr 208 } := by kernel_rfl
theorem xdw9 : zb0 Tryz.prog 216 = some { agg := true, sz := 256, bytes := 256, zero := [.int .u8 (0), .int .u8 (0), .int .u8 (0), .int .u8 (0), .int .u8 (0), .int .u8 (0), .int .u8 (0), .int .u8 (0), .int .u8 (0), .int .u8 (0), .int .u8 (0), .int .u8 (0), .int .u8 (0), .int .u8 (0), .int .u8 (0), .int .u8 (0), .int .u8 (0), .int .u8 (0), .int .u8 (0), .int .u8 (0), .int .u8 (0), .int .u8 (0), .int .u8 (0), .int .u8 (0), .int .u8 (0), .int .u8 (0), .int .u8 (0), .int .u8 (0), .int .u8 (0), .int .u8 (0), .int .u8 (0), .int .u8 (0), .int .u8 (0), .int .u8 (0), .int .u8 (0), .int .u8 (0), .int .u8 (0), .int .u8 (0), .int .u8 (0), .int .u8 (0), .int .u8 (0), .int .u8 (0), .int .u8 (0), .int .u8 (0), .int .u8 (0), .int .u8 (0), .int .u8 (0), .int .u8 (0), .int .u8 (0), .int .u8 (0), .int .u8 (0), .int .u8 (0), .int .u8 (0), .int .u8 (0), .int .u8 (0), .int .u8 (0), .int .u8 (0), .int .u8 (0), .int .u8 (0), .int .u8 (0), .int .u8 (0), .int .u8 (0), .int .u8 (0), .int .u8 (0), .int .u8 (0), .int .u8 (0), .int .u8 (0), .int .u8 (0), .int .u8 (0), .int .u8 (0), .int .u8 (0), .int .u8 (0), .int .u8 (0), .int .u8 (0), .int .u8 (0), .int .u8 (0), .int .u8 (0), .int .u8 (0), .int .u8 (0), .int .u8 (0), .int .u8 (0), .int .u8 (0), .int .u8 (0), .int .u8 (0), .int .u8 (0), .int .u8 (0), .int .u8 (0), .int .u8 (0), .int .u8 (0), .int .u8 (0), .int .u8 (0), .int .u8 (0), .int .u8 (0), .int .u8 (0), .int .u8 (0), .int .u8 (0), .int .u8 (0), .int .u8 (0), .int .u8 (0), .int .u8 (0), .int .u8 (0), .int .u8 (0), .int .u8 (0), .int .u8 (0), .int .u8 (0), .int .u8 (0), .int .u8 (0), .int .u8 (0), .int .u8 (0), .int .u8 (0), .int .u8 (0), .int .u8 (0), .int .u8 (0), .int .u8 (0), .int .u8 (0), .int .u8 (0), .int .u8 (0), .int .u8 (0), .int .u8 (0), .int .u8 (0), .int .u8 (0), .int .u8 (0), .int .u8 (0), .int .u8 (0), .int .u8 (0), .int .u8 (0), .int .u8 (0), .int .u8 (0), .int .u8 (0), .int .u8 (0), .int .u8 (0), .int .u8 (0), .int .u8 (0), .int .u8 (0), .int .u8 (0), .int .u8 (0), .int .u8 (0), .int .u8 (0), .int .u8 (0), .int .u8 (0), .int .u8 (0), .int .u8 (0), .int .u8 (0), .int .u8 (0), .int .u8 (0), .int .u8 (0), .int .u8 (0), .int .u8 (0), .int .u8 (0), .int .u8 (0), .int .u8 (0), .int .u8 (0), .int .u8 (0), .int .u8 (0), .int .u8 (0), .int .u8 (0), .int .u8 (0), .int .u8 (0), .int .u8 (0), .int .u8 (0), .int .u8 (0), .int .u8 (0), .int .u8 (0), .int .u8 (0), .int .u8 (0), .int .u8 (0), .int .u8 (0), .int .u8 (0), .int .u8 (0), .int .u8 (0), .int .u8 (0), .int .u8 (0), .int .u8 (0), .int .u8 (0), .int .u8 (0), .int .u8 (0), .int .u8 (0), .int .u8 (0), .int .u8 (0), .int .u8 (0), .int .u8 (0), .int .u8 (0), .int .u8 (0), .int .u8 (0), .int .u8 (0), .int .u8 (0), .int .u8 (0), .int .u8 (0), .int .u8 (0), .int .u8 (0), .int .u8 (0), .int .u8 (0), .int .u8 (0), .int .u8 (0), .int .u8 (0), .int .u8 (0), .int .u8 (0), .int .u8 (0), .int .u8 (0), .int .u8 (0), .int .u8 (0), .int .u8 (0), .int .u8 (0), .int .u8 (0), .int .u8 (0), .int .u8 (0), .int .u8 (0), .int .u8 (0), .int .u8 (0), .int .u8 (0), .int .u8 (0), .int .u8 (0), .int .u8 (0), .int .u8 (0), .int .u8 (0), .int .u8 (0), .int .u8 (0), .int .u8 (0), .int .u8 (0), .int .u8 (0), .int .u8 (0), .int .u8 (0), .int .u8 (0), .int .u8 (0), .int .u8 (0), .int .u8 (0), .int .u8 (0), .int .u8 (0), .int .u8 (0), .int .u8 (0), .int .u8 (0), .int .u8 (0), .int .u8 (0), .int .u8 (0), .int .u8 (0), .int .u8 (0), .int .u8 (0), .int .u8 (0), .int .u8 (0), .int .u8 (0), .int .u8 (0), .int .u8 (0), .int .u8 (0), .int .u8 (0), .int .u8 (0), .int .u8 (0), .int .u8 (0), .int .u8 (0), .int .u8 (0), .int .u8 (0), .int .u8 (0), .int .u8 (0), .int .u8 (0), .int .u8 (0), .int .u8 (0), .int .u8 (0)], shape := .array 256 5 } := by kernel_rfl
theorem wdw9 : qD0 Tryz.prog 216 = true := by kernel_rfl
theorem vdw9 : zb0 Tryz.prog 218 = some { agg := true, sz := 2, bytes := 2, zero := [.int .u8 (0), .int .u8 (0)], shape := .struct [(0, 5), (1, 5)] } := by kernel_rfl
theorem kdw9 : qD0 Tryz.prog 218 = true := by kernel_rfl
theorem qdx9 : zb0 Tryz.prog 219 = some { agg := true, sz := 32, bytes := 32, zero := [.int .u8 (0), .int .u8 (0), .int .u8 (0), .int .u8 (0), .int .u8 (0), .int .u8 (0), .int .u8 (0), .int .u8 (0), .int .u8 (0), .int .u8 (0), .int .u8 (0), .int .u8 (0), .int .u8 (0), .int .u8 (0), .int .u8 (0), .int .u8 (0), .int .u8 (0), .int .u8 (0), .int .u8 (0), .int .u8 (0), .int .u8 (0), .int .u8 (0), .int .u8 (0), .int .u8 (0), .int .u8 (0), .int .u8 (0), .int .u8 (0), .int .u8 (0), .int .u8 (0), .int .u8 (0), .int .u8 (0), .int .u8 (0)], shape := .array 16 218 } := by kernel_rfl
theorem zdx9 : qD0 Tryz.prog 219 = true := by kernel_rfl
theorem en11 : qa0 Tryz.prog 11 = true := by kernel_rfl
theorem en12 : qa0 Tryz.prog 12 = true := by kernel_rfl
theorem en13 : qa0 Tryz.prog 13 = true := by kernel_rfl
theorem en14 : qa0 Tryz.prog 14 = true := by kernel_rfl
theorem en16 : qa0 Tryz.prog 16 = true := by kernel_rfl
theorem en17 : qa0 Tryz.prog 17 = true := by kernel_rfl
theorem en18 : qa0 Tryz.prog 18 = true := by kernel_rfl
theorem en19 : qa0 Tryz.prog 19 = true := by kernel_rfl
theorem en20 : qa0 Tryz.prog 20 = true := by kernel_rfl
theorem en22 : qa0 Tryz.prog 22 = true := by kernel_rfl
theorem en23 : qa0 Tryz.prog 23 = true := by kernel_rfl
theorem en24 : qa0 Tryz.prog 24 = true := by kernel_rfl
theorem en33 : qa0 Tryz.prog 33 = true := by kernel_rfl
theorem en34 : qa0 Tryz.prog 34 = true := by kernel_rfl
theorem en35 : qa0 Tryz.prog 35 = true := by kernel_rfl
theorem en36 : qa0 Tryz.prog 36 = true := by kernel_rfl
theorem en37 : qa0 Tryz.prog 37 = true := by kernel_rfl
theorem en38 : qa0 Tryz.prog 38 = true := by kernel_rfl
theorem en39 : qa0 Tryz.prog 39 = true := by kernel_rfl
theorem en40 : qa0 Tryz.prog 40 = true := by kernel_rfl
theorem en41 : qa0 Tryz.prog 41 = true := by kernel_rfl
theorem en42 : qa0 Tryz.prog 42 = true := by kernel_rfl
theorem en43 : qa0 Tryz.prog 43 = true := by kernel_rfl
theorem en44 : qa0 Tryz.prog 44 = true := by kernel_rfl
theorem en45 : qa0 Tryz.prog 45 = true := by kernel_rfl
theorem en46 : qa0 Tryz.prog 46 = true := by kernel_rfl
theorem en47 : qa0 Tryz.prog 47 = true := by kernel_rfl
theorem en48 : qa0 Tryz.prog 48 = true := by kernel_rfl
theorem en49 : qa0 Tryz.prog 49 = true := by kernel_rfl
theorem en50 : qa0 Tryz.prog 50 = true := by kernel_rfl
theorem en51 : qa0 Tryz.prog 51 = true := by kernel_rfl
theorem en52 : qa0 Tryz.prog 52 = true := by kernel_rfl
theorem en53 : qa0 Tryz.prog 53 = true := by kernel_rfl
theorem en54 : qa0 Tryz.prog 54 = true := by kernel_rfl
theorem en55 : qa0 Tryz.prog 55 = true := by kernel_rfl
theorem en56 : qa0 Tryz.prog 56 = true := by kernel_rfl
theorem en57 : qa0 Tryz.prog 57 = true := by kernel_rfl
theorem en58 : qa0 Tryz.prog 58 = true := by kernel_rfl
theorem en59 : qa0 Tryz.prog 59 = true := by kernel_rfl
theorem en60 : qa0 Tryz.prog 60 = true := by kernel_rfl
theorem en61 : qa0 Tryz.prog 61 = true := by kernel_rfl
theorem en63 : qa0 Tryz.prog 63 = true := by kernel_rfl
theorem en64 : qa0 Tryz.prog 64 = true := by kernel_rfl
theorem en65 : qa0 Tryz.prog 65 = true := by kernel_rfl
theorem en66 : qa0 Tryz.prog 66 = true := by kernel_rfl
theorem en67 : qa0 Tryz.prog 67 = true := by kernel_rfl
theorem en68 : qa0 Tryz.prog 68 = true := by kernel_rfl
theorem en69 : qa0 Tryz.prog 69 = true := by kernel_rfl
theorem en70 : qa0 Tryz.prog 70 = true := by kernel_rfl
theorem en71 : qa0 Tryz.prog 71 = true := by kernel_rfl
theorem en72 : qa0 Tryz.prog 72 = true := by kernel_rfl
theorem en73 : qa0 Tryz.prog 73 = true := by kernel_rfl
theorem en74 : qa0 Tryz.prog 74 = true := by kernel_rfl
theorem en75 : qa0 Tryz.prog 75 = true := by kernel_rfl
theorem en79 : qa0 Tryz.prog 79 = true := by kernel_rfl
theorem en80 : qa0 Tryz.prog 80 = true := by kernel_rfl
theorem en81 : qa0 Tryz.prog 81 = true := by kernel_rfl
theorem en82 : qa0 Tryz.prog 82 = true := by kernel_rfl
theorem en83 : qa0 Tryz.prog 83 = true := by kernel_rfl
theorem en84 : qa0 Tryz.prog 84 = true := by kernel_rfl
theorem en85 : qa0 Tryz.prog 85 = true := by kernel_rfl
theorem en86 : qa0 Tryz.prog 86 = true := by kernel_rfl
theorem en87 : qa0 Tryz.prog 87 = true := by kernel_rfl
theorem en88 : qa0 Tryz.prog 88 = true := by kernel_rfl
theorem en89 : qa0 Tryz.prog 89 = true := by kernel_rfl
theorem en90 : qa0 Tryz.prog 90 = true := by kernel_rfl
theorem en91 : qa0 Tryz.prog 91 = true := by kernel_rfl
theorem en92 : qa0 Tryz.prog 92 = true := by kernel_rfl
theorem en93 : qa0 Tryz.prog 93 = true := by kernel_rfl
theorem en94 : qa0 Tryz.prog 94 = true := by kernel_rfl
theorem en95 : qa0 Tryz.prog 95 = true := by kernel_rfl
theorem en96 : qa0 Tryz.prog 96 = true := by kernel_rfl
theorem en97 : qa0 Tryz.prog 97 = true := by kernel_rfl
theorem en98 : qa0 Tryz.prog 98 = true := by kernel_rfl
theorem en99 : qa0 Tryz.prog 99 = true := by kernel_rfl
theorem xdx9 : qa0 Tryz.prog 100 = true := by kernel_rfl
theorem wdx9 : qa0 Tryz.prog 101 = true := by kernel_rfl
theorem vdx9 : qa0 Tryz.prog 102 = true := by kernel_rfl
theorem xaL9 : qa0 Tryz.prog 103 = true := by kernel_rfl
theorem wcu9 : qa0 Tryz.prog 104 = true := by kernel_rfl
theorem vcu9 : qa0 Tryz.prog 105 = true := by kernel_rfl
theorem kdx9 : qa0 Tryz.prog 106 = true := by kernel_rfl
theorem kbC9 : qa0 Tryz.prog 107 = true := by kernel_rfl
theorem was9 : qa0 Tryz.prog 108 = true := by kernel_rfl
theorem qdy9 : qa0 Tryz.prog 109 = true := by kernel_rfl
theorem zdy9 : qa0 Tryz.prog 110 = true := by kernel_rfl
theorem xdy9 : qa0 Tryz.prog 111 = true := by kernel_rfl
theorem wdy9 : qa0 Tryz.prog 112 = true := by kernel_rfl
theorem vdy9 : qa0 Tryz.prog 113 = true := by kernel_rfl
theorem kdy9 : qa0 Tryz.prog 114 = true := by kernel_rfl
theorem qdz9 : qa0 Tryz.prog 115 = true := by kernel_rfl
theorem zdz9 : qa0 Tryz.prog 116 = true := by kernel_rfl
theorem xdz9 : qa0 Tryz.prog 117 = true := by kernel_rfl
theorem wdz9 : qa0 Tryz.prog 119 = true := by kernel_rfl
theorem vdz9 : qa0 Tryz.prog 120 = true := by kernel_rfl
theorem kdz9 : qa0 Tryz.prog 121 = true := by kernel_rfl
theorem qdA9 : qa0 Tryz.prog 122 = true := by kernel_rfl
theorem zdA9 : qa0 Tryz.prog 124 = true := by kernel_rfl
theorem xdA9 : qa0 Tryz.prog 125 = true := by kernel_rfl
theorem wdA9 : qa0 Tryz.prog 126 = true := by kernel_rfl
theorem vdA9 : qa0 Tryz.prog 127 = true := by kernel_rfl
theorem kdA9 : qa0 Tryz.prog 128 = true := by kernel_rfl
theorem kcu9 : qa0 Tryz.prog 129 = true := by kernel_rfl
theorem qdB9 : qa0 Tryz.prog 130 = true := by kernel_rfl
theorem zdB9 : qa0 Tryz.prog 131 = true := by kernel_rfl
theorem xdB9 : qa0 Tryz.prog 132 = true := by kernel_rfl
theorem wdB9 : qa0 Tryz.prog 133 = true := by kernel_rfl
theorem vdB9 : qa0 Tryz.prog 134 = true := by kernel_rfl
theorem kdB9 : qa0 Tryz.prog 135 = true := by kernel_rfl
theorem qdC9 : qa0 Tryz.prog 136 = true := by kernel_rfl
theorem zdC9 : qa0 Tryz.prog 137 = true := by kernel_rfl
theorem xdC9 : qa0 Tryz.prog 138 = true := by kernel_rfl
theorem wdC9 : qa0 Tryz.prog 139 = true := by kernel_rfl
theorem vdC9 : qa0 Tryz.prog 140 = true := by kernel_rfl
theorem kdC9 : qa0 Tryz.prog 141 = true := by kernel_rfl
theorem qdD9 : qa0 Tryz.prog 142 = true := by kernel_rfl
theorem zdD9 : qa0 Tryz.prog 143 = true := by kernel_rfl
theorem xdD9 : qa0 Tryz.prog 144 = true := by kernel_rfl
theorem wdD9 : qa0 Tryz.prog 146 = true := by kernel_rfl
theorem vdD9 : qa0 Tryz.prog 147 = true := by kernel_rfl
theorem kdD9 : qa0 Tryz.prog 148 = true := by kernel_rfl
theorem qdE9 : qa0 Tryz.prog 149 = true := by kernel_rfl
theorem zdE9 : qa0 Tryz.prog 150 = true := by kernel_rfl
theorem xdE9 : qa0 Tryz.prog 151 = true := by kernel_rfl
theorem wdE9 : qa0 Tryz.prog 152 = true := by kernel_rfl
theorem vdE9 : qa0 Tryz.prog 153 = true := by kernel_rfl
theorem kdE9 : qa0 Tryz.prog 154 = true := by kernel_rfl
theorem qdF9 : qa0 Tryz.prog 155 = true := by kernel_rfl
theorem zdF9 : qa0 Tryz.prog 156 = true := by kernel_rfl
theorem xdF9 : qa0 Tryz.prog 157 = true := by kernel_rfl
theorem wdF9 : qa0 Tryz.prog 158 = true := by kernel_rfl
theorem vdF9 : qa0 Tryz.prog 159 = true := by kernel_rfl
theorem kdF9 : qa0 Tryz.prog 160 = true := by kernel_rfl
theorem qdG9 : qa0 Tryz.prog 161 = true := by kernel_rfl
theorem zdG9 : qa0 Tryz.prog 163 = true := by kernel_rfl
theorem xdG9 : qa0 Tryz.prog 164 = true := by kernel_rfl
theorem wdG9 : qa0 Tryz.prog 166 = true := by kernel_rfl
theorem vdG9 : qa0 Tryz.prog 167 = true := by kernel_rfl
theorem kdG9 : qa0 Tryz.prog 168 = true := by kernel_rfl
theorem qdH9 : qa0 Tryz.prog 169 = true := by kernel_rfl
theorem zdH9 : qa0 Tryz.prog 170 = true := by kernel_rfl
theorem xdH9 : qa0 Tryz.prog 171 = true := by kernel_rfl
theorem wdH9 : qa0 Tryz.prog 172 = true := by kernel_rfl
theorem vdH9 : qa0 Tryz.prog 173 = true := by kernel_rfl
theorem kdH9 : qa0 Tryz.prog 174 = true := by kernel_rfl
theorem qdI9 : qa0 Tryz.prog 175 = true := by kernel_rfl
theorem zdI9 : qa0 Tryz.prog 176 = true := by kernel_rfl
theorem xdI9 : qa0 Tryz.prog 177 = true := by kernel_rfl
theorem mixed : Tryz.prog.follows .mixedOrders = true := by kernel_rfl
end Go.Proofs

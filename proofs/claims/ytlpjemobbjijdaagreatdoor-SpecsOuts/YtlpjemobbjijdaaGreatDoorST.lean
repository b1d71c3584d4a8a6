/- What the program's tables say of its types (made by wip/tools/tfacts.py): each a closed fact that the kernel reckons. -/
import Derived.Test.YtlpjemobbjijdaaGreatDoorV33
import Derived.Test.YtlpjemobbjijdaaGreatDoorProg
import Derived.KernelRfl
namespace Go.Proofs
open Go Go.V
set_option maxRecDepth 100000
theorem ti1 : zb0 Tryz.prog 1 = some { agg := false, sz := 1, bytes := 8, zero := [.lit .nilFunc], shape := .func } := by kernel_rfl
theorem ti3 : zb0 Tryz.prog 3 = some { agg := false, sz := 1, bytes := 8, zero := [.int .i64 (0)], shape := .int .i64 } := by kernel_rfl
theorem ti4 : zb0 Tryz.prog 4 = some { agg := false, sz := 1, bytes := 1, zero := [.bool false], shape := .bool } := by kernel_rfl
theorem ti5 : zb0 Tryz.prog 5 = some { agg := false, sz := 1, bytes := 1, zero := [.int .u8 (0)], shape := .int .u8 } := by kernel_rfl
theorem ti9 : zb0 Tryz.prog 9 = some { agg := false, sz := 1, bytes := 16, zero := [.str []], shape := .str } := by kernel_rfl
theorem ti21 : zb0 Tryz.prog 21 = some { agg := false, sz := 1, bytes := 4, zero := [.int .i32 (0)], shape := .int .i32 } := by kernel_rfl
theorem ti22 : zb0 Tryz.prog 22 = some { agg := false, sz := 1, bytes := 24, zero := [.sl 0 [] (some 0)], shape := .slice 50 } := by kernel_rfl
theorem ti24 : zb0 Tryz.prog 24 = some { agg := true, sz := 3, bytes := 40, zero := [.int .i64 (0), .int .i64 (0), .sl 0 [] (some 0)], shape := .struct [(0, 3), (1, 3), (2, 22)] } := by kernel_rfl
theorem ti25 : zb0 Tryz.prog 25 = some { agg := false, sz := 1, bytes := 24, zero := [.sl 0 [] (some 0)], shape := .slice 9 } := by kernel_rfl
theorem ti27 : zb0 Tryz.prog 27 = some { agg := true, sz := 7, bytes := 128, zero := [.str [], .int .i64 (0), .int .i64 (0), .sl 0 [] (some 0), .sl 0 [] (some 0), .sl 0 [] (some 0), .sl 0 [] (some 0)], shape := .struct [(0, 9), (1, 24), (4, 25), (5, 25), (6, 25)] } := by kernel_rfl
theorem ti29 : zb0 Tryz.prog 29 = some { agg := false, sz := 1, bytes := 8, zero := [.int .i64 (0)], shape := .int .i64 } := by kernel_rfl
theorem ti36 : zb0 Tryz.prog 36 = some { agg := false, sz := 1, bytes := 24, zero := [.sl 0 [] (some 0)], shape := .slice 3 } := by kernel_rfl
theorem ti42 : zb0 Tryz.prog 42 = some { agg := false, sz := 1, bytes := 24, zero := [.sl 0 [] (some 0)], shape := .slice 71 } := by kernel_rfl
theorem ti44 : zb0 Tryz.prog 44 = some { agg := true, sz := 5, bytes := 32, zero := [.int .u8 (0), .int .u8 (0), .int .u8 (0), .bool false, .sl 0 [] (some 0)], shape := .struct [(0, 5), (1, 5), (2, 5), (3, 4), (4, 42)] } := by kernel_rfl
theorem ti46 : zb0 Tryz.prog 46 = some { agg := true, sz := 6, bytes := 40, zero := [.int .u8 (0), .int .u8 (0), .int .u8 (0), .bool false, .sl 0 [] (some 0), .int .u8 (0)], shape := .struct [(0, 44), (5, 5)] } := by kernel_rfl
theorem ti50 : zb0 Tryz.prog 50 = some { agg := false, sz := 1, bytes := 24, zero := [.sl 0 [] (some 0)], shape := .slice 70 } := by kernel_rfl
theorem ti54 : zb0 Tryz.prog 54 = some { agg := false, sz := 1, bytes := 8, zero := [.lit .nilFunc], shape := .func } := by kernel_rfl
theorem ti55 : zb0 Tryz.prog 55 = some { agg := false, sz := 1, bytes := 24, zero := [.sl 0 [] (some 0)], shape := .slice 5 } := by kernel_rfl
theorem ti59 : zb0 Tryz.prog 59 = some { agg := true, sz := 1, bytes := 24, zero := [.sl 0 [] (some 0)], shape := .struct [(0, 55)] } := by kernel_rfl
theorem ti70 : zb0 Tryz.prog 70 = some { agg := true, sz := 2, bytes := 16, zero := [.int .i64 (0), .int .i64 (0)], shape := .struct [(0, 3), (1, 3)] } := by kernel_rfl
theorem et70 : vA0 Tryz.prog 70 = true := by kernel_rfl
theorem ti71 : zb0 Tryz.prog 71 = some { agg := false, sz := 1, bytes := 2, zero := [.int .u16 (0)], shape := .int .u16 } := by kernel_rfl
theorem ti72 : zb0 Tryz.prog 72 = some { agg := false, sz := 1, bytes := 24, zero := [.sl 0 [] (some 0)], shape := .slice 25 } := by kernel_rfl
theorem ti82 : zb0 Tryz.prog 82 = some { agg := false, sz := 1, bytes := 8, zero := [.lit .nilFunc], shape := .func } := by kernel_rfl
theorem ti87 : zb0 Tryz.prog 87 = some { agg := false, sz := 1, bytes := 8, zero := [.lit (.pointer none)], shape := .ptr 89 } := by kernel_rfl
theorem ti89 : zb0 Tryz.prog 89 = some { agg := true, sz := 2, bytes := 32, zero := [.lit (.pointer none), .sl 0 [] (some 0)], shape := .struct [(0, 87), (1, 55)] } := by kernel_rfl
theorem ti99 : zb0 Tryz.prog 99 = some { agg := false, sz := 1, bytes := 8, zero := [.lit (.map none)], shape := .map 9 3 } := by kernel_rfl
theorem vdg9 : zb0 Tryz.prog 104 = some { agg := false, sz := 1, bytes := 8, zero := [.lit .nilFunc], shape := .func } := by kernel_rfl
theorem kdg9 : zb0 Tryz.prog 107 = some { agg := false, sz := 1, bytes := 24, zero := [.sl 0 [] (some 0)], shape := .slice 115 } := by kernel_rfl
theorem qdh9 : zb0 Tryz.prog 111 = some { agg := true, sz := 2, bytes := 16, zero := [.int .i64 (0), .int .i64 (0)], shape := .struct [(0, 3), (1, 29)] } := by kernel_rfl
theorem zdh9 : vA0 Tryz.prog 111 = true := by kernel_rfl
theorem xdh9 : zb0 Tryz.prog 113 = some { agg := false, sz := 1, bytes := 1, zero := [.int .u8 (0)], shape := .int .u8 } := by kernel_rfl
theorem wdh9 : zb0 Tryz.prog 115 = some { agg := true, sz := 4, bytes := 40, zero := [.int .u8 (0), .str [], .int .i64 (0), .int .i64 (0)], shape := .struct [(0, 113), (1, 9), (2, 3), (3, 3)] } := by kernel_rfl
theorem vdh9 : vA0 Tryz.prog 115 = true := by kernel_rfl
theorem kdh9 : zb0 Tryz.prog 116 = some { agg := false, sz := 1, bytes := 8, zero := [.lit (.pointer none)], shape := .ptr 118 } := by kernel_rfl
theorem qdi9 : zb0 Tryz.prog 118 = some { agg := true, sz := 9, bytes := 160, zero := [.sl 0 [] (some 0), .int .i64 (0), .str [], .int .i64 (0), .int .i64 (0), .sl 0 [] (some 0), .sl 0 [] (some 0), .sl 0 [] (some 0), .sl 0 [] (some 0)], shape := .struct [(0, 107), (1, 3), (2, 27)] } := by kernel_rfl
theorem zdi9 : zb0 Tryz.prog 119 = some { agg := false, sz := 1, bytes := 24, zero := [.sl 0 [] (some 0)], shape := .slice 1 } := by kernel_rfl
theorem xdi9 : zb0 Tryz.prog 138 = some { agg := false, sz := 1, bytes := 8, zero := [.lit .nilFunc], shape := .func } := by kernel_rfl
theorem wdi9 : zb0 Tryz.prog 143 = some { agg := false, sz := 1, bytes := 8, zero := [.lit .nilFunc], shape := .func } := by kernel_rfl
theorem vdi9 : zb0 Tryz.prog 145 = some { agg := false, sz := 1, bytes := 8, zero := [.lit (.pointer none)], shape := .ptr 5 } := by kernel_rfl
theorem kdi9 : zb0 Tryz.prog 168 = some { agg := false, sz := 1, bytes := 8, zero := [.int .u64 (0)], shape := .int .u64 } := by kernel_rfl
theorem qdj9 : zb0 Tryz.prog 178 = some { agg := false, sz := 1, bytes := 8, zero := [.int .i64 (0)], shape := .int .i64 } := by kernel_rfl
theorem zdj9 : zb0 Tryz.prog 186 = some { agg := false, sz := 1, bytes := 4, zero := [.int .u32 (0)], shape := .int .u32 } := by kernel_rfl
theorem xdj9 : zb0 Tryz.prog 188 = some { agg := false, sz := 1, bytes := 8, zero := [.int .u64 (0)], shape := .int .u64 } := by kernel_rfl
theorem wdj9 : zb0 Tryz.prog 194 = some { agg := true, sz := 5, bytes := 80, zero := [.str [], .str [], .str [], .str [], .str []], shape := .array 5 9 } := by kernel_rfl
theorem vdj9 : vA0 Tryz.prog 194 = true := by kernel_rfl
theorem kdj9 : zb0 Tryz.prog 199 = some { agg := false, sz := 1, bytes := 8, zero := [.int .u64 (0)], shape := .int .u64 } := by kernel_rfl
theorem qdk9 : zb0 Tryz.prog 203 = some { agg := false, sz := 1, bytes := 8, zero := [.lit (.pointer none)], shape := .ptr 3 } := by kernel_rfl
theorem zdk9 : zb0 Tryz.prog 208 = some { agg := true, sz := 256, bytes := 256, zero := [.bool false, .bool false, .bool false, .bool false, .bool false, .bool false, .bool false, .bool false, .bool false, .bool false, .bool false, .bool false, .bool false, .bool false, .bool false, .bool false, .bool false, .bool false, .bool false, .bool false, .bool false, .bool false, .bool false, .bool false, .bool false, .bool false, .bool false, .bool false, .bool false, .bool false, .bool false, .bool false, .bool false, .bool false, .bool false, .bool false, .bool false, .bool false, .bool false, .bool false, .bool false, .bool false, .bool false, .bool false, .bool false, .bool false, .bool false, .bool false, .bool false, .bool false, .bool false, .bool false, .bool false, .bool false, .bool false, .bool false, .bool false, .bool false, .bool false, .bool false, .bool false, .bool false, .bool false, .bool false, .bool false, .bool false, .bool false, .bool false, .bool false, .bool false, .bool false, .bool false, .bool false, .bool false, .bool false, .bool false, .bool false, .bool false, .bool false, .bool false, .bool false, .bool false, .bool false, .bool false, .bool false, .bool false, .bool false, .bool false, .bool false, .bool false, .bool false, .bool false, .bool false, .bool false, .bool false, .bool false, .bool false, .bool false, .bool false, .bool false, .bool false, .bool false, .bool false, .bool false, .bool false, .bool false, .bool false, .bool false, .bool false, .bool false, .bool false, .bool false, .bool false, .bool false, .bool false, .bool false, .bool false, .bool false, .bool false, .bool false, .bool false, .bool false, .bool false, .bool false, .bool false, .bool false, .bool false, .bool false, .bool false, .bool false, .bool false, .bool false, .bool false, .bool false, .bool false, .bool false, .bool false, .bool false, .bool false, .bool false, .bool false, .bool false, .bool false, .bool false, .bool false, .bool false, .bool false, .bool false, .bool false, .bool false, .bool false, .bool false, .bool false, .bool false, .bool false, .bool false, .bool false, .bool false, .bool false, .bool false, .bool false, .bool false, .bool false, .bool false, .bool false, .bool false, .bool false, .bool false, .bool false, .bool false, .bool false, .bool false, .bool false, .bool false, .bool false, .bool false, .bool false, .bool false, .bool false, .bool false, .bool false, .bool false, .bool false, .bool false, .bool false, .bool false, .bool false, .bool false, .bool false, .bool false, .bool false, .bool false, .bool false, .bool false, .bool false, .bool false, .bool false, .bool false, .bool false, .bool false, .bool false, .bool false, .bool false, .bool false, .bool false, .bool false, .bool false, .bool false, .bool false, .bool false, .bool false, .bool false, .bool false, .bool false, .bool false, .bool false, .bool false, .bool false, .bool false, .bool false, .bool false, .bool false, .bool false, .bool false, .bool false, .bool false, .bool false, .bool false, .bool false, .bool false, .bool false, .bool false, .bool false, .bool false, .bool false, .bool false, .bool false, .bool false, .bool false, .bool false, .bool false, .bool false, .bool false, .bool false, .bool false, .bool false, .bool false, .bool false, .bool false, .bool false, .bool false, .bool false, .bool false, .bool false, .bool false, .bool false], shape := .array 256 4 } := by kernel_rfl
theorem xdk9 : vA0 Tryz.prog 208 = true := by kernel_rfl
theorem wdk9 : zb0 Tryz.prog 212 = some { agg := false, sz := 1, bytes := 8, zero := [.lit (.pointer none)], shape := .ptr 208 } := by kernel_rfl
theorem vdk9 : zb0 Tryz.prog 216 = some { agg := true, sz := 256, bytes := 256, zero := [.int .u8 (0), .int .u8 (0), .int .u8 (0), .int .u8 (0), .int .u8 (0), .int .u8 (0), .int .u8 (0), .int .u8 (0), .int .u8 (0), .int .u8 (0), .int .u8 (0), .int .u8 (0), .int .u8 (0), .int .u8 (0), .int .u8 (0), .int .u8 (0), .int .u8 (0), .int .u8 (0), .int .u8 (0), .int .u8 (0), .int .u8 (0), .int .u8 (0), .int .u8 (0), .int .u8 (0), .int .u8 (0), .int .u8 (0), .int .u8 (0), .int .u8 (0), .int .u8 (0), .int .u8 (0), .int .u8 (0), .int .u8 (0), .int .u8 (0), .int .u8 (0), .int .u8 (0), .int .u8 (0), .int .u8 (0), .int .u8 (0), .int .u8 (0), .int .u8 (0), .int .u8 (0), .int .u8 (0), .int .u8 (0), .int .u8 (0), .int .u8 (0), .int .u8 (0), .int .u8 (0), .int .u8 (0), .int .u8 (0), .int .u8 (0), .int .u8 (0), .int .u8 (0), .int .u8 (0), .int .u8 (0), .int .u8 (0), .int .u8 (0), .int .u8 (0), .int .u8 (0), .int .u8 (0), .int .u8 (0), .int .u8 (0), .int .u8 (0), .int .u8 (0), .int .u8 (0), .int .u8 (0), .int .u8 (0), .int .u8 (0), .int .u8 (0), .int .u8 (0), .int .u8 (0), .int .u8 (0), .int .u8 (0), .int .u8 (0), .int .u8 (0), .int .u8 (0), .int .u8 (0), .int .u8 (0), .int .u8 (0), .int .u8 (0), .int .u8 (0), .int .u8 (0), .int .u8 (0), .int .u8 (0), .int .u8 (0), .int .u8 (0), .int .u8 (0), .int .u8 (0), .int .u8 (0), .int .u8 (0), .int .u8 (0), .int .u8 (0), .int .u8 (0), .int .u8 (0), .int .u8 (0), .int .u8 (0), .int .u8 (0), .int .u8 (0), .int .u8 (0), .int .u8 (0), .int .u8 (0), .int .u8 (0), .int .u8 (0), .int .u8 (0), .int .u8 (0), .int .u8 (0), .int .u8 (0), .int .u8 (0), .int .u8 (0), .int .u8 (0), .int .u8 (0), .int .u8 (0), .int .u8 (0), .int .u8 (0), .int .u8 (0), .int .u8 (0), .int .u8 (0), .int .u8 (0), .int .u8 (0), .int .u8 (0), .int .u8 (0), .int .u8 (0), .int .u8 (0), .int .u8 (0), .int .u8 (0), .int .u8 (0), .int .u8 (0), .int .u8 (0), .int .u8 (0), .int .u8 (0), .int .u8 (0), .int .u8 (0), .int .u8 (0), .int .u8 (0), .int .u8 (0), .int .u8 (0), .int .u8 (0), .int .u8 (0), .int .u8 (0), .int .u8 (0), .int .u8 (0), .int .u8 (0), .int .u8 (0), .int .u8 (0), .int .u8 (0), .int .u8 (0), .int .u8 (0), .int .u8 (0), .int .u8 (0), .int .u8 (0), .int .u8 (0), .int .u8 (0), .int .u8 (0), .int .u8 (0), .int .u8 (0), .int .u8 (0), .int .u8 (0), .int .u8 (0), .int .u8 (0), .int .u8 (0), .int .u8 (0), .int .u8 (0), .int .u8 (0), .int .u8 (0), .int .u8 (0), .int .u8 (0), .int .u8 (0), .int .u8 (0), .int .u8 (0), .int .u8 (0), .int .u8 (0), .int .u8 (0), .int .u8 (0), .int .u8 (0), .int .u8 (0), .int .u8 (0), .int .u8 (0), .int .u8 (0), .int .u8 (0), .int .u8 (0), .int .u8 (0), .int .u8 (0), .int .u8 (0), .int .u8 (0), .int .u8 (0), .int .u8 (0), .int .u8 (0), .int .u8 (0), .int .u8 (0), .int .u8 (0), .int .u8 (0), .int .u8 (0), .int .u8 (0), .int .u8 (0), .int .u8 (0), .int .u8 (0), .int .u8 (0), .int .u8 (0), .int .u8 (0), .int .u8 (0), .int .u8 (0), .int .u8 (0), .int .u8 (0), .int .u8 (0), .int .u8 (0), .int .u8 (0), .int .u8 (0), .int .u8 (0), .int .u8 (0), .int .u8 (0), .int .u8 (0), .int .u8 (0), .int .u8 (0), .int .u8 (0), .int .u8 (0), .int .u8 (0), .int .u8 (0), .int .u8 (0), .int .u8 (0), .int .u8 (0), .int .u8 (0), .int .u8 (0), .int .u8 (0), .int .u8 (0), .int .u8 (0), .int .u8 (0), .int .u8 (0), .int .u8 (0), .int .u8 (0), .int .u8 (0), .int .u8 (0), .int .u8 (0), .int .u8 (0), .int .u8 (0), .int .u8 (0), .int .u8 (0), .int .u8 (0), .int .u8 (0), .int .u8 (0), .int .u8 (0), .int .u8 (0), .int .u8 (0), .int .u8 (0), .int .u8 (0), .int .u8 (0), .int .u8 (0), .int .u8 (0), .int .u8 (0), .int .u8 (0), .int .u8 (0), .int .u8 (0), .int .u8 (0), .int .u8 (0), .int .u8 (0), .int .u8 (0), .int .u8 (0), .int .u8 (0)], shape := .array 256 5 } := by kernel_rfl
theorem kdk9 : vA0 Tryz.prog 216 = true := by kernel_rfl
theorem qdl9 : zb0 Tryz.prog 218 = some { agg := true, sz := 2, bytes := 2, zero := [.int .u8 (0), .int .u8 (0)], shape := .struct [(0, 5), (1, 5)] } := by kernel_rfl
theorem zdl9 : vA0 Tryz.prog 218 = true := by kernel_rfl
theorem xdl9 : zb0 Tryz.prog 219 = some { agg := true, sz := 32, bytes := 32, zero := [.int .u8 (0), .int .u8 (0), .int .u8 (0), .int .u8 (0), .int .u8 (0), .int .u8 (0), .int .u8 (0), .int .u8 (0), .int .u8 (0), .int .u8 (0), .int .u8 (0), .int .u8 (0), .int .u8 (0), .int .u8 (0), .int .u8 (0), .int .u8 (0), .int .u8 (0), .int .u8 (0), .int .u8 (0), .int .u8 (0), .int .u8 (0), .int .u8 (0), .int .u8 (0), .int .u8 (0), .int .u8 (0), .int .u8 (0), .int .u8 (0), .int .u8 (0), .int .u8 (0), .int .u8 (0), .int .u8 (0), .int .u8 (0)], shape := .array 16 218 } := by kernel_rfl
theorem wdl9 : vA0 Tryz.prog 219 = true := by kernel_rfl
theorem en12 : za0 Tryz.prog 12 = true := by kernel_rfl
theorem en13 : za0 Tryz.prog 13 = true := by kernel_rfl
theorem en14 : za0 Tryz.prog 14 = true := by kernel_rfl
theorem en16 : za0 Tryz.prog 16 = true := by kernel_rfl
theorem en17 : za0 Tryz.prog 17 = true := by kernel_rfl
theorem en18 : za0 Tryz.prog 18 = true := by kernel_rfl
theorem en19 : za0 Tryz.prog 19 = true := by kernel_rfl
theorem en20 : za0 Tryz.prog 20 = true := by kernel_rfl
theorem en21 : za0 Tryz.prog 21 = true := by kernel_rfl
theorem en22 : za0 Tryz.prog 22 = true := by kernel_rfl
theorem en27 : za0 Tryz.prog 27 = true := by kernel_rfl
theorem en28 : za0 Tryz.prog 28 = true := by kernel_rfl
theorem en30 : za0 Tryz.prog 30 = true := by kernel_rfl
theorem en31 : za0 Tryz.prog 31 = true := by kernel_rfl
theorem en37 : za0 Tryz.prog 37 = true := by kernel_rfl
theorem en38 : za0 Tryz.prog 38 = true := by kernel_rfl
theorem en39 : za0 Tryz.prog 39 = true := by kernel_rfl
theorem en40 : za0 Tryz.prog 40 = true := by kernel_rfl
theorem en41 : za0 Tryz.prog 41 = true := by kernel_rfl
theorem en42 : za0 Tryz.prog 42 = true := by kernel_rfl
theorem en43 : za0 Tryz.prog 43 = true := by kernel_rfl
theorem en44 : za0 Tryz.prog 44 = true := by kernel_rfl
theorem en45 : za0 Tryz.prog 45 = true := by kernel_rfl
theorem en46 : za0 Tryz.prog 46 = true := by kernel_rfl
theorem en47 : za0 Tryz.prog 47 = true := by kernel_rfl
theorem en48 : za0 Tryz.prog 48 = true := by kernel_rfl
theorem en49 : za0 Tryz.prog 49 = true := by kernel_rfl
theorem en50 : za0 Tryz.prog 50 = true := by kernel_rfl
theorem en51 : za0 Tryz.prog 51 = true := by kernel_rfl
theorem en52 : za0 Tryz.prog 52 = true := by kernel_rfl
theorem en53 : za0 Tryz.prog 53 = true := by kernel_rfl
theorem en54 : za0 Tryz.prog 54 = true := by kernel_rfl
theorem en55 : za0 Tryz.prog 55 = true := by kernel_rfl
theorem en56 : za0 Tryz.prog 56 = true := by kernel_rfl
theorem en57 : za0 Tryz.prog 57 = true := by kernel_rfl
theorem en58 : za0 Tryz.prog 58 = true := by kernel_rfl
theorem en59 : za0 Tryz.prog 59 = true := by kernel_rfl
theorem en60 : za0 Tryz.prog 60 = true := by kernel_rfl
theorem en61 : za0 Tryz.prog 61 = true := by kernel_rfl
theorem en62 : za0 Tryz.prog 62 = true := by kernel_rfl
theorem en63 : za0 Tryz.prog 63 = true := by kernel_rfl
theorem en64 : za0 Tryz.prog 64 = true := by kernel_rfl
theorem en65 : za0 Tryz.prog 65 = true := by kernel_rfl
theorem en66 : za0 Tryz.prog 66 = true := by kernel_rfl
theorem en67 : za0 Tryz.prog 67 = true := by kernel_rfl
theorem en68 : za0 Tryz.prog 68 = true := by kernel_rfl
theorem en77 : za0 Tryz.prog 77 = true := by kernel_rfl
theorem en80 : za0 Tryz.prog 80 = true := by kernel_rfl
theorem en81 : za0 Tryz.prog 81 = true := by kernel_rfl
theorem en82 : za0 Tryz.prog 82 = true := by kernel_rfl
theorem en83 : za0 Tryz.prog 83 = true := by kernel_rfl
theorem en84 : za0 Tryz.prog 84 = true := by kernel_rfl
theorem en85 : za0 Tryz.prog 85 = true := by kernel_rfl
theorem en86 : za0 Tryz.prog 86 = true := by kernel_rfl
theorem en87 : za0 Tryz.prog 87 = true := by kernel_rfl
theorem en88 : za0 Tryz.prog 88 = true := by kernel_rfl
theorem en89 : za0 Tryz.prog 89 = true := by kernel_rfl
theorem en90 : za0 Tryz.prog 90 = true := by kernel_rfl
theorem en91 : za0 Tryz.prog 91 = true := by kernel_rfl
theorem en92 : za0 Tryz.prog 92 = true := by kernel_rfl
theorem en93 : za0 Tryz.prog 93 = true := by kernel_rfl
theorem en94 : za0 Tryz.prog 94 = true := by kernel_rfl
theorem en95 : za0 Tryz.prog 95 = true := by kernel_rfl
theorem en96 : za0 Tryz.prog 96 = true := by kernel_rfl
theorem en97 : za0 Tryz.prog 97 = true := by kernel_rfl
theorem en98 : za0 Tryz.prog 98 = true := by kernel_rfl
theorem en99 : za0 Tryz.prog 99 = true := by kernel_rfl
theorem vdl9 : za0 Tryz.prog 100 = true := by kernel_rfl
theorem kdl9 : za0 Tryz.prog 101 = true := by kernel_rfl
theorem qdm9 : za0 Tryz.prog 102 = true := by kernel_rfl
theorem vaC9 : za0 Tryz.prog 103 = true := by kernel_rfl
theorem vcj9 : za0 Tryz.prog 104 = true := by kernel_rfl
theorem kcj9 : za0 Tryz.prog 105 = true := by kernel_rfl
theorem zdm9 : za0 Tryz.prog 106 = true := by kernel_rfl
theorem xbv9 : za0 Tryz.prog 107 = true := by kernel_rfl
theorem qam9 : za0 Tryz.prog 108 = true := by kernel_rfl
theorem xdm9 : za0 Tryz.prog 113 = true := by kernel_rfl
theorem wdm9 : za0 Tryz.prog 114 = true := by kernel_rfl
theorem vdm9 : za0 Tryz.prog 115 = true := by kernel_rfl
theorem kdm9 : za0 Tryz.prog 116 = true := by kernel_rfl
theorem qdn9 : za0 Tryz.prog 117 = true := by kernel_rfl
theorem zdn9 : za0 Tryz.prog 119 = true := by kernel_rfl
theorem xdn9 : za0 Tryz.prog 120 = true := by kernel_rfl
theorem wdn9 : za0 Tryz.prog 121 = true := by kernel_rfl
theorem vdn9 : za0 Tryz.prog 122 = true := by kernel_rfl
theorem kdn9 : za0 Tryz.prog 124 = true := by kernel_rfl
theorem qdo9 : za0 Tryz.prog 125 = true := by kernel_rfl
theorem zdo9 : za0 Tryz.prog 126 = true := by kernel_rfl
theorem xdo9 : za0 Tryz.prog 127 = true := by kernel_rfl
theorem wdo9 : za0 Tryz.prog 128 = true := by kernel_rfl
theorem qck9 : za0 Tryz.prog 129 = true := by kernel_rfl
theorem vdo9 : za0 Tryz.prog 130 = true := by kernel_rfl
theorem kdo9 : za0 Tryz.prog 131 = true := by kernel_rfl
theorem qdp9 : za0 Tryz.prog 134 = true := by kernel_rfl
theorem zdp9 : za0 Tryz.prog 135 = true := by kernel_rfl
theorem xdp9 : za0 Tryz.prog 136 = true := by kernel_rfl
theorem wdp9 : za0 Tryz.prog 137 = true := by kernel_rfl
theorem vdp9 : za0 Tryz.prog 138 = true := by kernel_rfl
theorem kdp9 : za0 Tryz.prog 139 = true := by kernel_rfl
theorem qdq9 : za0 Tryz.prog 140 = true := by kernel_rfl
theorem zdq9 : za0 Tryz.prog 141 = true := by kernel_rfl
theorem xdq9 : za0 Tryz.prog 142 = true := by kernel_rfl
theorem wdq9 : za0 Tryz.prog 143 = true := by kernel_rfl
theorem vdq9 : za0 Tryz.prog 144 = true := by kernel_rfl
theorem kdq9 : za0 Tryz.prog 146 = true := by kernel_rfl
theorem qdr9 : za0 Tryz.prog 147 = true := by kernel_rfl
theorem zdr9 : za0 Tryz.prog 148 = true := by kernel_rfl
theorem xdr9 : za0 Tryz.prog 149 = true := by kernel_rfl
theorem wdr9 : za0 Tryz.prog 150 = true := by kernel_rfl
theorem vdr9 : za0 Tryz.prog 151 = true := by kernel_rfl
theorem kdr9 : za0 Tryz.prog 152 = true := by kernel_rfl
theorem qds9 : za0 Tryz.prog 153 = true := by kernel_rfl
theorem zds9 : za0 Tryz.prog 154 = true := by kernel_rfl
theorem xds9 : za0 Tryz.prog 155 = true := by kernel_rfl
theorem wds9 : za0 Tryz.prog 156 = true := by kernel_rfl
theorem vds9 : za0 Tryz.prog 157 = true := by kernel_rfl
theorem kds9 : za0 Tryz.prog 158 = true := by kernel_rfl
theorem qdt9 : za0 Tryz.prog 159 = true := by kernel_rfl
theorem zdt9 : za0 Tryz.prog 160 = true := by kernel_rfl
theorem xdt9 : za0 Tryz.prog 161 = true := by kernel_rfl
theorem wdt9 : za0 Tryz.prog 163 = true := by kernel_rfl
theorem vdt9 : za0 Tryz.prog 164 = true := by kernel_rfl
theorem kdt9 : za0 Tryz.prog 166 = true := by kernel_rfl
theorem qdu9 : za0 Tryz.prog 167 = true := by kernel_rfl
theorem zdu9 : za0 Tryz.prog 168 = true := by kernel_rfl
theorem xdu9 : za0 Tryz.prog 169 = true := by kernel_rfl
theorem wdu9 : za0 Tryz.prog 170 = true := by kernel_rfl
theorem vdu9 : za0 Tryz.prog 171 = true := by kernel_rfl
theorem kdu9 : za0 Tryz.prog 172 = true := by kernel_rfl
theorem qdv9 : za0 Tryz.prog 173 = true := by kernel_rfl
theorem zdv9 : za0 Tryz.prog 174 = true := by kernel_rfl
theorem xdv9 : za0 Tryz.prog 175 = true := by kernel_rfl
theorem wdv9 : za0 Tryz.prog 176 = true := by kernel_rfl
theorem vdv9 : za0 Tryz.prog 177 = true := by kernel_rfl
theorem mixed : Tryz.prog.follows .mixedOrders = true := by kernel_rfl
end Go.Proofs

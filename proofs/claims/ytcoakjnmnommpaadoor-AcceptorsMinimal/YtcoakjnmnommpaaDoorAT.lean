/- What the program's tables say of its types (made by wip/tools/tfacts.py): each a closed fact that the kernel reckons. -/
import Derived.Test.YtcoakjnmnommpaaDoorV31
import Derived.Test.YtcoakjnmnommpaaDoorProg
import Derived.KernelRfl
namespace Go.Proofs
open Go Go.V
set_option maxRecDepth 100000
theorem ti1 : zb0 Tryd.prog 1 = some { agg := false, sz := 1, bytes := 8, zero := [.lit .nilFunc], shape := .func } := by kernel_rfl
theorem ti2 : zb0 Tryd.prog 2 = some { agg := false, sz := 1, bytes := 8, zero := [.int .i64 (0)], shape := .int .i64 } := by kernel_rfl
theorem ti3 : zb0 Tryd.prog 3 = some { agg := false, sz := 1, bytes := 8, zero := [.int .i64 (0)], shape := .int .i64 } := by kernel_rfl
theorem ti4 : zb0 Tryd.prog 4 = some { agg := false, sz := 1, bytes := 1, zero := [.bool false], shape := .bool } := by kernel_rfl
theorem ti5 : zb0 Tryd.prog 5 = some { agg := false, sz := 1, bytes := 1, zero := [.int .u8 (0)], shape := .int .u8 } := by kernel_rfl
theorem ti9 : zb0 Tryd.prog 9 = some { agg := false, sz := 1, bytes := 16, zero := [.str []], shape := .str } := by kernel_rfl
theorem ti21 : zb0 Tryd.prog 21 = some { agg := false, sz := 1, bytes := 4, zero := [.int .i32 (0)], shape := .int .i32 } := by kernel_rfl
theorem ti22 : zb0 Tryd.prog 22 = some { agg := false, sz := 1, bytes := 24, zero := [.sl 0 [] (some 0)], shape := .slice 33 } := by kernel_rfl
theorem ti24 : zb0 Tryd.prog 24 = some { agg := true, sz := 5, bytes := 40, zero := [.int .u8 (0), .int .u8 (0), .sl 0 [] (some 0), .int .u8 (0), .int .u8 (0)], shape := .struct [(0, 5), (1, 5), (2, 22), (3, 5), (4, 5)] } := by kernel_rfl
theorem ti25 : zb0 Tryd.prog 25 = some { agg := false, sz := 1, bytes := 24, zero := [.sl 0 [] (some 0)], shape := .slice 32 } := by kernel_rfl
theorem ti26 : zb0 Tryd.prog 26 = some { agg := false, sz := 1, bytes := 24, zero := [.sl 0 [] (some 0)], shape := .slice 3 } := by kernel_rfl
theorem ti28 : zb0 Tryd.prog 28 = some { agg := true, sz := 4, bytes := 80, zero := [.int .i64 (0), .sl 0 [] (some 0), .sl 0 [] (some 0), .sl 0 [] (some 0)], shape := .struct [(0, 3), (1, 25), (2, 26), (3, 26)] } := by kernel_rfl
theorem ti31 : zb0 Tryd.prog 31 = some { agg := false, sz := 1, bytes := 8, zero := [.int .u64 (0)], shape := .int .u64 } := by kernel_rfl
theorem ti32 : zb0 Tryd.prog 32 = some { agg := false, sz := 1, bytes := 24, zero := [.sl 0 [] (some 0)], shape := .slice 26 } := by kernel_rfl
theorem ti33 : zb0 Tryd.prog 33 = some { agg := true, sz := 3, bytes := 3, zero := [.int .u8 (0), .int .u8 (0), .int .u8 (0)], shape := .array 3 5 } := by kernel_rfl
theorem et33 : kw0 Tryd.prog 33 = true := by kernel_rfl
theorem ti34 : zb0 Tryd.prog 34 = some { agg := false, sz := 1, bytes := 24, zero := [.sl 0 [] (some 0)], shape := .slice 4 } := by kernel_rfl
theorem ti36 : zb0 Tryd.prog 36 = some { agg := true, sz := 3, bytes := 56, zero := [.int .i64 (0), .sl 0 [] (some 0), .sl 0 [] (some 0)], shape := .struct [(0, 3), (1, 32), (2, 34)] } := by kernel_rfl
theorem ti37 : zb0 Tryd.prog 37 = some { agg := false, sz := 1, bytes := 8, zero := [.int .i64 (0)], shape := .int .i64 } := by kernel_rfl
theorem ti56 : zb0 Tryd.prog 56 = some { agg := false, sz := 1, bytes := 24, zero := [.sl 0 [] (some 0)], shape := .slice 5 } := by kernel_rfl
theorem ti66 : zb0 Tryd.prog 66 = some { agg := false, sz := 1, bytes := 8, zero := [.int .u64 (0)], shape := .int .u64 } := by kernel_rfl
theorem ti68 : zb0 Tryd.prog 68 = some { agg := true, sz := 4, bytes := 32, zero := [.int .u64 (0), .int .u64 (0), .int .u64 (0), .int .u64 (0)], shape := .array 4 66 } := by kernel_rfl
theorem et68 : kw0 Tryd.prog 68 = true := by kernel_rfl
theorem ti70 : zb0 Tryd.prog 70 = some { agg := false, sz := 1, bytes := 24, zero := [.sl 0 [] (some 0)], shape := .slice 68 } := by kernel_rfl
theorem ti71 : zb0 Tryd.prog 71 = some { agg := false, sz := 1, bytes := 8, zero := [.lit (.map none)], shape := .map 68 3 } := by kernel_rfl
theorem ti81 : zb0 Tryd.prog 81 = some { agg := false, sz := 1, bytes := 8, zero := [.lit (.pointer none)], shape := .ptr 83 } := by kernel_rfl
theorem ti83 : zb0 Tryd.prog 83 = some { agg := true, sz := 2, bytes := 32, zero := [.lit (.pointer none), .sl 0 [] (some 0)], shape := .struct [(0, 81), (1, 56)] } := by kernel_rfl
theorem ti85 : zb0 Tryd.prog 85 = some { agg := false, sz := 1, bytes := 16, zero := [.lit .nilIface], shape := .iface } := by kernel_rfl
theorem ti90 : zb0 Tryd.prog 90 = some { agg := false, sz := 1, bytes := 8, zero := [.lit (.map none)], shape := .map 4 9 } := by kernel_rfl
theorem ti94 : zb0 Tryd.prog 94 = some { agg := false, sz := 1, bytes := 24, zero := [.sl 0 [] (some 0)], shape := .slice 9 } := by kernel_rfl
theorem vdK9 : zb0 Tryd.prog 114 = some { agg := false, sz := 1, bytes := 8, zero := [.lit (.pointer none)], shape := .ptr 5 } := by kernel_rfl
theorem kdK9 : zb0 Tryd.prog 117 = some { agg := false, sz := 1, bytes := 8, zero := [.lit (.map none)], shape := .map 9 3 } := by kernel_rfl
theorem qdL9 : zb0 Tryd.prog 119 = some { agg := false, sz := 1, bytes := 8, zero := [.lit .nilFunc], shape := .func } := by kernel_rfl
theorem zdL9 : zb0 Tryd.prog 130 = some { agg := true, sz := 64, bytes := 64, zero := [.int .u8 (0), .int .u8 (0), .int .u8 (0), .int .u8 (0), .int .u8 (0), .int .u8 (0), .int .u8 (0), .int .u8 (0), .int .u8 (0), .int .u8 (0), .int .u8 (0), .int .u8 (0), .int .u8 (0), .int .u8 (0), .int .u8 (0), .int .u8 (0), .int .u8 (0), .int .u8 (0), .int .u8 (0), .int .u8 (0), .int .u8 (0), .int .u8 (0), .int .u8 (0), .int .u8 (0), .int .u8 (0), .int .u8 (0), .int .u8 (0), .int .u8 (0), .int .u8 (0), .int .u8 (0), .int .u8 (0), .int .u8 (0), .int .u8 (0), .int .u8 (0), .int .u8 (0), .int .u8 (0), .int .u8 (0), .int .u8 (0), .int .u8 (0), .int .u8 (0), .int .u8 (0), .int .u8 (0), .int .u8 (0), .int .u8 (0), .int .u8 (0), .int .u8 (0), .int .u8 (0), .int .u8 (0), .int .u8 (0), .int .u8 (0), .int .u8 (0), .int .u8 (0), .int .u8 (0), .int .u8 (0), .int .u8 (0), .int .u8 (0), .int .u8 (0), .int .u8 (0), .int .u8 (0), .int .u8 (0), .int .u8 (0), .int .u8 (0), .int .u8 (0), .int .u8 (0)], shape := .array 64 5 } := by kernel_rfl
theorem xdL9 : kw0 Tryd.prog 130 = true := by kernel_rfl
theorem wdL9 : zb0 Tryd.prog 131 = some { agg := true, sz := 24, bytes := 24, zero := [.int .u8 (0), .int .u8 (0), .int .u8 (0), .int .u8 (0), .int .u8 (0), .int .u8 (0), .int .u8 (0), .int .u8 (0), .int .u8 (0), .int .u8 (0), .int .u8 (0), .int .u8 (0), .int .u8 (0), .int .u8 (0), .int .u8 (0), .int .u8 (0), .int .u8 (0), .int .u8 (0), .int .u8 (0), .int .u8 (0), .int .u8 (0), .int .u8 (0), .int .u8 (0), .int .u8 (0)], shape := .array 24 5 } := by kernel_rfl
theorem vdL9 : kw0 Tryd.prog 131 = true := by kernel_rfl
theorem kdL9 : zb0 Tryd.prog 138 = some { agg := false, sz := 1, bytes := 8, zero := [.int .i64 (0)], shape := .int .i64 } := by kernel_rfl
theorem qdM9 : zb0 Tryd.prog 141 = some { agg := false, sz := 1, bytes := 8, zero := [.lit (.pointer none)], shape := .ptr 154 } := by kernel_rfl
theorem zdM9 : zb0 Tryd.prog 146 = some { agg := true, sz := 20, bytes := 160, zero := [.int .u64 (0), .int .u64 (0), .int .u64 (0), .int .u64 (0), .int .u64 (0), .int .u64 (0), .int .u64 (0), .int .u64 (0), .int .u64 (0), .int .u64 (0), .int .u64 (0), .int .u64 (0), .int .u64 (0), .int .u64 (0), .int .u64 (0), .int .u64 (0), .int .u64 (0), .int .u64 (0), .int .u64 (0), .int .u64 (0)], shape := .array 20 66 } := by kernel_rfl
theorem xdM9 : kw0 Tryd.prog 146 = true := by kernel_rfl
theorem wdM9 : zb0 Tryd.prog 147 = some { agg := false, sz := 1, bytes := 4, zero := [.int .u32 (0)], shape := .int .u32 } := by kernel_rfl
theorem vdM9 : zb0 Tryd.prog 148 = some { agg := true, sz := 65, bytes := 65, zero := [.int .u8 (0), .int .u8 (0), .int .u8 (0), .int .u8 (0), .int .u8 (0), .int .u8 (0), .int .u8 (0), .int .u8 (0), .int .u8 (0), .int .u8 (0), .int .u8 (0), .int .u8 (0), .int .u8 (0), .int .u8 (0), .int .u8 (0), .int .u8 (0), .int .u8 (0), .int .u8 (0), .int .u8 (0), .int .u8 (0), .int .u8 (0), .int .u8 (0), .int .u8 (0), .int .u8 (0), .int .u8 (0), .int .u8 (0), .int .u8 (0), .int .u8 (0), .int .u8 (0), .int .u8 (0), .int .u8 (0), .int .u8 (0), .int .u8 (0), .int .u8 (0), .int .u8 (0), .int .u8 (0), .int .u8 (0), .int .u8 (0), .int .u8 (0), .int .u8 (0), .int .u8 (0), .int .u8 (0), .int .u8 (0), .int .u8 (0), .int .u8 (0), .int .u8 (0), .int .u8 (0), .int .u8 (0), .int .u8 (0), .int .u8 (0), .int .u8 (0), .int .u8 (0), .int .u8 (0), .int .u8 (0), .int .u8 (0), .int .u8 (0), .int .u8 (0), .int .u8 (0), .int .u8 (0), .int .u8 (0), .int .u8 (0), .int .u8 (0), .int .u8 (0), .int .u8 (0), .int .u8 (0)], shape := .array 65 5 } := by kernel_rfl
theorem kdM9 : kw0 Tryd.prog 148 = true := by kernel_rfl
theorem qdN9 : zb0 Tryd.prog 154 = some { agg := true, sz := 3, bytes := 48, zero := [.str [], .str [], .lit .nilIface], shape := .struct [(0, 9), (1, 9), (2, 85)] } := by kernel_rfl
theorem zdN9 : zb0 Tryd.prog 157 = some { agg := true, sz := 256, bytes := 256, zero := [.int .u8 (0), .int .u8 (0), .int .u8 (0), .int .u8 (0), .int .u8 (0), .int .u8 (0), .int .u8 (0), .int .u8 (0), .int .u8 (0), .int .u8 (0), .int .u8 (0), .int .u8 (0), .int .u8 (0), .int .u8 (0), .int .u8 (0), .int .u8 (0), .int .u8 (0), .int .u8 (0), .int .u8 (0), .int .u8 (0), .int .u8 (0), .int .u8 (0), .int .u8 (0), .int .u8 (0), .int .u8 (0), .int .u8 (0), .int .u8 (0), .int .u8 (0), .int .u8 (0), .int .u8 (0), .int .u8 (0), .int .u8 (0), .int .u8 (0), .int .u8 (0), .int .u8 (0), .int .u8 (0), .int .u8 (0), .int .u8 (0), .int .u8 (0), .int .u8 (0), .int .u8 (0), .int .u8 (0), .int .u8 (0), .int .u8 (0), .int .u8 (0), .int .u8 (0), .int .u8 (0), .int .u8 (0), .int .u8 (0), .int .u8 (0), .int .u8 (0), .int .u8 (0), .int .u8 (0), .int .u8 (0), .int .u8 (0), .int .u8 (0), .int .u8 (0), .int .u8 (0), .int .u8 (0), .int .u8 (0), .int .u8 (0), .int .u8 (0), .int .u8 (0), .int .u8 (0), .int .u8 (0), .int .u8 (0), .int .u8 (0), .int .u8 (0), .int .u8 (0), .int .u8 (0), .int .u8 (0), .int .u8 (0), .int .u8 (0), .int .u8 (0), .int .u8 (0), .int .u8 (0), .int .u8 (0), .int .u8 (0), .int .u8 (0), .int .u8 (0), .int .u8 (0), .int .u8 (0), .int .u8 (0), .int .u8 (0), .int .u8 (0), .int .u8 (0), .int .u8 (0), .int .u8 (0), .int .u8 (0), .int .u8 (0), .int .u8 (0), .int .u8 (0), .int .u8 (0), .int .u8 (0), .int .u8 (0), .int .u8 (0), .int .u8 (0), .int .u8 (0), .int .u8 (0), .int .u8 (0), .int .u8 (0), .int .u8 (0), .int .u8 (0), .int .u8 (0), .int .u8 (0), .int .u8 (0), .int .u8 (0), .int .u8 (0), .int .u8 (0), .int .u8 (0), .int .u8 (0), .int .u8 (0), .int .u8 (0), .int .u8 (0), .int .u8 (0), .int .u8 (0), .int .u8 (0), .int .u8 (0), .int .u8 (0), .int .u8 (0), .int .u8 (0), .int .u8 (0), .int .u8 (0), .int .u8 (0), .int .u8 (0), .int .u8 (0), .int .u8 (0), .int .u8 (0), .int .u8 (0), .int .u8 (0), .int .u8 (0), .int .u8 (0), .int .u8 (0), .int .u8 (0), .int .u8 (0), .int .u8 (0), .int .u8 (0), .int .u8 (0), .int .u8 (0), .int .u8 (0), .int .u8 (0), .int .u8 (0), .int .u8 (0), .int .u8 (0), .int .u8 (0), .int .u8 (0), .int .u8 (0), .int .u8 (0), .int .u8 (0), .int .u8 (0), .int .u8 (0), .int .u8 (0), .int .u8 (0), .int .u8 (0), .int .u8 (0), .int .u8 (0), .int .u8 (0), .int .u8 (0), .int .u8 (0), .int .u8 (0), .int .u8 (0), .int .u8 (0), .int .u8 (0), .int .u8 (0), .int .u8 (0), .int .u8 (0), .int .u8 (0), .int .u8 (0), .int .u8 (0), .int .u8 (0), .int .u8 (0), .int .u8 (0), .int .u8 (0), .int .u8 (0), .int .u8 (0), .int .u8 (0), .int .u8 (0), .int .u8 (0), .int .u8 (0), .int .u8 (0), .int .u8 (0), .int .u8 (0), .int .u8 (0), .int .u8 (0), .int .u8 (0), .int .u8 (0), .int .u8 (0), .int .u8 (0), .int .u8 (0), .int .u8 (0), .int .u8 (0), .int .u8 (0), .int .u8 (0), .int .u8 (0), .int .u8 (0), .int .u8 (0), .int .u8 (0), .int .u8 (0), .int .u8 (0), .int .u8 (0), .int .u8 (0), .int .u8 (0), .int .u8 (0), .int .u8 (0), .int .u8 (0), .int .u8 (0), .int .u8 (0), .int .u8 (0), .int .u8 (0), .int .u8 (0), .int .u8 (0), .int .u8 (0), .int .u8 (0), .int .u8 (0), .int .u8 (0), .int .u8 (0), .int .u8 (0), .int .u8 (0), .int .u8 (0), .int .u8 (0), .int .u8 (0), .int .u8 (0), .int .u8 (0), .int .u8 (0), .int .u8 (0), .int .u8 (0), .int .u8 (0), .int .u8 (0), .int .u8 (0), .int .u8 (0), .int .u8 (0), .int .u8 (0), .int .u8 (0), .int .u8 (0), .int .u8 (0), .int .u8 (0), .int .u8 (0), .int .u8 (0), .int .u8 (0), .int .u8 (0), .int .u8 (0), .int .u8 (0), .int .u8 (0), .int .u8 (0), .int .u8 (0), .int .u8 (0), .int .u8 (0), .int .u8 (0), .int .u8 (0), .int .u8 (0), .int .u8 (0), .int .u8 (0), .int .u8 (0), .int .u8 (0), .int .u8 (0), .int .u8 (0)], shape := .array 256 5 } := by kernel_rfl
theorem xdN9 : kw0 Tryd.prog 157 = true := by kernel_rfl
theorem wdN9 : zb0 Tryd.prog 159 = some { agg := true, sz := 2, bytes := 2, zero := [.int .u8 (0), .int .u8 (0)], shape := .struct [(0, 5), (1, 5)] } := by kernel_rfl
theorem vdN9 : kw0 Tryd.prog 159 = true := by kernel_rfl
theorem kdN9 : zb0 Tryd.prog 160 = some { agg := true, sz := 32, bytes := 32, zero := [.int .u8 (0), .int .u8 (0), .int .u8 (0), .int .u8 (0), .int .u8 (0), .int .u8 (0), .int .u8 (0), .int .u8 (0), .int .u8 (0), .int .u8 (0), .int .u8 (0), .int .u8 (0), .int .u8 (0), .int .u8 (0), .int .u8 (0), .int .u8 (0), .int .u8 (0), .int .u8 (0), .int .u8 (0), .int .u8 (0), .int .u8 (0), .int .u8 (0), .int .u8 (0), .int .u8 (0), .int .u8 (0), .int .u8 (0), .int .u8 (0), .int .u8 (0), .int .u8 (0), .int .u8 (0), .int .u8 (0), .int .u8 (0)], shape := .array 16 159 } := by kernel_rfl
theorem qdO9 : kw0 Tryd.prog 160 = true := by kernel_rfl
theorem zdO9 : zb0 Tryd.prog 164 = some { agg := false, sz := 1, bytes := 8, zero := [.lit (.pointer none)], shape := .ptr 166 } := by kernel_rfl
theorem xdO9 : zb0 Tryd.prog 166 = some { agg := true, sz := 1, bytes := 16, zero := [.str []], shape := .struct [(0, 9)] } := by kernel_rfl
theorem wdO9 : kw0 Tryd.prog 166 = true := by kernel_rfl
theorem vdO9 : zb0 Tryd.prog 167 = some { agg := true, sz := 32, bytes := 32, zero := [.int .u8 (0), .int .u8 (0), .int .u8 (0), .int .u8 (0), .int .u8 (0), .int .u8 (0), .int .u8 (0), .int .u8 (0), .int .u8 (0), .int .u8 (0), .int .u8 (0), .int .u8 (0), .int .u8 (0), .int .u8 (0), .int .u8 (0), .int .u8 (0), .int .u8 (0), .int .u8 (0), .int .u8 (0), .int .u8 (0), .int .u8 (0), .int .u8 (0), .int .u8 (0), .int .u8 (0), .int .u8 (0), .int .u8 (0), .int .u8 (0), .int .u8 (0), .int .u8 (0), .int .u8 (0), .int .u8 (0), .int .u8 (0)], shape := .array 32 5 } := by kernel_rfl
theorem kdO9 : kw0 Tryd.prog 167 = true := by kernel_rfl
theorem en9 : va0 Tryd.prog 9 = true := by kernel_rfl
theorem en10 : va0 Tryd.prog 10 = true := by kernel_rfl
theorem en11 : va0 Tryd.prog 11 = true := by kernel_rfl
theorem en12 : va0 Tryd.prog 12 = true := by kernel_rfl
theorem en13 : va0 Tryd.prog 13 = true := by kernel_rfl
theorem en14 : va0 Tryd.prog 14 = true := by kernel_rfl
theorem en15 : va0 Tryd.prog 15 = true := by kernel_rfl
theorem en18 : va0 Tryd.prog 18 = true := by kernel_rfl
theorem en19 : va0 Tryd.prog 19 = true := by kernel_rfl
theorem en21 : va0 Tryd.prog 21 = true := by kernel_rfl
theorem en22 : va0 Tryd.prog 22 = true := by kernel_rfl
theorem en23 : va0 Tryd.prog 23 = true := by kernel_rfl
theorem en25 : va0 Tryd.prog 25 = true := by kernel_rfl
theorem en29 : va0 Tryd.prog 29 = true := by kernel_rfl
theorem en30 : va0 Tryd.prog 30 = true := by kernel_rfl
theorem en31 : va0 Tryd.prog 31 = true := by kernel_rfl
theorem en32 : va0 Tryd.prog 32 = true := by kernel_rfl
theorem en33 : va0 Tryd.prog 33 = true := by kernel_rfl
theorem en34 : va0 Tryd.prog 34 = true := by kernel_rfl
theorem en35 : va0 Tryd.prog 35 = true := by kernel_rfl
theorem en36 : va0 Tryd.prog 36 = true := by kernel_rfl
theorem en37 : va0 Tryd.prog 37 = true := by kernel_rfl
theorem en38 : va0 Tryd.prog 38 = true := by kernel_rfl
theorem en39 : va0 Tryd.prog 39 = true := by kernel_rfl
theorem en40 : va0 Tryd.prog 40 = true := by kernel_rfl
theorem en41 : va0 Tryd.prog 41 = true := by kernel_rfl
theorem en42 : va0 Tryd.prog 42 = true := by kernel_rfl
theorem en43 : va0 Tryd.prog 43 = true := by kernel_rfl
theorem en44 : va0 Tryd.prog 44 = true := by kernel_rfl
theorem en45 : va0 Tryd.prog 45 = true := by kernel_rfl
theorem en46 : va0 Tryd.prog 46 = true := by kernel_rfl
theorem en47 : va0 Tryd.prog 47 = true := by kernel_rfl
theorem en52 : va0 Tryd.prog 52 = true := by kernel_rfl
theorem en53 : va0 Tryd.prog 53 = true := by kernel_rfl
theorem en54 : va0 Tryd.prog 54 = true := by kernel_rfl
theorem en55 : va0 Tryd.prog 55 = true := by kernel_rfl
theorem en56 : va0 Tryd.prog 56 = true := by kernel_rfl
theorem en57 : va0 Tryd.prog 57 = true := by kernel_rfl
theorem en58 : va0 Tryd.prog 58 = true := by kernel_rfl
theorem en59 : va0 Tryd.prog 59 = true := by kernel_rfl
theorem en60 : va0 Tryd.prog 60 = true := by kernel_rfl
theorem en61 : va0 Tryd.prog 61 = true := by kernel_rfl
theorem en62 : va0 Tryd.prog 62 = true := by kernel_rfl
theorem en63 : va0 Tryd.prog 63 = true := by kernel_rfl
theorem en64 : va0 Tryd.prog 64 = true := by kernel_rfl
theorem en65 : va0 Tryd.prog 65 = true := by kernel_rfl
theorem en66 : va0 Tryd.prog 66 = true := by kernel_rfl
theorem en67 : va0 Tryd.prog 67 = true := by kernel_rfl
theorem en68 : va0 Tryd.prog 68 = true := by kernel_rfl
theorem en69 : va0 Tryd.prog 69 = true := by kernel_rfl
theorem en71 : va0 Tryd.prog 71 = true := by kernel_rfl
theorem en72 : va0 Tryd.prog 72 = true := by kernel_rfl
theorem en73 : va0 Tryd.prog 73 = true := by kernel_rfl
theorem en74 : va0 Tryd.prog 74 = true := by kernel_rfl
theorem en76 : va0 Tryd.prog 76 = true := by kernel_rfl
theorem en77 : va0 Tryd.prog 77 = true := by kernel_rfl
theorem en78 : va0 Tryd.prog 78 = true := by kernel_rfl
theorem en79 : va0 Tryd.prog 79 = true := by kernel_rfl
theorem en80 : va0 Tryd.prog 80 = true := by kernel_rfl
theorem en81 : va0 Tryd.prog 81 = true := by kernel_rfl
theorem en82 : va0 Tryd.prog 82 = true := by kernel_rfl
theorem en83 : va0 Tryd.prog 83 = true := by kernel_rfl
theorem en84 : va0 Tryd.prog 84 = true := by kernel_rfl
theorem en85 : va0 Tryd.prog 85 = true := by kernel_rfl
theorem en86 : va0 Tryd.prog 86 = true := by kernel_rfl
theorem en87 : va0 Tryd.prog 87 = true := by kernel_rfl
theorem en88 : va0 Tryd.prog 88 = true := by kernel_rfl
theorem en89 : va0 Tryd.prog 89 = true := by kernel_rfl
theorem en91 : va0 Tryd.prog 91 = true := by kernel_rfl
theorem en92 : va0 Tryd.prog 92 = true := by kernel_rfl
theorem en93 : va0 Tryd.prog 93 = true := by kernel_rfl
theorem en94 : va0 Tryd.prog 94 = true := by kernel_rfl
theorem en95 : va0 Tryd.prog 95 = true := by kernel_rfl
theorem en96 : va0 Tryd.prog 96 = true := by kernel_rfl
theorem en97 : va0 Tryd.prog 97 = true := by kernel_rfl
theorem en98 : va0 Tryd.prog 98 = true := by kernel_rfl
theorem en99 : va0 Tryd.prog 99 = true := by kernel_rfl
theorem qdP9 : va0 Tryd.prog 100 = true := by kernel_rfl
theorem zdP9 : va0 Tryd.prog 101 = true := by kernel_rfl
theorem xdP9 : va0 Tryd.prog 102 = true := by kernel_rfl
theorem wdP9 : va0 Tryd.prog 103 = true := by kernel_rfl
theorem vdP9 : va0 Tryd.prog 105 = true := by kernel_rfl
theorem kdP9 : va0 Tryd.prog 106 = true := by kernel_rfl
theorem qdQ9 : va0 Tryd.prog 107 = true := by kernel_rfl
theorem zdQ9 : va0 Tryd.prog 108 = true := by kernel_rfl
theorem xdQ9 : va0 Tryd.prog 109 = true := by kernel_rfl
theorem wdQ9 : va0 Tryd.prog 110 = true := by kernel_rfl
theorem vdQ9 : va0 Tryd.prog 112 = true := by kernel_rfl
theorem kdQ9 : va0 Tryd.prog 113 = true := by kernel_rfl
theorem qdR9 : va0 Tryd.prog 114 = true := by kernel_rfl
theorem mixed : Tryd.prog.follows .mixedOrders = true := by kernel_rfl
end Go.Proofs

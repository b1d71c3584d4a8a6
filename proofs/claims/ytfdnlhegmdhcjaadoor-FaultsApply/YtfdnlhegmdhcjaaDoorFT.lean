/- What the program's tables say of its types (made by wip/tools/tfacts.py): each a closed fact that the kernel reckons. -/
import Derived.Test.YtfdnlhegmdhcjaaDoorProg
import Derived.Test.YtfdnlhegmdhcjaaDoorV34
import Derived.KernelRfl
namespace Go.Proofs
open Go Go.V
set_option maxRecDepth 100000
theorem ti1 : tinfo Tryd.prog 1 = some { agg := false, sz := 1, bytes := 8, zero := [.lit .nilFunc], shape := .func } := by kernel_rfl
theorem ti2 : tinfo Tryd.prog 2 = some { agg := false, sz := 1, bytes := 8, zero := [.int .i64 (0)], shape := .int .i64 } := by kernel_rfl
theorem ti3 : tinfo Tryd.prog 3 = some { agg := false, sz := 1, bytes := 8, zero := [.int .i64 (0)], shape := .int .i64 } := by kernel_rfl
theorem ti4 : tinfo Tryd.prog 4 = some { agg := false, sz := 1, bytes := 1, zero := [.bool false], shape := .bool } := by kernel_rfl
theorem ti5 : tinfo Tryd.prog 5 = some { agg := false, sz := 1, bytes := 1, zero := [.int .u8 (0)], shape := .int .u8 } := by kernel_rfl
theorem ti9 : tinfo Tryd.prog 9 = some { agg := false, sz := 1, bytes := 16, zero := [.str []], shape := .str } := by kernel_rfl
theorem ti21 : tinfo Tryd.prog 21 = some { agg := false, sz := 1, bytes := 4, zero := [.int .i32 (0)], shape := .int .i32 } := by kernel_rfl
theorem ti22 : tinfo Tryd.prog 22 = some { agg := false, sz := 1, bytes := 24, zero := [.sl 0 [] (some 0)], shape := .slice 25 } := by kernel_rfl
theorem ti24 : tinfo Tryd.prog 24 = some { agg := true, sz := 5, bytes := 32, zero := [.int .u8 (0), .int .u8 (0), .int .u8 (0), .bool false, .sl 0 [] (some 0)], shape := .struct [(0, 5), (1, 5), (2, 5), (3, 4), (4, 22)] } := by kernel_rfl
theorem ti25 : tinfo Tryd.prog 25 = some { agg := false, sz := 1, bytes := 2, zero := [.int .u16 (0)], shape := .int .u16 } := by kernel_rfl
theorem ti27 : tinfo Tryd.prog 27 = some { agg := true, sz := 1, bytes := 2, zero := [.int .u16 (0)], shape := .struct [(0, 25)] } := by kernel_rfl
theorem et27 : eqTyOk Tryd.prog 27 = true := by kernel_rfl
theorem ti28 : tinfo Tryd.prog 28 = some { agg := false, sz := 1, bytes := 24, zero := [.sl 0 [] (some 0)], shape := .slice 44 } := by kernel_rfl
theorem ti30 : tinfo Tryd.prog 30 = some { agg := true, sz := 3, bytes := 40, zero := [.int .i64 (0), .int .i64 (0), .sl 0 [] (some 0)], shape := .struct [(0, 3), (1, 3), (2, 28)] } := by kernel_rfl
theorem ti33 : tinfo Tryd.prog 33 = some { agg := true, sz := 6, bytes := 48, zero := [.int .i64 (0), .int .i64 (0), .int .i64 (0), .int .i64 (0), .int .i64 (0), .int .i64 (0)], shape := .struct [(0, 3), (1, 3), (2, 3), (3, 3), (4, 3), (5, 3)] } := by kernel_rfl
theorem et33 : eqTyOk Tryd.prog 33 = true := by kernel_rfl
theorem ti37 : tinfo Tryd.prog 37 = some { agg := false, sz := 1, bytes := 8, zero := [.int .i64 (0)], shape := .int .i64 } := by kernel_rfl
theorem ti44 : tinfo Tryd.prog 44 = some { agg := false, sz := 1, bytes := 24, zero := [.sl 0 [] (some 0)], shape := .slice 46 } := by kernel_rfl
theorem ti46 : tinfo Tryd.prog 46 = some { agg := true, sz := 2, bytes := 16, zero := [.int .i64 (0), .int .i64 (0)], shape := .struct [(0, 3), (1, 3)] } := by kernel_rfl
theorem et46 : eqTyOk Tryd.prog 46 = true := by kernel_rfl
theorem ti50 : tinfo Tryd.prog 50 = some { agg := false, sz := 1, bytes := 24, zero := [.sl 0 [] (some 0)], shape := .slice 3 } := by kernel_rfl
theorem ti55 : tinfo Tryd.prog 55 = some { agg := false, sz := 1, bytes := 24, zero := [.sl 0 [] (some 0)], shape := .slice 33 } := by kernel_rfl
theorem ti78 : tinfo Tryd.prog 78 = some { agg := false, sz := 1, bytes := 8, zero := [.lit .nilFunc], shape := .func } := by kernel_rfl
theorem ti81 : tinfo Tryd.prog 81 = some { agg := true, sz := 4, bytes := 24, zero := [.str [], .bool false, .bool false, .bool false], shape := .struct [(0, 9), (1, 4), (2, 4), (3, 4)] } := by kernel_rfl
theorem et81 : eqTyOk Tryd.prog 81 = true := by kernel_rfl
theorem ti82 : tinfo Tryd.prog 82 = some { agg := true, sz := 20, bytes := 120, zero := [.str [], .bool false, .bool false, .bool false, .str [], .bool false, .bool false, .bool false, .str [], .bool false, .bool false, .bool false, .str [], .bool false, .bool false, .bool false, .str [], .bool false, .bool false, .bool false], shape := .array 5 81 } := by kernel_rfl
theorem et82 : eqTyOk Tryd.prog 82 = true := by kernel_rfl
theorem ti89 : tinfo Tryd.prog 89 = some { agg := false, sz := 1, bytes := 24, zero := [.sl 0 [] (some 0)], shape := .slice 4 } := by kernel_rfl
theorem ti93 : tinfo Tryd.prog 93 = some { agg := false, sz := 1, bytes := 24, zero := [.sl 0 [] (some 0)], shape := .slice 9 } := by kernel_rfl
theorem ti103 : tinfo Tryd.prog 103 = some { agg := false, sz := 1, bytes := 24, zero := [.sl 0 [] (some 0)], shape := .slice 81 } := by kernel_rfl
theorem ti104 : tinfo Tryd.prog 104 = some { agg := false, sz := 1, bytes := 8, zero := [.lit .nilFunc], shape := .func } := by kernel_rfl
theorem ti105 : tinfo Tryd.prog 105 = some { agg := false, sz := 1, bytes := 8, zero := [.lit (.pointer none)], shape := .ptr 3 } := by kernel_rfl
theorem ti106 : tinfo Tryd.prog 106 = some { agg := false, sz := 1, bytes := 24, zero := [.sl 0 [] (some 0)], shape := .slice 105 } := by kernel_rfl
theorem ti108 : tinfo Tryd.prog 108 = some { agg := false, sz := 1, bytes := 16, zero := [.lit .nilIface], shape := .iface } := by kernel_rfl
theorem ti116 : tinfo Tryd.prog 116 = some { agg := false, sz := 1, bytes := 8, zero := [.lit .nilFunc], shape := .func } := by kernel_rfl
theorem ti122 : tinfo Tryd.prog 122 = some { agg := false, sz := 1, bytes := 8, zero := [.lit (.pointer none)], shape := .ptr 125 } := by kernel_rfl
theorem ti123 : tinfo Tryd.prog 123 = some { agg := false, sz := 1, bytes := 24, zero := [.sl 0 [] (some 0)], shape := .slice 5 } := by kernel_rfl
theorem ti125 : tinfo Tryd.prog 125 = some { agg := true, sz := 2, bytes := 32, zero := [.lit (.pointer none), .sl 0 [] (some 0)], shape := .struct [(0, 122), (1, 123)] } := by kernel_rfl
theorem ti136 : tinfo Tryd.prog 136 = some { agg := false, sz := 1, bytes := 8, zero := [.lit (.pointer none)], shape := .ptr 5 } := by kernel_rfl
theorem ti139 : tinfo Tryd.prog 139 = some { agg := false, sz := 1, bytes := 8, zero := [.int .i64 (0)], shape := .int .i64 } := by kernel_rfl
theorem ti142 : tinfo Tryd.prog 142 = some { agg := false, sz := 1, bytes := 8, zero := [.lit (.pointer none)], shape := .ptr 163 } := by kernel_rfl
theorem ti145 : tinfo Tryd.prog 145 = some { agg := true, sz := 24, bytes := 24, zero := [.int .u8 (0), .int .u8 (0), .int .u8 (0), .int .u8 (0), .int .u8 (0), .int .u8 (0), .int .u8 (0), .int .u8 (0), .int .u8 (0), .int .u8 (0), .int .u8 (0), .int .u8 (0), .int .u8 (0), .int .u8 (0), .int .u8 (0), .int .u8 (0), .int .u8 (0), .int .u8 (0), .int .u8 (0), .int .u8 (0), .int .u8 (0), .int .u8 (0), .int .u8 (0), .int .u8 (0)], shape := .array 24 5 } := by kernel_rfl
theorem et145 : eqTyOk Tryd.prog 145 = true := by kernel_rfl
theorem ti146 : tinfo Tryd.prog 146 = some { agg := false, sz := 1, bytes := 8, zero := [.int .u64 (0)], shape := .int .u64 } := by kernel_rfl
theorem ti160 : tinfo Tryd.prog 160 = some { agg := false, sz := 1, bytes := 8, zero := [.int .u64 (0)], shape := .int .u64 } := by kernel_rfl
theorem ti163 : tinfo Tryd.prog 163 = some { agg := true, sz := 3, bytes := 48, zero := [.str [], .str [], .lit .nilIface], shape := .struct [(0, 9), (1, 9), (2, 108)] } := by kernel_rfl
theorem ti167 : tinfo Tryd.prog 167 = some { agg := true, sz := 20, bytes := 160, zero := [.int .u64 (0), .int .u64 (0), .int .u64 (0), .int .u64 (0), .int .u64 (0), .int .u64 (0), .int .u64 (0), .int .u64 (0), .int .u64 (0), .int .u64 (0), .int .u64 (0), .int .u64 (0), .int .u64 (0), .int .u64 (0), .int .u64 (0), .int .u64 (0), .int .u64 (0), .int .u64 (0), .int .u64 (0), .int .u64 (0)], shape := .array 20 146 } := by kernel_rfl
theorem et167 : eqTyOk Tryd.prog 167 = true := by kernel_rfl
theorem ti168 : tinfo Tryd.prog 168 = some { agg := false, sz := 1, bytes := 4, zero := [.int .u32 (0)], shape := .int .u32 } := by kernel_rfl
theorem ti169 : tinfo Tryd.prog 169 = some { agg := true, sz := 65, bytes := 65, zero := [.int .u8 (0), .int .u8 (0), .int .u8 (0), .int .u8 (0), .int .u8 (0), .int .u8 (0), .int .u8 (0), .int .u8 (0), .int .u8 (0), .int .u8 (0), .int .u8 (0), .int .u8 (0), .int .u8 (0), .int .u8 (0), .int .u8 (0), .int .u8 (0), .int .u8 (0), .int .u8 (0), .int .u8 (0), .int .u8 (0), .int .u8 (0), .int .u8 (0), .int .u8 (0), .int .u8 (0), .int .u8 (0), .int .u8 (0), .int .u8 (0), .int .u8 (0), .int .u8 (0), .int .u8 (0), .int .u8 (0), .int .u8 (0), .int .u8 (0), .int .u8 (0), .int .u8 (0), .int .u8 (0), .int .u8 (0), .int .u8 (0), .int .u8 (0), .int .u8 (0), .int .u8 (0), .int .u8 (0), .int .u8 (0), .int .u8 (0), .int .u8 (0), .int .u8 (0), .int .u8 (0), .int .u8 (0), .int .u8 (0), .int .u8 (0), .int .u8 (0), .int .u8 (0), .int .u8 (0), .int .u8 (0), .int .u8 (0), .int .u8 (0), .int .u8 (0), .int .u8 (0), .int .u8 (0), .int .u8 (0), .int .u8 (0), .int .u8 (0), .int .u8 (0), .int .u8 (0), .int .u8 (0)], shape := .array 65 5 } := by kernel_rfl
theorem et169 : eqTyOk Tryd.prog 169 = true := by kernel_rfl
theorem ti173 : tinfo Tryd.prog 173 = some { agg := false, sz := 1, bytes := 8, zero := [.lit (.pointer none)], shape := .ptr 175 } := by kernel_rfl
theorem ti175 : tinfo Tryd.prog 175 = some { agg := true, sz := 1, bytes := 16, zero := [.str []], shape := .struct [(0, 9)] } := by kernel_rfl
theorem et175 : eqTyOk Tryd.prog 175 = true := by kernel_rfl
theorem ti177 : tinfo Tryd.prog 177 = some { agg := true, sz := 256, bytes := 256, zero := [.int .u8 (0), .int .u8 (0), .int .u8 (0), .int .u8 (0), .int .u8 (0), .int .u8 (0), .int .u8 (0), .int .u8 (0), .int .u8 (0), .int .u8 (0), .int .u8 (0), .int .u8 (0), .int .u8 (0), .int .u8 (0), .int .u8 (0), .int .u8 (0), .int .u8 (0), .int .u8 (0), .int .u8 (0), .int .u8 (0), .int .u8 (0), .int .u8 (0), .int .u8 (0), .int .u8 (0), .int .u8 (0), .int .u8 (0), .int .u8 (0), .int .u8 (0), .int .u8 (0), .int .u8 (0), .int .u8 (0), .int .u8 (0), .int .u8 (0), .int .u8 (0), .int .u8 (0), .int .u8 (0), .int .u8 (0), .int .u8 (0), .int .u8 (0), .int .u8 (0), .int .u8 (0), .int .u8 (0), .int .u8 (0), .int .u8 (0), .int .u8 (0), .int .u8 (0), .int .u8 (0), .int .u8 (0), .int .u8 (0), .int .u8 (0), .int .u8 (0), .int .u8 (0), .int .u8 (0), .int .u8 (0), .int .u8 (0), .int .u8 (0), .int .u8 (0), .int .u8 (0), .int .u8 (0), .int .u8 (0), .int .u8 (0), .int .u8 (0), .int .u8 (0), .int .u8 (0), .int .u8 (0), .int .u8 (0), .int .u8 (0), .int .u8 (0), .int .u8 (0), .int .u8 (0), .int .u8 (0), .int .u8 (0), .int .u8 (0), .int .u8 (0), .int .u8 (0), .int .u8 (0), .int .u8 (0), .int .u8 (0), .int .u8 (0), .int .u8 (0), .int .u8 (0), .int .u8 (0), .int .u8 (0), .int .u8 (0), .int .u8 (0), .int .u8 (0), .int .u8 (0), .int .u8 (0), .int .u8 (0), .int .u8 (0), .int .u8 (0), .int .u8 (0), .int .u8 (0), .int .u8 (0), .int .u8 (0), .int .u8 (0), .int .u8 (0), .int .u8 (0), .int .u8 (0), .int .u8 (0), .int .u8 (0), .int .u8 (0), .int .u8 (0), .int .u8 (0), .int .u8 (0), .int .u8 (0), .int .u8 (0), .int .u8 (0), .int .u8 (0), .int .u8 (0), .int .u8 (0), .int .u8 (0), .int .u8 (0), .int .u8 (0), .int .u8 (0), .int .u8 (0), .int .u8 (0), .int .u8 (0), .int .u8 (0), .int .u8 (0), .int .u8 (0), .int .u8 (0), .int .u8 (0), .int .u8 (0), .int .u8 (0), .int .u8 (0), .int .u8 (0), .int .u8 (0), .int .u8 (0), .int .u8 (0), .int .u8 (0), .int .u8 (0), .int .u8 (0), .int .u8 (0), .int .u8 (0), .int .u8 (0), .int .u8 (0), .int .u8 (0), .int .u8 (0), .int .u8 (0), .int .u8 (0), .int .u8 (0), .int .u8 (0), .int .u8 (0), .int .u8 (0), .int .u8 (0), .int .u8 (0), .int .u8 (0), .int .u8 (0), .int .u8 (0), .int .u8 (0), .int .u8 (0), .int .u8 (0), .int .u8 (0), .int .u8 (0), .int .u8 (0), .int .u8 (0), .int .u8 (0), .int .u8 (0), .int .u8 (0), .int .u8 (0), .int .u8 (0), .int .u8 (0), .int .u8 (0), .int .u8 (0), .int .u8 (0), .int .u8 (0), .int .u8 (0), .int .u8 (0), .int .u8 (0), .int .u8 (0), .int .u8 (0), .int .u8 (0), .int .u8 (0), .int .u8 (0), .int .u8 (0), .int .u8 (0), .int .u8 (0), .int .u8 (0), .int .u8 (0), .int .u8 (0), .int .u8 (0), .int .u8 (0), .int .u8 (0), .int .u8 (0), .int .u8 (0), .int .u8 (0), .int .u8 (0), .int .u8 (0), .int .u8 (0), .int .u8 (0), .int .u8 (0), .int .u8 (0), .int .u8 (0), .int .u8 (0), .int .u8 (0), .int .u8 (0), .int .u8 (0), .int .u8 (0), .int .u8 (0), .int .u8 (0), .int .u8 (0), .int .u8 (0), .int .u8 (0), .int .u8 (0), .int .u8 (0), .int .u8 (0), .int .u8 (0), .int .u8 (0), .int .u8 (0), .int .u8 (0), .int .u8 (0), .int .u8 (0), .int .u8 (0), .int .u8 (0), .int .u8 (0), .int .u8 (0), .int .u8 (0), .int .u8 (0), .int .u8 (0), .int .u8 (0), .int .u8 (0), .int .u8 (0), .int .u8 (0), .int .u8 (0), .int .u8 (0), .int .u8 (0), .int .u8 (0), .int .u8 (0), .int .u8 (0), .int .u8 (0), .int .u8 (0), .int .u8 (0), .int .u8 (0), .int .u8 (0), .int .u8 (0), .int .u8 (0), .int .u8 (0), .int .u8 (0), .int .u8 (0), .int .u8 (0), .int .u8 (0), .int .u8 (0), .int .u8 (0), .int .u8 (0), .int .u8 (0), .int .u8 (0), .int .u8 (0), .int .u8 (0), .int .u8 (0), .int .u8 (0), .int .u8 (0), .int .u8 (0), .int .u8 (0), .int .u8 (0), .int .u8 (0)], shape := .array 256 5 } := by kernel_rfl
theorem et177 : eqTyOk Tryd.prog 177 = true := by kernel_rfl
theorem ti179 : tinfo Tryd.prog 179 = some { agg := true, sz := 2, bytes := 2, zero := [.int .u8 (0), .int .u8 (0)], shape := .struct [(0, 5), (1, 5)] } := by kernel_rfl
theorem et179 : eqTyOk Tryd.prog 179 = true := by kernel_rfl
theorem ti180 : tinfo Tryd.prog 180 = some { agg := true, sz := 32, bytes := 32, zero := [.int .u8 (0), .int .u8 (0), .int .u8 (0), .int .u8 (0), .int .u8 (0), .int .u8 (0), .int .u8 (0), .int .u8 (0), .int .u8 (0), .int .u8 (0), .int .u8 (0), .int .u8 (0), .int .u8 (0), .int .u8 (0), .int .u8 (0), .int .u8 (0), .int .u8 (0), .int .u8 (0), .int .u8 (0), .int .u8 (0), .int .u8 (0), .int .u8 (0), .int .u8 (0), .int .u8 (0), .int .u8 (0), .int .u8 (0), .int .u8 (0), .int .u8 (0), .int .u8 (0), .int .u8 (0), .int .u8 (0), .int .u8 (0)], shape := .array 16 179 } := by kernel_rfl
theorem et180 : eqTyOk Tryd.prog 180 = true := by kernel_rfl
theorem ti183 : tinfo Tryd.prog 183 = some { agg := true, sz := 32, bytes := 32, zero := [.int .u8 (0), .int .u8 (0), .int .u8 (0), .int .u8 (0), .int .u8 (0), .int .u8 (0), .int .u8 (0), .int .u8 (0), .int .u8 (0), .int .u8 (0), .int .u8 (0), .int .u8 (0), .int .u8 (0), .int .u8 (0), .int .u8 (0), .int .u8 (0), .int .u8 (0), .int .u8 (0), .int .u8 (0), .int .u8 (0), .int .u8 (0), .int .u8 (0), .int .u8 (0), .int .u8 (0), .int .u8 (0), .int .u8 (0), .int .u8 (0), .int .u8 (0), .int .u8 (0), .int .u8 (0), .int .u8 (0), .int .u8 (0)], shape := .array 32 5 } := by kernel_rfl
theorem et183 : eqTyOk Tryd.prog 183 = true := by kernel_rfl
theorem ti184 : tinfo Tryd.prog 184 = some { agg := true, sz := 64, bytes := 64, zero := [.int .u8 (0), .int .u8 (0), .int .u8 (0), .int .u8 (0), .int .u8 (0), .int .u8 (0), .int .u8 (0), .int .u8 (0), .int .u8 (0), .int .u8 (0), .int .u8 (0), .int .u8 (0), .int .u8 (0), .int .u8 (0), .int .u8 (0), .int .u8 (0), .int .u8 (0), .int .u8 (0), .int .u8 (0), .int .u8 (0), .int .u8 (0), .int .u8 (0), .int .u8 (0), .int .u8 (0), .int .u8 (0), .int .u8 (0), .int .u8 (0), .int .u8 (0), .int .u8 (0), .int .u8 (0), .int .u8 (0), .int .u8 (0), .int .u8 (0), .int .u8 (0), .int .u8 (0), .int .u8 (0), .int .u8 (0), .int .u8 (0), .int .u8 (0), .int .u8 (0), .int .u8 (0), .int .u8 (0), .int .u8 (0), .int .u8 (0), .int .u8 (0), .int .u8 (0), .int .u8 (0), .int .u8 (0), .int .u8 (0), .int .u8 (0), .int .u8 (0), .int .u8 (0), .int .u8 (0), .int .u8 (0), .int .u8 (0), .int .u8 (0), .int .u8 (0), .int .u8 (0), .int .u8 (0), .int .u8 (0), .int .u8 (0), .int .u8 (0), .int .u8 (0), .int .u8 (0)], shape := .array 64 5 } := by kernel_rfl
theorem et184 : eqTyOk Tryd.prog 184 = true := by kernel_rfl
theorem en9 : enters Tryd.prog 9 = true := by kernel_rfl
theorem en10 : enters Tryd.prog 10 = true := by kernel_rfl
theorem en11 : enters Tryd.prog 11 = true := by kernel_rfl
theorem en12 : enters Tryd.prog 12 = true := by kernel_rfl
theorem en13 : enters Tryd.prog 13 = true := by kernel_rfl
theorem en14 : enters Tryd.prog 14 = true := by kernel_rfl
theorem en15 : enters Tryd.prog 15 = true := by kernel_rfl
theorem en16 : enters Tryd.prog 16 = true := by kernel_rfl
theorem en17 : enters Tryd.prog 17 = true := by kernel_rfl
theorem en20 : enters Tryd.prog 20 = true := by kernel_rfl
theorem en22 : enters Tryd.prog 22 = true := by kernel_rfl
theorem en23 : enters Tryd.prog 23 = true := by kernel_rfl
theorem en25 : enters Tryd.prog 25 = true := by kernel_rfl
theorem en30 : enters Tryd.prog 30 = true := by kernel_rfl
theorem en32 : enters Tryd.prog 32 = true := by kernel_rfl
theorem en33 : enters Tryd.prog 33 = true := by kernel_rfl
theorem en34 : enters Tryd.prog 34 = true := by kernel_rfl
theorem en35 : enters Tryd.prog 35 = true := by kernel_rfl
theorem en36 : enters Tryd.prog 36 = true := by kernel_rfl
theorem en37 : enters Tryd.prog 37 = true := by kernel_rfl
theorem en38 : enters Tryd.prog 38 = true := by kernel_rfl
theorem en39 : enters Tryd.prog 39 = true := by kernel_rfl
theorem en40 : enters Tryd.prog 40 = true := by kernel_rfl
theorem en41 : enters Tryd.prog 41 = true := by kernel_rfl
theorem en44 : enters Tryd.prog 44 = true := by kernel_rfl
theorem en45 : enters Tryd.prog 45 = true := by kernel_rfl
theorem en46 : enters Tryd.prog 46 = true := by kernel_rfl
theorem en47 : enters Tryd.prog 47 = true := by kernel_rfl
theorem en53 : enters Tryd.prog 53 = true := by kernel_rfl
theorem en54 : enters Tryd.prog 54 = true := by kernel_rfl
theorem en55 : enters Tryd.prog 55 = true := by kernel_rfl
theorem en56 : enters Tryd.prog 56 = true := by kernel_rfl
theorem en58 : enters Tryd.prog 58 = true := by kernel_rfl
theorem en59 : enters Tryd.prog 59 = true := by kernel_rfl
theorem en60 : enters Tryd.prog 60 = true := by kernel_rfl
theorem en61 : enters Tryd.prog 61 = true := by kernel_rfl
theorem en62 : enters Tryd.prog 62 = true := by kernel_rfl
theorem en63 : enters Tryd.prog 63 = true := by kernel_rfl
theorem en65 : enters Tryd.prog 65 = true := by kernel_rfl
theorem en66 : enters Tryd.prog 66 = true := by kernel_rfl
theorem en67 : enters Tryd.prog 67 = true := by kernel_rfl
theorem en68 : enters Tryd.prog 68 = true := by kernel_rfl
theorem en70 : enters Tryd.prog 70 = true := by kernel_rfl
theorem en71 : enters Tryd.prog 71 = true := by kernel_rfl
theorem en72 : enters Tryd.prog 72 = true := by kernel_rfl
theorem en73 : enters Tryd.prog 73 = true := by kernel_rfl
theorem en74 : enters Tryd.prog 74 = true := by kernel_rfl
theorem en75 : enters Tryd.prog 75 = true := by kernel_rfl
theorem en76 : enters Tryd.prog 76 = true := by kernel_rfl
theorem en77 : enters Tryd.prog 77 = true := by kernel_rfl
theorem en78 : enters Tryd.prog 78 = true := by kernel_rfl
theorem en79 : enters Tryd.prog 79 = true := by kernel_rfl
theorem en80 : enters Tryd.prog 80 = true := by kernel_rfl
theorem en81 : enters Tryd.prog 81 = true := by kernel_rfl
theorem en82 : enters Tryd.prog 82 = true := by kernel_rfl
theorem en83 : enters Tryd.prog 83 = true := by kernel_rfl
theorem en84 : enters Tryd.prog 84 = true := by kernel_rfl
theorem en85 : enters Tryd.prog 85 = true := by kernel_rfl
theorem en86 : enters Tryd.prog 86 = true := by kernel_rfl
theorem en87 : enters Tryd.prog 87 = true := by kernel_rfl
theorem en88 : enters Tryd.prog 88 = true := by kernel_rfl
theorem en89 : enters Tryd.prog 89 = true := by kernel_rfl
theorem en90 : enters Tryd.prog 90 = true := by kernel_rfl
theorem en91 : enters Tryd.prog 91 = true := by kernel_rfl
theorem en94 : enters Tryd.prog 94 = true := by kernel_rfl
theorem en95 : enters Tryd.prog 95 = true := by kernel_rfl
theorem en97 : enters Tryd.prog 97 = true := by kernel_rfl
theorem en98 : enters Tryd.prog 98 = true := by kernel_rfl
theorem en99 : enters Tryd.prog 99 = true := by kernel_rfl
theorem en100 : enters Tryd.prog 100 = true := by kernel_rfl
theorem en101 : enters Tryd.prog 101 = true := by kernel_rfl
theorem en102 : enters Tryd.prog 102 = true := by kernel_rfl
theorem en103 : enters Tryd.prog 103 = true := by kernel_rfl
theorem en104 : enters Tryd.prog 104 = true := by kernel_rfl
theorem en105 : enters Tryd.prog 105 = true := by kernel_rfl
theorem en106 : enters Tryd.prog 106 = true := by kernel_rfl
theorem en107 : enters Tryd.prog 107 = true := by kernel_rfl
theorem en109 : enters Tryd.prog 109 = true := by kernel_rfl
theorem en110 : enters Tryd.prog 110 = true := by kernel_rfl
theorem en111 : enters Tryd.prog 111 = true := by kernel_rfl
theorem en112 : enters Tryd.prog 112 = true := by kernel_rfl
theorem en113 : enters Tryd.prog 113 = true := by kernel_rfl
theorem en114 : enters Tryd.prog 114 = true := by kernel_rfl
theorem en116 : enters Tryd.prog 116 = true := by kernel_rfl
theorem mixed : Tryd.prog.follows .mixedOrders = true := by kernel_rfl
end Go.Proofs

/- What the program's tables say of its types (made by wip/tools/tfacts.py): each a closed fact that the kernel reckons. -/
import Derived.Test.YtcoakjnmnommpaaGreatDoorV31
import Derived.Test.YtcoakjnmnommpaaGreatDoorProg
import Derived.KernelRfl
namespace Go.Proofs
open Go Go.V
set_option maxRecDepth 100000
theorem ti1 : tinfo Tryz.prog 1 = some { agg := false, sz := 1, bytes := 8, zero := [.lit .nilFunc], shape := .func } := by kernel_rfl
theorem ti2 : tinfo Tryz.prog 2 = some { agg := false, sz := 1, bytes := 8, zero := [.int .i64 (0)], shape := .int .i64 } := by kernel_rfl
theorem ti3 : tinfo Tryz.prog 3 = some { agg := false, sz := 1, bytes := 8, zero := [.int .i64 (0)], shape := .int .i64 } := by kernel_rfl
theorem ti4 : tinfo Tryz.prog 4 = some { agg := false, sz := 1, bytes := 1, zero := [.bool false], shape := .bool } := by kernel_rfl
theorem ti5 : tinfo Tryz.prog 5 = some { agg := false, sz := 1, bytes := 1, zero := [.int .u8 (0)], shape := .int .u8 } := by kernel_rfl
theorem ti9 : tinfo Tryz.prog 9 = some { agg := false, sz := 1, bytes := 16, zero := [.str []], shape := .str } := by kernel_rfl
theorem ti21 : tinfo Tryz.prog 21 = some { agg := false, sz := 1, bytes := 4, zero := [.int .i32 (0)], shape := .int .i32 } := by kernel_rfl
theorem ti25 : tinfo Tryz.prog 25 = some { agg := false, sz := 1, bytes := 24, zero := [.sl 0 [] (some 0)], shape := .slice 5 } := by kernel_rfl
theorem ti26 : tinfo Tryz.prog 26 = some { agg := false, sz := 1, bytes := 24, zero := [.sl 0 [] (some 0)], shape := .slice 44 } := by kernel_rfl
theorem ti27 : tinfo Tryz.prog 27 = some { agg := false, sz := 1, bytes := 24, zero := [.sl 0 [] (some 0)], shape := .slice 3 } := by kernel_rfl
theorem ti29 : tinfo Tryz.prog 29 = some { agg := true, sz := 4, bytes := 80, zero := [.int .i64 (0), .sl 0 [] (some 0), .sl 0 [] (some 0), .sl 0 [] (some 0)], shape := .struct [(0, 3), (1, 26), (2, 27), (3, 27)] } := by kernel_rfl
theorem ti32 : tinfo Tryz.prog 32 = some { agg := false, sz := 1, bytes := 8, zero := [.int .i64 (0)], shape := .int .i64 } := by kernel_rfl
theorem ti40 : tinfo Tryz.prog 40 = some { agg := false, sz := 1, bytes := 8, zero := [.lit .nilFunc], shape := .func } := by kernel_rfl
theorem ti44 : tinfo Tryz.prog 44 = some { agg := false, sz := 1, bytes := 24, zero := [.sl 0 [] (some 0)], shape := .slice 27 } := by kernel_rfl
theorem ti45 : tinfo Tryz.prog 45 = some { agg := false, sz := 1, bytes := 24, zero := [.sl 0 [] (some 0)], shape := .slice 4 } := by kernel_rfl
theorem ti47 : tinfo Tryz.prog 47 = some { agg := true, sz := 3, bytes := 56, zero := [.int .i64 (0), .sl 0 [] (some 0), .sl 0 [] (some 0)], shape := .struct [(0, 3), (1, 44), (2, 45)] } := by kernel_rfl
theorem ti66 : tinfo Tryz.prog 66 = some { agg := false, sz := 1, bytes := 8, zero := [.int .u64 (0)], shape := .int .u64 } := by kernel_rfl
theorem ti68 : tinfo Tryz.prog 68 = some { agg := true, sz := 4, bytes := 32, zero := [.int .u64 (0), .int .u64 (0), .int .u64 (0), .int .u64 (0)], shape := .array 4 66 } := by kernel_rfl
theorem et68 : eqTyOk Tryz.prog 68 = true := by kernel_rfl
theorem ti84 : tinfo Tryz.prog 84 = some { agg := false, sz := 1, bytes := 24, zero := [.sl 0 [] (some 0)], shape := .slice 68 } := by kernel_rfl
theorem ti85 : tinfo Tryz.prog 85 = some { agg := false, sz := 1, bytes := 8, zero := [.lit (.map none)], shape := .map 68 3 } := by kernel_rfl
theorem ti93 : tinfo Tryz.prog 93 = some { agg := false, sz := 1, bytes := 8, zero := [.lit (.pointer none)], shape := .ptr 95 } := by kernel_rfl
theorem ti95 : tinfo Tryz.prog 95 = some { agg := true, sz := 2, bytes := 32, zero := [.lit (.pointer none), .sl 0 [] (some 0)], shape := .struct [(0, 93), (1, 25)] } := by kernel_rfl
theorem ti97 : tinfo Tryz.prog 97 = some { agg := false, sz := 1, bytes := 16, zero := [.lit .nilIface], shape := .iface } := by kernel_rfl
theorem ti102 : tinfo Tryz.prog 102 = some { agg := false, sz := 1, bytes := 8, zero := [.lit (.map none)], shape := .map 4 9 } := by kernel_rfl
theorem ti104 : tinfo Tryz.prog 104 = some { agg := false, sz := 1, bytes := 8, zero := [.int .u64 (0)], shape := .int .u64 } := by kernel_rfl
theorem ti105 : tinfo Tryz.prog 105 = some { agg := false, sz := 1, bytes := 8, zero := [.lit .nilFunc], shape := .func } := by kernel_rfl
theorem ti111 : tinfo Tryz.prog 111 = some { agg := false, sz := 1, bytes := 24, zero := [.sl 0 [] (some 0)], shape := .slice 9 } := by kernel_rfl
theorem ti115 : tinfo Tryz.prog 115 = some { agg := false, sz := 1, bytes := 8, zero := [.lit (.map none)], shape := .map 9 3 } := by kernel_rfl
theorem ti116 : tinfo Tryz.prog 116 = some { agg := false, sz := 1, bytes := 8, zero := [.lit (.pointer none)], shape := .ptr 5 } := by kernel_rfl
theorem ti119 : tinfo Tryz.prog 119 = some { agg := true, sz := 64, bytes := 64, zero := [.int .u8 (0), .int .u8 (0), .int .u8 (0), .int .u8 (0), .int .u8 (0), .int .u8 (0), .int .u8 (0), .int .u8 (0), .int .u8 (0), .int .u8 (0), .int .u8 (0), .int .u8 (0), .int .u8 (0), .int .u8 (0), .int .u8 (0), .int .u8 (0), .int .u8 (0), .int .u8 (0), .int .u8 (0), .int .u8 (0), .int .u8 (0), .int .u8 (0), .int .u8 (0), .int .u8 (0), .int .u8 (0), .int .u8 (0), .int .u8 (0), .int .u8 (0), .int .u8 (0), .int .u8 (0), .int .u8 (0), .int .u8 (0), .int .u8 (0), .int .u8 (0), .int .u8 (0), .int .u8 (0), .int .u8 (0), .int .u8 (0), .int .u8 (0), .int .u8 (0), .int .u8 (0), .int .u8 (0), .int .u8 (0), .int .u8 (0), .int .u8 (0), .int .u8 (0), .int .u8 (0), .int .u8 (0), .int .u8 (0), .int .u8 (0), .int .u8 (0), .int .u8 (0), .int .u8 (0), .int .u8 (0), .int .u8 (0), .int .u8 (0), .int .u8 (0), .int .u8 (0), .int .u8 (0), .int .u8 (0), .int .u8 (0), .int .u8 (0), .int .u8 (0), .int .u8 (0)], shape := .array 64 5 } := by kernel_rfl
theorem et119 : eqTyOk Tryz.prog 119 = true := by kernel_rfl
theorem ti130 : tinfo Tryz.prog 130 = some { agg := true, sz := 24, bytes := 24, zero := [.int .u8 (0), .int .u8 (0), .int .u8 (0), .int .u8 (0), .int .u8 (0), .int .u8 (0), .int .u8 (0), .int .u8 (0), .int .u8 (0), .int .u8 (0), .int .u8 (0), .int .u8 (0), .int .u8 (0), .int .u8 (0), .int .u8 (0), .int .u8 (0), .int .u8 (0), .int .u8 (0), .int .u8 (0), .int .u8 (0), .int .u8 (0), .int .u8 (0), .int .u8 (0), .int .u8 (0)], shape := .array 24 5 } := by kernel_rfl
theorem et130 : eqTyOk Tryz.prog 130 = true := by kernel_rfl
theorem ti137 : tinfo Tryz.prog 137 = some { agg := false, sz := 1, bytes := 8, zero := [.int .i64 (0)], shape := .int .i64 } := by kernel_rfl
theorem ti140 : tinfo Tryz.prog 140 = some { agg := false, sz := 1, bytes := 8, zero := [.lit (.pointer none)], shape := .ptr 153 } := by kernel_rfl
theorem ti145 : tinfo Tryz.prog 145 = some { agg := true, sz := 20, bytes := 160, zero := [.int .u64 (0), .int .u64 (0), .int .u64 (0), .int .u64 (0), .int .u64 (0), .int .u64 (0), .int .u64 (0), .int .u64 (0), .int .u64 (0), .int .u64 (0), .int .u64 (0), .int .u64 (0), .int .u64 (0), .int .u64 (0), .int .u64 (0), .int .u64 (0), .int .u64 (0), .int .u64 (0), .int .u64 (0), .int .u64 (0)], shape := .array 20 66 } := by kernel_rfl
theorem et145 : eqTyOk Tryz.prog 145 = true := by kernel_rfl
theorem ti146 : tinfo Tryz.prog 146 = some { agg := false, sz := 1, bytes := 4, zero := [.int .u32 (0)], shape := .int .u32 } := by kernel_rfl
theorem ti147 : tinfo Tryz.prog 147 = some { agg := true, sz := 65, bytes := 65, zero := [.int .u8 (0), .int .u8 (0), .int .u8 (0), .int .u8 (0), .int .u8 (0), .int .u8 (0), .int .u8 (0), .int .u8 (0), .int .u8 (0), .int .u8 (0), .int .u8 (0), .int .u8 (0), .int .u8 (0), .int .u8 (0), .int .u8 (0), .int .u8 (0), .int .u8 (0), .int .u8 (0), .int .u8 (0), .int .u8 (0), .int .u8 (0), .int .u8 (0), .int .u8 (0), .int .u8 (0), .int .u8 (0), .int .u8 (0), .int .u8 (0), .int .u8 (0), .int .u8 (0), .int .u8 (0), .int .u8 (0), .int .u8 (0), .int .u8 (0), .int .u8 (0), .int .u8 (0), .int .u8 (0), .int .u8 (0), .int .u8 (0), .int .u8 (0), .int .u8 (0), .int .u8 (0), .int .u8 (0), .int .u8 (0), .int .u8 (0), .int .u8 (0), .int .u8 (0), .int .u8 (0), .int .u8 (0), .int .u8 (0), .int .u8 (0), .int .u8 (0), .int .u8 (0), .int .u8 (0), .int .u8 (0), .int .u8 (0), .int .u8 (0), .int .u8 (0), .int .u8 (0), .int .u8 (0), .int .u8 (0), .int .u8 (0), .int .u8 (0), .int .u8 (0), .int .u8 (0), .int .u8 (0)], shape := .array 65 5 } := by kernel_rfl
theorem et147 : eqTyOk Tryz.prog 147 = true := by kernel_rfl
theorem ti153 : tinfo Tryz.prog 153 = some { agg := true, sz := 3, bytes := 48, zero := [.str [], .str [], .lit .nilIface], shape := .struct [(0, 9), (1, 9), (2, 97)] } := by kernel_rfl
theorem ti156 : tinfo Tryz.prog 156 = some { agg := true, sz := 256, bytes := 256, zero := [.int .u8 (0), .int .u8 (0), .int .u8 (0), .int .u8 (0), .int .u8 (0), .int .u8 (0), .int .u8 (0), .int .u8 (0), .int .u8 (0), .int .u8 (0), .int .u8 (0), .int .u8 (0), .int .u8 (0), .int .u8 (0), .int .u8 (0), .int .u8 (0), .int .u8 (0), .int .u8 (0), .int .u8 (0), .int .u8 (0), .int .u8 (0), .int .u8 (0), .int .u8 (0), .int .u8 (0), .int .u8 (0), .int .u8 (0), .int .u8 (0), .int .u8 (0), .int .u8 (0), .int .u8 (0), .int .u8 (0), .int .u8 (0), .int .u8 (0), .int .u8 (0), .int .u8 (0), .int .u8 (0), .int .u8 (0), .int .u8 (0), .int .u8 (0), .int .u8 (0), .int .u8 (0), .int .u8 (0), .int .u8 (0), .int .u8 (0), .int .u8 (0), .int .u8 (0), .int .u8 (0), .int .u8 (0), .int .u8 (0), .int .u8 (0), .int .u8 (0), .int .u8 (0), .int .u8 (0), .int .u8 (0), .int .u8 (0), .int .u8 (0), .int .u8 (0), .int .u8 (0), .int .u8 (0), .int .u8 (0), .int .u8 (0), .int .u8 (0), .int .u8 (0), .int .u8 (0), .int .u8 (0), .int .u8 (0), .int .u8 (0), .int .u8 (0), .int .u8 (0), .int .u8 (0), .int .u8 (0), .int .u8 (0), .int .u8 (0), .int .u8 (0), .int .u8 (0), .int .u8 (0), .int .u8 (0), .int .u8 (0), .int .u8 (0), .int .u8 (0), .int .u8 (0), .int .u8 (0), .int .u8 (0), .int .u8 (0), .int .u8 (0), .int .u8 (0), .int .u8 (0), .int .u8 (0), .int .u8 (0), .int .u8 (0), .int .u8 (0), .int .u8 (0), .int .u8 (0), .int .u8 (0), .int .u8 (0), .int .u8 (0), .int .u8 (0), .int .u8 (0), .int .u8 (0), .int .u8 (0), .int .u8 (0), .int .u8 (0), .int .u8 (0), .int .u8 (0), .int .u8 (0), .int .u8 (0), .int .u8 (0), .int .u8 (0), .int .u8 (0), .int .u8 (0), .int .u8 (0), .int .u8 (0), .int .u8 (0), .int .u8 (0), .int .u8 (0), .int .u8 (0), .int .u8 (0), .int .u8 (0), .int .u8 (0), .int .u8 (0), .int .u8 (0), .int .u8 (0), .int .u8 (0), .int .u8 (0), .int .u8 (0), .int .u8 (0), .int .u8 (0), .int .u8 (0), .int .u8 (0), .int .u8 (0), .int .u8 (0), .int .u8 (0), .int .u8 (0), .int .u8 (0), .int .u8 (0), .int .u8 (0), .int .u8 (0), .int .u8 (0), .int .u8 (0), .int .u8 (0), .int .u8 (0), .int .u8 (0), .int .u8 (0), .int .u8 (0), .int .u8 (0), .int .u8 (0), .int .u8 (0), .int .u8 (0), .int .u8 (0), .int .u8 (0), .int .u8 (0), .int .u8 (0), .int .u8 (0), .int .u8 (0), .int .u8 (0), .int .u8 (0), .int .u8 (0), .int .u8 (0), .int .u8 (0), .int .u8 (0), .int .u8 (0), .int .u8 (0), .int .u8 (0), .int .u8 (0), .int .u8 (0), .int .u8 (0), .int .u8 (0), .int .u8 (0), .int .u8 (0), .int .u8 (0), .int .u8 (0), .int .u8 (0), .int .u8 (0), .int .u8 (0), .int .u8 (0), .int .u8 (0), .int .u8 (0), .int .u8 (0), .int .u8 (0), .int .u8 (0), .int .u8 (0), .int .u8 (0), .int .u8 (0), .int .u8 (0), .int .u8 (0), .int .u8 (0), .int .u8 (0), .int .u8 (0), .int .u8 (0), .int .u8 (0), .int .u8 (0), .int .u8 (0), .int .u8 (0), .int .u8 (0), .int .u8 (0), .int .u8 (0), .int .u8 (0), .int .u8 (0), .int .u8 (0), .int .u8 (0), .int .u8 (0), .int .u8 (0), .int .u8 (0), .int .u8 (0), .int .u8 (0), .int .u8 (0), .int .u8 (0), .int .u8 (0), .int .u8 (0), .int .u8 (0), .int .u8 (0), .int .u8 (0), .int .u8 (0), .int .u8 (0), .int .u8 (0), .int .u8 (0), .int .u8 (0), .int .u8 (0), .int .u8 (0), .int .u8 (0), .int .u8 (0), .int .u8 (0), .int .u8 (0), .int .u8 (0), .int .u8 (0), .int .u8 (0), .int .u8 (0), .int .u8 (0), .int .u8 (0), .int .u8 (0), .int .u8 (0), .int .u8 (0), .int .u8 (0), .int .u8 (0), .int .u8 (0), .int .u8 (0), .int .u8 (0), .int .u8 (0), .int .u8 (0), .int .u8 (0), .int .u8 (0), .int .u8 (0), .int .u8 (0), .int .u8 (0), .int .u8 (0), .int .u8 (0), .int .u8 (0), .int .u8 (0), .int .u8 (0), .int .u8 (0), .int .u8 (0), .int .u8 (0), .int .u8 (0), .int .u8 (0), .int .u8 (0), .int .u8 (0)], shape := .array 256 5 } := by kernel_rfl
theorem et156 : eqTyOk Tryz.prog 156 = true := by kernel_rfl
theorem ti158 : tinfo Tryz.prog 158 = some { agg := true, sz := 2, bytes := 2, zero := [.int .u8 (0), .int .u8 (0)], shape := .struct [(0, 5), (1, 5)] } := by kernel_rfl
theorem et158 : eqTyOk Tryz.prog 158 = true := by kernel_rfl
theorem ti159 : tinfo Tryz.prog 159 = some { agg := true, sz := 32, bytes := 32, zero := [.int .u8 (0), .int .u8 (0), .int .u8 (0), .int .u8 (0), .int .u8 (0), .int .u8 (0), .int .u8 (0), .int .u8 (0), .int .u8 (0), .int .u8 (0), .int .u8 (0), .int .u8 (0), .int .u8 (0), .int .u8 (0), .int .u8 (0), .int .u8 (0), .int .u8 (0), .int .u8 (0), .int .u8 (0), .int .u8 (0), .int .u8 (0), .int .u8 (0), .int .u8 (0), .int .u8 (0), .int .u8 (0), .int .u8 (0), .int .u8 (0), .int .u8 (0), .int .u8 (0), .int .u8 (0), .int .u8 (0), .int .u8 (0)], shape := .array 16 158 } := by kernel_rfl
theorem et159 : eqTyOk Tryz.prog 159 = true := by kernel_rfl
theorem ti163 : tinfo Tryz.prog 163 = some { agg := false, sz := 1, bytes := 8, zero := [.lit (.pointer none)], shape := .ptr 165 } := by kernel_rfl
theorem ti165 : tinfo Tryz.prog 165 = some { agg := true, sz := 1, bytes := 16, zero := [.str []], shape := .struct [(0, 9)] } := by kernel_rfl
theorem et165 : eqTyOk Tryz.prog 165 = true := by kernel_rfl
theorem ti166 : tinfo Tryz.prog 166 = some { agg := true, sz := 32, bytes := 32, zero := [.int .u8 (0), .int .u8 (0), .int .u8 (0), .int .u8 (0), .int .u8 (0), .int .u8 (0), .int .u8 (0), .int .u8 (0), .int .u8 (0), .int .u8 (0), .int .u8 (0), .int .u8 (0), .int .u8 (0), .int .u8 (0), .int .u8 (0), .int .u8 (0), .int .u8 (0), .int .u8 (0), .int .u8 (0), .int .u8 (0), .int .u8 (0), .int .u8 (0), .int .u8 (0), .int .u8 (0), .int .u8 (0), .int .u8 (0), .int .u8 (0), .int .u8 (0), .int .u8 (0), .int .u8 (0), .int .u8 (0), .int .u8 (0)], shape := .array 32 5 } := by kernel_rfl
theorem et166 : eqTyOk Tryz.prog 166 = true := by kernel_rfl
theorem en8 : enters Tryz.prog 8 = true := by kernel_rfl
theorem en9 : enters Tryz.prog 9 = true := by kernel_rfl
theorem en10 : enters Tryz.prog 10 = true := by kernel_rfl
theorem en14 : enters Tryz.prog 14 = true := by kernel_rfl
theorem en16 : enters Tryz.prog 16 = true := by kernel_rfl
theorem en17 : enters Tryz.prog 17 = true := by kernel_rfl
theorem en18 : enters Tryz.prog 18 = true := by kernel_rfl
theorem en19 : enters Tryz.prog 19 = true := by kernel_rfl
theorem en20 : enters Tryz.prog 20 = true := by kernel_rfl
theorem en21 : enters Tryz.prog 21 = true := by kernel_rfl
theorem en22 : enters Tryz.prog 22 = true := by kernel_rfl
theorem en23 : enters Tryz.prog 23 = true := by kernel_rfl
theorem en24 : enters Tryz.prog 24 = true := by kernel_rfl
theorem en25 : enters Tryz.prog 25 = true := by kernel_rfl
theorem en26 : enters Tryz.prog 26 = true := by kernel_rfl
theorem en27 : enters Tryz.prog 27 = true := by kernel_rfl
theorem en28 : enters Tryz.prog 28 = true := by kernel_rfl
theorem en30 : enters Tryz.prog 30 = true := by kernel_rfl
theorem en33 : enters Tryz.prog 33 = true := by kernel_rfl
theorem en34 : enters Tryz.prog 34 = true := by kernel_rfl
theorem en35 : enters Tryz.prog 35 = true := by kernel_rfl
theorem en36 : enters Tryz.prog 36 = true := by kernel_rfl
theorem en37 : enters Tryz.prog 37 = true := by kernel_rfl
theorem en38 : enters Tryz.prog 38 = true := by kernel_rfl
theorem en39 : enters Tryz.prog 39 = true := by kernel_rfl
theorem en40 : enters Tryz.prog 40 = true := by kernel_rfl
theorem en41 : enters Tryz.prog 41 = true := by kernel_rfl
theorem en42 : enters Tryz.prog 42 = true := by kernel_rfl
theorem en43 : enters Tryz.prog 43 = true := by kernel_rfl
theorem en46 : enters Tryz.prog 46 = true := by kernel_rfl
theorem en47 : enters Tryz.prog 47 = true := by kernel_rfl
theorem en48 : enters Tryz.prog 48 = true := by kernel_rfl
theorem en49 : enters Tryz.prog 49 = true := by kernel_rfl
theorem en50 : enters Tryz.prog 50 = true := by kernel_rfl
theorem en51 : enters Tryz.prog 51 = true := by kernel_rfl
theorem en52 : enters Tryz.prog 52 = true := by kernel_rfl
theorem en53 : enters Tryz.prog 53 = true := by kernel_rfl
theorem en54 : enters Tryz.prog 54 = true := by kernel_rfl
theorem en55 : enters Tryz.prog 55 = true := by kernel_rfl
theorem en56 : enters Tryz.prog 56 = true := by kernel_rfl
theorem en57 : enters Tryz.prog 57 = true := by kernel_rfl
theorem en58 : enters Tryz.prog 58 = true := by kernel_rfl
theorem en59 : enters Tryz.prog 59 = true := by kernel_rfl
theorem en60 : enters Tryz.prog 60 = true := by kernel_rfl
theorem en61 : enters Tryz.prog 61 = true := by kernel_rfl
theorem en62 : enters Tryz.prog 62 = true := by kernel_rfl
theorem en63 : enters Tryz.prog 63 = true := by kernel_rfl
theorem en65 : enters Tryz.prog 65 = true := by kernel_rfl
theorem en66 : enters Tryz.prog 66 = true := by kernel_rfl
theorem en67 : enters Tryz.prog 67 = true := by kernel_rfl
theorem en68 : enters Tryz.prog 68 = true := by kernel_rfl
theorem en69 : enters Tryz.prog 69 = true := by kernel_rfl
theorem en70 : enters Tryz.prog 70 = true := by kernel_rfl
theorem en71 : enters Tryz.prog 71 = true := by kernel_rfl
theorem en72 : enters Tryz.prog 72 = true := by kernel_rfl
theorem en73 : enters Tryz.prog 73 = true := by kernel_rfl
theorem en74 : enters Tryz.prog 74 = true := by kernel_rfl
theorem en77 : enters Tryz.prog 77 = true := by kernel_rfl
theorem en78 : enters Tryz.prog 78 = true := by kernel_rfl
theorem en79 : enters Tryz.prog 79 = true := by kernel_rfl
theorem en80 : enters Tryz.prog 80 = true := by kernel_rfl
theorem en82 : enters Tryz.prog 82 = true := by kernel_rfl
theorem en83 : enters Tryz.prog 83 = true := by kernel_rfl
theorem en84 : enters Tryz.prog 84 = true := by kernel_rfl
theorem en85 : enters Tryz.prog 85 = true := by kernel_rfl
theorem en86 : enters Tryz.prog 86 = true := by kernel_rfl
theorem en87 : enters Tryz.prog 87 = true := by kernel_rfl
theorem en88 : enters Tryz.prog 88 = true := by kernel_rfl
theorem en89 : enters Tryz.prog 89 = true := by kernel_rfl
theorem en90 : enters Tryz.prog 90 = true := by kernel_rfl
theorem en91 : enters Tryz.prog 91 = true := by kernel_rfl
theorem en92 : enters Tryz.prog 92 = true := by kernel_rfl
theorem en93 : enters Tryz.prog 93 = true := by kernel_rfl
theorem en94 : enters Tryz.prog 94 = true := by kernel_rfl
theorem en96 : enters Tryz.prog 96 = true := by kernel_rfl
theorem en97 : enters Tryz.prog 97 = true := by kernel_rfl
theorem en98 : enters Tryz.prog 98 = true := by kernel_rfl
theorem en99 : enters Tryz.prog 99 = true := by kernel_rfl
theorem en100 : enters Tryz.prog 100 = true := by kernel_rfl
theorem en101 : enters Tryz.prog 101 = true := by kernel_rfl
theorem en102 : enters Tryz.prog 102 = true := by kernel_rfl
theorem en103 : enters Tryz.prog 103 = true := by kernel_rfl
theorem en104 : enters Tryz.prog 104 = true := by kernel_rfl
theorem en105 : enters Tryz.prog 105 = true := by kernel_rfl
theorem en106 : enters Tryz.prog 106 = true := by kernel_rfl
theorem en107 : enters Tryz.prog 107 = true := by kernel_rfl
theorem en108 : enters Tryz.prog 108 = true := by kernel_rfl
theorem en110 : enters Tryz.prog 110 = true := by kernel_rfl
theorem en111 : enters Tryz.prog 111 = true := by kernel_rfl
theorem en112 : enters Tryz.prog 112 = true := by kernel_rfl
theorem en113 : enters Tryz.prog 113 = true := by kernel_rfl
theorem en114 : enters Tryz.prog 114 = true := by kernel_rfl
theorem en115 : enters Tryz.prog 115 = true := by kernel_rfl
theorem en117 : enters Tryz.prog 117 = true := by kernel_rfl
theorem en118 : enters Tryz.prog 118 = true := by kernel_rfl
theorem en119 : enters Tryz.prog 119 = true := by kernel_rfl
theorem mixed : Tryz.prog.follows .mixedOrders = true := by kernel_rfl
end Go.Proofs

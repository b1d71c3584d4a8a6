/- What the program's tables say of its types (made by wip/tools/tfacts.py): each a closed fact that the kernel reckons. -/
import Derived.Test.YtcoakjnmnommpaaGreatDoorV33
import Derived.Test.YtcoakjnmnommpaaGreatDoorProg
import Derived.KernelRfl
namespace Go.Proofs
open Go Go.V
set_option maxRecDepth 100000
theorem ti1 : kb0 Tryz.prog 1 = some { agg := false, sz := 1, bytes := 8, zero := [.lit .nilFunc], shape := .func } := by kernel_rfl
theorem ti2 : kb0 Tryz.prog 2 = some { agg := false, sz := 1, bytes := 8, zero := [.int .i64 (0)], shape := .int .i64 } := by kernel_rfl
theorem ti3 : kb0 Tryz.prog 3 = some { agg := false, sz := 1, bytes := 8, zero := [.int .i64 (0)], shape := .int .i64 } := by kernel_rfl
theorem ti4 : kb0 Tryz.prog 4 = some { agg := false, sz := 1, bytes := 1, zero := [.bool false], shape := .bool } := by kernel_rfl
theorem ti5 : kb0 Tryz.prog 5 = some { agg := false, sz := 1, bytes := 1, zero := [.int .u8 (0)], shape := .int .u8 } := by kernel_rfl
theorem ti9 : kb0 Tryz.prog 9 = some { agg := false, sz := 1, bytes := 16, zero := [.str []], shape := .str } := by kernel_rfl
theorem ti21 : kb0 Tryz.prog 21 = some { agg := false, sz := 1, bytes := 4, zero := [.int .i32 (0)], shape := .int .i32 } := by kernel_rfl
theorem ti25 : kb0 Tryz.prog 25 = some { agg := false, sz := 1, bytes := 24, zero := [.sl 0 [] (some 0)], shape := .slice 5 } := by kernel_rfl
theorem ti26 : kb0 Tryz.prog 26 = some { agg := false, sz := 1, bytes := 24, zero := [.sl 0 [] (some 0)], shape := .slice 44 } := by kernel_rfl
theorem ti27 : kb0 Tryz.prog 27 = some { agg := false, sz := 1, bytes := 24, zero := [.sl 0 [] (some 0)], shape := .slice 3 } := by kernel_rfl
theorem ti29 : kb0 Tryz.prog 29 = some { agg := true, sz := 4, bytes := 80, zero := [.int .i64 (0), .sl 0 [] (some 0), .sl 0 [] (some 0), .sl 0 [] (some 0)], shape := .struct [(0, 3), (1, 26), (2, 27), (3, 27)] } := by kernel_rfl
theorem ti32 : kb0 Tryz.prog 32 = some { agg := false, sz := 1, bytes := 8, zero := [.int .i64 (0)], shape := .int .i64 } := by kernel_rfl
theorem ti40 : kb0 Tryz.prog 40 = some { agg := false, sz := 1, bytes := 8, zero := [.lit .nilFunc], shape := .func } := by kernel_rfl
theorem ti44 : kb0 Tryz.prog 44 = some { agg := false, sz := 1, bytes := 24, zero := [.sl 0 [] (some 0)], shape := .slice 27 } := by kernel_rfl
theorem ti45 : kb0 Tryz.prog 45 = some { agg := false, sz := 1, bytes := 24, zero := [.sl 0 [] (some 0)], shape := .slice 4 } := by kernel_rfl
theorem ti47 : kb0 Tryz.prog 47 = some { agg := true, sz := 3, bytes := 56, zero := [.int .i64 (0), .sl 0 [] (some 0), .sl 0 [] (some 0)], shape := .struct [(0, 3), (1, 44), (2, 45)] } := by kernel_rfl
theorem ti66 : kb0 Tryz.prog 66 = some { agg := false, sz := 1, bytes := 8, zero := [.int .u64 (0)], shape := .int .u64 } := by kernel_rfl
theorem ti68 : kb0 Tryz.prog 68 = some { agg := true, sz := 4, bytes := 32, zero := [.int .u64 (0), .int .u64 (0), .int .u64 (0), .int .u64 (0)], shape := .array 4 66 } := by kernel_rfl
theorem et68 : xF0 Tryz.prog 68 = true := by kernel_rfl
theorem ti84 : kb0 Tryz.prog 84 = some { agg := false, sz := 1, bytes := 24, zero := [.sl 0 [] (some 0)], shape := .slice 68 } := by kernel_rfl
theorem ti85 : kb0 Tryz.prog 85 = some { agg := false, sz := 1, bytes := 8, zero := [.lit (.map none)], shape := .map 68 3 } := by kernel_rfl
theorem ti93 : kb0 Tryz.prog 93 = some { agg := false, sz := 1, bytes := 8, zero := [.lit (.pointer none)], shape := .ptr 95 } := by kernel_rfl
theorem ti95 : kb0 Tryz.prog 95 = some { agg := true, sz := 2, bytes := 32, zero := [.lit (.pointer none), .sl 0 [] (some 0)], shape := .struct [(0, 93), (1, 25)] } := by kernel_rfl
theorem ti97 : kb0 Tryz.prog 97 = some { agg := false, sz := 1, bytes := 16, zero := [.lit .nilIface], shape := .iface } := by kernel_rfl
theorem kes9 : kb0 Tryz.prog 102 = some { agg := false, sz := 1, bytes := 8, zero := [.lit (.map none)], shape := .map 4 9 } := by kernel_rfl
theorem qet9 : kb0 Tryz.prog 104 = some { agg := false, sz := 1, bytes := 8, zero := [.int .u64 (0)], shape := .int .u64 } := by kernel_rfl
theorem zet9 : kb0 Tryz.prog 105 = some { agg := false, sz := 1, bytes := 8, zero := [.lit .nilFunc], shape := .func } := by kernel_rfl
theorem xet9 : kb0 Tryz.prog 111 = some { agg := false, sz := 1, bytes := 24, zero := [.sl 0 [] (some 0)], shape := .slice 9 } := by kernel_rfl
theorem wet9 : kb0 Tryz.prog 115 = some { agg := false, sz := 1, bytes := 8, zero := [.lit (.map none)], shape := .map 9 3 } := by kernel_rfl
theorem vet9 : kb0 Tryz.prog 116 = some { agg := false, sz := 1, bytes := 8, zero := [.lit (.pointer none)], shape := .ptr 5 } := by kernel_rfl
theorem ket9 : kb0 Tryz.prog 119 = some { agg := true, sz := 64, bytes := 64, zero := [.int .u8 (0), .int .u8 (0), .int .u8 (0), .int .u8 (0), .int .u8 (0), .int .u8 (0), .int .u8 (0), .int .u8 (0), .int .u8 (0), .int .u8 (0), .int .u8 (0), .int .u8 (0), .int .u8 (0), .int .u8 (0), .int .u8 (0), .int .u8 (0), .int .u8 (0), .int .u8 (0), .int .u8 (0), .int .u8 (0), .int .u8 (0), .int .u8 (0), .int .u8 (0), .int .u8 (0), .int .u8 (0), .int .u8 (0), .int .u8 (0), .int .u8 (0), .int .u8 (0), .int .u8 (0), .int .u8 (0), .int .u8 (0), .int .u8 (0), .int .u8 (0), .int .u8 (0), .int .u8 (0), .int .u8 (0), .int .u8 (0), .int .u8 (0), .int .u8 (0), .int .u8 (0), .int .u8 (0), .int .u8 (0), .int .u8 (0), .int .u8 (0), .int .u8 (0), .int .u8 (0), .int .u8 (0), .int .u8 (0), .int .u8 (0), .int .u8 (0), .int .u8 (0), .int .u8 (0), .int .u8 (0), .int .u8 (0), .int .u8 (0), .int .u8 (0), .int .u8 (0), .int .u8 (0), .int .u8 (0), .int .u8 (0), .int .u8 (0), .int .u8 (0), .int .u8 (0)], shape := .array 64 5 } := by kernel_rfl
theorem qeu9 : xF0 Tryz.prog 119 = true := by kernel_rfl
theorem zeu9 : kb0 Tryz.prog 130 = some { agg := true, sz := 24, bytes := 24, zero := [.int .u8 (0), .int .u8 (0), .int .u8 (0), .int .u8 (0), .int .u8 (0), .int .u8 (0), .int .u8 (0), .int .u8 (0), .int .u8 (0), .int .u8 (0), .int .u8 (0), .int .u8 (0), .int .u8 (0), .int .u8 (0), .int .u8 (0), .int .u8 (0), .int .u8 (0), .int .u8 (0), .int .u8 (0), .int .u8 (0), .int .u8 (0), .int .u8 (0), .int .u8 (0), .int .u8 (0)], shape := .array 24 5 } := by kernel_rfl
theorem xeu9 : xF0 Tryz.prog 130 = true := by kernel_rfl
theorem weu9 : kb0 Tryz.prog 137 = some { agg := false, sz := 1, bytes := 8, zero := [.int .i64 (0)], shape := .int .i64 } := by kernel_rfl
theorem veu9 : kb0 Tryz.prog 140 = some { agg := false, sz := 1, bytes := 8, zero := [.lit (.pointer none)], shape := .ptr 153 } := by kernel_rfl
theorem keu9 : kb0 Tryz.prog 145 = some { agg := true, sz := 20, bytes := 160, zero := [.int .u64 (0), .int .u64 (0), .int .u64 (0), .int .u64 (0), .int .u64 (0), .int .u64 (0), .int .u64 (0), .int .u64 (0), .int .u64 (0), .int .u64 (0), .int .u64 (0), .int .u64 (0), .int .u64 (0), .int .u64 (0), .int .u64 (0), .int .u64 (0), .int .u64 (0), .int .u64 (0), .int .u64 (0), .int .u64 (0)], shape := .array 20 66 } := by kernel_rfl
theorem qev9 : xF0 Tryz.prog 145 = true := by kernel_rfl
theorem zev9 : kb0 Tryz.prog 146 = some { agg := false, sz := 1, bytes := 4, zero := [.int .u32 (0)], shape := .int .u32 } := by kernel_rfl
theorem xev9 : kb0 Tryz.prog 147 = some { agg := true, sz := 65, bytes := 65, zero := [.int .u8 (0), .int .u8 (0), .int .u8 (0), .int .u8 (0), .int .u8 (0), .int .u8 (0), .int .u8 (0), .int .u8 (0), .int .u8 (0), .int .u8 (0), .int .u8 (0), .int .u8 (0), .int .u8 (0), .int .u8 (0), .int .u8 (0), .int .u8 (0), .int .u8 (0), .int .u8 (0), .int .u8 (0), .int .u8 (0), .int .u8 (0), .int .u8 (0), .int .u8 (0), .int .u8 (0), .int .u8 (0), .int .u8 (0), .int .u8 (0), .int .u8 (0), .int .u8 (0), .int .u8 (0), .int .u8 (0), .int .u8 (0), .int .u8 (0), .int .u8 (0), .int .u8 (0), .int .u8 (0), .int .u8 (0), .int .u8 (0), .int .u8 (0), .int .u8 (0), .int .u8 (0), .int .u8 (0), .int .u8 (0), .int .u8 (0), .int .u8 (0), .int .u8 (0), .int .u8 (0), .int .u8 (0), .int .u8 (0), .int .u8 (0), .int .u8 (0), .int .u8 (0), .int .u8 (0), .int .u8 (0), .int .u8 (0), .int .u8 (0), .int .u8 (0), .int .u8 (0), .int .u8 (0), .int .u8 (0), .int .u8 (0), .int .u8 (0), .int .u8 (0), .int .u8 (0), .int .u8 (0)], shape := .array 65 5 } := by kernel_rfl
theorem wev9 : xF0 Tryz.prog 147 = true := by kernel_rfl
theorem vev9 : kb0 Tryz.prog 153 = some { agg := true, sz := 3, bytes := 48, zero := [.str [], .str [], .lit .nilIface], shape := .struct [(0, 9), (1, 9), (2, 97)] } := by kernel_rfl
theorem kev9 : kb0 Tryz.prog 156 = some { agg := true, sz := 256, bytes := 256, zero := [.int .u8 (0), .int .u8 (0), .int .u8 (0), .int .u8 (0), .int .u8 (0), .int .u8 (0), .int .u8 (0), .int .u8 (0), .int .u8 (0), .int .u8 (0), .int .u8 (0), .int .u8 (0), .int .u8 (0), .int .u8 (0), .int .u8 (0), .int .u8 (0), .int .u8 (0), .int .u8 (0), .int .u8 (0), .int .u8 (0), .int .u8 (0), .int .u8 (0), .int .u8 (0), .int .u8 (0), .int .u8 (0), .int .u8 (0), .int .u8 (0), .int .u8 (0), .int .u8 (0), .int .u8 (0), .int .u8 (0), .int .u8 (0), .int .u8 (0), .int .u8 (0), .int .u8 (0), .int .u8 (0), .int .u8 (0), .int .u8 (0), .int .u8 (0), .int .u8 (0), .int .u8 (0), .int .u8 (0), .int .u8 (0), .int .u8 (0), .int .u8 (0), .int .u8 (0), .int .u8 (0), .int .u8 (0), .int .u8 (0), .int .u8 (0), .int .u8 (0), .int .u8 (0), .int .u8 (0), .int .u8 (0), .int .u8 (0), .int .u8 (0), .int .u8 (0), .int .u8 (0), .int .u8 (0), .int .u8 (0), .int .u8 (0), .int .u8 (0), .int .u8 (0), .int .u8 (0), .int .u8 (0), .int .u8 (0), .int .u8 (0), .int .u8 (0), .int .u8 (0), .int .u8 (0), .int .u8 (0), .int .u8 (0), .int .u8 (0), .int .u8 (0), .int .u8 (0), .int .u8 (0), .int .u8 (0), .int .u8 (0), .int .u8 (0), .int .u8 (0), .int .u8 (0), .int .u8 (0), .int .u8 (0), .int .u8 (0), .int .u8 (0), .int .u8 (0), .int .u8 (0), .int .u8 (0), .int .u8 (0), .int .u8 (0), .int .u8 (0), .int .u8 (0), .int .u8 (0), .int .u8 (0), .int .u8 (0), .int .u8 (0), .int .u8 (0), .int .u8 (0), .int .u8 (0), .int .u8 (0), .int .u8 (0), .int .u8 (0), .int .u8 (0), .int .u8 (0), .int .u8 (0), .int .u8 (0), .int .u8 (0), .int .u8 (0), .int .u8 (0), .int .u8 (0), .int .u8 (0), .int .u8 (0), .int .u8 (0), .int .u8 (0), .int .u8 (0), .int .u8 (0), .int .u8 (0), .int .u8 (0), .int .u8 (0), .int .u8 (0), .int .u8 (0), .int .u8 (0), .int .u8 (0), .int .u8 (0), .int .u8 (0), .int .u8 (0), .int .u8 (0), .int .u8 (0), .int .u8 (0), .int .u8 (0), .int .u8 (0), .int .u8 (0), .int .u8 (0), .int .u8 (0), .int .u8 (0), .int .u8 (0), .int .u8 (0), .int .u8 (0), .int .u8 (0), .int .u8 (0), .int .u8 (0), .int .u8 (0), .int .u8 (0), .int .u8 (0), .int .u8 (0), .int .u8 (0), .int .u8 (0), .int .u8 (0), .int .u8 (0), .int .u8 (0), .int .u8 (0), .int .u8 (0), .int .u8 (0), .int .u8 (0), .int .u8 (0), .int .u8 (0), .int .u8 (0), .int .u8 (0), .int .u8 (0), .int .u8 (0), .int .u8 (0), .int .u8 (0), .int .u8 (0), .int .u8 (0), .int .u8 (0), .int .u8 (0), .int .u8 (0), .int .u8 (0), .int .u8 (0), .int .u8 (0), .int .u8 (0), .int .u8 (0), .int .u8 (0), .int .u8 (0), .int .u8 (0), .int .u8 (0), .int .u8 (0), .int .u8 (0), .int .u8 (0), .int .u8 (0), .int .u8 (0), .int .u8 (0), .int .u8 (0), .int .u8 (0), .int .u8 (0), .int .u8 (0), .int .u8 (0), .int .u8 (0), .int .u8 (0), .int .u8 (0), .int .u8 (0), .int .u8 (0), .int .u8 (0), .int .u8 (0), .int .u8 (0), .int .u8 (0), .int .u8 (0), .int .u8 (0), .int .u8 (0), .int .u8 (0), .int .u8 (0), .int .u8 (0), .int .u8 (0), .int .u8 (0), .int .u8 (0), .int .u8 (0), .int .u8 (0), .int .u8 (0), .int .u8 (0), .int .u8 (0), .int .u8 (0), .int .u8 (0), .int .u8 (0), .int .u8 (0), .int .u8 (0), .int .u8 (0), .int .u8 (0), .int .u8 (0), .int .u8 (0), .int .u8 (0), .int .u8 (0), .int .u8 (0), .int .u8 (0), .int .u8 (0), .int .u8 (0), .int .u8 (0), .int .u8 (0), .int .u8 (0), .int .u8 (0), .int .u8 (0), .int .u8 (0), .int .u8 (0), .int .u8 (0), .int .u8 (0), .int .u8 (0), .int .u8 (0), .int .u8 (0), .int .u8 (0), .int .u8 (0), .int .u8 (0), .int .u8 (0), .int .u8 (0), .int .u8 (0), .int .u8 (0), .int .u8 (0), .int .u8 (0), .int .u8 (0), .int .u8 (0), .int .u8 (0), .int .u8 (0), .int .u8 (0), .int .u8 (0), .int .u8 (0), .int .u8 (0), .int .u8 (0), .int .u8 (0)], shape := .array 256 5 } := by kernel_rfl
theorem qew9 : xF0 Tryz.prog 156 = true := by kernel_rfl
theorem zew9 : kb0 Tryz.prog 158 = some { agg := true, sz := 2, bytes := 2, zero := [.int .u8 (0), .int .u8 (0)], shape := .struct [(0, 5), (1, 5)] } := by kernel_rfl
theorem xew9 : xF0 Tryz.prog 158 = true := by kernel_rfl
theorem wew9 : kb0 Tryz.prog 159 = some { agg := true, sz := 32, bytes := 32, zero := [.int .u8 (0), .int .u8 (0), .int .u8 (0), .int .u8 (0), .int .u8 (0), .int .u8 (0), .int .u8 (0), .int .u8 (0), .int .u8 (0), .int .u8 (0), .int .u8 (0), .int .u8 (0), .int .u8 (0), .int .u8 (0), .int .u8 (0), .int .u8 (0), .int .u8 (0), .int .u8 (0), .int .u8 (0), .int .u8 (0), .int .u8 (0), .int .u8 (0), .int .u8 (0), .int .u8 (0), .int .u8 (0), .int .u8 (0), .int .u8 (0), .int .u8 (0), .int .u8 (0), .int .u8 (0), .int .u8 (0), .int .u8 (0)], shape := .array 16 158 } := by kernel_rfl
theorem vew9 : xF0 Tryz.prog 159 = true := by kernel_rfl
theorem kew9 : kb0 Tryz.prog 163 = some { agg := false, sz := 1, bytes := 8, zero := [.lit (.pointer none)], shape := .ptr 165 } := by kernel_rfl
theorem qex9 : kb0 Tryz.prog 165 = some { agg := true, sz := 1, bytes := 16, zero := [.str []], shape := .struct [(0, 9)] } := by kernel_rfl
theorem zex9 : xF0 Tryz.prog 165 = true := by kernel_rfl
theorem xex9 : kb0 Tryz.prog 166 = some { agg := true, sz := 32, bytes := 32, zero := [.int .u8 (0), .int .u8 (0), .int .u8 (0), .int .u8 (0), .int .u8 (0), .int .u8 (0), .int .u8 (0), .int .u8 (0), .int .u8 (0), .int .u8 (0), .int .u8 (0), .int .u8 (0), .int .u8 (0), .int .u8 (0), .int .u8 (0), .int .u8 (0), .int .u8 (0), .int .u8 (0), .int .u8 (0), .int .u8 (0), .int .u8 (0), .int .u8 (0), .int .u8 (0), .int .u8 (0), .int .u8 (0), .int .u8 (0), .int .u8 (0), .int .u8 (0), .int .u8 (0), .int .u8 (0), .int .u8 (0), .int .u8 (0)], shape := .array 32 5 } := by kernel_rfl
theorem wex9 : xF0 Tryz.prog 166 = true := by kernel_rfl
theorem en4 : ka0 Tryz.prog 4 = true := by kernel_rfl
theorem en8 : ka0 Tryz.prog 8 = true := by kernel_rfl
theorem en9 : ka0 Tryz.prog 9 = true := by kernel_rfl
theorem en10 : ka0 Tryz.prog 10 = true := by kernel_rfl
theorem en14 : ka0 Tryz.prog 14 = true := by kernel_rfl
theorem en16 : ka0 Tryz.prog 16 = true := by kernel_rfl
theorem en17 : ka0 Tryz.prog 17 = true := by kernel_rfl
theorem en18 : ka0 Tryz.prog 18 = true := by kernel_rfl
theorem en19 : ka0 Tryz.prog 19 = true := by kernel_rfl
theorem en20 : ka0 Tryz.prog 20 = true := by kernel_rfl
theorem en21 : ka0 Tryz.prog 21 = true := by kernel_rfl
theorem en22 : ka0 Tryz.prog 22 = true := by kernel_rfl
theorem en23 : ka0 Tryz.prog 23 = true := by kernel_rfl
theorem en24 : ka0 Tryz.prog 24 = true := by kernel_rfl
theorem en25 : ka0 Tryz.prog 25 = true := by kernel_rfl
theorem en26 : ka0 Tryz.prog 26 = true := by kernel_rfl
theorem en27 : ka0 Tryz.prog 27 = true := by kernel_rfl
theorem en28 : ka0 Tryz.prog 28 = true := by kernel_rfl
theorem en29 : ka0 Tryz.prog 29 = true := by kernel_rfl
theorem en30 : ka0 Tryz.prog 30 = true := by kernel_rfl
theorem en31 : ka0 Tryz.prog 31 = true := by kernel_rfl
theorem en33 : ka0 Tryz.prog 33 = true := by kernel_rfl
theorem en34 : ka0 Tryz.prog 34 = true := by kernel_rfl
theorem en35 : ka0 Tryz.prog 35 = true := by kernel_rfl
theorem en36 : ka0 Tryz.prog 36 = true := by kernel_rfl
theorem en37 : ka0 Tryz.prog 37 = true := by kernel_rfl
theorem en38 : ka0 Tryz.prog 38 = true := by kernel_rfl
theorem en39 : ka0 Tryz.prog 39 = true := by kernel_rfl
theorem en40 : ka0 Tryz.prog 40 = true := by kernel_rfl
theorem en41 : ka0 Tryz.prog 41 = true := by kernel_rfl
theorem en42 : ka0 Tryz.prog 42 = true := by kernel_rfl
theorem en43 : ka0 Tryz.prog 43 = true := by kernel_rfl
theorem en46 : ka0 Tryz.prog 46 = true := by kernel_rfl
theorem en47 : ka0 Tryz.prog 47 = true := by kernel_rfl
theorem en48 : ka0 Tryz.prog 48 = true := by kernel_rfl
theorem en49 : ka0 Tryz.prog 49 = true := by kernel_rfl
theorem en50 : ka0 Tryz.prog 50 = true := by kernel_rfl
theorem en51 : ka0 Tryz.prog 51 = true := by kernel_rfl
theorem en52 : ka0 Tryz.prog 52 = true := by kernel_rfl
theorem en53 : ka0 Tryz.prog 53 = true := by kernel_rfl
theorem en54 : ka0 Tryz.prog 54 = true := by kernel_rfl
theorem en55 : ka0 Tryz.prog 55 = true := by kernel_rfl
theorem en56 : ka0 Tryz.prog 56 = true := by kernel_rfl
theorem en57 : ka0 Tryz.prog 57 = true := by kernel_rfl
theorem en58 : ka0 Tryz.prog 58 = true := by kernel_rfl
theorem en59 : ka0 Tryz.prog 59 = true := by kernel_rfl
theorem en60 : ka0 Tryz.prog 60 = true := by kernel_rfl
theorem en61 : ka0 Tryz.prog 61 = true := by kernel_rfl
theorem en62 : ka0 Tryz.prog 62 = true := by kernel_rfl
theorem en63 : ka0 Tryz.prog 63 = true := by kernel_rfl
theorem en64 : ka0 Tryz.prog 64 = true := by kernel_rfl
theorem en65 : ka0 Tryz.prog 65 = true := by kernel_rfl
theorem en66 : ka0 Tryz.prog 66 = true := by kernel_rfl
theorem en67 : ka0 Tryz.prog 67 = true := by kernel_rfl
theorem en68 : ka0 Tryz.prog 68 = true := by kernel_rfl
theorem en69 : ka0 Tryz.prog 69 = true := by kernel_rfl
theorem en70 : ka0 Tryz.prog 70 = true := by kernel_rfl
theorem en71 : ka0 Tryz.prog 71 = true := by kernel_rfl
theorem en72 : ka0 Tryz.prog 72 = true := by kernel_rfl
theorem en73 : ka0 Tryz.prog 73 = true := by kernel_rfl
theorem en74 : ka0 Tryz.prog 74 = true := by kernel_rfl
theorem en75 : ka0 Tryz.prog 75 = true := by kernel_rfl
theorem en76 : ka0 Tryz.prog 76 = true := by kernel_rfl
theorem en77 : ka0 Tryz.prog 77 = true := by kernel_rfl
theorem en78 : ka0 Tryz.prog 78 = true := by kernel_rfl
theorem en79 : ka0 Tryz.prog 79 = true := by kernel_rfl
theorem en80 : ka0 Tryz.prog 80 = true := by kernel_rfl
theorem en82 : ka0 Tryz.prog 82 = true := by kernel_rfl
theorem en83 : ka0 Tryz.prog 83 = true := by kernel_rfl
theorem en84 : ka0 Tryz.prog 84 = true := by kernel_rfl
theorem en85 : ka0 Tryz.prog 85 = true := by kernel_rfl
theorem en86 : ka0 Tryz.prog 86 = true := by kernel_rfl
theorem en87 : ka0 Tryz.prog 87 = true := by kernel_rfl
theorem en88 : ka0 Tryz.prog 88 = true := by kernel_rfl
theorem en89 : ka0 Tryz.prog 89 = true := by kernel_rfl
theorem en90 : ka0 Tryz.prog 90 = true := by kernel_rfl
theorem en91 : ka0 Tryz.prog 91 = true := by kernel_rfl
theorem en92 : ka0 Tryz.prog 92 = true := by kernel_rfl
theorem en93 : ka0 Tryz.prog 93 = true := by kernel_rfl
theorem en94 : ka0 Tryz.prog 94 = true := by kernel_rfl
theorem en96 : ka0 Tryz.prog 96 = true := by kernel_rfl
theorem en97 : ka0 Tryz.prog 97 = true := by kernel_rfl
theorem en98 : ka0 Tryz.prog 98 = true := by kernel_rfl
theorem en99 : ka0 Tryz.prog 99 = true := by kernel_rfl
theorem vex9 : ka0 Tryz.prog 100 = true := by kernel_rfl
theorem kex9 : ka0 Tryz.prog 101 = true := by kernel_rfl
theorem qey9 : ka0 Tryz.prog 102 = true := by kernel_rfl
theorem zey9 : ka0 Tryz.prog 103 = true := by kernel_rfl
theorem xey9 : ka0 Tryz.prog 104 = true := by kernel_rfl
theorem wey9 : ka0 Tryz.prog 105 = true := by kernel_rfl
theorem vey9 : ka0 Tryz.prog 106 = true := by kernel_rfl
theorem key9 : ka0 Tryz.prog 107 = true := by kernel_rfl
theorem qez9 : ka0 Tryz.prog 108 = true := by kernel_rfl
theorem zez9 : ka0 Tryz.prog 110 = true := by kernel_rfl
theorem xez9 : ka0 Tryz.prog 111 = true := by kernel_rfl
theorem wez9 : ka0 Tryz.prog 112 = true := by kernel_rfl
theorem vez9 : ka0 Tryz.prog 113 = true := by kernel_rfl
theorem kez9 : ka0 Tryz.prog 114 = true := by kernel_rfl
theorem qeA9 : ka0 Tryz.prog 115 = true := by kernel_rfl
theorem zeA9 : ka0 Tryz.prog 117 = true := by kernel_rfl
theorem xeA9 : ka0 Tryz.prog 118 = true := by kernel_rfl
theorem weA9 : ka0 Tryz.prog 119 = true := by kernel_rfl
theorem mixed : Tryz.prog.follows .mixedOrders = true := by kernel_rfl
end Go.Proofs

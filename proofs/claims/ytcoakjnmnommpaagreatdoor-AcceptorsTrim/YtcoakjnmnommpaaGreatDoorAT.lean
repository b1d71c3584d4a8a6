/- What the program's tables say of its types (made by wip/tools/tfacts.py): each a closed fact that the kernel reckons. -/
import Derived.Test.YtcoakjnmnommpaaGreatDoorV31
import Derived.Test.YtcoakjnmnommpaaGreatDoorProg
import Derived.KernelRfl
namespace Go.Proofs
open Go Go.V
set_option maxRecDepth 100000
theorem ti1 : qc0 Tryz.prog 1 = some { agg := false, sz := 1, bytes := 8, zero := [.lit .nilFunc], shape := .func } := by kernel_rfl
theorem ti2 : qc0 Tryz.prog 2 = some { agg := false, sz := 1, bytes := 8, zero := [.int .i64 (0)], shape := .int .i64 } := by kernel_rfl
theorem ti3 : qc0 Tryz.prog 3 = some { agg := false, sz := 1, bytes := 8, zero := [.int .i64 (0)], shape := .int .i64 } := by kernel_rfl
theorem ti4 : qc0 Tryz.prog 4 = some { agg := false, sz := 1, bytes := 1, zero := [.bool false], shape := .bool } := by kernel_rfl
theorem ti5 : qc0 Tryz.prog 5 = some { agg := false, sz := 1, bytes := 1, zero := [.int .u8 (0)], shape := .int .u8 } := by kernel_rfl
theorem ti9 : qc0 Tryz.prog 9 = some { agg := false, sz := 1, bytes := 16, zero := [.str []], shape := .str } := by kernel_rfl
theorem ti21 : qc0 Tryz.prog 21 = some { agg := false, sz := 1, bytes := 4, zero := [.int .i32 (0)], shape := .int .i32 } := by kernel_rfl
theorem ti22 : qc0 Tryz.prog 22 = some { agg := false, sz := 1, bytes := 24, zero := [.sl 0 [] (some 0)], shape := .slice 64 } := by kernel_rfl
theorem ti24 : qc0 Tryz.prog 24 = some { agg := true, sz := 5, bytes := 40, zero := [.int .u8 (0), .int .u8 (0), .sl 0 [] (some 0), .int .u8 (0), .int .u8 (0)], shape := .struct [(0, 5), (1, 5), (2, 22), (3, 5), (4, 5)] } := by kernel_rfl
theorem ti25 : qc0 Tryz.prog 25 = some { agg := false, sz := 1, bytes := 24, zero := [.sl 0 [] (some 0)], shape := .slice 5 } := by kernel_rfl
theorem ti26 : qc0 Tryz.prog 26 = some { agg := false, sz := 1, bytes := 24, zero := [.sl 0 [] (some 0)], shape := .slice 44 } := by kernel_rfl
theorem ti27 : qc0 Tryz.prog 27 = some { agg := false, sz := 1, bytes := 24, zero := [.sl 0 [] (some 0)], shape := .slice 3 } := by kernel_rfl
theorem ti29 : qc0 Tryz.prog 29 = some { agg := true, sz := 4, bytes := 80, zero := [.int .i64 (0), .sl 0 [] (some 0), .sl 0 [] (some 0), .sl 0 [] (some 0)], shape := .struct [(0, 3), (1, 26), (2, 27), (3, 27)] } := by kernel_rfl
theorem ti32 : qc0 Tryz.prog 32 = some { agg := false, sz := 1, bytes := 8, zero := [.int .i64 (0)], shape := .int .i64 } := by kernel_rfl
theorem ti40 : qc0 Tryz.prog 40 = some { agg := false, sz := 1, bytes := 8, zero := [.lit .nilFunc], shape := .func } := by kernel_rfl
theorem ti44 : qc0 Tryz.prog 44 = some { agg := false, sz := 1, bytes := 24, zero := [.sl 0 [] (some 0)], shape := .slice 27 } := by kernel_rfl
theorem ti45 : qc0 Tryz.prog 45 = some { agg := false, sz := 1, bytes := 24, zero := [.sl 0 [] (some 0)], shape := .slice 4 } := by kernel_rfl
theorem ti47 : qc0 Tryz.prog 47 = some { agg := true, sz := 3, bytes := 56, zero := [.int .i64 (0), .sl 0 [] (some 0), .sl 0 [] (some 0)], shape := .struct [(0, 3), (1, 44), (2, 45)] } := by kernel_rfl
theorem ti64 : qc0 Tryz.prog 64 = some { agg := true, sz := 3, bytes := 3, zero := [.int .u8 (0), .int .u8 (0), .int .u8 (0)], shape := .array 3 5 } := by kernel_rfl
theorem et64 : xz0 Tryz.prog 64 = true := by kernel_rfl
theorem ti66 : qc0 Tryz.prog 66 = some { agg := false, sz := 1, bytes := 8, zero := [.int .u64 (0)], shape := .int .u64 } := by kernel_rfl
theorem ti68 : qc0 Tryz.prog 68 = some { agg := true, sz := 4, bytes := 32, zero := [.int .u64 (0), .int .u64 (0), .int .u64 (0), .int .u64 (0)], shape := .array 4 66 } := by kernel_rfl
theorem et68 : xz0 Tryz.prog 68 = true := by kernel_rfl
theorem ti84 : qc0 Tryz.prog 84 = some { agg := false, sz := 1, bytes := 24, zero := [.sl 0 [] (some 0)], shape := .slice 68 } := by kernel_rfl
theorem ti85 : qc0 Tryz.prog 85 = some { agg := false, sz := 1, bytes := 8, zero := [.lit (.map none)], shape := .map 68 3 } := by kernel_rfl
theorem ti93 : qc0 Tryz.prog 93 = some { agg := false, sz := 1, bytes := 8, zero := [.lit (.pointer none)], shape := .ptr 95 } := by kernel_rfl
theorem ti95 : qc0 Tryz.prog 95 = some { agg := true, sz := 2, bytes := 32, zero := [.lit (.pointer none), .sl 0 [] (some 0)], shape := .struct [(0, 93), (1, 25)] } := by kernel_rfl
theorem ti97 : qc0 Tryz.prog 97 = some { agg := false, sz := 1, bytes := 16, zero := [.lit .nilIface], shape := .iface } := by kernel_rfl
theorem zdW9 : qc0 Tryz.prog 102 = some { agg := false, sz := 1, bytes := 8, zero := [.lit (.map none)], shape := .map 4 9 } := by kernel_rfl
theorem xdW9 : qc0 Tryz.prog 104 = some { agg := false, sz := 1, bytes := 8, zero := [.int .u64 (0)], shape := .int .u64 } := by kernel_rfl
theorem wdW9 : qc0 Tryz.prog 105 = some { agg := false, sz := 1, bytes := 8, zero := [.lit .nilFunc], shape := .func } := by kernel_rfl
theorem vdW9 : qc0 Tryz.prog 111 = some { agg := false, sz := 1, bytes := 24, zero := [.sl 0 [] (some 0)], shape := .slice 9 } := by kernel_rfl
theorem kdW9 : qc0 Tryz.prog 115 = some { agg := false, sz := 1, bytes := 8, zero := [.lit (.map none)], shape := .map 9 3 } := by kernel_rfl
theorem qdX9 : qc0 Tryz.prog 116 = some { agg := false, sz := 1, bytes := 8, zero := [.lit (.pointer none)], shape := .ptr 5 } := by kernel_rfl
theorem zdX9 : qc0 Tryz.prog 119 = some { agg := true, sz := 64, bytes := 64, zero := [.int .u8 (0), .int .u8 (0), .int .u8 (0), .int .u8 (0), .int .u8 (0), .int .u8 (0), .int .u8 (0), .int .u8 (0), .int .u8 (0), .int .u8 (0), .int .u8 (0), .int .u8 (0), .int .u8 (0), .int .u8 (0), .int .u8 (0), .int .u8 (0), .int .u8 (0), .int .u8 (0), .int .u8 (0), .int .u8 (0), .int .u8 (0), .int .u8 (0), .int .u8 (0), .int .u8 (0), .int .u8 (0), .int .u8 (0), .int .u8 (0), .int .u8 (0), .int .u8 (0), .int .u8 (0), .int .u8 (0), .int .u8 (0), .int .u8 (0), .int .u8 (0), .int .u8 (0), .int .u8 (0), .int .u8 (0), .int .u8 (0), .int .u8 (0), .int .u8 (0), .int .u8 (0), .int .u8 (0), .int .u8 (0), .int .u8 (0), .int .u8 (0), .int .u8 (0), .int .u8 (0), .int .u8 (0), .int .u8 (0), .int .u8 (0), .int .u8 (0), .int .u8 (0), .int .u8 (0), .int .u8 (0), .int .u8 (0), .int .u8 (0), .int .u8 (0), .int .u8 (0), .int .u8 (0), .int .u8 (0), .int .u8 (0), .int .u8 (0), .int .u8 (0), .int .u8 (0)], shape := .array 64 5 } := by kernel_rfl
theorem xdX9 : xz0 Tryz.prog 119 = true := by kernel_rfl
theorem wdX9 : qc0 Tryz.prog 130 = some { agg := true, sz := 24, bytes := 24, zero := [.int .u8 (0), .int .u8 (0), .int .u8 (0), .int .u8 (0), .int .u8 (0), .int .u8 (0), .int .u8 (0), .int .u8 (0), .int .u8 (0), .int .u8 (0), .int .u8 (0), .int .u8 (0), .int .u8 (0), .int .u8 (0), .int .u8 (0), .int .u8 (0), .int .u8 (0), .int .u8 (0), .int .u8 (0), .int .u8 (0), .int .u8 (0), .int .u8 (0), .int .u8 (0), .int .u8 (0)], shape := .array 24 5 } := by kernel_rfl
theorem vdX9 : xz0 Tryz.prog 130 = true := by kernel_rfl
theorem kdX9 : qc0 Tryz.prog 137 = some { agg := false, sz := 1, bytes := 8, zero := [.int .i64 (0)], shape := .int .i64 } := by kernel_rfl
theorem qdY9 : qc0 Tryz.prog 140 = some { agg := false, sz := 1, bytes := 8, zero := [.lit (.pointer none)], shape := .ptr 153 } := by kernel_rfl
theorem zdY9 : qc0 Tryz.prog 145 = some { agg := true, sz := 20, bytes := 160, zero := [.int .u64 (0), .int .u64 (0), .int .u64 (0), .int .u64 (0), .int .u64 (0), .int .u64 (0), .int .u64 (0), .int .u64 (0), .int .u64 (0), .int .u64 (0), .int .u64 (0), .int .u64 (0), .int .u64 (0), .int .u64 (0), .int .u64 (0), .int .u64 (0), .int .u64 (0), .int .u64 (0), .int .u64 (0), .int .u64 (0)], shape := .array 20 66 } := by kernel_rfl
theorem xdY9 : xz0 Tryz.prog 145 = true := by kernel_rfl
theorem wdY9 : qc0 Tryz.prog 146 = some { agg := false, sz := 1, bytes := 4, zero := [.int .u32 (0)], shape := .int .u32 } := by kernel_rfl
theorem vdY9 : qc0 Tryz.prog 147 = some { agg := true, sz := 65, bytes := 65, zero := [.int .u8 (0), .int .u8 (0), .int .u8 (0), .int .u8 (0), .int .u8 (0), .int .u8 (0), .int .u8 (0), .int .u8 (0), .int .u8 (0), .int .u8 (0), .int .u8 (0), .int .u8 (0), .int .u8 (0), .int .u8 (0), .int .u8 (0), .int .u8 (0), .int .u8 (0), .int .u8 (0), .int .u8 (0), .int .u8 (0), .int .u8 (0), .int .u8 (0), .int .u8 (0), .int .u8 (0), .int .u8 (0), .int .u8 (0), .int .u8 (0), .int .u8 (0), .int .u8 (0), .int .u8 (0), .int .u8 (0), .int .u8 (0), .int .u8 (0), .int .u8 (0), .int .u8 (0), .int .u8 (0), .int .u8 (0), .int .u8 (0), .int .u8 (0), .int .u8 (0), .int .u8 (0), .int .u8 (0), .int .u8 (0), .int .u8 (0), .int .u8 (0), .int .u8 (0), .int .u8 (0), .int .u8 (0), .int .u8 (0), .int .u8 (0), .int .u8 (0), .int .u8 (0), .int .u8 (0), .int .u8 (0), .int .u8 (0), .int .u8 (0), .int .u8 (0), .int .u8 (0), .int .u8 (0), .int .u8 (0), .int .u8 (0), .int .u8 (0), .int .u8 (0), .int .u8 (0), .int .u8 (0)], shape := .array 65 5 } := by kernel_rfl
theorem kdY9 : xz0 Tryz.prog 147 = true := by kernel_rfl
theorem qdZ9 : qc0 Tryz.prog 153 = some { agg := true, sz := 3, bytes := 48, zero := [.str [], .str [], .lit .nilIface], shape := .struct [(0, 9), (1, 9), (2, 97)] } := by kernel_rfl
theorem zdZ9 : qc0 Tryz.prog 156 = some { agg := true, sz := 256, bytes := 256, zero := [.int .u8 (0), .int .u8 (0), .int .u8 (0), .int .u8 (0), .int .u8 (0), .int .u8 (0), .int .u8 (0), .int .u8 (0), .int .u8 (0), .int .u8 (0), .int .u8 (0), .int .u8 (0), .int .u8 (0), .int .u8 (0), .int .u8 (0), .int .u8 (0), .int .u8 (0), .int .u8 (0), .int .u8 (0), .int .u8 (0), .int .u8 (0), .int .u8 (0), .int .u8 (0), .int .u8 (0), .int .u8 (0), .int .u8 (0), .int .u8 (0), .int .u8 (0), .int .u8 (0), .int .u8 (0), .int .u8 (0), .int .u8 (0), .int .u8 (0), .int .u8 (0), .int .u8 (0), .int .u8 (0), .int .u8 (0), .int .u8 (0), .int .u8 (0), .int .u8 (0), .int .u8 (0), .int .u8 (0), .int .u8 (0), .int .u8 (0), .int .u8 (0), .int .u8 (0), .int .u8 (0), .int .u8 (0), .int .u8 (0), .int .u8 (0), .int .u8 (0), .int .u8 (0), .int .u8 (0), .int .u8 (0), .int .u8 (0), .int .u8 (0), .int .u8 (0), .int .u8 (0), .int .u8 (0), .int .u8 (0), .int .u8 (0), .int .u8 (0), .int .u8 (0), .int .u8 (0), .int .u8 (0), .int .u8 (0), .int .u8 (0), .int .u8 (0), .int .u8 (0), .int .u8 (0), .int .u8 (0), .int .u8 (0), .int .u8 (0), .int .u8 (0), .int .u8 (0), .int .u8 (0), .int .u8 (0), .int .u8 (0), .int .u8 (0), .int .u8 (0), .int .u8 (0), .int .u8 (0), .int .u8 (0), .int .u8 (0), .int .u8 (0), .int .u8 (0), .int .u8 (0), .int .u8 (0), .int .u8 (0), .int .u8 (0), .int .u8 (0), .int .u8 (0), .int .u8 (0), .int .u8 (0), .int .u8 (0), .int .u8 (0), .int .u8 (0), .int .u8 (0), .int .u8 (0), .int .u8 (0), .int .u8 (0), .int .u8 (0), .int .u8 (0), .int .u8 (0), .int .u8 (0), .int .u8 (0), .int .u8 (0), .int .u8 (0), .int .u8 (0), .int .u8 (0), .int .u8 (0), .int .u8 (0), .int .u8 (0), .int .u8 (0), .int .u8 (0), .int .u8 (0), .int .u8 (0), .int .u8 (0), .int .u8 (0), .int .u8 (0), .int .u8 (0), .int .u8 (0), .int .u8 (0), .int .u8 (0), .int .u8 (0), .int .u8 (0), .int .u8 (0), .int .u8 (0), .int .u8 (0), .int .u8 (0), .int .u8 (0), .int .u8 (0), .int .u8 (0), .int .u8 (0), .int .u8 (0), .int .u8 (0), .int .u8 (0), .int .u8 (0), .int .u8 (0), .int .u8 (0), .int .u8 (0), .int .u8 (0), .int .u8 (0), .int .u8 (0), .int .u8 (0), .int .u8 (0), .int .u8 (0), .int .u8 (0), .int .u8 (0), .int .u8 (0), .int .u8 (0), .int .u8 (0), .int .u8 (0), .int .u8 (0), .int .u8 (0), .int .u8 (0), .int .u8 (0), .int .u8 (0), .int .u8 (0), .int .u8 (0), .int .u8 (0), .int .u8 (0), .int .u8 (0), .int .u8 (0), .int .u8 (0), .int .u8 (0), .int .u8 (0), .int .u8 (0), .int .u8 (0), .int .u8 (0), .int .u8 (0), .int .u8 (0), .int .u8 (0), .int .u8 (0), .int .u8 (0), .int .u8 (0), .int .u8 (0), .int .u8 (0), .int .u8 (0), .int .u8 (0), .int .u8 (0), .int .u8 (0), .int .u8 (0), .int .u8 (0), .int .u8 (0), .int .u8 (0), .int .u8 (0), .int .u8 (0), .int .u8 (0), .int .u8 (0), .int .u8 (0), .int .u8 (0), .int .u8 (0), .int .u8 (0), .int .u8 (0), .int .u8 (0), .int .u8 (0), .int .u8 (0), .int .u8 (0), .int .u8 (0), .int .u8 (0), .int .u8 (0), .int .u8 (0), .int .u8 (0), .int .u8 (0), .int .u8 (0), .int .u8 (0), .int .u8 (0), .int .u8 (0), .int .u8 (0), .int .u8 (0), .int .u8 (0), .int .u8 (0), .int .u8 (0), .int .u8 (0), .int .u8 (0), .int .u8 (0), .int .u8 (0), .int .u8 (0), .int .u8 (0), .int .u8 (0), .int .u8 (0), .int .u8 (0), .int .u8 (0), .int .u8 (0), .int .u8 (0), .int .u8 (0), .int .u8 (0), .int .u8 (0), .int .u8 (0), .int .u8 (0), .int .u8 (0), .int .u8 (0), .int .u8 (0), .int .u8 (0), .int .u8 (0), .int .u8 (0), .int .u8 (0), .int .u8 (0), .int .u8 (0), .int .u8 (0), .int .u8 (0), .int .u8 (0), .int .u8 (0), .int .u8 (0), .int .u8 (0), .int .u8 (0), .int .u8 (0), .int .u8 (0), .int .u8 (0), .int .u8 (0), .int .u8 (0), .int .u8 (0), .int .u8 (0), .int .u8 (0), .int .u8 (0)], shape := .array 256 5 } := by kernel_rfl
theorem xdZ9 : xz0 Tryz.prog 156 = true := by kernel_rfl
theorem wdZ9 : qc0 Tryz.prog 158 = some { agg := true, sz := 2, bytes := 2, zero := [.int .u8 (0), .int .u8 (0)], shape := .struct [(0, 5), (1, 5)] } := by kernel_rfl
theorem vdZ9 : xz0 Tryz.prog 158 = true := by kernel_rfl
theorem kdZ9 : qc0 Tryz.prog 159 = some { agg := true, sz := 32, bytes := 32, zero := [.int .u8 (0), .int .u8 (0), .int .u8 (0), .int .u8 (0), .int .u8 (0), .int .u8 (0), .int .u8 (0), .int .u8 (0), .int .u8 (0), .int .u8 (0), .int .u8 (0), .int .u8 (0), .int .u8 (0), .int .u8 (0), .int .u8 (0), .int .u8 (0), .int .u8 (0), .int .u8 (0), .int .u8 (0), .int .u8 (0), .int .u8 (0), .int .u8 (0), .int .u8 (0), .int .u8 (0), .int .u8 (0), .int .u8 (0), .int .u8 (0), .int .u8 (0), .int .u8 (0), .int .u8 (0), .int .u8 (0), .int .u8 (0)], shape := .array 16 158 } := by kernel_rfl
theorem qea9 : xz0 Tryz.prog 159 = true := by kernel_rfl
theorem zea9 : qc0 Tryz.prog 163 = some { agg := false, sz := 1, bytes := 8, zero := [.lit (.pointer none)], shape := .ptr 165 } := by kernel_rfl
theorem xea9 : qc0 Tryz.prog 165 = some { agg := true, sz := 1, bytes := 16, zero := [.str []], shape := .struct [(0, 9)] } := by kernel_rfl
theorem wea9 : xz0 Tryz.prog 165 = true := by kernel_rfl
theorem vea9 : qc0 Tryz.prog 166 = some { agg := true, sz := 32, bytes := 32, zero := [.int .u8 (0), .int .u8 (0), .int .u8 (0), .int .u8 (0), .int .u8 (0), .int .u8 (0), .int .u8 (0), .int .u8 (0), .int .u8 (0), .int .u8 (0), .int .u8 (0), .int .u8 (0), .int .u8 (0), .int .u8 (0), .int .u8 (0), .int .u8 (0), .int .u8 (0), .int .u8 (0), .int .u8 (0), .int .u8 (0), .int .u8 (0), .int .u8 (0), .int .u8 (0), .int .u8 (0), .int .u8 (0), .int .u8 (0), .int .u8 (0), .int .u8 (0), .int .u8 (0), .int .u8 (0), .int .u8 (0), .int .u8 (0)], shape := .array 32 5 } := by kernel_rfl
theorem kea9 : xz0 Tryz.prog 166 = true := by kernel_rfl
theorem en6 : wb0 Tryz.prog 6 = true := by kernel_rfl
theorem en7 : wb0 Tryz.prog 7 = true := by kernel_rfl
theorem en8 : wb0 Tryz.prog 8 = true := by kernel_rfl
theorem en9 : wb0 Tryz.prog 9 = true := by kernel_rfl
theorem en10 : wb0 Tryz.prog 10 = true := by kernel_rfl
theorem en11 : wb0 Tryz.prog 11 = true := by kernel_rfl
theorem en12 : wb0 Tryz.prog 12 = true := by kernel_rfl
theorem en13 : wb0 Tryz.prog 13 = true := by kernel_rfl
theorem en14 : wb0 Tryz.prog 14 = true := by kernel_rfl
theorem en15 : wb0 Tryz.prog 15 = true := by kernel_rfl
theorem en16 : wb0 Tryz.prog 16 = true := by kernel_rfl
theorem en17 : wb0 Tryz.prog 17 = true := by kernel_rfl
theorem en20 : wb0 Tryz.prog 20 = true := by kernel_rfl
theorem en21 : wb0 Tryz.prog 21 = true := by kernel_rfl
theorem en23 : wb0 Tryz.prog 23 = true := by kernel_rfl
theorem en25 : wb0 Tryz.prog 25 = true := by kernel_rfl
theorem en27 : wb0 Tryz.prog 27 = true := by kernel_rfl
theorem en30 : wb0 Tryz.prog 30 = true := by kernel_rfl
theorem en32 : wb0 Tryz.prog 32 = true := by kernel_rfl
theorem en33 : wb0 Tryz.prog 33 = true := by kernel_rfl
theorem en34 : wb0 Tryz.prog 34 = true := by kernel_rfl
theorem en35 : wb0 Tryz.prog 35 = true := by kernel_rfl
theorem en36 : wb0 Tryz.prog 36 = true := by kernel_rfl
theorem en37 : wb0 Tryz.prog 37 = true := by kernel_rfl
theorem en38 : wb0 Tryz.prog 38 = true := by kernel_rfl
theorem en39 : wb0 Tryz.prog 39 = true := by kernel_rfl
theorem en40 : wb0 Tryz.prog 40 = true := by kernel_rfl
theorem en41 : wb0 Tryz.prog 41 = true := by kernel_rfl
theorem en42 : wb0 Tryz.prog 42 = true := by kernel_rfl
theorem en43 : wb0 Tryz.prog 43 = true := by kernel_rfl
theorem en44 : wb0 Tryz.prog 44 = true := by kernel_rfl
theorem en45 : wb0 Tryz.prog 45 = true := by kernel_rfl
theorem en46 : wb0 Tryz.prog 46 = true := by kernel_rfl
theorem en47 : wb0 Tryz.prog 47 = true := by kernel_rfl
theorem en48 : wb0 Tryz.prog 48 = true := by kernel_rfl
theorem en49 : wb0 Tryz.prog 49 = true := by kernel_rfl
theorem en50 : wb0 Tryz.prog 50 = true := by kernel_rfl
theorem en53 : wb0 Tryz.prog 53 = true := by kernel_rfl
theorem en54 : wb0 Tryz.prog 54 = true := by kernel_rfl
theorem en55 : wb0 Tryz.prog 55 = true := by kernel_rfl
theorem en56 : wb0 Tryz.prog 56 = true := by kernel_rfl
theorem en57 : wb0 Tryz.prog 57 = true := by kernel_rfl
theorem en58 : wb0 Tryz.prog 58 = true := by kernel_rfl
theorem en60 : wb0 Tryz.prog 60 = true := by kernel_rfl
theorem en61 : wb0 Tryz.prog 61 = true := by kernel_rfl
theorem en62 : wb0 Tryz.prog 62 = true := by kernel_rfl
theorem en63 : wb0 Tryz.prog 63 = true := by kernel_rfl
theorem en65 : wb0 Tryz.prog 65 = true := by kernel_rfl
theorem en66 : wb0 Tryz.prog 66 = true := by kernel_rfl
theorem en67 : wb0 Tryz.prog 67 = true := by kernel_rfl
theorem en68 : wb0 Tryz.prog 68 = true := by kernel_rfl
theorem en69 : wb0 Tryz.prog 69 = true := by kernel_rfl
theorem en70 : wb0 Tryz.prog 70 = true := by kernel_rfl
theorem en71 : wb0 Tryz.prog 71 = true := by kernel_rfl
theorem en72 : wb0 Tryz.prog 72 = true := by kernel_rfl
theorem en73 : wb0 Tryz.prog 73 = true := by kernel_rfl
theorem en74 : wb0 Tryz.prog 74 = true := by kernel_rfl
theorem en77 : wb0 Tryz.prog 77 = true := by kernel_rfl
theorem en78 : wb0 Tryz.prog 78 = true := by kernel_rfl
theorem en79 : wb0 Tryz.prog 79 = true := by kernel_rfl
theorem en80 : wb0 Tryz.prog 80 = true := by kernel_rfl
theorem en82 : wb0 Tryz.prog 82 = true := by kernel_rfl
theorem en83 : wb0 Tryz.prog 83 = true := by kernel_rfl
theorem en84 : wb0 Tryz.prog 84 = true := by kernel_rfl
theorem en85 : wb0 Tryz.prog 85 = true := by kernel_rfl
theorem en86 : wb0 Tryz.prog 86 = true := by kernel_rfl
theorem en87 : wb0 Tryz.prog 87 = true := by kernel_rfl
theorem en88 : wb0 Tryz.prog 88 = true := by kernel_rfl
theorem en89 : wb0 Tryz.prog 89 = true := by kernel_rfl
theorem en90 : wb0 Tryz.prog 90 = true := by kernel_rfl
theorem en91 : wb0 Tryz.prog 91 = true := by kernel_rfl
theorem en92 : wb0 Tryz.prog 92 = true := by kernel_rfl
theorem en93 : wb0 Tryz.prog 93 = true := by kernel_rfl
theorem en94 : wb0 Tryz.prog 94 = true := by kernel_rfl
theorem en96 : wb0 Tryz.prog 96 = true := by kernel_rfl
theorem en97 : wb0 Tryz.prog 97 = true := by kernel_rfl
theorem en98 : wb0 Tryz.prog 98 = true := by kernel_rfl
theorem en99 : wb0 Tryz.prog 99 = true := by kernel_rfl
theorem qeb9 : wb0 Tryz.prog 100 = true := by kernel_rfl
theorem zeb9 : wb0 Tryz.prog 101 = true := by kernel_rfl
theorem xeb9 : wb0 Tryz.prog 102 = true := by kernel_rfl
theorem web9 : wb0 Tryz.prog 103 = true := by kernel_rfl
theorem veb9 : wb0 Tryz.prog 104 = true := by kernel_rfl
theorem keb9 : wb0 Tryz.prog 105 = true := by kernel_rfl
theorem qec9 : wb0 Tryz.prog 106 = true := by kernel_rfl
theorem zec9 : wb0 Tryz.prog 107 = true := by kernel_rfl
theorem xec9 : wb0 Tryz.prog 108 = true := by kernel_rfl
theorem wec9 : wb0 Tryz.prog 110 = true := by kernel_rfl
theorem vec9 : wb0 Tryz.prog 111 = true := by kernel_rfl
theorem kec9 : wb0 Tryz.prog 112 = true := by kernel_rfl
theorem qed9 : wb0 Tryz.prog 113 = true := by kernel_rfl
theorem zed9 : wb0 Tryz.prog 114 = true := by kernel_rfl
theorem xed9 : wb0 Tryz.prog 115 = true := by kernel_rfl
theorem wed9 : wb0 Tryz.prog 117 = true := by kernel_rfl
theorem ved9 : wb0 Tryz.prog 118 = true := by kernel_rfl
theorem ked9 : wb0 Tryz.prog 119 = true := by kernel_rfl
theorem mixed : Tryz.prog.follows .mixedOrders = true := by kernel_rfl
end Go.Proofs

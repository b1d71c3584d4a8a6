/- What the program's tables say of its types (made by wip/tools/tfacts.py): each a closed fact that the kernel reckons. -/
import Derived.Test.YtbgdagokjfmcbaaDoorV33
import Derived.Test.YtbgdagokjfmcbaaDoorProg
import Derived.KernelRfl
namespace Go.Proofs
open Go Go.V
set_option maxRecDepth 100000
theorem ti1 : kc0 Tryd.prog 1 = some { agg := false, sz := 1, bytes := 8, zero := [.lit .nilFunc], shape := .func } := by kernel_rfl
theorem ti2 : kc0 Tryd.prog 2 = some { agg := false, sz := 1, bytes := 8, zero := [.int .i64 (0)], shape := .int .i64 } := by kernel_rfl
theorem ti3 : kc0 Tryd.prog 3 = some { agg := false, sz := 1, bytes := 8, zero := [.int .i64 (0)], shape := .int .i64 } := by kernel_rfl
theorem ti4 : kc0 Tryd.prog 4 = some { agg := false, sz := 1, bytes := 1, zero := [.bool false], shape := .bool } := by kernel_rfl
theorem ti5 : kc0 Tryd.prog 5 = some { agg := false, sz := 1, bytes := 1, zero := [.int .u8 (0)], shape := .int .u8 } := by kernel_rfl
theorem ti9 : kc0 Tryd.prog 9 = some { agg := false, sz := 1, bytes := 16, zero := [.str []], shape := .str } := by kernel_rfl
theorem ti22 : kc0 Tryd.prog 22 = some { agg := false, sz := 1, bytes := 24, zero := [.sl 0 [] (some 0)], shape := .slice 98 } := by kernel_rfl
theorem ti24 : kc0 Tryd.prog 24 = some { agg := true, sz := 5, bytes := 32, zero := [.int .u8 (0), .int .u8 (0), .int .u8 (0), .bool false, .sl 0 [] (some 0)], shape := .struct [(0, 5), (1, 5), (2, 5), (3, 4), (4, 22)] } := by kernel_rfl
theorem ti25 : kc0 Tryd.prog 25 = some { agg := false, sz := 1, bytes := 24, zero := [.sl 0 [] (some 0)], shape := .slice 103 } := by kernel_rfl
theorem ti27 : kc0 Tryd.prog 27 = some { agg := true, sz := 8, bytes := 64, zero := [.int .u8 (0), .int .u8 (0), .int .u8 (0), .bool false, .sl 0 [] (some 0), .sl 0 [] (some 0), .bool false, .bool false], shape := .struct [(0, 24), (5, 25), (6, 4), (7, 4)] } := by kernel_rfl
theorem ti28 : kc0 Tryd.prog 28 = some { agg := false, sz := 1, bytes := 24, zero := [.sl 0 [] (some 0)], shape := .slice 97 } := by kernel_rfl
theorem ti30 : kc0 Tryd.prog 30 = some { agg := true, sz := 3, bytes := 40, zero := [.int .i64 (0), .int .i64 (0), .sl 0 [] (some 0)], shape := .struct [(0, 3), (1, 3), (2, 28)] } := by kernel_rfl
theorem ti33 : kc0 Tryd.prog 33 = some { agg := true, sz := 2, bytes := 16, zero := [.int .i64 (0), .int .i64 (0)], shape := .array 2 3 } := by kernel_rfl
theorem et33 : zD0 Tryd.prog 33 = true := by kernel_rfl
theorem ti34 : kc0 Tryd.prog 34 = some { agg := false, sz := 1, bytes := 24, zero := [.sl 0 [] (some 0)], shape := .slice 93 } := by kernel_rfl
theorem ti36 : kc0 Tryd.prog 36 = some { agg := true, sz := 6, bytes := 64, zero := [.int .i64 (0), .int .i64 (0), .int .i64 (0), .int .i64 (0), .int .i64 (0), .sl 0 [] (some 0)], shape := .struct [(0, 3), (1, 33), (3, 33), (5, 34)] } := by kernel_rfl
theorem ti37 : kc0 Tryd.prog 37 = some { agg := false, sz := 1, bytes := 8, zero := [.int .i64 (0)], shape := .int .i64 } := by kernel_rfl
theorem ti49 : kc0 Tryd.prog 49 = some { agg := false, sz := 1, bytes := 24, zero := [.sl 0 [] (some 0)], shape := .slice 5 } := by kernel_rfl
theorem ti50 : kc0 Tryd.prog 50 = some { agg := false, sz := 1, bytes := 24, zero := [.sl 0 [] (some 0)], shape := .slice 3 } := by kernel_rfl
theorem ti63 : kc0 Tryd.prog 63 = some { agg := false, sz := 1, bytes := 24, zero := [.sl 0 [] (some 0)], shape := .slice 50 } := by kernel_rfl
theorem ti89 : kc0 Tryd.prog 89 = some { agg := true, sz := 3, bytes := 40, zero := [.int .i64 (0), .int .i64 (0), .sl 0 [] (some 0)], shape := .struct [(0, 3), (1, 3), (2, 28)] } := by kernel_rfl
theorem ti91 : kc0 Tryd.prog 91 = some { agg := true, sz := 2, bytes := 16, zero := [.int .i64 (0), .int .i64 (0)], shape := .struct [(0, 3), (1, 3)] } := by kernel_rfl
theorem et91 : zD0 Tryd.prog 91 = true := by kernel_rfl
theorem ti93 : kc0 Tryd.prog 93 = some { agg := true, sz := 6, bytes := 48, zero := [.int .i64 (0), .int .i64 (0), .int .i64 (0), .int .i64 (0), .int .i64 (0), .int .i64 (0)], shape := .struct [(0, 3), (1, 3), (2, 91), (4, 91)] } := by kernel_rfl
theorem et93 : zD0 Tryd.prog 93 = true := by kernel_rfl
theorem ti97 : kc0 Tryd.prog 97 = some { agg := false, sz := 1, bytes := 24, zero := [.sl 0 [] (some 0)], shape := .slice 91 } := by kernel_rfl
theorem ti98 : kc0 Tryd.prog 98 = some { agg := false, sz := 1, bytes := 2, zero := [.int .u16 (0)], shape := .int .u16 } := by kernel_rfl
theorem xdx9 : kc0 Tryd.prog 103 = some { agg := true, sz := 4, bytes := 4, zero := [.int .u8 (0), .int .u8 (0), .int .u8 (0), .int .u8 (0)], shape := .struct [(0, 5), (1, 5), (2, 5), (3, 5)] } := by kernel_rfl
theorem wdx9 : zD0 Tryd.prog 103 = true := by kernel_rfl
theorem vdx9 : kc0 Tryd.prog 106 = some { agg := false, sz := 1, bytes := 24, zero := [.sl 0 [] (some 0)], shape := .slice 4 } := by kernel_rfl
theorem kdx9 : kc0 Tryd.prog 108 = some { agg := false, sz := 1, bytes := 24, zero := [.sl 0 [] (some 0)], shape := .slice 33 } := by kernel_rfl
theorem qdy9 : kc0 Tryd.prog 111 = some { agg := false, sz := 1, bytes := 24, zero := [.sl 0 [] (some 0)], shape := .slice 106 } := by kernel_rfl
theorem zdy9 : kc0 Tryd.prog 118 = some { agg := false, sz := 1, bytes := 8, zero := [.lit (.map none)], shape := .map 33 4 } := by kernel_rfl
theorem xdy9 : kc0 Tryd.prog 125 = some { agg := false, sz := 1, bytes := 8, zero := [.lit .nilFunc], shape := .func } := by kernel_rfl
theorem wdy9 : kc0 Tryd.prog 127 = some { agg := false, sz := 1, bytes := 8, zero := [.lit (.pointer none)], shape := .ptr 129 } := by kernel_rfl
theorem vdy9 : kc0 Tryd.prog 129 = some { agg := true, sz := 2, bytes := 32, zero := [.lit (.pointer none), .sl 0 [] (some 0)], shape := .struct [(0, 127), (1, 49)] } := by kernel_rfl
theorem kdy9 : kc0 Tryd.prog 145 = some { agg := false, sz := 1, bytes := 8, zero := [.lit .nilFunc], shape := .func } := by kernel_rfl
theorem qdz9 : kc0 Tryd.prog 146 = some { agg := false, sz := 1, bytes := 8, zero := [.lit (.pointer none)], shape := .ptr 5 } := by kernel_rfl
theorem zdz9 : kc0 Tryd.prog 155 = some { agg := false, sz := 1, bytes := 8, zero := [.lit .nilFunc], shape := .func } := by kernel_rfl
theorem xdz9 : kc0 Tryd.prog 158 = some { agg := true, sz := 24, bytes := 24, zero := [.int .u8 (0), .int .u8 (0), .int .u8 (0), .int .u8 (0), .int .u8 (0), .int .u8 (0), .int .u8 (0), .int .u8 (0), .int .u8 (0), .int .u8 (0), .int .u8 (0), .int .u8 (0), .int .u8 (0), .int .u8 (0), .int .u8 (0), .int .u8 (0), .int .u8 (0), .int .u8 (0), .int .u8 (0), .int .u8 (0), .int .u8 (0), .int .u8 (0), .int .u8 (0), .int .u8 (0)], shape := .array 24 5 } := by kernel_rfl
theorem wdz9 : zD0 Tryd.prog 158 = true := by kernel_rfl
theorem vdz9 : kc0 Tryd.prog 159 = some { agg := false, sz := 1, bytes := 8, zero := [.int .u64 (0)], shape := .int .u64 } := by kernel_rfl
theorem kdz9 : kc0 Tryd.prog 167 = some { agg := true, sz := 20, bytes := 160, zero := [.int .u64 (0), .int .u64 (0), .int .u64 (0), .int .u64 (0), .int .u64 (0), .int .u64 (0), .int .u64 (0), .int .u64 (0), .int .u64 (0), .int .u64 (0), .int .u64 (0), .int .u64 (0), .int .u64 (0), .int .u64 (0), .int .u64 (0), .int .u64 (0), .int .u64 (0), .int .u64 (0), .int .u64 (0), .int .u64 (0)], shape := .array 20 159 } := by kernel_rfl
theorem qdA9 : zD0 Tryd.prog 167 = true := by kernel_rfl
theorem zdA9 : kc0 Tryd.prog 168 = some { agg := false, sz := 1, bytes := 4, zero := [.int .u32 (0)], shape := .int .u32 } := by kernel_rfl
theorem xdA9 : kc0 Tryd.prog 169 = some { agg := true, sz := 65, bytes := 65, zero := [.int .u8 (0), .int .u8 (0), .int .u8 (0), .int .u8 (0), .int .u8 (0), .int .u8 (0), .int .u8 (0), .int .u8 (0), .int .u8 (0), .int .u8 (0), .int .u8 (0), .int .u8 (0), .int .u8 (0), .int .u8 (0), .int .u8 (0), .int .u8 (0), .int .u8 (0), .int .u8 (0), .int .u8 (0), .int .u8 (0), .int .u8 (0), .int .u8 (0), .int .u8 (0), .int .u8 (0), .int .u8 (0), .int .u8 (0), .int .u8 (0), .int .u8 (0), .int .u8 (0), .int .u8 (0), .int .u8 (0), .int .u8 (0), .int .u8 (0), .int .u8 (0), .int .u8 (0), .int .u8 (0), .int .u8 (0), .int .u8 (0), .int .u8 (0), .int .u8 (0), .int .u8 (0), .int .u8 (0), .int .u8 (0), .int .u8 (0), .int .u8 (0), .int .u8 (0), .int .u8 (0), .int .u8 (0), .int .u8 (0), .int .u8 (0), .int .u8 (0), .int .u8 (0), .int .u8 (0), .int .u8 (0), .int .u8 (0), .int .u8 (0), .int .u8 (0), .int .u8 (0), .int .u8 (0), .int .u8 (0), .int .u8 (0), .int .u8 (0), .int .u8 (0), .int .u8 (0), .int .u8 (0)], shape := .array 65 5 } := by kernel_rfl
theorem wdA9 : zD0 Tryd.prog 169 = true := by kernel_rfl
theorem vdA9 : kc0 Tryd.prog 170 = some { agg := false, sz := 1, bytes := 8, zero := [.int .u64 (0)], shape := .int .u64 } := by kernel_rfl
theorem kdA9 : kc0 Tryd.prog 173 = some { agg := true, sz := 32, bytes := 32, zero := [.int .u8 (0), .int .u8 (0), .int .u8 (0), .int .u8 (0), .int .u8 (0), .int .u8 (0), .int .u8 (0), .int .u8 (0), .int .u8 (0), .int .u8 (0), .int .u8 (0), .int .u8 (0), .int .u8 (0), .int .u8 (0), .int .u8 (0), .int .u8 (0), .int .u8 (0), .int .u8 (0), .int .u8 (0), .int .u8 (0), .int .u8 (0), .int .u8 (0), .int .u8 (0), .int .u8 (0), .int .u8 (0), .int .u8 (0), .int .u8 (0), .int .u8 (0), .int .u8 (0), .int .u8 (0), .int .u8 (0), .int .u8 (0)], shape := .array 32 5 } := by kernel_rfl
theorem qdB9 : zD0 Tryd.prog 173 = true := by kernel_rfl
theorem zdB9 : kc0 Tryd.prog 174 = some { agg := true, sz := 64, bytes := 64, zero := [.int .u8 (0), .int .u8 (0), .int .u8 (0), .int .u8 (0), .int .u8 (0), .int .u8 (0), .int .u8 (0), .int .u8 (0), .int .u8 (0), .int .u8 (0), .int .u8 (0), .int .u8 (0), .int .u8 (0), .int .u8 (0), .int .u8 (0), .int .u8 (0), .int .u8 (0), .int .u8 (0), .int .u8 (0), .int .u8 (0), .int .u8 (0), .int .u8 (0), .int .u8 (0), .int .u8 (0), .int .u8 (0), .int .u8 (0), .int .u8 (0), .int .u8 (0), .int .u8 (0), .int .u8 (0), .int .u8 (0), .int .u8 (0), .int .u8 (0), .int .u8 (0), .int .u8 (0), .int .u8 (0), .int .u8 (0), .int .u8 (0), .int .u8 (0), .int .u8 (0), .int .u8 (0), .int .u8 (0), .int .u8 (0), .int .u8 (0), .int .u8 (0), .int .u8 (0), .int .u8 (0), .int .u8 (0), .int .u8 (0), .int .u8 (0), .int .u8 (0), .int .u8 (0), .int .u8 (0), .int .u8 (0), .int .u8 (0), .int .u8 (0), .int .u8 (0), .int .u8 (0), .int .u8 (0), .int .u8 (0), .int .u8 (0), .int .u8 (0), .int .u8 (0), .int .u8 (0)], shape := .array 64 5 } := by kernel_rfl
theorem xdB9 : zD0 Tryd.prog 174 = true := by kernel_rfl
theorem en10 : zc0 Tryd.prog 10 = true := by kernel_rfl
theorem en11 : zc0 Tryd.prog 11 = true := by kernel_rfl
theorem en15 : zc0 Tryd.prog 15 = true := by kernel_rfl
theorem en16 : zc0 Tryd.prog 16 = true := by kernel_rfl
theorem en17 : zc0 Tryd.prog 17 = true := by kernel_rfl
theorem en18 : zc0 Tryd.prog 18 = true := by kernel_rfl
theorem en19 : zc0 Tryd.prog 19 = true := by kernel_rfl
theorem en20 : zc0 Tryd.prog 20 = true := by kernel_rfl
theorem en21 : zc0 Tryd.prog 21 = true := by kernel_rfl
theorem en22 : zc0 Tryd.prog 22 = true := by kernel_rfl
theorem en23 : zc0 Tryd.prog 23 = true := by kernel_rfl
theorem en24 : zc0 Tryd.prog 24 = true := by kernel_rfl
theorem en25 : zc0 Tryd.prog 25 = true := by kernel_rfl
theorem en28 : zc0 Tryd.prog 28 = true := by kernel_rfl
theorem en31 : zc0 Tryd.prog 31 = true := by kernel_rfl
theorem en33 : zc0 Tryd.prog 33 = true := by kernel_rfl
theorem en36 : zc0 Tryd.prog 36 = true := by kernel_rfl
theorem en40 : zc0 Tryd.prog 40 = true := by kernel_rfl
theorem en41 : zc0 Tryd.prog 41 = true := by kernel_rfl
theorem en42 : zc0 Tryd.prog 42 = true := by kernel_rfl
theorem en45 : zc0 Tryd.prog 45 = true := by kernel_rfl
theorem en46 : zc0 Tryd.prog 46 = true := by kernel_rfl
theorem en47 : zc0 Tryd.prog 47 = true := by kernel_rfl
theorem en48 : zc0 Tryd.prog 48 = true := by kernel_rfl
theorem en49 : zc0 Tryd.prog 49 = true := by kernel_rfl
theorem en50 : zc0 Tryd.prog 50 = true := by kernel_rfl
theorem en51 : zc0 Tryd.prog 51 = true := by kernel_rfl
theorem en52 : zc0 Tryd.prog 52 = true := by kernel_rfl
theorem en53 : zc0 Tryd.prog 53 = true := by kernel_rfl
theorem en54 : zc0 Tryd.prog 54 = true := by kernel_rfl
theorem en55 : zc0 Tryd.prog 55 = true := by kernel_rfl
theorem en56 : zc0 Tryd.prog 56 = true := by kernel_rfl
theorem en58 : zc0 Tryd.prog 58 = true := by kernel_rfl
theorem en59 : zc0 Tryd.prog 59 = true := by kernel_rfl
theorem en60 : zc0 Tryd.prog 60 = true := by kernel_rfl
theorem en61 : zc0 Tryd.prog 61 = true := by kernel_rfl
theorem en62 : zc0 Tryd.prog 62 = true := by kernel_rfl
theorem en63 : zc0 Tryd.prog 63 = true := by kernel_rfl
theorem en65 : zc0 Tryd.prog 65 = true := by kernel_rfl
theorem en66 : zc0 Tryd.prog 66 = true := by kernel_rfl
theorem en67 : zc0 Tryd.prog 67 = true := by kernel_rfl
theorem en68 : zc0 Tryd.prog 68 = true := by kernel_rfl
theorem en71 : zc0 Tryd.prog 71 = true := by kernel_rfl
theorem en72 : zc0 Tryd.prog 72 = true := by kernel_rfl
theorem en73 : zc0 Tryd.prog 73 = true := by kernel_rfl
theorem en75 : zc0 Tryd.prog 75 = true := by kernel_rfl
theorem en76 : zc0 Tryd.prog 76 = true := by kernel_rfl
theorem en77 : zc0 Tryd.prog 77 = true := by kernel_rfl
theorem en78 : zc0 Tryd.prog 78 = true := by kernel_rfl
theorem en79 : zc0 Tryd.prog 79 = true := by kernel_rfl
theorem en80 : zc0 Tryd.prog 80 = true := by kernel_rfl
theorem en81 : zc0 Tryd.prog 81 = true := by kernel_rfl
theorem en82 : zc0 Tryd.prog 82 = true := by kernel_rfl
theorem en83 : zc0 Tryd.prog 83 = true := by kernel_rfl
theorem en84 : zc0 Tryd.prog 84 = true := by kernel_rfl
theorem en85 : zc0 Tryd.prog 85 = true := by kernel_rfl
theorem en86 : zc0 Tryd.prog 86 = true := by kernel_rfl
theorem en87 : zc0 Tryd.prog 87 = true := by kernel_rfl
theorem en88 : zc0 Tryd.prog 88 = true := by kernel_rfl
theorem en89 : zc0 Tryd.prog 89 = true := by kernel_rfl
theorem en90 : zc0 Tryd.prog 90 = true := by kernel_rfl
theorem en91 : zc0 Tryd.prog 91 = true := by kernel_rfl
theorem en92 : zc0 Tryd.prog 92 = true := by kernel_rfl
theorem en93 : zc0 Tryd.prog 93 = true := by kernel_rfl
theorem en94 : zc0 Tryd.prog 94 = true := by kernel_rfl
theorem en95 : zc0 Tryd.prog 95 = true := by kernel_rfl
theorem en97 : zc0 Tryd.prog 97 = true := by kernel_rfl
theorem en98 : zc0 Tryd.prog 98 = true := by kernel_rfl
theorem en99 : zc0 Tryd.prog 99 = true := by kernel_rfl
theorem en100 : zc0 Tryd.prog 100 = true := by kernel_rfl
theorem zdp9 : zc0 Tryd.prog 101 = true := by kernel_rfl
theorem vcy9 : zc0 Tryd.prog 102 = true := by kernel_rfl
theorem xdp9 : zc0 Tryd.prog 103 = true := by kernel_rfl
theorem wdB9 : zc0 Tryd.prog 104 = true := by kernel_rfl
theorem vdB9 : zc0 Tryd.prog 105 = true := by kernel_rfl
theorem kdB9 : zc0 Tryd.prog 106 = true := by kernel_rfl
theorem qdC9 : zc0 Tryd.prog 107 = true := by kernel_rfl
theorem zdC9 : zc0 Tryd.prog 108 = true := by kernel_rfl
theorem wdp9 : zc0 Tryd.prog 109 = true := by kernel_rfl
theorem xdC9 : zc0 Tryd.prog 110 = true := by kernel_rfl
theorem wdC9 : zc0 Tryd.prog 111 = true := by kernel_rfl
theorem vdC9 : zc0 Tryd.prog 112 = true := by kernel_rfl
theorem kdC9 : zc0 Tryd.prog 113 = true := by kernel_rfl
theorem qdD9 : zc0 Tryd.prog 114 = true := by kernel_rfl
theorem zdD9 : zc0 Tryd.prog 115 = true := by kernel_rfl
theorem xdD9 : zc0 Tryd.prog 116 = true := by kernel_rfl
theorem mixed : Tryd.prog.follows .mixedOrders = true := by kernel_rfl
end Go.Proofs

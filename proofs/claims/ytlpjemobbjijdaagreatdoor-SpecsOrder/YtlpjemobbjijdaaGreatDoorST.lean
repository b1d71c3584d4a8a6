/- What the program's tables say of its types (made by wip/tools/tfacts.py): each a closed fact that the kernel reckons. -/
import Derived.Test.YtlpjemobbjijdaaGreatDoorV33
import Derived.Test.YtlpjemobbjijdaaGreatDoorProg
import Derived.KernelRfl
namespace Go.Proofs
open Go Go.V
set_option maxRecDepth 100000
theorem ti1 : qa0 Tryz.prog 1 = some { agg := false, sz := 1, bytes := 8, zero := [.lit .nilFunc], shape := .func } := by kernel_rfl
theorem ti2 : qa0 Tryz.prog 2 = some { agg := false, sz := 1, bytes := 8, zero := [.int .i64 (0)], shape := .int .i64 } := by kernel_rfl
theorem ti3 : qa0 Tryz.prog 3 = some { agg := false, sz := 1, bytes := 8, zero := [.int .i64 (0)], shape := .int .i64 } := by kernel_rfl
theorem ti4 : qa0 Tryz.prog 4 = some { agg := false, sz := 1, bytes := 1, zero := [.bool false], shape := .bool } := by kernel_rfl
theorem ti5 : qa0 Tryz.prog 5 = some { agg := false, sz := 1, bytes := 1, zero := [.int .u8 (0)], shape := .int .u8 } := by kernel_rfl
theorem ti6 : qa0 Tryz.prog 6 = some { agg := false, sz := 1, bytes := 1, zero := [.int .u8 (0)], shape := .int .u8 } := by kernel_rfl
theorem ti7 : qa0 Tryz.prog 7 = some { agg := true, sz := 4, bytes := 24, zero := [.int .i64 (0), .int .i64 (0), .bool false, .int .u8 (0)], shape := .struct [(0, 2), (1, 3), (2, 4), (3, 6)] } := by kernel_rfl
theorem ti8 : qa0 Tryz.prog 8 = some { agg := true, sz := 4, bytes := 24, zero := [.int .i64 (0), .int .i64 (0), .bool false, .int .u8 (0)], shape := .struct [(0, 2), (1, 3), (2, 4), (3, 6)] } := by kernel_rfl
theorem ti9 : qa0 Tryz.prog 9 = some { agg := false, sz := 1, bytes := 16, zero := [.str []], shape := .str } := by kernel_rfl
theorem ti10 : qa0 Tryz.prog 10 = some { agg := false, sz := 1, bytes := 16, zero := [.str []], shape := .str } := by kernel_rfl
theorem ti11 : qa0 Tryz.prog 11 = some { agg := false, sz := 1, bytes := 16, zero := [.str []], shape := .str } := by kernel_rfl
theorem ti12 : qa0 Tryz.prog 12 = some { agg := false, sz := 1, bytes := 8, zero := [.int .u64 (0)], shape := .int .u64 } := by kernel_rfl
theorem ti13 : qa0 Tryz.prog 13 = some { agg := true, sz := 2, bytes := 24, zero := [.str [], .int .u64 (0)], shape := .struct [(0, 9), (1, 12)] } := by kernel_rfl
theorem ti14 : qa0 Tryz.prog 14 = some { agg := true, sz := 2, bytes := 24, zero := [.str [], .int .u64 (0)], shape := .struct [(0, 9), (1, 12)] } := by kernel_rfl
theorem ti15 : qa0 Tryz.prog 15 = some { agg := false, sz := 1, bytes := 8, zero := [.lit (.pointer none)], shape := .ptr 225 } := by kernel_rfl
theorem ti16 : qa0 Tryz.prog 16 = some { agg := false, sz := 1, bytes := 8, zero := [.lit (.pointer none)], shape := .ptr 228 } := by kernel_rfl
theorem ti17 : qa0 Tryz.prog 17 = some { agg := false, sz := 1, bytes := 8, zero := [.lit (.pointer none)], shape := .ptr 235 } := by kernel_rfl
theorem ti18 : qa0 Tryz.prog 18 = some { agg := true, sz := 1, bytes := 8, zero := [.lit (.pointer none)], shape := .struct [(0, 17)] } := by kernel_rfl
theorem ti19 : qa0 Tryz.prog 19 = some { agg := true, sz := 1, bytes := 8, zero := [.lit (.pointer none)], shape := .struct [(0, 17)] } := by kernel_rfl
theorem ti20 : qa0 Tryz.prog 20 = some { agg := false, sz := 1, bytes := 16, zero := [.lit .nilIface], shape := .iface } := by kernel_rfl
theorem ti21 : qa0 Tryz.prog 21 = some { agg := false, sz := 1, bytes := 4, zero := [.int .i32 (0)], shape := .int .i32 } := by kernel_rfl
theorem ti22 : qa0 Tryz.prog 22 = some { agg := false, sz := 1, bytes := 24, zero := [.sl 0 [] (some 0)], shape := .slice 50 } := by kernel_rfl
theorem ti23 : qa0 Tryz.prog 23 = some { agg := true, sz := 3, bytes := 40, zero := [.int .i64 (0), .int .i64 (0), .sl 0 [] (some 0)], shape := .struct [(0, 3), (1, 3), (2, 22)] } := by kernel_rfl
theorem ti24 : qa0 Tryz.prog 24 = some { agg := true, sz := 3, bytes := 40, zero := [.int .i64 (0), .int .i64 (0), .sl 0 [] (some 0)], shape := .struct [(0, 3), (1, 3), (2, 22)] } := by kernel_rfl
theorem ti25 : qa0 Tryz.prog 25 = some { agg := false, sz := 1, bytes := 24, zero := [.sl 0 [] (some 0)], shape := .slice 9 } := by kernel_rfl
theorem ti26 : qa0 Tryz.prog 26 = some { agg := true, sz := 7, bytes := 128, zero := [.str [], .int .i64 (0), .int .i64 (0), .sl 0 [] (some 0), .sl 0 [] (some 0), .sl 0 [] (some 0), .sl 0 [] (some 0)], shape := .struct [(0, 9), (1, 24), (4, 25), (5, 25), (6, 25)] } := by kernel_rfl
theorem ti27 : qa0 Tryz.prog 27 = some { agg := true, sz := 7, bytes := 128, zero := [.str [], .int .i64 (0), .int .i64 (0), .sl 0 [] (some 0), .sl 0 [] (some 0), .sl 0 [] (some 0), .sl 0 [] (some 0)], shape := .struct [(0, 9), (1, 24), (4, 25), (5, 25), (6, 25)] } := by kernel_rfl
theorem ti28 : qa0 Tryz.prog 28 = some { agg := false, sz := 1, bytes := 8, zero := [.lit .nilFunc], shape := .func } := by kernel_rfl
theorem ti29 : qa0 Tryz.prog 29 = some { agg := false, sz := 1, bytes := 8, zero := [.int .i64 (0)], shape := .int .i64 } := by kernel_rfl
theorem ti30 : qa0 Tryz.prog 30 = some { agg := false, sz := 1, bytes := 8, zero := [.lit .nilFunc], shape := .func } := by kernel_rfl
theorem ti31 : qa0 Tryz.prog 31 = some { agg := false, sz := 1, bytes := 8, zero := [.lit .nilFunc], shape := .func } := by kernel_rfl
theorem ti33 : qa0 Tryz.prog 33 = some { agg := false, sz := 1, bytes := 8, zero := [.lit .nilFunc], shape := .func } := by kernel_rfl
theorem ti34 : qa0 Tryz.prog 34 = some { agg := false, sz := 1, bytes := 8, zero := [.lit .nilFunc], shape := .func } := by kernel_rfl
theorem ti35 : qa0 Tryz.prog 35 = some { agg := false, sz := 1, bytes := 8, zero := [.lit .nilFunc], shape := .func } := by kernel_rfl
theorem ti36 : qa0 Tryz.prog 36 = some { agg := false, sz := 1, bytes := 24, zero := [.sl 0 [] (some 0)], shape := .slice 3 } := by kernel_rfl
theorem ti38 : qa0 Tryz.prog 38 = some { agg := false, sz := 1, bytes := 8, zero := [.lit .nilFunc], shape := .func } := by kernel_rfl
theorem ti39 : qa0 Tryz.prog 39 = some { agg := false, sz := 1, bytes := 8, zero := [.lit .nilFunc], shape := .func } := by kernel_rfl
theorem ti40 : qa0 Tryz.prog 40 = some { agg := false, sz := 1, bytes := 8, zero := [.lit .nilFunc], shape := .func } := by kernel_rfl
theorem ti41 : qa0 Tryz.prog 41 = some { agg := false, sz := 1, bytes := 8, zero := [.lit .nilFunc], shape := .func } := by kernel_rfl
theorem ti42 : qa0 Tryz.prog 42 = some { agg := false, sz := 1, bytes := 24, zero := [.sl 0 [] (some 0)], shape := .slice 71 } := by kernel_rfl
theorem ti43 : qa0 Tryz.prog 43 = some { agg := true, sz := 5, bytes := 32, zero := [.int .u8 (0), .int .u8 (0), .int .u8 (0), .bool false, .sl 0 [] (some 0)], shape := .struct [(0, 5), (1, 5), (2, 5), (3, 4), (4, 42)] } := by kernel_rfl
theorem ti44 : qa0 Tryz.prog 44 = some { agg := true, sz := 5, bytes := 32, zero := [.int .u8 (0), .int .u8 (0), .int .u8 (0), .bool false, .sl 0 [] (some 0)], shape := .struct [(0, 5), (1, 5), (2, 5), (3, 4), (4, 42)] } := by kernel_rfl
theorem ti45 : qa0 Tryz.prog 45 = some { agg := true, sz := 6, bytes := 40, zero := [.int .u8 (0), .int .u8 (0), .int .u8 (0), .bool false, .sl 0 [] (some 0), .int .u8 (0)], shape := .struct [(0, 44), (5, 5)] } := by kernel_rfl
theorem ti46 : qa0 Tryz.prog 46 = some { agg := true, sz := 6, bytes := 40, zero := [.int .u8 (0), .int .u8 (0), .int .u8 (0), .bool false, .sl 0 [] (some 0), .int .u8 (0)], shape := .struct [(0, 44), (5, 5)] } := by kernel_rfl
theorem ti47 : qa0 Tryz.prog 47 = some { agg := false, sz := 1, bytes := 8, zero := [.lit .nilFunc], shape := .func } := by kernel_rfl
theorem ti49 : qa0 Tryz.prog 49 = some { agg := false, sz := 1, bytes := 8, zero := [.lit .nilFunc], shape := .func } := by kernel_rfl
theorem ti50 : qa0 Tryz.prog 50 = some { agg := false, sz := 1, bytes := 24, zero := [.sl 0 [] (some 0)], shape := .slice 70 } := by kernel_rfl
theorem ti51 : qa0 Tryz.prog 51 = some { agg := false, sz := 1, bytes := 8, zero := [.lit .nilFunc], shape := .func } := by kernel_rfl
theorem ti53 : qa0 Tryz.prog 53 = some { agg := false, sz := 1, bytes := 8, zero := [.lit .nilFunc], shape := .func } := by kernel_rfl
theorem ti54 : qa0 Tryz.prog 54 = some { agg := false, sz := 1, bytes := 8, zero := [.lit .nilFunc], shape := .func } := by kernel_rfl
theorem ti55 : qa0 Tryz.prog 55 = some { agg := false, sz := 1, bytes := 24, zero := [.sl 0 [] (some 0)], shape := .slice 5 } := by kernel_rfl
theorem ti56 : qa0 Tryz.prog 56 = some { agg := false, sz := 1, bytes := 8, zero := [.lit .nilFunc], shape := .func } := by kernel_rfl
theorem ti57 : qa0 Tryz.prog 57 = some { agg := false, sz := 1, bytes := 8, zero := [.lit .nilFunc], shape := .func } := by kernel_rfl
theorem ti58 : qa0 Tryz.prog 58 = some { agg := true, sz := 1, bytes := 24, zero := [.sl 0 [] (some 0)], shape := .struct [(0, 55)] } := by kernel_rfl
theorem ti59 : qa0 Tryz.prog 59 = some { agg := true, sz := 1, bytes := 24, zero := [.sl 0 [] (some 0)], shape := .struct [(0, 55)] } := by kernel_rfl
theorem ti60 : qa0 Tryz.prog 60 = some { agg := false, sz := 1, bytes := 8, zero := [.lit .nilFunc], shape := .func } := by kernel_rfl
theorem ti61 : qa0 Tryz.prog 61 = some { agg := false, sz := 1, bytes := 8, zero := [.lit .nilFunc], shape := .func } := by kernel_rfl
theorem ti63 : qa0 Tryz.prog 63 = some { agg := false, sz := 1, bytes := 8, zero := [.lit .nilFunc], shape := .func } := by kernel_rfl
theorem ti64 : qa0 Tryz.prog 64 = some { agg := false, sz := 1, bytes := 8, zero := [.lit .nilFunc], shape := .func } := by kernel_rfl
theorem ti65 : qa0 Tryz.prog 65 = some { agg := false, sz := 1, bytes := 8, zero := [.lit .nilFunc], shape := .func } := by kernel_rfl
theorem ti66 : qa0 Tryz.prog 66 = some { agg := false, sz := 1, bytes := 8, zero := [.lit .nilFunc], shape := .func } := by kernel_rfl
theorem ti67 : qa0 Tryz.prog 67 = some { agg := false, sz := 1, bytes := 8, zero := [.lit .nilFunc], shape := .func } := by kernel_rfl
theorem ti68 : qa0 Tryz.prog 68 = some { agg := false, sz := 1, bytes := 8, zero := [.lit .nilFunc], shape := .func } := by kernel_rfl
theorem ti69 : qa0 Tryz.prog 69 = some { agg := true, sz := 2, bytes := 16, zero := [.int .i64 (0), .int .i64 (0)], shape := .struct [(0, 3), (1, 3)] } := by kernel_rfl
theorem ti70 : qa0 Tryz.prog 70 = some { agg := true, sz := 2, bytes := 16, zero := [.int .i64 (0), .int .i64 (0)], shape := .struct [(0, 3), (1, 3)] } := by kernel_rfl
theorem et70 : qB0 Tryz.prog 70 = true := by kernel_rfl
theorem ti71 : qa0 Tryz.prog 71 = some { agg := false, sz := 1, bytes := 2, zero := [.int .u16 (0)], shape := .int .u16 } := by kernel_rfl
theorem ti72 : qa0 Tryz.prog 72 = some { agg := false, sz := 1, bytes := 24, zero := [.sl 0 [] (some 0)], shape := .slice 25 } := by kernel_rfl
theorem ti73 : qa0 Tryz.prog 73 = some { agg := false, sz := 1, bytes := 8, zero := [.lit .nilFunc], shape := .func } := by kernel_rfl
theorem ti74 : qa0 Tryz.prog 74 = some { agg := false, sz := 1, bytes := 8, zero := [.lit .nilFunc], shape := .func } := by kernel_rfl
theorem ti75 : qa0 Tryz.prog 75 = some { agg := false, sz := 1, bytes := 8, zero := [.lit .nilFunc], shape := .func } := by kernel_rfl
theorem ti76 : qa0 Tryz.prog 76 = some { agg := false, sz := 1, bytes := 8, zero := [.lit .nilFunc], shape := .func } := by kernel_rfl
theorem ti77 : qa0 Tryz.prog 77 = some { agg := false, sz := 1, bytes := 8, zero := [.lit .nilFunc], shape := .func } := by kernel_rfl
theorem ti78 : qa0 Tryz.prog 78 = some { agg := false, sz := 1, bytes := 8, zero := [.lit .nilFunc], shape := .func } := by kernel_rfl
theorem ti79 : qa0 Tryz.prog 79 = some { agg := false, sz := 1, bytes := 8, zero := [.lit .nilFunc], shape := .func } := by kernel_rfl
theorem ti80 : qa0 Tryz.prog 80 = some { agg := false, sz := 1, bytes := 8, zero := [.lit .nilFunc], shape := .func } := by kernel_rfl
theorem ti81 : qa0 Tryz.prog 81 = some { agg := false, sz := 1, bytes := 8, zero := [.lit .nilFunc], shape := .func } := by kernel_rfl
theorem ti82 : qa0 Tryz.prog 82 = some { agg := false, sz := 1, bytes := 8, zero := [.lit .nilFunc], shape := .func } := by kernel_rfl
theorem ti83 : qa0 Tryz.prog 83 = some { agg := false, sz := 1, bytes := 8, zero := [.lit .nilFunc], shape := .func } := by kernel_rfl
theorem ti84 : qa0 Tryz.prog 84 = some { agg := false, sz := 1, bytes := 8, zero := [.lit .nilFunc], shape := .func } := by kernel_rfl
theorem ti85 : qa0 Tryz.prog 85 = some { agg := false, sz := 1, bytes := 8, zero := [.lit .nilFunc], shape := .func } := by kernel_rfl
theorem ti86 : qa0 Tryz.prog 86 = some { agg := false, sz := 1, bytes := 8, zero := [.lit .nilFunc], shape := .func } := by kernel_rfl
theorem ti87 : qa0 Tryz.prog 87 = some { agg := false, sz := 1, bytes := 8, zero := [.lit (.pointer none)], shape := .ptr 89 } := by kernel_rfl
theorem ti88 : qa0 Tryz.prog 88 = some { agg := true, sz := 2, bytes := 32, zero := [.lit (.pointer none), .sl 0 [] (some 0)], shape := .struct [(0, 87), (1, 55)] } := by kernel_rfl
theorem ti89 : qa0 Tryz.prog 89 = some { agg := true, sz := 2, bytes := 32, zero := [.lit (.pointer none), .sl 0 [] (some 0)], shape := .struct [(0, 87), (1, 55)] } := by kernel_rfl
theorem ti90 : qa0 Tryz.prog 90 = some { agg := false, sz := 1, bytes := 16, zero := [.lit .nilIface], shape := .iface } := by kernel_rfl
theorem ti91 : qa0 Tryz.prog 91 = some { agg := false, sz := 1, bytes := 16, zero := [.lit .nilIface], shape := .iface } := by kernel_rfl
theorem ti93 : qa0 Tryz.prog 93 = some { agg := false, sz := 1, bytes := 8, zero := [.lit .nilFunc], shape := .func } := by kernel_rfl
theorem ti94 : qa0 Tryz.prog 94 = some { agg := false, sz := 1, bytes := 8, zero := [.lit .nilFunc], shape := .func } := by kernel_rfl
theorem ti95 : qa0 Tryz.prog 95 = some { agg := false, sz := 1, bytes := 8, zero := [.lit .nilFunc], shape := .func } := by kernel_rfl
theorem ti96 : qa0 Tryz.prog 96 = some { agg := false, sz := 1, bytes := 8, zero := [.lit .nilFunc], shape := .func } := by kernel_rfl
theorem ti97 : qa0 Tryz.prog 97 = some { agg := false, sz := 1, bytes := 8, zero := [.lit .nilFunc], shape := .func } := by kernel_rfl
theorem ti98 : qa0 Tryz.prog 98 = some { agg := false, sz := 1, bytes := 8, zero := [.lit .nilFunc], shape := .func } := by kernel_rfl
theorem ti99 : qa0 Tryz.prog 99 = some { agg := false, sz := 1, bytes := 8, zero := [.lit (.map none)], shape := .map 9 3 } := by kernel_rfl
theorem xdB9 : qa0 Tryz.prog 100 = some { agg := false, sz := 1, bytes := 8, zero := [.lit .nilFunc], shape := .func } := by kernel_rfl
theorem wdB9 : qa0 Tryz.prog 102 = some { agg := false, sz := 1, bytes := 8, zero := [.lit .nilFunc], shape := .func } := by kernel_rfl
theorem vdB9 : qa0 Tryz.prog 103 = some { agg := false, sz := 1, bytes := 8, zero := [.lit .nilFunc], shape := .func } := by kernel_rfl
theorem kdB9 : qa0 Tryz.prog 104 = some { agg := false, sz := 1, bytes := 8, zero := [.lit .nilFunc], shape := .func } := by kernel_rfl
theorem qdC9 : qa0 Tryz.prog 105 = some { agg := false, sz := 1, bytes := 8, zero := [.lit .nilFunc], shape := .func } := by kernel_rfl
theorem zdC9 : qa0 Tryz.prog 106 = some { agg := false, sz := 1, bytes := 8, zero := [.lit .nilFunc], shape := .func } := by kernel_rfl
theorem xdC9 : qa0 Tryz.prog 107 = some { agg := false, sz := 1, bytes := 24, zero := [.sl 0 [] (some 0)], shape := .slice 115 } := by kernel_rfl
theorem wdC9 : qa0 Tryz.prog 109 = some { agg := false, sz := 1, bytes := 8, zero := [.lit .nilFunc], shape := .func } := by kernel_rfl
theorem vdC9 : qa0 Tryz.prog 110 = some { agg := true, sz := 2, bytes := 16, zero := [.int .i64 (0), .int .i64 (0)], shape := .struct [(0, 3), (1, 29)] } := by kernel_rfl
theorem kdC9 : qa0 Tryz.prog 111 = some { agg := true, sz := 2, bytes := 16, zero := [.int .i64 (0), .int .i64 (0)], shape := .struct [(0, 3), (1, 29)] } := by kernel_rfl
theorem qdD9 : qB0 Tryz.prog 111 = true := by kernel_rfl
theorem zdD9 : qa0 Tryz.prog 113 = some { agg := false, sz := 1, bytes := 1, zero := [.int .u8 (0)], shape := .int .u8 } := by kernel_rfl
theorem xdD9 : qa0 Tryz.prog 114 = some { agg := true, sz := 4, bytes := 40, zero := [.int .u8 (0), .str [], .int .i64 (0), .int .i64 (0)], shape := .struct [(0, 113), (1, 9), (2, 3), (3, 3)] } := by kernel_rfl
theorem wdD9 : qa0 Tryz.prog 115 = some { agg := true, sz := 4, bytes := 40, zero := [.int .u8 (0), .str [], .int .i64 (0), .int .i64 (0)], shape := .struct [(0, 113), (1, 9), (2, 3), (3, 3)] } := by kernel_rfl
theorem vdD9 : qB0 Tryz.prog 115 = true := by kernel_rfl
theorem kdD9 : qa0 Tryz.prog 116 = some { agg := false, sz := 1, bytes := 8, zero := [.lit (.pointer none)], shape := .ptr 118 } := by kernel_rfl
theorem qdE9 : qa0 Tryz.prog 117 = some { agg := true, sz := 9, bytes := 160, zero := [.sl 0 [] (some 0), .int .i64 (0), .str [], .int .i64 (0), .int .i64 (0), .sl 0 [] (some 0), .sl 0 [] (some 0), .sl 0 [] (some 0), .sl 0 [] (some 0)], shape := .struct [(0, 107), (1, 3), (2, 27)] } := by kernel_rfl
theorem zdE9 : qa0 Tryz.prog 118 = some { agg := true, sz := 9, bytes := 160, zero := [.sl 0 [] (some 0), .int .i64 (0), .str [], .int .i64 (0), .int .i64 (0), .sl 0 [] (some 0), .sl 0 [] (some 0), .sl 0 [] (some 0), .sl 0 [] (some 0)], shape := .struct [(0, 107), (1, 3), (2, 27)] } := by kernel_rfl
theorem xdE9 : qa0 Tryz.prog 119 = some { agg := false, sz := 1, bytes := 24, zero := [.sl 0 [] (some 0)], shape := .slice 1 } := by kernel_rfl
theorem wdE9 : qa0 Tryz.prog 121 = some { agg := false, sz := 1, bytes := 8, zero := [.lit .nilFunc], shape := .func } := by kernel_rfl
theorem vdE9 : qa0 Tryz.prog 122 = some { agg := true, sz := 10, bytes := 168, zero := [.sl 0 [] (some 0), .int .i64 (0), .int .i64 (0), .str [], .int .i64 (0), .int .i64 (0), .sl 0 [] (some 0), .sl 0 [] (some 0), .sl 0 [] (some 0), .sl 0 [] (some 0)], shape := .struct [(0, 107), (1, 3), (2, 3), (3, 27)] } := by kernel_rfl
theorem kdE9 : qa0 Tryz.prog 123 = some { agg := true, sz := 10, bytes := 168, zero := [.sl 0 [] (some 0), .int .i64 (0), .int .i64 (0), .str [], .int .i64 (0), .int .i64 (0), .sl 0 [] (some 0), .sl 0 [] (some 0), .sl 0 [] (some 0), .sl 0 [] (some 0)], shape := .struct [(0, 107), (1, 3), (2, 3), (3, 27)] } := by kernel_rfl
theorem qdF9 : qa0 Tryz.prog 124 = some { agg := false, sz := 1, bytes := 8, zero := [.lit .nilFunc], shape := .func } := by kernel_rfl
theorem zdF9 : qa0 Tryz.prog 126 = some { agg := false, sz := 1, bytes := 8, zero := [.lit .nilFunc], shape := .func } := by kernel_rfl
theorem xdF9 : qa0 Tryz.prog 128 = some { agg := false, sz := 1, bytes := 8, zero := [.lit .nilFunc], shape := .func } := by kernel_rfl
theorem wdF9 : qa0 Tryz.prog 130 = some { agg := false, sz := 1, bytes := 8, zero := [.lit .nilFunc], shape := .func } := by kernel_rfl
theorem vdF9 : qa0 Tryz.prog 131 = some { agg := false, sz := 1, bytes := 8, zero := [.lit .nilFunc], shape := .func } := by kernel_rfl
theorem kdF9 : qa0 Tryz.prog 132 = some { agg := false, sz := 1, bytes := 8, zero := [.lit .nilFunc], shape := .func } := by kernel_rfl
theorem qdG9 : qa0 Tryz.prog 133 = some { agg := false, sz := 1, bytes := 8, zero := [.lit .nilFunc], shape := .func } := by kernel_rfl
theorem zdG9 : qa0 Tryz.prog 134 = some { agg := false, sz := 1, bytes := 8, zero := [.lit .nilFunc], shape := .func } := by kernel_rfl
theorem xdG9 : qa0 Tryz.prog 135 = some { agg := false, sz := 1, bytes := 8, zero := [.lit .nilFunc], shape := .func } := by kernel_rfl
theorem wdG9 : qa0 Tryz.prog 136 = some { agg := false, sz := 1, bytes := 8, zero := [.lit .nilFunc], shape := .func } := by kernel_rfl
theorem vdG9 : qa0 Tryz.prog 137 = some { agg := false, sz := 1, bytes := 8, zero := [.lit .nilFunc], shape := .func } := by kernel_rfl
theorem kdG9 : qa0 Tryz.prog 138 = some { agg := false, sz := 1, bytes := 8, zero := [.lit .nilFunc], shape := .func } := by kernel_rfl
theorem qdH9 : qa0 Tryz.prog 139 = some { agg := false, sz := 1, bytes := 8, zero := [.lit .nilFunc], shape := .func } := by kernel_rfl
theorem zdH9 : qa0 Tryz.prog 140 = some { agg := false, sz := 1, bytes := 8, zero := [.lit .nilFunc], shape := .func } := by kernel_rfl
theorem xdH9 : qa0 Tryz.prog 141 = some { agg := false, sz := 1, bytes := 8, zero := [.lit .nilFunc], shape := .func } := by kernel_rfl
theorem wdH9 : qa0 Tryz.prog 142 = some { agg := false, sz := 1, bytes := 8, zero := [.lit .nilFunc], shape := .func } := by kernel_rfl
theorem vdH9 : qa0 Tryz.prog 143 = some { agg := false, sz := 1, bytes := 8, zero := [.lit .nilFunc], shape := .func } := by kernel_rfl
theorem kdH9 : qa0 Tryz.prog 144 = some { agg := false, sz := 1, bytes := 8, zero := [.lit .nilFunc], shape := .func } := by kernel_rfl
theorem qdI9 : qa0 Tryz.prog 145 = some { agg := false, sz := 1, bytes := 8, zero := [.lit (.pointer none)], shape := .ptr 5 } := by kernel_rfl
theorem zdI9 : qa0 Tryz.prog 146 = some { agg := false, sz := 1, bytes := 8, zero := [.lit .nilFunc], shape := .func } := by kernel_rfl
theorem xdI9 : qa0 Tryz.prog 147 = some { agg := false, sz := 1, bytes := 8, zero := [.lit .nilFunc], shape := .func } := by kernel_rfl
theorem wdI9 : qa0 Tryz.prog 148 = some { agg := false, sz := 1, bytes := 8, zero := [.lit .nilFunc], shape := .func } := by kernel_rfl
theorem vdI9 : qa0 Tryz.prog 149 = some { agg := false, sz := 1, bytes := 8, zero := [.lit .nilFunc], shape := .func } := by kernel_rfl
theorem kdI9 : qa0 Tryz.prog 150 = some { agg := false, sz := 1, bytes := 8, zero := [.lit .nilFunc], shape := .func } := by kernel_rfl
theorem qdJ9 : qa0 Tryz.prog 151 = some { agg := false, sz := 1, bytes := 8, zero := [.lit .nilFunc], shape := .func } := by kernel_rfl
theorem zdJ9 : qa0 Tryz.prog 152 = some { agg := false, sz := 1, bytes := 8, zero := [.lit .nilFunc], shape := .func } := by kernel_rfl
theorem xdJ9 : qa0 Tryz.prog 154 = some { agg := false, sz := 1, bytes := 8, zero := [.lit .nilFunc], shape := .func } := by kernel_rfl
theorem wdJ9 : qa0 Tryz.prog 155 = some { agg := false, sz := 1, bytes := 8, zero := [.lit .nilFunc], shape := .func } := by kernel_rfl
theorem vdJ9 : qa0 Tryz.prog 156 = some { agg := false, sz := 1, bytes := 8, zero := [.lit .nilFunc], shape := .func } := by kernel_rfl
theorem kdJ9 : qa0 Tryz.prog 157 = some { agg := false, sz := 1, bytes := 8, zero := [.lit .nilFunc], shape := .func } := by kernel_rfl
theorem qdK9 : qa0 Tryz.prog 158 = some { agg := false, sz := 1, bytes := 8, zero := [.lit .nilFunc], shape := .func } := by kernel_rfl
theorem zdK9 : qa0 Tryz.prog 159 = some { agg := false, sz := 1, bytes := 8, zero := [.lit .nilFunc], shape := .func } := by kernel_rfl
theorem xdK9 : qa0 Tryz.prog 161 = some { agg := false, sz := 1, bytes := 8, zero := [.lit .nilFunc], shape := .func } := by kernel_rfl
theorem wdK9 : qa0 Tryz.prog 162 = some { agg := false, sz := 1, bytes := 8, zero := [.lit .nilFunc], shape := .func } := by kernel_rfl
theorem vdK9 : qa0 Tryz.prog 163 = some { agg := false, sz := 1, bytes := 8, zero := [.lit .nilFunc], shape := .func } := by kernel_rfl
theorem kdK9 : qa0 Tryz.prog 164 = some { agg := false, sz := 1, bytes := 8, zero := [.lit .nilFunc], shape := .func } := by kernel_rfl
theorem qdL9 : qa0 Tryz.prog 165 = some { agg := false, sz := 1, bytes := 8, zero := [.lit .nilFunc], shape := .func } := by kernel_rfl
theorem zdL9 : qa0 Tryz.prog 166 = some { agg := false, sz := 1, bytes := 8, zero := [.lit .nilFunc], shape := .func } := by kernel_rfl
theorem xdL9 : qa0 Tryz.prog 167 = some { agg := false, sz := 1, bytes := 8, zero := [.lit .nilFunc], shape := .func } := by kernel_rfl
theorem wdL9 : qa0 Tryz.prog 168 = some { agg := false, sz := 1, bytes := 8, zero := [.int .u64 (0)], shape := .int .u64 } := by kernel_rfl
theorem vdL9 : qa0 Tryz.prog 170 = some { agg := false, sz := 1, bytes := 8, zero := [.lit .nilFunc], shape := .func } := by kernel_rfl
theorem kdL9 : qa0 Tryz.prog 171 = some { agg := false, sz := 1, bytes := 8, zero := [.lit .nilFunc], shape := .func } := by kernel_rfl
theorem qdM9 : qa0 Tryz.prog 173 = some { agg := false, sz := 1, bytes := 8, zero := [.lit .nilFunc], shape := .func } := by kernel_rfl
theorem zdM9 : qa0 Tryz.prog 174 = some { agg := false, sz := 1, bytes := 8, zero := [.lit .nilFunc], shape := .func } := by kernel_rfl
theorem xdM9 : qa0 Tryz.prog 176 = some { agg := false, sz := 1, bytes := 8, zero := [.lit .nilFunc], shape := .func } := by kernel_rfl
theorem wdM9 : qa0 Tryz.prog 177 = some { agg := false, sz := 1, bytes := 8, zero := [.lit .nilFunc], shape := .func } := by kernel_rfl
theorem vdM9 : qa0 Tryz.prog 178 = some { agg := false, sz := 1, bytes := 8, zero := [.int .i64 (0)], shape := .int .i64 } := by kernel_rfl
theorem kdM9 : qa0 Tryz.prog 180 = some { agg := false, sz := 1, bytes := 8, zero := [.lit .nilFunc], shape := .func } := by kernel_rfl
theorem qdN9 : qa0 Tryz.prog 181 = some { agg := false, sz := 1, bytes := 8, zero := [.lit .nilFunc], shape := .func } := by kernel_rfl
theorem zdN9 : qa0 Tryz.prog 182 = some { agg := false, sz := 1, bytes := 8, zero := [.lit .nilFunc], shape := .func } := by kernel_rfl
theorem xdN9 : qa0 Tryz.prog 183 = some { agg := false, sz := 1, bytes := 8, zero := [.lit .nilFunc], shape := .func } := by kernel_rfl
theorem wdN9 : qa0 Tryz.prog 184 = some { agg := false, sz := 1, bytes := 8, zero := [.lit .nilFunc], shape := .func } := by kernel_rfl
theorem vdN9 : qa0 Tryz.prog 185 = some { agg := false, sz := 1, bytes := 8, zero := [.lit .nilFunc], shape := .func } := by kernel_rfl
theorem kdN9 : qa0 Tryz.prog 186 = some { agg := false, sz := 1, bytes := 4, zero := [.int .u32 (0)], shape := .int .u32 } := by kernel_rfl
theorem qdO9 : qa0 Tryz.prog 187 = some { agg := false, sz := 1, bytes := 8, zero := [.lit .nilFunc], shape := .func } := by kernel_rfl
theorem zdO9 : qa0 Tryz.prog 188 = some { agg := false, sz := 1, bytes := 8, zero := [.int .u64 (0)], shape := .int .u64 } := by kernel_rfl
theorem xdO9 : qa0 Tryz.prog 189 = some { agg := false, sz := 1, bytes := 8, zero := [.lit .nilFunc], shape := .func } := by kernel_rfl
theorem wdO9 : qa0 Tryz.prog 191 = some { agg := false, sz := 1, bytes := 8, zero := [.lit .nilFunc], shape := .func } := by kernel_rfl
theorem vdO9 : qa0 Tryz.prog 192 = some { agg := false, sz := 1, bytes := 8, zero := [.lit .nilFunc], shape := .func } := by kernel_rfl
theorem kdO9 : qa0 Tryz.prog 193 = some { agg := false, sz := 1, bytes := 8, zero := [.lit .nilFunc], shape := .func } := by kernel_rfl
theorem qdP9 : qa0 Tryz.prog 194 = some { agg := true, sz := 5, bytes := 80, zero := [.str [], .str [], .str [], .str [], .str []], shape := .array 5 9 } := by kernel_rfl
theorem zdP9 : qB0 Tryz.prog 194 = true := by kernel_rfl
theorem xdP9 : qa0 Tryz.prog 196 = some { agg := false, sz := 1, bytes := 8, zero := [.lit .nilFunc], shape := .func } := by kernel_rfl
theorem wdP9 : qa0 Tryz.prog 198 = some { agg := false, sz := 1, bytes := 8, zero := [.lit .nilFunc], shape := .func } := by kernel_rfl
theorem vdP9 : qa0 Tryz.prog 199 = some { agg := false, sz := 1, bytes := 8, zero := [.int .u64 (0)], shape := .int .u64 } := by kernel_rfl
theorem kdP9 : qa0 Tryz.prog 200 = some { agg := false, sz := 1, bytes := 8, zero := [.lit .nilFunc], shape := .func } := by kernel_rfl
theorem qdQ9 : qa0 Tryz.prog 201 = some { agg := false, sz := 1, bytes := 8, zero := [.lit .nilFunc], shape := .func } := by kernel_rfl
theorem zdQ9 : qa0 Tryz.prog 202 = some { agg := false, sz := 1, bytes := 8, zero := [.lit .nilFunc], shape := .func } := by kernel_rfl
theorem xdQ9 : qa0 Tryz.prog 203 = some { agg := false, sz := 1, bytes := 8, zero := [.lit (.pointer none)], shape := .ptr 3 } := by kernel_rfl
theorem wdQ9 : qa0 Tryz.prog 204 = some { agg := false, sz := 1, bytes := 8, zero := [.lit .nilFunc], shape := .func } := by kernel_rfl
theorem vdQ9 : qa0 Tryz.prog 205 = some { agg := false, sz := 1, bytes := 8, zero := [.lit .nilFunc], shape := .func } := by kernel_rfl
theorem kdQ9 : qa0 Tryz.prog 206 = some { agg := false, sz := 1, bytes := 8, zero := [.lit .nilFunc], shape := .func } := by kernel_rfl
theorem qdR9 : qa0 Tryz.prog 207 = some { agg := true, sz := 256, bytes := 256, zero := [.bool false, .bool false, .bool false, .bool false, .bool false, .bool false, .bool false, .bool false, .bool false, .bool false, .bool false, .bool false, .bool false, .bool false, .bool false, .bool false, .bool false, .bool false, .bool false, .bool false, .bool false, .bool false, .bool false, .bool false, .bool false, .bool false, .bool false, .bool false, .bool false, .bool false, .bool false, .bool false, .bool false, .bool false, .bool false, .bool false, .bool false, .bool false, .bool false, .bool false, .bool false, .bool false, .bool false, .bool false, .bool false, .bool false, .bool false, .bool false, .bool false, .bool false, .bool false, .bool false, .bool false, .bool false, .bool false, .bool false, .bool false, .bool false, .bool false, .bool false, .bool false, .bool false, .bool false, .bool false, .bool false, .bool false, .bool false, .bool false, .bool false, .bool false, .bool false, .bool false, .bool false, .bool false, .bool false, .bool false, .bool false, .bool false, .bool false, .bool false, .bool false, .bool false, .bool false, .bool false, .bool false, .bool false, .bool false, .bool false, .bool false, .bool false, .bool false, .bool false, .bool false, .bool false, .bool false, .bool false, .bool false, .bool false, .bool false, .bool false, .bool false, .bool false, .bool false, .bool false, .bool false, .bool false, .bool false, .bool false, .bool false, .bool false, .bool false, .bool false, .bool false, .bool false, .bool false, .bool false, .bool false, .bool false, .bool false, .bool false, .bool false, .bool false, .bool false, .bool false, .bool false, .bool false, .bool false, .bool false, .bool false, .bool false, .bool false, .bool false, .bool false, .bool false, .bool false, .bool false, .bool false, .bool false, .bool false, .bool false, .bool false, .bool false, .bool false, .bool false, .bool false, .bool false, .bool false, .bool false, .bool false, .bool false, .bool false, .bool false, .bool false, .bool false, .bool false, .bool false, .bool false, .bool false, .bool false, .bool false, .bool false, .bool false, .bool false, .bool false, .bool false, .bool false, .bool false, .bool false, .bool false, .bool false, .bool false, .bool false, .bool false, .bool false, .bool false, .bool false, .bool false, .bool false, .bool false, .bool false, .bool false, .bool false, .bool false, .bool false, .bool false, .bool false, .bool false, .bool false, .bool false, .bool false, .bool false, .bool false, .bool false, .bool false, .bool false, .bool false, .bool false, .bool false, .bool false, .bool false, .bool false, .bool false, .bool false, .bool false, .bool false, .bool false, .bool false, .bool false, .bool false, .bool false, .bool false, .bool false, .bool false, .bool false, .bool false, .bool false, .bool false, .bool false, .bool false, .bool false, .bool false, .bool false, .bool false, .bool false, .bool false, .bool false, .bool false, .bool false, .bool false, .bool false, .bool false, .bool false, .bool false, .bool false, .bool false, .bool false, .bool false, .bool false, .bool false, .bool false, .bool false, .bool false, .bool false, .bool false, .bool false, .bool false, .bool false, .bool false, .bool false, .bool false, .bool false, .bool false, .bool false, .bool false, .bool false, .bool false], shape := .array 256 4 } := by kernel_rfl
theorem zdR9 : qB0 Tryz.prog 207 = true := by kernel_rfl
theorem xdR9 : qa0 Tryz.prog 208 = some { agg := true, sz := 256, bytes := 256, zero := [.bool false, .bool false, .bool false, .bool false, .bool false, .bool false, .bool false, .bool false, .bool false, .bool false, .bool false, .bool false, .bool false, .bool false, .bool false, .bool false, .bool false, .bool false, .bool false, .bool false, .bool false, .bool false, .bool false, .bool false, .bool false, .bool false, .bool false, .bool false, .bool false, .bool false, .bool false, .bool false, .bool false, .bool false, .bool false, .bool false, .bool false, .bool false, .bool false, .bool false, .bool false, .bool false, .bool false, .bool false, .bool false, .bool false, .bool false, .bool false, .bool false, .bool false, .bool false, .bool false, .bool false, .bool false, .bool false, .bool false, .bool false, .bool false, .bool false, .bool false, .bool false, .bool false, .bool false, .bool false, .bool false, .bool false, .bool false, .bool false, .bool false, .bool false, .bool false, .bool false, .bool false, .bool false, .bool false, .bool false, .bool false, .bool false, .bool false, .bool false, .bool false, .bool false, .bool false, .bool false, .bool false, .bool false, .bool false, .bool false, .bool false, .bool false, .bool false, .bool false, .bool false, .bool false, .bool false, .bool false, .bool false, .bool false, .bool false, .bool false, .bool false, .bool false, .bool false, .bool false, .bool false, .bool false, .bool false, .bool false, .bool false, .bool false, .bool false, .bool false, .bool false, .bool false, .bool false, .bool false, .bool false, .bool false, .bool false, .bool false, .bool false, .bool false, .bool false, .bool false, .bool false, .bool false, .bool false, .bool false, .bool false, .bool false, .bool false, .bool false, .bool false, .bool false, .bool false, .bool false, .bool false, .bool false, .bool false, .bool false, .bool false, .bool false, .bool false, .bool false, .bool false, .bool false, .bool false, .bool false, .bool false, .bool false, .bool false, .bool false, .bool false, .bool false, .bool false, .bool false, .bool false, .bool false, .bool false, .bool false, .bool false, .bool false, .bool false, .bool false, .bool false, .bool false, .bool false, .bool false, .bool false, .bool false, .bool false, .bool false, .bool false, .bool false, .bool false, .bool false, .bool false, .bool false, .bool false, .bool false, .bool false, .bool false, .bool false, .bool false, .bool false, .bool false, .bool false, .bool false, .bool false, .bool false, .bool false, .bool false, .bool false, .bool false, .bool false, .bool false, .bool false, .bool false, .bool false, .bool false, .bool false, .bool false, .bool false, .bool false, .bool false, .bool false, .bool false, .bool false, .bool false, .bool false, .bool false, .bool false, .bool false, .bool false, .bool false, .bool false, .bool false, .bool false, .bool false, .bool false, .bool false, .bool false, .bool false, .bool false, .bool false, .bool false, .bool false, .bool false, .bool false, .bool false, .bool false, .bool false, .bool false, .bool false, .bool false, .bool false, .bool false, .bool false, .bool false, .bool false, .bool false, .bool false, .bool false, .bool false, .bool false, .bool false, .bool false, .bool false, .bool false, .bool false, .bool false, .bool false, .bool false, .bool false, .bool false, .bool false], shape := .array 256 4 } := by kernel_rfl
theorem wdR9 : qB0 Tryz.prog 208 = true := by kernel_rfl
theorem vdR9 : qa0 Tryz.prog 210 = some { agg := false, sz := 1, bytes := 8, zero := [.lit .nilFunc], shape := .func } := by kernel_rfl
theorem kdR9 : qa0 Tryz.prog 211 = some { agg := false, sz := 1, bytes := 8, zero := [.lit .nilFunc], shape := .func } := by kernel_rfl
theorem qdS9 : qa0 Tryz.prog 212 = some { agg := false, sz := 1, bytes := 8, zero := [.lit (.pointer none)], shape := .ptr 208 } := by kernel_rfl
theorem zdS9 : qa0 Tryz.prog 213 = some { agg := false, sz := 1, bytes := 8, zero := [.lit (.pointer none)], shape := .ptr 199 } := by kernel_rfl
theorem xdS9 : qa0 Tryz.prog 215 = some { agg := false, sz := 1, bytes := 8, zero := [.lit .nilFunc], shape := .func } := by kernel_rfl
theorem wdS9 : qa0 Tryz.prog 216 = some { agg := true, sz := 256, bytes := 256, zero := [.int .u8 (0), .int .u8 (0), .int .u8 (0), .int .u8 (0), .int .u8 (0), .int .u8 (0), .int .u8 (0), .int .u8 (0), .int .u8 (0), .int .u8 (0), .int .u8 (0), .int .u8 (0), .int .u8 (0), .int .u8 (0), .int .u8 (0), .int .u8 (0), .int .u8 (0), .int .u8 (0), .int .u8 (0), .int .u8 (0), .int .u8 (0), .int .u8 (0), .int .u8 (0), .int .u8 (0), .int .u8 (0), .int .u8 (0), .int .u8 (0), .int .u8 (0), .int .u8 (0), .int .u8 (0), .int .u8 (0), .int .u8 (0), .int .u8 (0), .int .u8 (0), .int .u8 (0), .int .u8 (0), .int .u8 (0), .int .u8 (0), .int .u8 (0), .int .u8 (0), .int .u8 (0), .int .u8 (0), .int .u8 (0), .int .u8 (0), .int .u8 (0), .int .u8 (0), .int .u8 (0), .int .u8 (0), .int .u8 (0), .int .u8 (0), .int .u8 (0), .int .u8 (0), .int .u8 (0), .int .u8 (0), .int .u8 (0), .int .u8 (0), .int .u8 (0), .int .u8 (0), .int .u8 (0), .int .u8 (0), .int .u8 (0), .int .u8 (0), .int .u8 (0), .int .u8 (0), .int .u8 (0), .int .u8 (0), .int .u8 (0), .int .u8 (0), .int .u8 (0), .int .u8 (0), .int .u8 (0), .int .u8 (0), .int .u8 (0), .int .u8 (0), .int .u8 (0), .int .u8 (0), .int .u8 (0), .int .u8 (0), .int .u8 (0), .int .u8 (0), .int .u8 (0), .int .u8 (0), .int .u8 (0), .int .u8 (0), .int .u8 (0), .int .u8 (0), .int .u8 (0), .int .u8 (0), .int .u8 (0), .int .u8 (0), .int .u8 (0), .int .u8 (0), .int .u8 (0), .int .u8 (0), .int .u8 (0), .int .u8 (0), .int .u8 (0), .int .u8 (0), .int .u8 (0), .int .u8 (0), .int .u8 (0), .int .u8 (0), .int .u8 (0), .int .u8 (0), .int .u8 (0), .int .u8 (0), .int .u8 (0), .int .u8 (0), .int .u8 (0), .int .u8 (0), .int .u8 (0), .int .u8 (0), .int .u8 (0), .int .u8 (0), .int .u8 (0), .int .u8 (0), .int .u8 (0), .int .u8 (0), .int .u8 (0), .int .u8 (0), .int .u8 (0), .int .u8 (0), .int .u8 (0), .int .u8 (0), .int .u8 (0), .int .u8 (0), .int .u8 (0), .int .u8 (0), .int .u8 (0), .int .u8 (0), .int .u8 (0), .int .u8 (0), .int .u8 (0), .int .u8 (0), .int .u8 (0), .int .u8 (0), .int .u8 (0), .int .u8 (0), .int .u8 (0), .int .u8 (0), .int .u8 (0), .int .u8 (0), .int .u8 (0), .int .u8 (0), .int .u8 (0), .int .u8 (0), .int .u8 (0), .int .u8 (0), .int .u8 (0), .int .u8 (0), .int .u8 (0), .int .u8 (0), .int .u8 (0), .int .u8 (0), .int .u8 (0), .int .u8 (0), .int .u8 (0), .int .u8 (0), .int .u8 (0), .int .u8 (0), .int .u8 (0), .int .u8 (0), .int .u8 (0), .int .u8 (0), .int .u8 (0), .int .u8 (0), .int .u8 (0), .int .u8 (0), .int .u8 (0), .int .u8 (0), .int .u8 (0), .int .u8 (0), .int .u8 (0), .int .u8 (0), .int .u8 (0), .int .u8 (0), .int .u8 (0), .int .u8 (0), .int .u8 (0), .int .u8 (0), .int .u8 (0), .int .u8 (0), .int .u8 (0), .int .u8 (0), .int .u8 (0), .int .u8 (0), .int .u8 (0), .int .u8 (0), .int .u8 (0), .int .u8 (0), .int .u8 (0), .int .u8 (0), .int .u8 (0), .int .u8 (0), .int .u8 (0), .int .u8 (0), .int .u8 (0), .int .u8 (0), .int .u8 (0), .int .u8 (0), .int .u8 (0), .int .u8 (0), .int .u8 (0), .int .u8 (0), .int .u8 (0), .int .u8 (0), .int .u8 (0), .int .u8 (0), .int .u8 (0), .int .u8 (0), .int .u8 (0), .int .u8 (0), .int .u8 (0), .int .u8 (0), .int .u8 (0), .int .u8 (0), .int .u8 (0), .int .u8 (0), .int .u8 (0), .int .u8 (0), .int .u8 (0), .int .u8 (0), .int .u8 (0), .int .u8 (0), .int .u8 (0), .int .u8 (0), .int .u8 (0), .int .u8 (0), .int .u8 (0), .int .u8 (0), .int .u8 (0), .int .u8 (0), .int .u8 (0), .int .u8 (0), .int .u8 (0), .int .u8 (0), .int .u8 (0), .int .u8 (0), .int .u8 (0), .int .u8 (0), .int .u8 (0), .int .u8 (0), .int .u8 (0), .int .u8 (0), .int .u8 (0), .int .u8 (0), .int .u8 (0), .int .u8 (0), .int .u8 (0), .int .u8 (0), .int .u8 (0), .int .u8 (0), .int .u8 (0), .int .u8 (0), .int .u8 (0), .int .u8 (0)], shape := .array 256 5 } := by kernel_rfl
theorem vdS9 : qB0 Tryz.prog 216 = true := by kernel_rfl
theorem kdS9 : qa0 Tryz.prog 217 = some { agg := true, sz := 2, bytes := 2, zero := [.int .u8 (0), .int .u8 (0)], shape := .struct [(0, 5), (1, 5)] } := by kernel_rfl
theorem qdT9 : qa0 Tryz.prog 218 = some { agg := true, sz := 2, bytes := 2, zero := [.int .u8 (0), .int .u8 (0)], shape := .struct [(0, 5), (1, 5)] } := by kernel_rfl
theorem zdT9 : qB0 Tryz.prog 218 = true := by kernel_rfl
theorem xdT9 : qa0 Tryz.prog 219 = some { agg := true, sz := 32, bytes := 32, zero := [.int .u8 (0), .int .u8 (0), .int .u8 (0), .int .u8 (0), .int .u8 (0), .int .u8 (0), .int .u8 (0), .int .u8 (0), .int .u8 (0), .int .u8 (0), .int .u8 (0), .int .u8 (0), .int .u8 (0), .int .u8 (0), .int .u8 (0), .int .u8 (0), .int .u8 (0), .int .u8 (0), .int .u8 (0), .int .u8 (0), .int .u8 (0), .int .u8 (0), .int .u8 (0), .int .u8 (0), .int .u8 (0), .int .u8 (0), .int .u8 (0), .int .u8 (0), .int .u8 (0), .int .u8 (0), .int .u8 (0), .int .u8 (0)], shape := .array 16 218 } := by kernel_rfl
theorem wdT9 : qB0 Tryz.prog 219 = true := by kernel_rfl
theorem vdT9 : qa0 Tryz.prog 220 = some { agg := false, sz := 1, bytes := 8, zero := [.lit .nilFunc], shape := .func } := by kernel_rfl
theorem kdT9 : qa0 Tryz.prog 221 = some { agg := false, sz := 1, bytes := 8, zero := [.lit .nilFunc], shape := .func } := by kernel_rfl
theorem qdU9 : qa0 Tryz.prog 222 = some { agg := false, sz := 1, bytes := 8, zero := [.lit .nilFunc], shape := .func } := by kernel_rfl
theorem zdU9 : qa0 Tryz.prog 223 = some { agg := false, sz := 1, bytes := 8, zero := [.lit .nilFunc], shape := .func } := by kernel_rfl
theorem xdU9 : qa0 Tryz.prog 224 = some { agg := true, sz := 4, bytes := 40, zero := [.lit (.pointer none), .lit (.pointer none), .lit (.pointer none), .str []], shape := .struct [(0, 17), (1, 17), (2, 17), (3, 9)] } := by kernel_rfl
theorem wdU9 : qa0 Tryz.prog 225 = some { agg := true, sz := 4, bytes := 40, zero := [.lit (.pointer none), .lit (.pointer none), .lit (.pointer none), .str []], shape := .struct [(0, 17), (1, 17), (2, 17), (3, 9)] } := by kernel_rfl
theorem vdU9 : qa0 Tryz.prog 226 = some { agg := true, sz := 0, bytes := 0, zero := [], shape := .array 0 16 } := by kernel_rfl
theorem kdU9 : qa0 Tryz.prog 227 = some { agg := true, sz := 0, bytes := 0, zero := [], shape := .struct [(0, 226)] } := by kernel_rfl
theorem qdV9 : qa0 Tryz.prog 228 = some { agg := true, sz := 0, bytes := 0, zero := [], shape := .struct [(0, 226)] } := by kernel_rfl
theorem zdV9 : qa0 Tryz.prog 229 = some { agg := false, sz := 1, bytes := 1, zero := [.int .u8 (0)], shape := .int .u8 } := by kernel_rfl
theorem xdV9 : qa0 Tryz.prog 230 = some { agg := false, sz := 1, bytes := 1, zero := [.int .u8 (0)], shape := .int .u8 } := by kernel_rfl
theorem wdV9 : qa0 Tryz.prog 231 = some { agg := false, sz := 1, bytes := 8, zero := [.lit .nilFunc], shape := .func } := by kernel_rfl
theorem vdV9 : qa0 Tryz.prog 232 = some { agg := false, sz := 1, bytes := 4, zero := [.int .i32 (0)], shape := .int .i32 } := by kernel_rfl
theorem kdV9 : qa0 Tryz.prog 233 = some { agg := false, sz := 1, bytes := 4, zero := [.int .i32 (0)], shape := .int .i32 } := by kernel_rfl
theorem qdW9 : qa0 Tryz.prog 234 = some { agg := true, sz := 11, bytes := 48, zero := [.int .u64 (0), .int .u64 (0), .int .u32 (0), .int .u8 (0), .int .u8 (0), .int .u8 (0), .int .u8 (0), .lit .nilFunc, .lit (.pointer none), .int .i32 (0), .int .i32 (0)], shape := .struct [(0, 12), (1, 12), (2, 186), (3, 229), (4, 5), (5, 5), (6, 230), (7, 231), (8, 145), (9, 232), (10, 233)] } := by kernel_rfl
theorem zdW9 : qa0 Tryz.prog 235 = some { agg := true, sz := 11, bytes := 48, zero := [.int .u64 (0), .int .u64 (0), .int .u32 (0), .int .u8 (0), .int .u8 (0), .int .u8 (0), .int .u8 (0), .lit .nilFunc, .lit (.pointer none), .int .i32 (0), .int .i32 (0)], shape := .struct [(0, 12), (1, 12), (2, 186), (3, 229), (4, 5), (5, 5), (6, 230), (7, 231), (8, 145), (9, 232), (10, 233)] } := by kernel_rfl
theorem en2 : za0 Tryz.prog 2 = true := by kernel_rfl
theorem en3 : za0 Tryz.prog 3 = true := by kernel_rfl
theorem en4 : za0 Tryz.prog 4 = true := by kernel_rfl
theorem en5 : za0 Tryz.prog 5 = true := by kernel_rfl
theorem en6 : za0 Tryz.prog 6 = true := by kernel_rfl
theorem en7 : za0 Tryz.prog 7 = true := by kernel_rfl
theorem en8 : za0 Tryz.prog 8 = true := by kernel_rfl
theorem en9 : za0 Tryz.prog 9 = true := by kernel_rfl
theorem en10 : za0 Tryz.prog 10 = true := by kernel_rfl
theorem en11 : za0 Tryz.prog 11 = true := by kernel_rfl
theorem en12 : za0 Tryz.prog 12 = true := by kernel_rfl
theorem en13 : za0 Tryz.prog 13 = true := by kernel_rfl
theorem en14 : za0 Tryz.prog 14 = true := by kernel_rfl
theorem en15 : za0 Tryz.prog 15 = true := by kernel_rfl
theorem en16 : za0 Tryz.prog 16 = true := by kernel_rfl
theorem en17 : za0 Tryz.prog 17 = true := by kernel_rfl
theorem en18 : za0 Tryz.prog 18 = true := by kernel_rfl
theorem en19 : za0 Tryz.prog 19 = true := by kernel_rfl
theorem en20 : za0 Tryz.prog 20 = true := by kernel_rfl
theorem en21 : za0 Tryz.prog 21 = true := by kernel_rfl
theorem en22 : za0 Tryz.prog 22 = true := by kernel_rfl
theorem en23 : za0 Tryz.prog 23 = true := by kernel_rfl
theorem en24 : za0 Tryz.prog 24 = true := by kernel_rfl
theorem en25 : za0 Tryz.prog 25 = true := by kernel_rfl
theorem en26 : za0 Tryz.prog 26 = true := by kernel_rfl
theorem en27 : za0 Tryz.prog 27 = true := by kernel_rfl
theorem en28 : za0 Tryz.prog 28 = true := by kernel_rfl
theorem en29 : za0 Tryz.prog 29 = true := by kernel_rfl
theorem en30 : za0 Tryz.prog 30 = true := by kernel_rfl
theorem en31 : za0 Tryz.prog 31 = true := by kernel_rfl
theorem en32 : za0 Tryz.prog 32 = true := by kernel_rfl
theorem en33 : za0 Tryz.prog 33 = true := by kernel_rfl
theorem en34 : za0 Tryz.prog 34 = true := by kernel_rfl
theorem en35 : za0 Tryz.prog 35 = true := by kernel_rfl
theorem en36 : za0 Tryz.prog 36 = true := by kernel_rfl
theorem en37 : za0 Tryz.prog 37 = true := by kernel_rfl
theorem en38 : za0 Tryz.prog 38 = true := by kernel_rfl
theorem en39 : za0 Tryz.prog 39 = true := by kernel_rfl
theorem en40 : za0 Tryz.prog 40 = true := by kernel_rfl
theorem en41 : za0 Tryz.prog 41 = true := by kernel_rfl
theorem en42 : za0 Tryz.prog 42 = true := by kernel_rfl
theorem en43 : za0 Tryz.prog 43 = true := by kernel_rfl
theorem en44 : za0 Tryz.prog 44 = true := by kernel_rfl
theorem en45 : za0 Tryz.prog 45 = true := by kernel_rfl
theorem en46 : za0 Tryz.prog 46 = true := by kernel_rfl
theorem en47 : za0 Tryz.prog 47 = true := by kernel_rfl
theorem en48 : za0 Tryz.prog 48 = true := by kernel_rfl
theorem en49 : za0 Tryz.prog 49 = true := by kernel_rfl
theorem en50 : za0 Tryz.prog 50 = true := by kernel_rfl
theorem en51 : za0 Tryz.prog 51 = true := by kernel_rfl
theorem en52 : za0 Tryz.prog 52 = true := by kernel_rfl
theorem en53 : za0 Tryz.prog 53 = true := by kernel_rfl
theorem en54 : za0 Tryz.prog 54 = true := by kernel_rfl
theorem en55 : za0 Tryz.prog 55 = true := by kernel_rfl
theorem en56 : za0 Tryz.prog 56 = true := by kernel_rfl
theorem en57 : za0 Tryz.prog 57 = true := by kernel_rfl
theorem en58 : za0 Tryz.prog 58 = true := by kernel_rfl
theorem en59 : za0 Tryz.prog 59 = true := by kernel_rfl
theorem en60 : za0 Tryz.prog 60 = true := by kernel_rfl
theorem en61 : za0 Tryz.prog 61 = true := by kernel_rfl
theorem en62 : za0 Tryz.prog 62 = true := by kernel_rfl
theorem en63 : za0 Tryz.prog 63 = true := by kernel_rfl
theorem en64 : za0 Tryz.prog 64 = true := by kernel_rfl
theorem en65 : za0 Tryz.prog 65 = true := by kernel_rfl
theorem en66 : za0 Tryz.prog 66 = true := by kernel_rfl
theorem en67 : za0 Tryz.prog 67 = true := by kernel_rfl
theorem en68 : za0 Tryz.prog 68 = true := by kernel_rfl
theorem en69 : za0 Tryz.prog 69 = true := by kernel_rfl
theorem en70 : za0 Tryz.prog 70 = true := by kernel_rfl
theorem en71 : za0 Tryz.prog 71 = true := by kernel_rfl
theorem en72 : za0 Tryz.prog 72 = true := by kernel_rfl
theorem en73 : za0 Tryz.prog 73 = true := by kernel_rfl
theorem en74 : za0 Tryz.prog 74 = true := by kernel_rfl
theorem en75 : za0 Tryz.prog 75 = true := by kernel_rfl
theorem en76 : za0 Tryz.prog 76 = true := by kernel_rfl
theorem en77 : za0 Tryz.prog 77 = true := by kernel_rfl
theorem en78 : za0 Tryz.prog 78 = true := by kernel_rfl
theorem en79 : za0 Tryz.prog 79 = true := by kernel_rfl
theorem en80 : za0 Tryz.prog 80 = true := by kernel_rfl
theorem en81 : za0 Tryz.prog 81 = true := by kernel_rfl
theorem en82 : za0 Tryz.prog 82 = true := by kernel_rfl
theorem en83 : za0 Tryz.prog 83 = true := by kernel_rfl
theorem en84 : za0 Tryz.prog 84 = true := by kernel_rfl
theorem en85 : za0 Tryz.prog 85 = true := by kernel_rfl
theorem en86 : za0 Tryz.prog 86 = true := by kernel_rfl
theorem en87 : za0 Tryz.prog 87 = true := by kernel_rfl
theorem en88 : za0 Tryz.prog 88 = true := by kernel_rfl
theorem en89 : za0 Tryz.prog 89 = true := by kernel_rfl
theorem en90 : za0 Tryz.prog 90 = true := by kernel_rfl
theorem en91 : za0 Tryz.prog 91 = true := by kernel_rfl
theorem en92 : za0 Tryz.prog 92 = true := by kernel_rfl
theorem en93 : za0 Tryz.prog 93 = true := by kernel_rfl
theorem en94 : za0 Tryz.prog 94 = true := by kernel_rfl
theorem en95 : za0 Tryz.prog 95 = true := by kernel_rfl
theorem en96 : za0 Tryz.prog 96 = true := by kernel_rfl
theorem en97 : za0 Tryz.prog 97 = true := by kernel_rfl
theorem en98 : za0 Tryz.prog 98 = true := by kernel_rfl
theorem en99 : za0 Tryz.prog 99 = true := by kernel_rfl
theorem xdW9 : za0 Tryz.prog 100 = true := by kernel_rfl
theorem wdW9 : za0 Tryz.prog 101 = true := by kernel_rfl
theorem vdW9 : za0 Tryz.prog 102 = true := by kernel_rfl
theorem zaL9 : za0 Tryz.prog 103 = true := by kernel_rfl
theorem qcz9 : za0 Tryz.prog 104 = true := by kernel_rfl
theorem zcz9 : za0 Tryz.prog 105 = true := by kernel_rfl
theorem kdW9 : za0 Tryz.prog 106 = true := by kernel_rfl
theorem kbH9 : za0 Tryz.prog 107 = true := by kernel_rfl
theorem xas9 : za0 Tryz.prog 108 = true := by kernel_rfl
theorem qdX9 : za0 Tryz.prog 109 = true := by kernel_rfl
theorem zdX9 : za0 Tryz.prog 110 = true := by kernel_rfl
theorem xdX9 : za0 Tryz.prog 111 = true := by kernel_rfl
theorem wdX9 : za0 Tryz.prog 112 = true := by kernel_rfl
theorem vdX9 : za0 Tryz.prog 113 = true := by kernel_rfl
theorem kdX9 : za0 Tryz.prog 114 = true := by kernel_rfl
theorem qdY9 : za0 Tryz.prog 115 = true := by kernel_rfl
theorem zdY9 : za0 Tryz.prog 116 = true := by kernel_rfl
theorem xdY9 : za0 Tryz.prog 117 = true := by kernel_rfl
theorem wdY9 : za0 Tryz.prog 119 = true := by kernel_rfl
theorem vdY9 : za0 Tryz.prog 120 = true := by kernel_rfl
theorem kdY9 : za0 Tryz.prog 121 = true := by kernel_rfl
theorem qdZ9 : za0 Tryz.prog 122 = true := by kernel_rfl
theorem zdZ9 : za0 Tryz.prog 124 = true := by kernel_rfl
theorem xdZ9 : za0 Tryz.prog 125 = true := by kernel_rfl
theorem wdZ9 : za0 Tryz.prog 126 = true := by kernel_rfl
theorem vdZ9 : za0 Tryz.prog 127 = true := by kernel_rfl
theorem kdZ9 : za0 Tryz.prog 128 = true := by kernel_rfl
theorem xcz9 : za0 Tryz.prog 129 = true := by kernel_rfl
theorem qea9 : za0 Tryz.prog 130 = true := by kernel_rfl
theorem zea9 : za0 Tryz.prog 131 = true := by kernel_rfl
theorem xea9 : za0 Tryz.prog 132 = true := by kernel_rfl
theorem wea9 : za0 Tryz.prog 133 = true := by kernel_rfl
theorem vea9 : za0 Tryz.prog 134 = true := by kernel_rfl
theorem kea9 : za0 Tryz.prog 135 = true := by kernel_rfl
theorem qeb9 : za0 Tryz.prog 136 = true := by kernel_rfl
theorem zeb9 : za0 Tryz.prog 137 = true := by kernel_rfl
theorem xeb9 : za0 Tryz.prog 138 = true := by kernel_rfl
theorem web9 : za0 Tryz.prog 139 = true := by kernel_rfl
theorem veb9 : za0 Tryz.prog 140 = true := by kernel_rfl
theorem keb9 : za0 Tryz.prog 141 = true := by kernel_rfl
theorem qec9 : za0 Tryz.prog 142 = true := by kernel_rfl
theorem zec9 : za0 Tryz.prog 143 = true := by kernel_rfl
theorem xec9 : za0 Tryz.prog 144 = true := by kernel_rfl
theorem wec9 : za0 Tryz.prog 146 = true := by kernel_rfl
theorem vec9 : za0 Tryz.prog 147 = true := by kernel_rfl
theorem kec9 : za0 Tryz.prog 148 = true := by kernel_rfl
theorem qed9 : za0 Tryz.prog 149 = true := by kernel_rfl
theorem zed9 : za0 Tryz.prog 150 = true := by kernel_rfl
theorem xed9 : za0 Tryz.prog 151 = true := by kernel_rfl
theorem wed9 : za0 Tryz.prog 152 = true := by kernel_rfl
theorem ved9 : za0 Tryz.prog 153 = true := by kernel_rfl
theorem ked9 : za0 Tryz.prog 154 = true := by kernel_rfl
theorem qee9 : za0 Tryz.prog 155 = true := by kernel_rfl
theorem zee9 : za0 Tryz.prog 156 = true := by kernel_rfl
theorem xee9 : za0 Tryz.prog 157 = true := by kernel_rfl
theorem wee9 : za0 Tryz.prog 158 = true := by kernel_rfl
theorem vee9 : za0 Tryz.prog 159 = true := by kernel_rfl
theorem kee9 : za0 Tryz.prog 160 = true := by kernel_rfl
theorem qef9 : za0 Tryz.prog 161 = true := by kernel_rfl
theorem zef9 : za0 Tryz.prog 163 = true := by kernel_rfl
theorem xef9 : za0 Tryz.prog 164 = true := by kernel_rfl
theorem wef9 : za0 Tryz.prog 166 = true := by kernel_rfl
theorem vef9 : za0 Tryz.prog 167 = true := by kernel_rfl
theorem kef9 : za0 Tryz.prog 168 = true := by kernel_rfl
theorem qeg9 : za0 Tryz.prog 169 = true := by kernel_rfl
theorem zeg9 : za0 Tryz.prog 170 = true := by kernel_rfl
theorem xeg9 : za0 Tryz.prog 171 = true := by kernel_rfl
theorem weg9 : za0 Tryz.prog 172 = true := by kernel_rfl
theorem veg9 : za0 Tryz.prog 173 = true := by kernel_rfl
theorem keg9 : za0 Tryz.prog 174 = true := by kernel_rfl
theorem qeh9 : za0 Tryz.prog 175 = true := by kernel_rfl
theorem zeh9 : za0 Tryz.prog 176 = true := by kernel_rfl
theorem xeh9 : za0 Tryz.prog 177 = true := by kernel_rfl
theorem weh9 : za0 Tryz.prog 200 = true := by kernel_rfl
theorem mixed : Tryz.prog.follows .mixedOrders = true := by kernel_rfl
end Go.Proofs

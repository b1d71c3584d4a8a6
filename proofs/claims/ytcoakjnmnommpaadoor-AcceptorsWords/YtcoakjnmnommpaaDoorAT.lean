/- What the program's tables say of its types (made by wip/tools/tfacts.py): each a closed fact that the kernel reckons. -/
import Derived.Test.YtcoakjnmnommpaaDoorV31
import Derived.Test.YtcoakjnmnommpaaDoorProg
import Derived.KernelRfl
namespace Go.Proofs
open Go Go.V
set_option maxRecDepth 100000
theorem ti1 : tinfo Tryd.prog 1 = some { agg := false, sz := 1, bytes := 8, zero := [.lit .nilFunc], shape := .func } := by kernel_rfl
theorem ti2 : tinfo Tryd.prog 2 = some { agg := false, sz := 1, bytes := 8, zero := [.int .i64 (0)], shape := .int .i64 } := by kernel_rfl
theorem ti3 : tinfo Tryd.prog 3 = some { agg := false, sz := 1, bytes := 8, zero := [.int .i64 (0)], shape := .int .i64 } := by kernel_rfl
theorem ti4 : tinfo Tryd.prog 4 = some { agg := false, sz := 1, bytes := 1, zero := [.bool false], shape := .bool } := by kernel_rfl
theorem ti5 : tinfo Tryd.prog 5 = some { agg := false, sz := 1, bytes := 1, zero := [.int .u8 (0)], shape := .int .u8 } := by kernel_rfl
theorem ti6 : tinfo Tryd.prog 6 = some { agg := false, sz := 1, bytes := 1, zero := [.int .u8 (0)], shape := .int .u8 } := by kernel_rfl
theorem ti7 : tinfo Tryd.prog 7 = some { agg := true, sz := 4, bytes := 24, zero := [.int .i64 (0), .int .i64 (0), .bool false, .int .u8 (0)], shape := .struct [(0, 2), (1, 3), (2, 4), (3, 6)] } := by kernel_rfl
theorem ti8 : tinfo Tryd.prog 8 = some { agg := true, sz := 4, bytes := 24, zero := [.int .i64 (0), .int .i64 (0), .bool false, .int .u8 (0)], shape := .struct [(0, 2), (1, 3), (2, 4), (3, 6)] } := by kernel_rfl
theorem ti9 : tinfo Tryd.prog 9 = some { agg := false, sz := 1, bytes := 16, zero := [.str []], shape := .str } := by kernel_rfl
theorem ti10 : tinfo Tryd.prog 10 = some { agg := false, sz := 1, bytes := 16, zero := [.str []], shape := .str } := by kernel_rfl
theorem ti11 : tinfo Tryd.prog 11 = some { agg := false, sz := 1, bytes := 16, zero := [.str []], shape := .str } := by kernel_rfl
theorem ti12 : tinfo Tryd.prog 12 = some { agg := false, sz := 1, bytes := 8, zero := [.int .u64 (0)], shape := .int .u64 } := by kernel_rfl
theorem ti13 : tinfo Tryd.prog 13 = some { agg := true, sz := 2, bytes := 24, zero := [.str [], .int .u64 (0)], shape := .struct [(0, 9), (1, 12)] } := by kernel_rfl
theorem ti14 : tinfo Tryd.prog 14 = some { agg := true, sz := 2, bytes := 24, zero := [.str [], .int .u64 (0)], shape := .struct [(0, 9), (1, 12)] } := by kernel_rfl
theorem ti15 : tinfo Tryd.prog 15 = some { agg := false, sz := 1, bytes := 8, zero := [.lit (.pointer none)], shape := .ptr 169 } := by kernel_rfl
theorem ti16 : tinfo Tryd.prog 16 = some { agg := false, sz := 1, bytes := 8, zero := [.lit (.pointer none)], shape := .ptr 172 } := by kernel_rfl
theorem ti17 : tinfo Tryd.prog 17 = some { agg := false, sz := 1, bytes := 8, zero := [.lit (.pointer none)], shape := .ptr 180 } := by kernel_rfl
theorem ti18 : tinfo Tryd.prog 18 = some { agg := true, sz := 1, bytes := 8, zero := [.lit (.pointer none)], shape := .struct [(0, 17)] } := by kernel_rfl
theorem ti19 : tinfo Tryd.prog 19 = some { agg := true, sz := 1, bytes := 8, zero := [.lit (.pointer none)], shape := .struct [(0, 17)] } := by kernel_rfl
theorem ti20 : tinfo Tryd.prog 20 = some { agg := false, sz := 1, bytes := 16, zero := [.lit .nilIface], shape := .iface } := by kernel_rfl
theorem ti21 : tinfo Tryd.prog 21 = some { agg := false, sz := 1, bytes := 4, zero := [.int .i32 (0)], shape := .int .i32 } := by kernel_rfl
theorem ti22 : tinfo Tryd.prog 22 = some { agg := false, sz := 1, bytes := 24, zero := [.sl 0 [] (some 0)], shape := .slice 33 } := by kernel_rfl
theorem ti23 : tinfo Tryd.prog 23 = some { agg := true, sz := 5, bytes := 40, zero := [.int .u8 (0), .int .u8 (0), .sl 0 [] (some 0), .int .u8 (0), .int .u8 (0)], shape := .struct [(0, 5), (1, 5), (2, 22), (3, 5), (4, 5)] } := by kernel_rfl
theorem ti24 : tinfo Tryd.prog 24 = some { agg := true, sz := 5, bytes := 40, zero := [.int .u8 (0), .int .u8 (0), .sl 0 [] (some 0), .int .u8 (0), .int .u8 (0)], shape := .struct [(0, 5), (1, 5), (2, 22), (3, 5), (4, 5)] } := by kernel_rfl
theorem ti25 : tinfo Tryd.prog 25 = some { agg := false, sz := 1, bytes := 24, zero := [.sl 0 [] (some 0)], shape := .slice 32 } := by kernel_rfl
theorem ti26 : tinfo Tryd.prog 26 = some { agg := false, sz := 1, bytes := 24, zero := [.sl 0 [] (some 0)], shape := .slice 3 } := by kernel_rfl
theorem ti27 : tinfo Tryd.prog 27 = some { agg := true, sz := 4, bytes := 80, zero := [.int .i64 (0), .sl 0 [] (some 0), .sl 0 [] (some 0), .sl 0 [] (some 0)], shape := .struct [(0, 3), (1, 25), (2, 26), (3, 26)] } := by kernel_rfl
theorem ti28 : tinfo Tryd.prog 28 = some { agg := true, sz := 4, bytes := 80, zero := [.int .i64 (0), .sl 0 [] (some 0), .sl 0 [] (some 0), .sl 0 [] (some 0)], shape := .struct [(0, 3), (1, 25), (2, 26), (3, 26)] } := by kernel_rfl
theorem ti29 : tinfo Tryd.prog 29 = some { agg := false, sz := 1, bytes := 8, zero := [.lit .nilFunc], shape := .func } := by kernel_rfl
theorem ti30 : tinfo Tryd.prog 30 = some { agg := false, sz := 1, bytes := 8, zero := [.lit .nilFunc], shape := .func } := by kernel_rfl
theorem ti31 : tinfo Tryd.prog 31 = some { agg := false, sz := 1, bytes := 8, zero := [.int .u64 (0)], shape := .int .u64 } := by kernel_rfl
theorem ti32 : tinfo Tryd.prog 32 = some { agg := false, sz := 1, bytes := 24, zero := [.sl 0 [] (some 0)], shape := .slice 26 } := by kernel_rfl
theorem ti33 : tinfo Tryd.prog 33 = some { agg := true, sz := 3, bytes := 3, zero := [.int .u8 (0), .int .u8 (0), .int .u8 (0)], shape := .array 3 5 } := by kernel_rfl
theorem et33 : eqTyOk Tryd.prog 33 = true := by kernel_rfl
theorem ti34 : tinfo Tryd.prog 34 = some { agg := false, sz := 1, bytes := 24, zero := [.sl 0 [] (some 0)], shape := .slice 4 } := by kernel_rfl
theorem ti35 : tinfo Tryd.prog 35 = some { agg := true, sz := 3, bytes := 56, zero := [.int .i64 (0), .sl 0 [] (some 0), .sl 0 [] (some 0)], shape := .struct [(0, 3), (1, 32), (2, 34)] } := by kernel_rfl
theorem ti36 : tinfo Tryd.prog 36 = some { agg := true, sz := 3, bytes := 56, zero := [.int .i64 (0), .sl 0 [] (some 0), .sl 0 [] (some 0)], shape := .struct [(0, 3), (1, 32), (2, 34)] } := by kernel_rfl
theorem ti37 : tinfo Tryd.prog 37 = some { agg := false, sz := 1, bytes := 8, zero := [.int .i64 (0)], shape := .int .i64 } := by kernel_rfl
theorem ti39 : tinfo Tryd.prog 39 = some { agg := false, sz := 1, bytes := 8, zero := [.lit .nilFunc], shape := .func } := by kernel_rfl
theorem ti40 : tinfo Tryd.prog 40 = some { agg := false, sz := 1, bytes := 8, zero := [.lit .nilFunc], shape := .func } := by kernel_rfl
theorem ti41 : tinfo Tryd.prog 41 = some { agg := false, sz := 1, bytes := 8, zero := [.lit .nilFunc], shape := .func } := by kernel_rfl
theorem ti42 : tinfo Tryd.prog 42 = some { agg := false, sz := 1, bytes := 8, zero := [.lit .nilFunc], shape := .func } := by kernel_rfl
theorem ti44 : tinfo Tryd.prog 44 = some { agg := false, sz := 1, bytes := 8, zero := [.lit .nilFunc], shape := .func } := by kernel_rfl
theorem ti45 : tinfo Tryd.prog 45 = some { agg := false, sz := 1, bytes := 8, zero := [.lit .nilFunc], shape := .func } := by kernel_rfl
theorem ti46 : tinfo Tryd.prog 46 = some { agg := false, sz := 1, bytes := 8, zero := [.lit .nilFunc], shape := .func } := by kernel_rfl
theorem ti47 : tinfo Tryd.prog 47 = some { agg := false, sz := 1, bytes := 8, zero := [.lit .nilFunc], shape := .func } := by kernel_rfl
theorem ti48 : tinfo Tryd.prog 48 = some { agg := false, sz := 1, bytes := 8, zero := [.lit .nilFunc], shape := .func } := by kernel_rfl
theorem ti50 : tinfo Tryd.prog 50 = some { agg := false, sz := 1, bytes := 8, zero := [.lit .nilFunc], shape := .func } := by kernel_rfl
theorem ti51 : tinfo Tryd.prog 51 = some { agg := false, sz := 1, bytes := 8, zero := [.lit .nilFunc], shape := .func } := by kernel_rfl
theorem ti52 : tinfo Tryd.prog 52 = some { agg := false, sz := 1, bytes := 8, zero := [.lit .nilFunc], shape := .func } := by kernel_rfl
theorem ti53 : tinfo Tryd.prog 53 = some { agg := false, sz := 1, bytes := 8, zero := [.lit .nilFunc], shape := .func } := by kernel_rfl
theorem ti54 : tinfo Tryd.prog 54 = some { agg := false, sz := 1, bytes := 8, zero := [.lit .nilFunc], shape := .func } := by kernel_rfl
theorem ti55 : tinfo Tryd.prog 55 = some { agg := false, sz := 1, bytes := 8, zero := [.lit .nilFunc], shape := .func } := by kernel_rfl
theorem ti56 : tinfo Tryd.prog 56 = some { agg := false, sz := 1, bytes := 24, zero := [.sl 0 [] (some 0)], shape := .slice 5 } := by kernel_rfl
theorem ti57 : tinfo Tryd.prog 57 = some { agg := false, sz := 1, bytes := 8, zero := [.lit .nilFunc], shape := .func } := by kernel_rfl
theorem ti59 : tinfo Tryd.prog 59 = some { agg := false, sz := 1, bytes := 8, zero := [.lit .nilFunc], shape := .func } := by kernel_rfl
theorem ti60 : tinfo Tryd.prog 60 = some { agg := false, sz := 1, bytes := 8, zero := [.lit .nilFunc], shape := .func } := by kernel_rfl
theorem ti61 : tinfo Tryd.prog 61 = some { agg := false, sz := 1, bytes := 8, zero := [.lit .nilFunc], shape := .func } := by kernel_rfl
theorem ti62 : tinfo Tryd.prog 62 = some { agg := false, sz := 1, bytes := 8, zero := [.lit .nilFunc], shape := .func } := by kernel_rfl
theorem ti63 : tinfo Tryd.prog 63 = some { agg := false, sz := 1, bytes := 8, zero := [.lit .nilFunc], shape := .func } := by kernel_rfl
theorem ti64 : tinfo Tryd.prog 64 = some { agg := false, sz := 1, bytes := 8, zero := [.lit .nilFunc], shape := .func } := by kernel_rfl
theorem ti65 : tinfo Tryd.prog 65 = some { agg := false, sz := 1, bytes := 8, zero := [.lit .nilFunc], shape := .func } := by kernel_rfl
theorem ti66 : tinfo Tryd.prog 66 = some { agg := false, sz := 1, bytes := 8, zero := [.int .u64 (0)], shape := .int .u64 } := by kernel_rfl
theorem ti67 : tinfo Tryd.prog 67 = some { agg := true, sz := 4, bytes := 32, zero := [.int .u64 (0), .int .u64 (0), .int .u64 (0), .int .u64 (0)], shape := .array 4 66 } := by kernel_rfl
theorem et67 : eqTyOk Tryd.prog 67 = true := by kernel_rfl
theorem ti68 : tinfo Tryd.prog 68 = some { agg := true, sz := 4, bytes := 32, zero := [.int .u64 (0), .int .u64 (0), .int .u64 (0), .int .u64 (0)], shape := .array 4 66 } := by kernel_rfl
theorem et68 : eqTyOk Tryd.prog 68 = true := by kernel_rfl
theorem ti69 : tinfo Tryd.prog 69 = some { agg := false, sz := 1, bytes := 8, zero := [.lit .nilFunc], shape := .func } := by kernel_rfl
theorem ti70 : tinfo Tryd.prog 70 = some { agg := false, sz := 1, bytes := 24, zero := [.sl 0 [] (some 0)], shape := .slice 68 } := by kernel_rfl
theorem ti71 : tinfo Tryd.prog 71 = some { agg := false, sz := 1, bytes := 8, zero := [.lit (.map none)], shape := .map 68 3 } := by kernel_rfl
theorem ti72 : tinfo Tryd.prog 72 = some { agg := false, sz := 1, bytes := 8, zero := [.lit .nilFunc], shape := .func } := by kernel_rfl
theorem ti74 : tinfo Tryd.prog 74 = some { agg := false, sz := 1, bytes := 8, zero := [.lit .nilFunc], shape := .func } := by kernel_rfl
theorem ti75 : tinfo Tryd.prog 75 = some { agg := false, sz := 1, bytes := 8, zero := [.lit .nilFunc], shape := .func } := by kernel_rfl
theorem ti76 : tinfo Tryd.prog 76 = some { agg := false, sz := 1, bytes := 8, zero := [.lit .nilFunc], shape := .func } := by kernel_rfl
theorem ti77 : tinfo Tryd.prog 77 = some { agg := false, sz := 1, bytes := 8, zero := [.lit .nilFunc], shape := .func } := by kernel_rfl
theorem ti78 : tinfo Tryd.prog 78 = some { agg := false, sz := 1, bytes := 8, zero := [.lit .nilFunc], shape := .func } := by kernel_rfl
theorem ti79 : tinfo Tryd.prog 79 = some { agg := false, sz := 1, bytes := 8, zero := [.lit .nilFunc], shape := .func } := by kernel_rfl
theorem ti80 : tinfo Tryd.prog 80 = some { agg := false, sz := 1, bytes := 8, zero := [.lit .nilFunc], shape := .func } := by kernel_rfl
theorem ti81 : tinfo Tryd.prog 81 = some { agg := false, sz := 1, bytes := 8, zero := [.lit (.pointer none)], shape := .ptr 83 } := by kernel_rfl
theorem ti82 : tinfo Tryd.prog 82 = some { agg := true, sz := 2, bytes := 32, zero := [.lit (.pointer none), .sl 0 [] (some 0)], shape := .struct [(0, 81), (1, 56)] } := by kernel_rfl
theorem ti83 : tinfo Tryd.prog 83 = some { agg := true, sz := 2, bytes := 32, zero := [.lit (.pointer none), .sl 0 [] (some 0)], shape := .struct [(0, 81), (1, 56)] } := by kernel_rfl
theorem ti84 : tinfo Tryd.prog 84 = some { agg := false, sz := 1, bytes := 16, zero := [.lit .nilIface], shape := .iface } := by kernel_rfl
theorem ti85 : tinfo Tryd.prog 85 = some { agg := false, sz := 1, bytes := 16, zero := [.lit .nilIface], shape := .iface } := by kernel_rfl
theorem ti87 : tinfo Tryd.prog 87 = some { agg := false, sz := 1, bytes := 8, zero := [.lit .nilFunc], shape := .func } := by kernel_rfl
theorem ti88 : tinfo Tryd.prog 88 = some { agg := false, sz := 1, bytes := 8, zero := [.lit .nilFunc], shape := .func } := by kernel_rfl
theorem ti89 : tinfo Tryd.prog 89 = some { agg := false, sz := 1, bytes := 8, zero := [.lit .nilFunc], shape := .func } := by kernel_rfl
theorem ti90 : tinfo Tryd.prog 90 = some { agg := false, sz := 1, bytes := 8, zero := [.lit (.map none)], shape := .map 4 9 } := by kernel_rfl
theorem ti91 : tinfo Tryd.prog 91 = some { agg := false, sz := 1, bytes := 8, zero := [.lit .nilFunc], shape := .func } := by kernel_rfl
theorem ti93 : tinfo Tryd.prog 93 = some { agg := false, sz := 1, bytes := 8, zero := [.lit .nilFunc], shape := .func } := by kernel_rfl
theorem ti94 : tinfo Tryd.prog 94 = some { agg := false, sz := 1, bytes := 24, zero := [.sl 0 [] (some 0)], shape := .slice 9 } := by kernel_rfl
theorem ti95 : tinfo Tryd.prog 95 = some { agg := false, sz := 1, bytes := 8, zero := [.lit .nilFunc], shape := .func } := by kernel_rfl
theorem ti97 : tinfo Tryd.prog 97 = some { agg := false, sz := 1, bytes := 8, zero := [.lit .nilFunc], shape := .func } := by kernel_rfl
theorem ti98 : tinfo Tryd.prog 98 = some { agg := false, sz := 1, bytes := 8, zero := [.lit .nilFunc], shape := .func } := by kernel_rfl
theorem ti99 : tinfo Tryd.prog 99 = some { agg := false, sz := 1, bytes := 8, zero := [.lit .nilFunc], shape := .func } := by kernel_rfl
theorem ti100 : tinfo Tryd.prog 100 = some { agg := false, sz := 1, bytes := 8, zero := [.lit .nilFunc], shape := .func } := by kernel_rfl
theorem ti101 : tinfo Tryd.prog 101 = some { agg := false, sz := 1, bytes := 8, zero := [.lit .nilFunc], shape := .func } := by kernel_rfl
theorem ti102 : tinfo Tryd.prog 102 = some { agg := false, sz := 1, bytes := 8, zero := [.lit .nilFunc], shape := .func } := by kernel_rfl
theorem ti104 : tinfo Tryd.prog 104 = some { agg := false, sz := 1, bytes := 8, zero := [.lit .nilFunc], shape := .func } := by kernel_rfl
theorem ti105 : tinfo Tryd.prog 105 = some { agg := false, sz := 1, bytes := 8, zero := [.lit .nilFunc], shape := .func } := by kernel_rfl
theorem ti106 : tinfo Tryd.prog 106 = some { agg := false, sz := 1, bytes := 8, zero := [.lit .nilFunc], shape := .func } := by kernel_rfl
theorem ti107 : tinfo Tryd.prog 107 = some { agg := false, sz := 1, bytes := 8, zero := [.lit .nilFunc], shape := .func } := by kernel_rfl
theorem ti108 : tinfo Tryd.prog 108 = some { agg := false, sz := 1, bytes := 8, zero := [.lit .nilFunc], shape := .func } := by kernel_rfl
theorem ti109 : tinfo Tryd.prog 109 = some { agg := false, sz := 1, bytes := 8, zero := [.lit .nilFunc], shape := .func } := by kernel_rfl
theorem ti110 : tinfo Tryd.prog 110 = some { agg := false, sz := 1, bytes := 8, zero := [.lit .nilFunc], shape := .func } := by kernel_rfl
theorem ti111 : tinfo Tryd.prog 111 = some { agg := false, sz := 1, bytes := 8, zero := [.lit .nilFunc], shape := .func } := by kernel_rfl
theorem ti112 : tinfo Tryd.prog 112 = some { agg := false, sz := 1, bytes := 8, zero := [.lit .nilFunc], shape := .func } := by kernel_rfl
theorem ti113 : tinfo Tryd.prog 113 = some { agg := false, sz := 1, bytes := 8, zero := [.lit .nilFunc], shape := .func } := by kernel_rfl
theorem ti114 : tinfo Tryd.prog 114 = some { agg := false, sz := 1, bytes := 8, zero := [.lit (.pointer none)], shape := .ptr 5 } := by kernel_rfl
theorem ti115 : tinfo Tryd.prog 115 = some { agg := false, sz := 1, bytes := 8, zero := [.lit .nilFunc], shape := .func } := by kernel_rfl
theorem ti116 : tinfo Tryd.prog 116 = some { agg := false, sz := 1, bytes := 8, zero := [.lit .nilFunc], shape := .func } := by kernel_rfl
theorem ti117 : tinfo Tryd.prog 117 = some { agg := false, sz := 1, bytes := 8, zero := [.lit (.map none)], shape := .map 9 3 } := by kernel_rfl
theorem ti118 : tinfo Tryd.prog 118 = some { agg := false, sz := 1, bytes := 8, zero := [.lit .nilFunc], shape := .func } := by kernel_rfl
theorem ti119 : tinfo Tryd.prog 119 = some { agg := false, sz := 1, bytes := 8, zero := [.lit .nilFunc], shape := .func } := by kernel_rfl
theorem ti120 : tinfo Tryd.prog 120 = some { agg := false, sz := 1, bytes := 8, zero := [.lit (.pointer none)], shape := .ptr 68 } := by kernel_rfl
theorem ti121 : tinfo Tryd.prog 121 = some { agg := false, sz := 1, bytes := 8, zero := [.lit .nilFunc], shape := .func } := by kernel_rfl
theorem ti123 : tinfo Tryd.prog 123 = some { agg := false, sz := 1, bytes := 8, zero := [.lit .nilFunc], shape := .func } := by kernel_rfl
theorem ti124 : tinfo Tryd.prog 124 = some { agg := false, sz := 1, bytes := 8, zero := [.lit .nilFunc], shape := .func } := by kernel_rfl
theorem ti125 : tinfo Tryd.prog 125 = some { agg := false, sz := 1, bytes := 8, zero := [.lit .nilFunc], shape := .func } := by kernel_rfl
theorem ti126 : tinfo Tryd.prog 126 = some { agg := false, sz := 1, bytes := 8, zero := [.lit .nilFunc], shape := .func } := by kernel_rfl
theorem ti127 : tinfo Tryd.prog 127 = some { agg := false, sz := 1, bytes := 8, zero := [.lit .nilFunc], shape := .func } := by kernel_rfl
theorem ti128 : tinfo Tryd.prog 128 = some { agg := false, sz := 1, bytes := 8, zero := [.lit .nilFunc], shape := .func } := by kernel_rfl
theorem ti129 : tinfo Tryd.prog 129 = some { agg := false, sz := 1, bytes := 8, zero := [.lit .nilFunc], shape := .func } := by kernel_rfl
theorem ti130 : tinfo Tryd.prog 130 = some { agg := true, sz := 64, bytes := 64, zero := [.int .u8 (0), .int .u8 (0), .int .u8 (0), .int .u8 (0), .int .u8 (0), .int .u8 (0), .int .u8 (0), .int .u8 (0), .int .u8 (0), .int .u8 (0), .int .u8 (0), .int .u8 (0), .int .u8 (0), .int .u8 (0), .int .u8 (0), .int .u8 (0), .int .u8 (0), .int .u8 (0), .int .u8 (0), .int .u8 (0), .int .u8 (0), .int .u8 (0), .int .u8 (0), .int .u8 (0), .int .u8 (0), .int .u8 (0), .int .u8 (0), .int .u8 (0), .int .u8 (0), .int .u8 (0), .int .u8 (0), .int .u8 (0), .int .u8 (0), .int .u8 (0), .int .u8 (0), .int .u8 (0), .int .u8 (0), .int .u8 (0), .int .u8 (0), .int .u8 (0), .int .u8 (0), .int .u8 (0), .int .u8 (0), .int .u8 (0), .int .u8 (0), .int .u8 (0), .int .u8 (0), .int .u8 (0), .int .u8 (0), .int .u8 (0), .int .u8 (0), .int .u8 (0), .int .u8 (0), .int .u8 (0), .int .u8 (0), .int .u8 (0), .int .u8 (0), .int .u8 (0), .int .u8 (0), .int .u8 (0), .int .u8 (0), .int .u8 (0), .int .u8 (0), .int .u8 (0)], shape := .array 64 5 } := by kernel_rfl
theorem et130 : eqTyOk Tryd.prog 130 = true := by kernel_rfl
theorem ti131 : tinfo Tryd.prog 131 = some { agg := true, sz := 24, bytes := 24, zero := [.int .u8 (0), .int .u8 (0), .int .u8 (0), .int .u8 (0), .int .u8 (0), .int .u8 (0), .int .u8 (0), .int .u8 (0), .int .u8 (0), .int .u8 (0), .int .u8 (0), .int .u8 (0), .int .u8 (0), .int .u8 (0), .int .u8 (0), .int .u8 (0), .int .u8 (0), .int .u8 (0), .int .u8 (0), .int .u8 (0), .int .u8 (0), .int .u8 (0), .int .u8 (0), .int .u8 (0)], shape := .array 24 5 } := by kernel_rfl
theorem et131 : eqTyOk Tryd.prog 131 = true := by kernel_rfl
theorem ti132 : tinfo Tryd.prog 132 = some { agg := false, sz := 1, bytes := 8, zero := [.lit .nilFunc], shape := .func } := by kernel_rfl
theorem ti134 : tinfo Tryd.prog 134 = some { agg := false, sz := 1, bytes := 8, zero := [.lit .nilFunc], shape := .func } := by kernel_rfl
theorem ti136 : tinfo Tryd.prog 136 = some { agg := false, sz := 1, bytes := 8, zero := [.lit .nilFunc], shape := .func } := by kernel_rfl
theorem ti137 : tinfo Tryd.prog 137 = some { agg := false, sz := 1, bytes := 8, zero := [.lit .nilFunc], shape := .func } := by kernel_rfl
theorem ti138 : tinfo Tryd.prog 138 = some { agg := false, sz := 1, bytes := 8, zero := [.int .i64 (0)], shape := .int .i64 } := by kernel_rfl
theorem ti140 : tinfo Tryd.prog 140 = some { agg := false, sz := 1, bytes := 8, zero := [.lit .nilFunc], shape := .func } := by kernel_rfl
theorem ti141 : tinfo Tryd.prog 141 = some { agg := false, sz := 1, bytes := 8, zero := [.lit (.pointer none)], shape := .ptr 154 } := by kernel_rfl
theorem ti142 : tinfo Tryd.prog 142 = some { agg := false, sz := 1, bytes := 8, zero := [.lit .nilFunc], shape := .func } := by kernel_rfl
theorem ti143 : tinfo Tryd.prog 143 = some { agg := false, sz := 1, bytes := 8, zero := [.lit .nilFunc], shape := .func } := by kernel_rfl
theorem ti144 : tinfo Tryd.prog 144 = some { agg := false, sz := 1, bytes := 8, zero := [.lit .nilFunc], shape := .func } := by kernel_rfl
theorem ti145 : tinfo Tryd.prog 145 = some { agg := false, sz := 1, bytes := 8, zero := [.lit .nilFunc], shape := .func } := by kernel_rfl
theorem ti146 : tinfo Tryd.prog 146 = some { agg := true, sz := 20, bytes := 160, zero := [.int .u64 (0), .int .u64 (0), .int .u64 (0), .int .u64 (0), .int .u64 (0), .int .u64 (0), .int .u64 (0), .int .u64 (0), .int .u64 (0), .int .u64 (0), .int .u64 (0), .int .u64 (0), .int .u64 (0), .int .u64 (0), .int .u64 (0), .int .u64 (0), .int .u64 (0), .int .u64 (0), .int .u64 (0), .int .u64 (0)], shape := .array 20 66 } := by kernel_rfl
theorem et146 : eqTyOk Tryd.prog 146 = true := by kernel_rfl
theorem ti147 : tinfo Tryd.prog 147 = some { agg := false, sz := 1, bytes := 4, zero := [.int .u32 (0)], shape := .int .u32 } := by kernel_rfl
theorem ti148 : tinfo Tryd.prog 148 = some { agg := true, sz := 65, bytes := 65, zero := [.int .u8 (0), .int .u8 (0), .int .u8 (0), .int .u8 (0), .int .u8 (0), .int .u8 (0), .int .u8 (0), .int .u8 (0), .int .u8 (0), .int .u8 (0), .int .u8 (0), .int .u8 (0), .int .u8 (0), .int .u8 (0), .int .u8 (0), .int .u8 (0), .int .u8 (0), .int .u8 (0), .int .u8 (0), .int .u8 (0), .int .u8 (0), .int .u8 (0), .int .u8 (0), .int .u8 (0), .int .u8 (0), .int .u8 (0), .int .u8 (0), .int .u8 (0), .int .u8 (0), .int .u8 (0), .int .u8 (0), .int .u8 (0), .int .u8 (0), .int .u8 (0), .int .u8 (0), .int .u8 (0), .int .u8 (0), .int .u8 (0), .int .u8 (0), .int .u8 (0), .int .u8 (0), .int .u8 (0), .int .u8 (0), .int .u8 (0), .int .u8 (0), .int .u8 (0), .int .u8 (0), .int .u8 (0), .int .u8 (0), .int .u8 (0), .int .u8 (0), .int .u8 (0), .int .u8 (0), .int .u8 (0), .int .u8 (0), .int .u8 (0), .int .u8 (0), .int .u8 (0), .int .u8 (0), .int .u8 (0), .int .u8 (0), .int .u8 (0), .int .u8 (0), .int .u8 (0), .int .u8 (0)], shape := .array 65 5 } := by kernel_rfl
theorem et148 : eqTyOk Tryd.prog 148 = true := by kernel_rfl
theorem ti149 : tinfo Tryd.prog 149 = some { agg := false, sz := 1, bytes := 8, zero := [.lit .nilFunc], shape := .func } := by kernel_rfl
theorem ti151 : tinfo Tryd.prog 151 = some { agg := false, sz := 1, bytes := 8, zero := [.lit .nilFunc], shape := .func } := by kernel_rfl
theorem ti152 : tinfo Tryd.prog 152 = some { agg := false, sz := 1, bytes := 8, zero := [.lit .nilFunc], shape := .func } := by kernel_rfl
theorem ti153 : tinfo Tryd.prog 153 = some { agg := true, sz := 3, bytes := 48, zero := [.str [], .str [], .lit .nilIface], shape := .struct [(0, 9), (1, 9), (2, 85)] } := by kernel_rfl
theorem ti154 : tinfo Tryd.prog 154 = some { agg := true, sz := 3, bytes := 48, zero := [.str [], .str [], .lit .nilIface], shape := .struct [(0, 9), (1, 9), (2, 85)] } := by kernel_rfl
theorem ti155 : tinfo Tryd.prog 155 = some { agg := false, sz := 1, bytes := 8, zero := [.lit .nilFunc], shape := .func } := by kernel_rfl
theorem ti156 : tinfo Tryd.prog 156 = some { agg := false, sz := 1, bytes := 8, zero := [.lit .nilFunc], shape := .func } := by kernel_rfl
theorem ti157 : tinfo Tryd.prog 157 = some { agg := true, sz := 256, bytes := 256, zero := [.int .u8 (0), .int .u8 (0), .int .u8 (0), .int .u8 (0), .int .u8 (0), .int .u8 (0), .int .u8 (0), .int .u8 (0), .int .u8 (0), .int .u8 (0), .int .u8 (0), .int .u8 (0), .int .u8 (0), .int .u8 (0), .int .u8 (0), .int .u8 (0), .int .u8 (0), .int .u8 (0), .int .u8 (0), .int .u8 (0), .int .u8 (0), .int .u8 (0), .int .u8 (0), .int .u8 (0), .int .u8 (0), .int .u8 (0), .int .u8 (0), .int .u8 (0), .int .u8 (0), .int .u8 (0), .int .u8 (0), .int .u8 (0), .int .u8 (0), .int .u8 (0), .int .u8 (0), .int .u8 (0), .int .u8 (0), .int .u8 (0), .int .u8 (0), .int .u8 (0), .int .u8 (0), .int .u8 (0), .int .u8 (0), .int .u8 (0), .int .u8 (0), .int .u8 (0), .int .u8 (0), .int .u8 (0), .int .u8 (0), .int .u8 (0), .int .u8 (0), .int .u8 (0), .int .u8 (0), .int .u8 (0), .int .u8 (0), .int .u8 (0), .int .u8 (0), .int .u8 (0), .int .u8 (0), .int .u8 (0), .int .u8 (0), .int .u8 (0), .int .u8 (0), .int .u8 (0), .int .u8 (0), .int .u8 (0), .int .u8 (0), .int .u8 (0), .int .u8 (0), .int .u8 (0), .int .u8 (0), .int .u8 (0), .int .u8 (0), .int .u8 (0), .int .u8 (0), .int .u8 (0), .int .u8 (0), .int .u8 (0), .int .u8 (0), .int .u8 (0), .int .u8 (0), .int .u8 (0), .int .u8 (0), .int .u8 (0), .int .u8 (0), .int .u8 (0), .int .u8 (0), .int .u8 (0), .int .u8 (0), .int .u8 (0), .int .u8 (0), .int .u8 (0), .int .u8 (0), .int .u8 (0), .int .u8 (0), .int .u8 (0), .int .u8 (0), .int .u8 (0), .int .u8 (0), .int .u8 (0), .int .u8 (0), .int .u8 (0), .int .u8 (0), .int .u8 (0), .int .u8 (0), .int .u8 (0), .int .u8 (0), .int .u8 (0), .int .u8 (0), .int .u8 (0), .int .u8 (0), .int .u8 (0), .int .u8 (0), .int .u8 (0), .int .u8 (0), .int .u8 (0), .int .u8 (0), .int .u8 (0), .int .u8 (0), .int .u8 (0), .int .u8 (0), .int .u8 (0), .int .u8 (0), .int .u8 (0), .int .u8 (0), .int .u8 (0), .int .u8 (0), .int .u8 (0), .int .u8 (0), .int .u8 (0), .int .u8 (0), .int .u8 (0), .int .u8 (0), .int .u8 (0), .int .u8 (0), .int .u8 (0), .int .u8 (0), .int .u8 (0), .int .u8 (0), .int .u8 (0), .int .u8 (0), .int .u8 (0), .int .u8 (0), .int .u8 (0), .int .u8 (0), .int .u8 (0), .int .u8 (0), .int .u8 (0), .int .u8 (0), .int .u8 (0), .int .u8 (0), .int .u8 (0), .int .u8 (0), .int .u8 (0), .int .u8 (0), .int .u8 (0), .int .u8 (0), .int .u8 (0), .int .u8 (0), .int .u8 (0), .int .u8 (0), .int .u8 (0), .int .u8 (0), .int .u8 (0), .int .u8 (0), .int .u8 (0), .int .u8 (0), .int .u8 (0), .int .u8 (0), .int .u8 (0), .int .u8 (0), .int .u8 (0), .int .u8 (0), .int .u8 (0), .int .u8 (0), .int .u8 (0), .int .u8 (0), .int .u8 (0), .int .u8 (0), .int .u8 (0), .int .u8 (0), .int .u8 (0), .int .u8 (0), .int .u8 (0), .int .u8 (0), .int .u8 (0), .int .u8 (0), .int .u8 (0), .int .u8 (0), .int .u8 (0), .int .u8 (0), .int .u8 (0), .int .u8 (0), .int .u8 (0), .int .u8 (0), .int .u8 (0), .int .u8 (0), .int .u8 (0), .int .u8 (0), .int .u8 (0), .int .u8 (0), .int .u8 (0), .int .u8 (0), .int .u8 (0), .int .u8 (0), .int .u8 (0), .int .u8 (0), .int .u8 (0), .int .u8 (0), .int .u8 (0), .int .u8 (0), .int .u8 (0), .int .u8 (0), .int .u8 (0), .int .u8 (0), .int .u8 (0), .int .u8 (0), .int .u8 (0), .int .u8 (0), .int .u8 (0), .int .u8 (0), .int .u8 (0), .int .u8 (0), .int .u8 (0), .int .u8 (0), .int .u8 (0), .int .u8 (0), .int .u8 (0), .int .u8 (0), .int .u8 (0), .int .u8 (0), .int .u8 (0), .int .u8 (0), .int .u8 (0), .int .u8 (0), .int .u8 (0), .int .u8 (0), .int .u8 (0), .int .u8 (0), .int .u8 (0), .int .u8 (0), .int .u8 (0), .int .u8 (0), .int .u8 (0), .int .u8 (0), .int .u8 (0), .int .u8 (0), .int .u8 (0), .int .u8 (0), .int .u8 (0), .int .u8 (0), .int .u8 (0), .int .u8 (0), .int .u8 (0), .int .u8 (0), .int .u8 (0)], shape := .array 256 5 } := by kernel_rfl
theorem et157 : eqTyOk Tryd.prog 157 = true := by kernel_rfl
theorem ti158 : tinfo Tryd.prog 158 = some { agg := true, sz := 2, bytes := 2, zero := [.int .u8 (0), .int .u8 (0)], shape := .struct [(0, 5), (1, 5)] } := by kernel_rfl
theorem ti159 : tinfo Tryd.prog 159 = some { agg := true, sz := 2, bytes := 2, zero := [.int .u8 (0), .int .u8 (0)], shape := .struct [(0, 5), (1, 5)] } := by kernel_rfl
theorem et159 : eqTyOk Tryd.prog 159 = true := by kernel_rfl
theorem ti160 : tinfo Tryd.prog 160 = some { agg := true, sz := 32, bytes := 32, zero := [.int .u8 (0), .int .u8 (0), .int .u8 (0), .int .u8 (0), .int .u8 (0), .int .u8 (0), .int .u8 (0), .int .u8 (0), .int .u8 (0), .int .u8 (0), .int .u8 (0), .int .u8 (0), .int .u8 (0), .int .u8 (0), .int .u8 (0), .int .u8 (0), .int .u8 (0), .int .u8 (0), .int .u8 (0), .int .u8 (0), .int .u8 (0), .int .u8 (0), .int .u8 (0), .int .u8 (0), .int .u8 (0), .int .u8 (0), .int .u8 (0), .int .u8 (0), .int .u8 (0), .int .u8 (0), .int .u8 (0), .int .u8 (0)], shape := .array 16 159 } := by kernel_rfl
theorem et160 : eqTyOk Tryd.prog 160 = true := by kernel_rfl
theorem ti162 : tinfo Tryd.prog 162 = some { agg := false, sz := 1, bytes := 8, zero := [.lit .nilFunc], shape := .func } := by kernel_rfl
theorem ti163 : tinfo Tryd.prog 163 = some { agg := false, sz := 1, bytes := 8, zero := [.lit .nilFunc], shape := .func } := by kernel_rfl
theorem ti164 : tinfo Tryd.prog 164 = some { agg := false, sz := 1, bytes := 8, zero := [.lit (.pointer none)], shape := .ptr 166 } := by kernel_rfl
theorem ti165 : tinfo Tryd.prog 165 = some { agg := true, sz := 1, bytes := 16, zero := [.str []], shape := .struct [(0, 9)] } := by kernel_rfl
theorem ti166 : tinfo Tryd.prog 166 = some { agg := true, sz := 1, bytes := 16, zero := [.str []], shape := .struct [(0, 9)] } := by kernel_rfl
theorem et166 : eqTyOk Tryd.prog 166 = true := by kernel_rfl
theorem ti167 : tinfo Tryd.prog 167 = some { agg := true, sz := 32, bytes := 32, zero := [.int .u8 (0), .int .u8 (0), .int .u8 (0), .int .u8 (0), .int .u8 (0), .int .u8 (0), .int .u8 (0), .int .u8 (0), .int .u8 (0), .int .u8 (0), .int .u8 (0), .int .u8 (0), .int .u8 (0), .int .u8 (0), .int .u8 (0), .int .u8 (0), .int .u8 (0), .int .u8 (0), .int .u8 (0), .int .u8 (0), .int .u8 (0), .int .u8 (0), .int .u8 (0), .int .u8 (0), .int .u8 (0), .int .u8 (0), .int .u8 (0), .int .u8 (0), .int .u8 (0), .int .u8 (0), .int .u8 (0), .int .u8 (0)], shape := .array 32 5 } := by kernel_rfl
theorem et167 : eqTyOk Tryd.prog 167 = true := by kernel_rfl
theorem ti168 : tinfo Tryd.prog 168 = some { agg := true, sz := 4, bytes := 40, zero := [.lit (.pointer none), .lit (.pointer none), .lit (.pointer none), .str []], shape := .struct [(0, 17), (1, 17), (2, 17), (3, 9)] } := by kernel_rfl
theorem ti169 : tinfo Tryd.prog 169 = some { agg := true, sz := 4, bytes := 40, zero := [.lit (.pointer none), .lit (.pointer none), .lit (.pointer none), .str []], shape := .struct [(0, 17), (1, 17), (2, 17), (3, 9)] } := by kernel_rfl
theorem ti170 : tinfo Tryd.prog 170 = some { agg := true, sz := 0, bytes := 0, zero := [], shape := .array 0 16 } := by kernel_rfl
theorem ti171 : tinfo Tryd.prog 171 = some { agg := true, sz := 0, bytes := 0, zero := [], shape := .struct [(0, 170)] } := by kernel_rfl
theorem ti172 : tinfo Tryd.prog 172 = some { agg := true, sz := 0, bytes := 0, zero := [], shape := .struct [(0, 170)] } := by kernel_rfl
theorem ti173 : tinfo Tryd.prog 173 = some { agg := false, sz := 1, bytes := 8, zero := [.lit .nilFunc], shape := .func } := by kernel_rfl
theorem ti174 : tinfo Tryd.prog 174 = some { agg := false, sz := 1, bytes := 1, zero := [.int .u8 (0)], shape := .int .u8 } := by kernel_rfl
theorem ti175 : tinfo Tryd.prog 175 = some { agg := false, sz := 1, bytes := 1, zero := [.int .u8 (0)], shape := .int .u8 } := by kernel_rfl
theorem ti176 : tinfo Tryd.prog 176 = some { agg := false, sz := 1, bytes := 8, zero := [.lit .nilFunc], shape := .func } := by kernel_rfl
theorem ti177 : tinfo Tryd.prog 177 = some { agg := false, sz := 1, bytes := 4, zero := [.int .i32 (0)], shape := .int .i32 } := by kernel_rfl
theorem ti178 : tinfo Tryd.prog 178 = some { agg := false, sz := 1, bytes := 4, zero := [.int .i32 (0)], shape := .int .i32 } := by kernel_rfl
theorem ti179 : tinfo Tryd.prog 179 = some { agg := true, sz := 11, bytes := 48, zero := [.int .u64 (0), .int .u64 (0), .int .u32 (0), .int .u8 (0), .int .u8 (0), .int .u8 (0), .int .u8 (0), .lit .nilFunc, .lit (.pointer none), .int .i32 (0), .int .i32 (0)], shape := .struct [(0, 12), (1, 12), (2, 147), (3, 174), (4, 5), (5, 5), (6, 175), (7, 176), (8, 114), (9, 177), (10, 178)] } := by kernel_rfl
theorem ti180 : tinfo Tryd.prog 180 = some { agg := true, sz := 11, bytes := 48, zero := [.int .u64 (0), .int .u64 (0), .int .u32 (0), .int .u8 (0), .int .u8 (0), .int .u8 (0), .int .u8 (0), .lit .nilFunc, .lit (.pointer none), .int .i32 (0), .int .i32 (0)], shape := .struct [(0, 12), (1, 12), (2, 147), (3, 174), (4, 5), (5, 5), (6, 175), (7, 176), (8, 114), (9, 177), (10, 178)] } := by kernel_rfl
theorem en2 : enters Tryd.prog 2 = true := by kernel_rfl
theorem en3 : enters Tryd.prog 3 = true := by kernel_rfl
theorem en4 : enters Tryd.prog 4 = true := by kernel_rfl
theorem en5 : enters Tryd.prog 5 = true := by kernel_rfl
theorem en6 : enters Tryd.prog 6 = true := by kernel_rfl
theorem en7 : enters Tryd.prog 7 = true := by kernel_rfl
theorem en8 : enters Tryd.prog 8 = true := by kernel_rfl
theorem en9 : enters Tryd.prog 9 = true := by kernel_rfl
theorem en10 : enters Tryd.prog 10 = true := by kernel_rfl
theorem en11 : enters Tryd.prog 11 = true := by kernel_rfl
theorem en12 : enters Tryd.prog 12 = true := by kernel_rfl
theorem en13 : enters Tryd.prog 13 = true := by kernel_rfl
theorem en14 : enters Tryd.prog 14 = true := by kernel_rfl
theorem en15 : enters Tryd.prog 15 = true := by kernel_rfl
theorem en16 : enters Tryd.prog 16 = true := by kernel_rfl
theorem en17 : enters Tryd.prog 17 = true := by kernel_rfl
theorem en18 : enters Tryd.prog 18 = true := by kernel_rfl
theorem en19 : enters Tryd.prog 19 = true := by kernel_rfl
theorem en20 : enters Tryd.prog 20 = true := by kernel_rfl
theorem en21 : enters Tryd.prog 21 = true := by kernel_rfl
theorem en22 : enters Tryd.prog 22 = true := by kernel_rfl
theorem en23 : enters Tryd.prog 23 = true := by kernel_rfl
theorem en24 : enters Tryd.prog 24 = true := by kernel_rfl
theorem en25 : enters Tryd.prog 25 = true := by kernel_rfl
theorem en26 : enters Tryd.prog 26 = true := by kernel_rfl
theorem en27 : enters Tryd.prog 27 = true := by kernel_rfl
theorem en28 : enters Tryd.prog 28 = true := by kernel_rfl
theorem en29 : enters Tryd.prog 29 = true := by kernel_rfl
theorem en30 : enters Tryd.prog 30 = true := by kernel_rfl
theorem en31 : enters Tryd.prog 31 = true := by kernel_rfl
theorem en32 : enters Tryd.prog 32 = true := by kernel_rfl
theorem en33 : enters Tryd.prog 33 = true := by kernel_rfl
theorem en34 : enters Tryd.prog 34 = true := by kernel_rfl
theorem en35 : enters Tryd.prog 35 = true := by kernel_rfl
theorem en36 : enters Tryd.prog 36 = true := by kernel_rfl
theorem en37 : enters Tryd.prog 37 = true := by kernel_rfl
theorem en38 : enters Tryd.prog 38 = true := by kernel_rfl
theorem en39 : enters Tryd.prog 39 = true := by kernel_rfl
theorem en40 : enters Tryd.prog 40 = true := by kernel_rfl
theorem en41 : enters Tryd.prog 41 = true := by kernel_rfl
theorem en42 : enters Tryd.prog 42 = true := by kernel_rfl
theorem en43 : enters Tryd.prog 43 = true := by kernel_rfl
theorem en44 : enters Tryd.prog 44 = true := by kernel_rfl
theorem en45 : enters Tryd.prog 45 = true := by kernel_rfl
theorem en46 : enters Tryd.prog 46 = true := by kernel_rfl
theorem en47 : enters Tryd.prog 47 = true := by kernel_rfl
theorem en48 : enters Tryd.prog 48 = true := by kernel_rfl
theorem en49 : enters Tryd.prog 49 = true := by kernel_rfl
theorem en50 : enters Tryd.prog 50 = true := by kernel_rfl
theorem en51 : enters Tryd.prog 51 = true := by kernel_rfl
theorem en52 : enters Tryd.prog 52 = true := by kernel_rfl
theorem en53 : enters Tryd.prog 53 = true := by kernel_rfl
theorem en54 : enters Tryd.prog 54 = true := by kernel_rfl
theorem en55 : enters Tryd.prog 55 = true := by kernel_rfl
theorem en56 : enters Tryd.prog 56 = true := by kernel_rfl
theorem en57 : enters Tryd.prog 57 = true := by kernel_rfl
theorem en58 : enters Tryd.prog 58 = true := by kernel_rfl
theorem en59 : enters Tryd.prog 59 = true := by kernel_rfl
theorem en60 : enters Tryd.prog 60 = true := by kernel_rfl
theorem en61 : enters Tryd.prog 61 = true := by kernel_rfl
theorem en62 : enters Tryd.prog 62 = true := by kernel_rfl
theorem en63 : enters Tryd.prog 63 = true := by kernel_rfl
theorem en64 : enters Tryd.prog 64 = true := by kernel_rfl
theorem en65 : enters Tryd.prog 65 = true := by kernel_rfl
theorem en66 : enters Tryd.prog 66 = true := by kernel_rfl
theorem en67 : enters Tryd.prog 67 = true := by kernel_rfl
theorem en68 : enters Tryd.prog 68 = true := by kernel_rfl
theorem en69 : enters Tryd.prog 69 = true := by kernel_rfl
theorem en70 : enters Tryd.prog 70 = true := by kernel_rfl
theorem en71 : enters Tryd.prog 71 = true := by kernel_rfl
theorem en72 : enters Tryd.prog 72 = true := by kernel_rfl
theorem en73 : enters Tryd.prog 73 = true := by kernel_rfl
theorem en74 : enters Tryd.prog 74 = true := by kernel_rfl
theorem en76 : enters Tryd.prog 76 = true := by kernel_rfl
theorem en77 : enters Tryd.prog 77 = true := by kernel_rfl
theorem en78 : enters Tryd.prog 78 = true := by kernel_rfl
theorem en79 : enters Tryd.prog 79 = true := by kernel_rfl
theorem en80 : enters Tryd.prog 80 = true := by kernel_rfl
theorem en81 : enters Tryd.prog 81 = true := by kernel_rfl
theorem en82 : enters Tryd.prog 82 = true := by kernel_rfl
theorem en83 : enters Tryd.prog 83 = true := by kernel_rfl
theorem en84 : enters Tryd.prog 84 = true := by kernel_rfl
theorem en85 : enters Tryd.prog 85 = true := by kernel_rfl
theorem en86 : enters Tryd.prog 86 = true := by kernel_rfl
theorem en87 : enters Tryd.prog 87 = true := by kernel_rfl
theorem en88 : enters Tryd.prog 88 = true := by kernel_rfl
theorem en89 : enters Tryd.prog 89 = true := by kernel_rfl
theorem en91 : enters Tryd.prog 91 = true := by kernel_rfl
theorem en92 : enters Tryd.prog 92 = true := by kernel_rfl
theorem en93 : enters Tryd.prog 93 = true := by kernel_rfl
theorem en94 : enters Tryd.prog 94 = true := by kernel_rfl
theorem en95 : enters Tryd.prog 95 = true := by kernel_rfl
theorem en96 : enters Tryd.prog 96 = true := by kernel_rfl
theorem en97 : enters Tryd.prog 97 = true := by kernel_rfl
theorem en98 : enters Tryd.prog 98 = true := by kernel_rfl
theorem en99 : enters Tryd.prog 99 = true := by kernel_rfl
theorem en100 : enters Tryd.prog 100 = true := by kernel_rfl
theorem en101 : enters Tryd.prog 101 = true := by kernel_rfl
theorem en102 : enters Tryd.prog 102 = true := by kernel_rfl
theorem en103 : enters Tryd.prog 103 = true := by kernel_rfl
theorem en105 : enters Tryd.prog 105 = true := by kernel_rfl
theorem en106 : enters Tryd.prog 106 = true := by kernel_rfl
theorem en107 : enters Tryd.prog 107 = true := by kernel_rfl
theorem en108 : enters Tryd.prog 108 = true := by kernel_rfl
theorem en109 : enters Tryd.prog 109 = true := by kernel_rfl
theorem en110 : enters Tryd.prog 110 = true := by kernel_rfl
theorem en112 : enters Tryd.prog 112 = true := by kernel_rfl
theorem en113 : enters Tryd.prog 113 = true := by kernel_rfl
theorem en114 : enters Tryd.prog 114 = true := by kernel_rfl
theorem en144 : enters Tryd.prog 144 = true := by kernel_rfl
theorem mixed : Tryd.prog.follows .mixedOrders = true := by kernel_rfl
end Go.Proofs

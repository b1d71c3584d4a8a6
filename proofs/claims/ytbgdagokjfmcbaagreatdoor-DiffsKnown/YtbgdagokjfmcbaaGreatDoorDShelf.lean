import Derived.Shelf.Strings.Builder1
import Derived.Shelf.Utf8.RuneCount
import Derived.Shelf.Strconv.Itoa0
import Derived.Shelf.Strconv.Itoa1
import Derived.Shelf.LaysM
import Derived.Shelf.Strconv.Itoa2
import Derived.Shelf.Strconv.Itoa3
import Derived.Shelf.Strings.Search1
import Derived.Shelf.Strings.Search2
import Derived.Shelf.Strings.Search3
import Derived.Shelf.Strings.Cut
import Derived.Shelf.Strings.Count
import Derived.Shelf.Strings.Shaped
import Derived.Shelf.Strings.Split
import Derived.Shelf.Strings.SplitShaped
import Derived.Shelf.Unicode.Decode
import Derived.Shelf.Strings.RuneCount
import Derived.Shelf.Strings.Explode
import Derived.Shelf.Unicode.DecodeSlow
import Derived.Shelf.Unicode.DecodeAny
import Derived.Ground.Names2Prog
import Derived.Shelf.Slices.Clone
import Derived.Shelf.Slices.SearchI
import Derived.Ground.SlgnProg
import Derived.Shelf.SlicesE.Clone
import Derived.Test.YtbgdagokjfmcbaaGreatDoorProg
namespace Go.Proofs
open Go.Shelf
def Tryz.laysM171_ren : Go.Shelf.Ren := ⟨fun|171 => 20|243 => 49|246 => 68|283 => 81|284 => 82|285 => 83|286 => 84|129 => 94|317 => 93|318 => 95|319 => 96|320 => 97|337 => 108|338 => 109|n => n, fun|3 => 3|9 => 9|2 => 2|4 => 4|171 => 135|0 => 0|53 => 136|37 => 64|5 => 5|173 => 139|212 => 149|51 => 150|20 => 20|213 => 151|46 => 153|232 => 166|233 => 167|n => n, fun|17 => 1|18 => 5|19 => 6|n => n⟩
theorem Tryz.laysM171 : Go.Proofs.LaysM.n171 Tryz.prog Tryz.laysM171_ren := {
 mixed := by kernel_rfl
 f129 := Tryz.func94.trans (congrArg some (by kernel_rfl))
 f171 := Tryz.func20.trans (congrArg some (by kernel_rfl))
 f243 := Tryz.func49.trans (congrArg some (by kernel_rfl))
 f246 := Tryz.func68.trans (congrArg some (by kernel_rfl))
 f283 := Tryz.func81.trans (congrArg some (by kernel_rfl))
 f284 := Tryz.func82.trans (congrArg some (by kernel_rfl))
 f285 := Tryz.func83.trans (congrArg some (by kernel_rfl))
 f286 := Tryz.func84.trans (congrArg some (by kernel_rfl))
 f317 := Tryz.func93.trans (congrArg some (by kernel_rfl))
 f318 := Tryz.func95.trans (congrArg some (by kernel_rfl))
 f319 := Tryz.func96.trans (congrArg some (by kernel_rfl))
 f320 := Tryz.func97.trans (congrArg some (by kernel_rfl))
 f337 := Tryz.func108.trans (congrArg some (by kernel_rfl))
 f338 := Tryz.func109.trans (congrArg some (by kernel_rfl))
 t0 := Tryz.underlying0
 a0 := Tryz.isAgg0
 z0 := Tryz.sizeOf0
 v0 := Tryz.zeroValue0
 t2 := Tryz.underlying2
 a2 := Tryz.isAgg2
 z2 := Tryz.sizeOf2
 v2 := Tryz.zeroValue2
 t3 := Tryz.underlying3
 a3 := Tryz.isAgg3
 z3 := Tryz.sizeOf3
 v3 := Tryz.zeroValue3
 t4 := Tryz.underlying4
 a4 := Tryz.isAgg4
 z4 := Tryz.sizeOf4
 v4 := Tryz.zeroValue4
 t5 := Tryz.underlying5
 a5 := Tryz.isAgg5
 z5 := Tryz.sizeOf5
 v5 := Tryz.zeroValue5
 t9 := Tryz.underlying9
 a9 := Tryz.isAgg9
 z9 := Tryz.sizeOf9
 v9 := Tryz.zeroValue9
 t20 := Tryz.underlying20
 a20 := Tryz.isAgg20
 z20 := Tryz.sizeOf20
 v20 := Tryz.zeroValue20
 t37 := Tryz.underlying64
 a37 := Tryz.isAgg64
 z37 := Tryz.sizeOf64
 v37 := Tryz.zeroValue64
 t46 := Tryz.underlying153
 a46 := Tryz.isAgg153
 z46 := Tryz.sizeOf153
 v46 := Tryz.zeroValue153
 t51 := Tryz.underlying150
 a51 := Tryz.isAgg150
 z51 := Tryz.sizeOf150
 v51 := Tryz.zeroValue150
 t53 := Tryz.underlying136
 a53 := Tryz.isAgg136
 z53 := Tryz.sizeOf136
 v53 := Tryz.zeroValue136
 t171 := Tryz.underlying135
 a171 := Tryz.isAgg135
 z171 := Tryz.sizeOf135
 v171 := Tryz.zeroValue135
 t173 := Tryz.underlying139
 a173 := Tryz.isAgg139
 z173 := Tryz.sizeOf139
 v173 := Tryz.zeroValue139
 t212 := Tryz.underlying149
 a212 := Tryz.isAgg149
 z212 := Tryz.sizeOf149
 v212 := Tryz.zeroValue149
 t213 := Tryz.underlying151
 a213 := Tryz.isAgg151
 z213 := Tryz.sizeOf151
 t232 := Tryz.underlying166
 a232 := Tryz.isAgg166
 z232 := Tryz.sizeOf166
 v232 := Tryz.zeroValue166
 t233 := Tryz.underlying167
 a233 := Tryz.isAgg167
 z233 := Tryz.sizeOf167
 v233 := Tryz.zeroValue167
 g17 := by kernel_rfl
 g18 := by kernel_rfl
 g19 := by kernel_rfl
 i0 := by kernel_rfl
 i2 := by kernel_rfl
 i3 := by kernel_rfl
 i4 := by kernel_rfl
 i5 := by kernel_rfl
 i9 := by kernel_rfl
 i20 := by kernel_rfl
 i37 := by kernel_rfl
 i46 := by kernel_rfl
 i51 := by kernel_rfl
 i53 := by kernel_rfl
 i171 := by kernel_rfl
 i173 := by kernel_rfl
 i212 := by kernel_rfl
 i232 := by kernel_rfl
 i233 := by kernel_rfl
 m17 := by kernel_rfl
 m18 := by kernel_rfl
 m19 := by kernel_rfl }
open Go.RowKit Go.Sort Go.Lib in
theorem Tryz.strconv_Itoa (n : Int) (h0 : -9223372036854775808 ≤ n) (h1 : n ≤ 9223372036854775807) (w : World) (htab : Lib.TabIs Tryz.prog w "internal/strconv.uint64pow10" .u64 Lib.pow10Tab) :
  Calls Tryz.prog 20 #[.int .i64 n] w fun e w' => e = .returned (.string ⟨(Lib.itoa n).toArray⟩) ∧ ∃ k os, w' = grow (w.drewN k) os := Any.strconv_Itoa Tryz.laysM171 n h0 h1 w htab
def Tryz.lays145_ren : Go.Shelf.Ren := ⟨fun|145 => 54|220 => 74|219 => 88|217 => 99|225 => 100|224 => 101|267 => 102|266 => 110|314 => 111|n => n, fun|9 => 9|4 => 4|59 => 110|3 => 3|5 => 5|46 => 153|146 => 163|51 => 150|n => n, fun|1 => 2|n => n⟩
theorem Tryz.lays145 : Go.Proofs.Lays.n145 Tryz.prog Tryz.lays145_ren := {
 mixed := by kernel_rfl
 f145 := Tryz.func54.trans (congrArg some (by kernel_rfl))
 f217 := Tryz.func99.trans (congrArg some (by kernel_rfl))
 f219 := Tryz.func88.trans (congrArg some (by kernel_rfl))
 f220 := Tryz.func74.trans (congrArg some (by kernel_rfl))
 f224 := Tryz.func101.trans (congrArg some (by kernel_rfl))
 f225 := Tryz.func100.trans (congrArg some (by kernel_rfl))
 f266 := Tryz.func110.trans (congrArg some (by kernel_rfl))
 f267 := Tryz.func102.trans (congrArg some (by kernel_rfl))
 f314 := Tryz.func111.trans (congrArg some (by kernel_rfl))
 t3 := Tryz.underlying3
 a3 := Tryz.isAgg3
 z3 := Tryz.sizeOf3
 v3 := Tryz.zeroValue3
 t4 := Tryz.underlying4
 a4 := Tryz.isAgg4
 z4 := Tryz.sizeOf4
 v4 := Tryz.zeroValue4
 t5 := Tryz.underlying5
 a5 := Tryz.isAgg5
 z5 := Tryz.sizeOf5
 v5 := Tryz.zeroValue5
 t9 := Tryz.underlying9
 a9 := Tryz.isAgg9
 z9 := Tryz.sizeOf9
 v9 := Tryz.zeroValue9
 t46 := Tryz.underlying153
 a46 := Tryz.isAgg153
 z46 := Tryz.sizeOf153
 v46 := Tryz.zeroValue153
 t51 := Tryz.underlying150
 a51 := Tryz.isAgg150
 z51 := Tryz.sizeOf150
 v51 := Tryz.zeroValue150
 t59 := Tryz.underlying110
 a59 := Tryz.isAgg110
 z59 := Tryz.sizeOf110
 v59 := Tryz.zeroValue110
 t146 := Tryz.underlying163
 a146 := Tryz.isAgg163
 z146 := Tryz.sizeOf163
 v146 := Tryz.zeroValue163
 g1 := by kernel_rfl }
open Go.RowKit Go.Lib in
theorem Tryz.strings_Cut (s sep : ByteArray) (m : Int) (w : World) (hs : s.size < 4294967281) (hm : w.cell? ⟨2, 0, none⟩ = some (.int .i64 m)) :
  Calls Tryz.prog 54 #[.string s, .string sep] w fun e w' => e = .returned (.tuple #[.string ⟨(Lib.cut s.data.toList sep.data.toList).1.toArray⟩, .string ⟨(Lib.cut s.data.toList sep.data.toList).2.1.toArray⟩, .bool (Lib.cut s.data.toList sep.data.toList).2.2]) ∧ ∃ n, w' = w.drewN n := Any.strings_Cut Tryz.lays145 s sep m w hs hm
def Tryz.lays221_ren : Go.Shelf.Ren := ⟨fun|221 => 50|268 => 69|138 => 70|143 => 71|195 => 85|197 => 86|218 => 87|219 => 88|260 => 98|217 => 99|225 => 100|224 => 101|267 => 102|266 => 110|314 => 111|n => n, fun|9 => 9|3 => 3|31 => 52|4 => 4|0 => 0|105 => 142|21 => 21|5 => 5|46 => 153|119 => 159|139 => 162|138 => 161|146 => 163|51 => 150|n => n, fun|1 => 2|3 => 3|4 => 4|n => n⟩
theorem Tryz.lays221 : Go.Proofs.Lays.n221 Tryz.prog Tryz.lays221_ren := {
 mixed := by kernel_rfl
 f138 := Tryz.func70.trans (congrArg some (by kernel_rfl))
 f143 := Tryz.func71.trans (congrArg some (by kernel_rfl))
 f195 := Tryz.func85.trans (congrArg some (by kernel_rfl))
 f197 := Tryz.func86.trans (congrArg some (by kernel_rfl))
 f217 := Tryz.func99.trans (congrArg some (by kernel_rfl))
 f218 := Tryz.func87.trans (congrArg some (by kernel_rfl))
 f219 := Tryz.func88.trans (congrArg some (by kernel_rfl))
 f221 := Tryz.func50.trans (congrArg some (by kernel_rfl))
 f224 := Tryz.func101.trans (congrArg some (by kernel_rfl))
 f225 := Tryz.func100.trans (congrArg some (by kernel_rfl))
 f260 := Tryz.func98.trans (congrArg some (by kernel_rfl))
 f266 := Tryz.func110.trans (congrArg some (by kernel_rfl))
 f267 := Tryz.func102.trans (congrArg some (by kernel_rfl))
 f268 := Tryz.func69.trans (congrArg some (by kernel_rfl))
 f314 := Tryz.func111.trans (congrArg some (by kernel_rfl))
 t0 := Tryz.underlying0
 a0 := Tryz.isAgg0
 z0 := Tryz.sizeOf0
 v0 := Tryz.zeroValue0
 t3 := Tryz.underlying3
 a3 := Tryz.isAgg3
 z3 := Tryz.sizeOf3
 v3 := Tryz.zeroValue3
 t4 := Tryz.underlying4
 a4 := Tryz.isAgg4
 z4 := Tryz.sizeOf4
 v4 := Tryz.zeroValue4
 t5 := Tryz.underlying5
 a5 := Tryz.isAgg5
 z5 := Tryz.sizeOf5
 v5 := Tryz.zeroValue5
 t9 := Tryz.underlying9
 a9 := Tryz.isAgg9
 z9 := Tryz.sizeOf9
 v9 := Tryz.zeroValue9
 t21 := Tryz.underlying21
 a21 := Tryz.isAgg21
 z21 := Tryz.sizeOf21
 v21 := Tryz.zeroValue21
 t31 := Tryz.underlying52
 a31 := Tryz.isAgg52
 z31 := Tryz.sizeOf52
 v31 := Tryz.zeroValue52
 t46 := Tryz.underlying153
 a46 := Tryz.isAgg153
 z46 := Tryz.sizeOf153
 v46 := Tryz.zeroValue153
 t51 := Tryz.underlying150
 a51 := Tryz.isAgg150
 z51 := Tryz.sizeOf150
 v51 := Tryz.zeroValue150
 t105 := Tryz.underlying142
 a105 := Tryz.isAgg142
 z105 := Tryz.sizeOf142
 v105 := Tryz.zeroValue142
 t119 := Tryz.underlying159
 a119 := Tryz.isAgg159
 z119 := Tryz.sizeOf159
 t138 := Tryz.underlying161
 a138 := Tryz.isAgg161
 z138 := Tryz.sizeOf161
 v138 := Tryz.zeroValue161
 t139 := Tryz.underlying162
 a139 := Tryz.isAgg162
 z139 := Tryz.sizeOf162
 v139 := Tryz.zeroValue162
 t146 := Tryz.underlying163
 a146 := Tryz.isAgg163
 z146 := Tryz.sizeOf163
 v146 := Tryz.zeroValue163
 g1 := by kernel_rfl
 g3 := by kernel_rfl
 g4 := by kernel_rfl }
open Go.RowKit Go.Lib in
theorem Tryz.strings_genSplit (s sep : ByteArray) (sv : Nat) (n : Int) (N : Nat) (m : Int) (w : World) (hs : s.size < 4294967281) (hm : w.cell? ⟨2, 0, none⟩ = some (.int .i64 m)) (h1 : 1 ≤ sep.size) (hsv : sv ≤ sep.size) (hn0 : n ≠ 0) (hn63 : n ≤ 9223372036854775807) (hN : (N : Int) = min (if n < 0 then (Lib.countB s sep : Int) + 1 else n) ((s.size : Int) + 1)) :
  Calls Tryz.prog 50 #[.string s, .string sep, .int .i64 sv, .int .i64 n] w fun e w' =>
   e = .returned (.slice (some ⟨w.heap.size, 0, none⟩) (Lib.splitB sep sv (N - 1) s).length N) ∧ w' = w.alloc (.cells (Lib.cellsOf (Lib.splitB sep sv (N - 1) s) N) 9) := Any.strings_genSplit Tryz.lays221 (by kernel_rfl) s sep sv n N m w hs hm h1 hsv hn0 hn63 hN
def Tryz.lays146_ren : Go.Shelf.Ren := ⟨fun|146 => 53|221 => 50|268 => 69|138 => 70|143 => 71|195 => 85|197 => 86|218 => 87|219 => 88|260 => 98|217 => 99|225 => 100|224 => 101|267 => 102|266 => 110|314 => 111|n => n, fun|9 => 9|31 => 52|3 => 3|4 => 4|0 => 0|105 => 142|21 => 21|5 => 5|46 => 153|119 => 159|139 => 162|138 => 161|146 => 163|51 => 150|n => n, fun|1 => 2|3 => 3|4 => 4|n => n⟩
theorem Tryz.lays146 : Go.Proofs.Lays.n146 Tryz.prog Tryz.lays146_ren := {
 mixed := by kernel_rfl
 f138 := Tryz.func70.trans (congrArg some (by kernel_rfl))
 f143 := Tryz.func71.trans (congrArg some (by kernel_rfl))
 f146 := Tryz.func53.trans (congrArg some (by kernel_rfl))
 f195 := Tryz.func85.trans (congrArg some (by kernel_rfl))
 f197 := Tryz.func86.trans (congrArg some (by kernel_rfl))
 f217 := Tryz.func99.trans (congrArg some (by kernel_rfl))
 f218 := Tryz.func87.trans (congrArg some (by kernel_rfl))
 f219 := Tryz.func88.trans (congrArg some (by kernel_rfl))
 f221 := Tryz.func50.trans (congrArg some (by kernel_rfl))
 f224 := Tryz.func101.trans (congrArg some (by kernel_rfl))
 f225 := Tryz.func100.trans (congrArg some (by kernel_rfl))
 f260 := Tryz.func98.trans (congrArg some (by kernel_rfl))
 f266 := Tryz.func110.trans (congrArg some (by kernel_rfl))
 f267 := Tryz.func102.trans (congrArg some (by kernel_rfl))
 f268 := Tryz.func69.trans (congrArg some (by kernel_rfl))
 f314 := Tryz.func111.trans (congrArg some (by kernel_rfl))
 t0 := Tryz.underlying0
 a0 := Tryz.isAgg0
 z0 := Tryz.sizeOf0
 v0 := Tryz.zeroValue0
 t3 := Tryz.underlying3
 a3 := Tryz.isAgg3
 z3 := Tryz.sizeOf3
 v3 := Tryz.zeroValue3
 t4 := Tryz.underlying4
 a4 := Tryz.isAgg4
 z4 := Tryz.sizeOf4
 v4 := Tryz.zeroValue4
 t5 := Tryz.underlying5
 a5 := Tryz.isAgg5
 z5 := Tryz.sizeOf5
 v5 := Tryz.zeroValue5
 t9 := Tryz.underlying9
 a9 := Tryz.isAgg9
 z9 := Tryz.sizeOf9
 v9 := Tryz.zeroValue9
 t21 := Tryz.underlying21
 a21 := Tryz.isAgg21
 z21 := Tryz.sizeOf21
 v21 := Tryz.zeroValue21
 t31 := Tryz.underlying52
 a31 := Tryz.isAgg52
 z31 := Tryz.sizeOf52
 v31 := Tryz.zeroValue52
 t46 := Tryz.underlying153
 a46 := Tryz.isAgg153
 z46 := Tryz.sizeOf153
 v46 := Tryz.zeroValue153
 t51 := Tryz.underlying150
 a51 := Tryz.isAgg150
 z51 := Tryz.sizeOf150
 v51 := Tryz.zeroValue150
 t105 := Tryz.underlying142
 a105 := Tryz.isAgg142
 z105 := Tryz.sizeOf142
 v105 := Tryz.zeroValue142
 t119 := Tryz.underlying159
 a119 := Tryz.isAgg159
 z119 := Tryz.sizeOf159
 t138 := Tryz.underlying161
 a138 := Tryz.isAgg161
 z138 := Tryz.sizeOf161
 v138 := Tryz.zeroValue161
 t139 := Tryz.underlying162
 a139 := Tryz.isAgg162
 z139 := Tryz.sizeOf162
 v139 := Tryz.zeroValue162
 t146 := Tryz.underlying163
 a146 := Tryz.isAgg163
 z146 := Tryz.sizeOf163
 v146 := Tryz.zeroValue163
 g1 := by kernel_rfl
 g3 := by kernel_rfl
 g4 := by kernel_rfl }
open Go.RowKit Go.Lib in
theorem Tryz.strings_Split (s sep : ByteArray) (m : Int) (w : World) (hs : s.size < 4294967281) (hm : w.cell? ⟨2, 0, none⟩ = some (.int .i64 m)) (h1 : 1 ≤ sep.size) :
  Calls Tryz.prog 53 #[.string s, .string sep] w fun e w' =>
   e = .returned (.slice (some ⟨w.heap.size, 0, none⟩) (Lib.countB s sep + 1) (Lib.countB s sep + 1)) ∧ w' = w.alloc (.cells ((Lib.splitB sep 0 (Lib.countB s sep) s).map Value.string).toArray 9) := Any.strings_Split Tryz.lays146 (by kernel_rfl) s sep m w hs hm h1
end Go.Proofs

import Derived.Shelf.Strings.Builder1
import Derived.Shelf.Strings.Builder2
import Derived.Shelf.Strings.OnBuilder
import Derived.Shelf.Utf8.RuneCount
import Derived.Shelf.Strconv.Atoi
import Derived.Shelf.Strconv.Itoa0
import Derived.Shelf.Strconv.Itoa1
import Derived.Shelf.LaysM
import Derived.Shelf.Strconv.Itoa2
import Derived.Shelf.Strconv.Itoa3
import Derived.Shelf.Strconv.AtoiErrFast
import Derived.Shelf.Strconv.ParseIntEmpty
import Derived.Shelf.Strconv.AtoiFail
import Derived.Shelf.Strconv.Clone
import Derived.Shelf.Strconv.SyntaxError
import Derived.Shelf.LaysC
import Derived.Shelf.Strconv.ToError
import Derived.Shelf.Strconv.Lower
import Derived.Shelf.Strconv.ParseUint10
import Derived.Shelf.Strconv.ParseUint10Empty
import Derived.Shelf.Strconv.ParseUint10Any
import Derived.Shelf.Strconv.ParseInt10
import Derived.Shelf.Strconv.AtoiLong
import Derived.Shelf.Strconv.AtoiInnerAll
import Derived.Shelf.Strconv.RangeError
import Derived.Shelf.Strconv.ToErrorRange
import Derived.Shelf.Strconv.AtoiAll
import Derived.Shelf.Strconv.ErrVarAll
import Derived.Shelf.Strings.Search1
import Derived.Shelf.Strings.Search2
import Derived.Shelf.Strings.Search3
import Derived.Shelf.Strings.Count
import Derived.Shelf.Strings.Shaped
import Derived.Shelf.Strings.Split
import Derived.Shelf.Strings.SplitShaped
import Derived.Shelf.Unicode.Decode
import Derived.Shelf.Strings.RuneCount
import Derived.Shelf.Strings.Explode
import Derived.Shelf.Unicode.DecodeSlow
import Derived.Shelf.Unicode.DecodeAny
import Derived.Ground.Names2Prog
import Derived.Shelf.Slices.SearchI
import Derived.Test.YtfdnlhegmdhcjaaDoorProg
namespace Go.Proofs
open Go.Shelf
def Tryd.lays156_ren : Go.Shelf.Ren := ⟨fun|156 => 47|165 => 66|166 => 67|169 => 68|240 => 78|241 => 79|276 => 92|277 => 93|n => n, fun|31 => 93|9 => 9|3 => 3|4 => 4|0 => 0|20 => 20|72 => 125|76 => 109|70 => 122|37 => 123|75 => 108|127 => 136|164 => 151|5 => 5|80 => 127|n => n, fun|n => n⟩
theorem Tryd.lays156 : Go.Proofs.Lays.n156 Tryd.prog Tryd.lays156_ren := {
 mixed := by kernel_rfl
 f156 := Tryd.func47.trans (congrArg some (by kernel_rfl))
 f165 := Tryd.func66.trans (congrArg some (by kernel_rfl))
 f166 := Tryd.func67.trans (congrArg some (by kernel_rfl))
 f169 := Tryd.func68.trans (congrArg some (by kernel_rfl))
 f240 := Tryd.func78.trans (congrArg some (by kernel_rfl))
 f241 := Tryd.func79.trans (congrArg some (by kernel_rfl))
 f276 := Tryd.func92.trans (congrArg some (by kernel_rfl))
 f277 := Tryd.func93.trans (congrArg some (by kernel_rfl))
 t0 := Tryd.underlying0
 a0 := Tryd.isAgg0
 z0 := Tryd.sizeOf0
 v0 := Tryd.zeroValue0
 t3 := Tryd.underlying3
 a3 := Tryd.isAgg3
 z3 := Tryd.sizeOf3
 v3 := Tryd.zeroValue3
 t4 := Tryd.underlying4
 a4 := Tryd.isAgg4
 z4 := Tryd.sizeOf4
 v4 := Tryd.zeroValue4
 t9 := Tryd.underlying9
 a9 := Tryd.isAgg9
 z9 := Tryd.sizeOf9
 v9 := Tryd.zeroValue9
 t20 := Tryd.underlying20
 a20 := Tryd.isAgg20
 z20 := Tryd.sizeOf20
 v20 := Tryd.zeroValue20
 t31 := Tryd.underlying93
 a31 := Tryd.isAgg93
 z31 := Tryd.sizeOf93
 v31 := Tryd.zeroValue93
 t37 := Tryd.underlying123
 a37 := Tryd.isAgg123
 z37 := Tryd.sizeOf123
 v37 := Tryd.zeroValue123
 t70 := Tryd.underlying122
 a70 := Tryd.isAgg122
 z70 := Tryd.sizeOf122
 v70 := Tryd.zeroValue122
 t72 := Tryd.underlying125
 a72 := Tryd.isAgg125
 z72 := Tryd.sizeOf125
 v72 := Tryd.zeroValue125
 t75 := Tryd.underlying108
 a75 := Tryd.isAgg108
 z75 := Tryd.sizeOf108
 v75 := Tryd.zeroValue108
 t76 := Tryd.underlying109
 a76 := Tryd.isAgg109
 z76 := Tryd.sizeOf109
 v76 := Tryd.zeroValue109
 t127 := Tryd.underlying136
 a127 := Tryd.isAgg136
 z127 := Tryd.sizeOf136
 v127 := Tryd.zeroValue136
 t164 := Tryd.underlying151
 a164 := Tryd.isAgg151
 z164 := Tryd.sizeOf151
 v164 := Tryd.zeroValue151 }
theorem Tryd.Builder_Extra_156 : Builder.Extra Tryd.prog Tryd.lays156_ren := {
 sizeBuilder := by kernel_rfl
 liesBuilder := by kernel_rfl
 t5 := Tryd.underlying5
 a5 := Tryd.isAgg5
 z5 := Tryd.sizeOf5
 v5 := Tryd.zeroValue5
 infoByte := by kernel_rfl
 cellsByte := by kernel_rfl
 sizeByte := by kernel_rfl
 neB5 := by decide }
open Go.RowKit in
theorem Tryd.strings_Join_none (a : Option Addr) (c : Nat) (sep : ByteArray) (w : World) :
  Calls Tryd.prog 47 #[.slice a 0 c, .string sep] w fun e w' => e = .returned (.string ⟨#[]⟩) ∧ w' = w := Any.strings_Join_none Tryd.lays156 Tryd.Builder_Extra_156 a c sep w
open Go.RowKit in
theorem Tryd.strings_Join (bk o c : Nat) (xs : List ByteArray) (sep : ByteArray) (w : World) (hcells : ∀ (j : Nat) x, xs[j]? = some x → w.cell? ⟨bk, o + j, none⟩ = some (.string x)) (hbk : bk < w.heap.size) (hN : xs.length ≤ 140737488355328) (hcap : xs.length ≤ c) (hlen : (Lib.join (xs.map (·.data.toList)) sep.data.toList).length ≤ 140737488355328) :
  Calls Tryd.prog 47 #[.slice (some ⟨bk, o, none⟩) xs.length c, .string sep] w fun e w' => e = .returned (.string ⟨(Lib.join (xs.map (·.data.toList)) sep.data.toList).toArray⟩) ∧ Below w.heap.size w w' := Any.strings_Join Tryd.lays156 Tryd.Builder_Extra_156 bk o c xs sep w hcells hbk hN hcap hlen
def Tryd.laysM171_ren : Go.Shelf.Ren := ⟨fun|171 => 46|243 => 65|246 => 77|283 => 88|284 => 89|285 => 90|286 => 91|129 => 102|317 => 101|318 => 103|319 => 104|320 => 105|337 => 113|338 => 114|n => n, fun|3 => 3|9 => 9|2 => 2|4 => 4|171 => 145|0 => 0|53 => 146|37 => 123|5 => 5|173 => 149|212 => 167|51 => 168|20 => 20|213 => 169|46 => 160|232 => 183|233 => 184|n => n, fun|17 => 3|18 => 7|19 => 8|n => n⟩
theorem Tryd.laysM171 : Go.Proofs.LaysM.n171 Tryd.prog Tryd.laysM171_ren := {
 mixed := by kernel_rfl
 f129 := Tryd.func102.trans (congrArg some (by kernel_rfl))
 f171 := Tryd.func46.trans (congrArg some (by kernel_rfl))
 f243 := Tryd.func65.trans (congrArg some (by kernel_rfl))
 f246 := Tryd.func77.trans (congrArg some (by kernel_rfl))
 f283 := Tryd.func88.trans (congrArg some (by kernel_rfl))
 f284 := Tryd.func89.trans (congrArg some (by kernel_rfl))
 f285 := Tryd.func90.trans (congrArg some (by kernel_rfl))
 f286 := Tryd.func91.trans (congrArg some (by kernel_rfl))
 f317 := Tryd.func101.trans (congrArg some (by kernel_rfl))
 f318 := Tryd.func103.trans (congrArg some (by kernel_rfl))
 f319 := Tryd.func104.trans (congrArg some (by kernel_rfl))
 f320 := Tryd.func105.trans (congrArg some (by kernel_rfl))
 f337 := Tryd.func113.trans (congrArg some (by kernel_rfl))
 f338 := Tryd.func114.trans (congrArg some (by kernel_rfl))
 t0 := Tryd.underlying0
 a0 := Tryd.isAgg0
 z0 := Tryd.sizeOf0
 v0 := Tryd.zeroValue0
 t2 := Tryd.underlying2
 a2 := Tryd.isAgg2
 z2 := Tryd.sizeOf2
 v2 := Tryd.zeroValue2
 t3 := Tryd.underlying3
 a3 := Tryd.isAgg3
 z3 := Tryd.sizeOf3
 v3 := Tryd.zeroValue3
 t4 := Tryd.underlying4
 a4 := Tryd.isAgg4
 z4 := Tryd.sizeOf4
 v4 := Tryd.zeroValue4
 t5 := Tryd.underlying5
 a5 := Tryd.isAgg5
 z5 := Tryd.sizeOf5
 v5 := Tryd.zeroValue5
 t9 := Tryd.underlying9
 a9 := Tryd.isAgg9
 z9 := Tryd.sizeOf9
 v9 := Tryd.zeroValue9
 t20 := Tryd.underlying20
 a20 := Tryd.isAgg20
 z20 := Tryd.sizeOf20
 v20 := Tryd.zeroValue20
 t37 := Tryd.underlying123
 a37 := Tryd.isAgg123
 z37 := Tryd.sizeOf123
 v37 := Tryd.zeroValue123
 t46 := Tryd.underlying160
 a46 := Tryd.isAgg160
 z46 := Tryd.sizeOf160
 v46 := Tryd.zeroValue160
 t51 := Tryd.underlying168
 a51 := Tryd.isAgg168
 z51 := Tryd.sizeOf168
 v51 := Tryd.zeroValue168
 t53 := Tryd.underlying146
 a53 := Tryd.isAgg146
 z53 := Tryd.sizeOf146
 v53 := Tryd.zeroValue146
 t171 := Tryd.underlying145
 a171 := Tryd.isAgg145
 z171 := Tryd.sizeOf145
 v171 := Tryd.zeroValue145
 t173 := Tryd.underlying149
 a173 := Tryd.isAgg149
 z173 := Tryd.sizeOf149
 v173 := Tryd.zeroValue149
 t212 := Tryd.underlying167
 a212 := Tryd.isAgg167
 z212 := Tryd.sizeOf167
 v212 := Tryd.zeroValue167
 t213 := Tryd.underlying169
 a213 := Tryd.isAgg169
 z213 := Tryd.sizeOf169
 t232 := Tryd.underlying183
 a232 := Tryd.isAgg183
 z232 := Tryd.sizeOf183
 v232 := Tryd.zeroValue183
 t233 := Tryd.underlying184
 a233 := Tryd.isAgg184
 z233 := Tryd.sizeOf184
 v233 := Tryd.zeroValue184
 g17 := by kernel_rfl
 g18 := by kernel_rfl
 g19 := by kernel_rfl
 i0 := by kernel_rfl
 i2 := by kernel_rfl
 i3 := by kernel_rfl
 i4 := by kernel_rfl
 i5 := by kernel_rfl
 i9 := by kernel_rfl
 i20 := by kernel_rfl
 i37 := by kernel_rfl
 i46 := by kernel_rfl
 i51 := by kernel_rfl
 i53 := by kernel_rfl
 i171 := by kernel_rfl
 i173 := by kernel_rfl
 i212 := by kernel_rfl
 i232 := by kernel_rfl
 i233 := by kernel_rfl
 m17 := by kernel_rfl
 m18 := by kernel_rfl
 m19 := by kernel_rfl }
open Go.RowKit Go.Sort Go.Lib in
theorem Tryd.strconv_Itoa (n : Int) (h0 : -9223372036854775808 ≤ n) (h1 : n ≤ 9223372036854775807) (w : World) (htab : Lib.TabIs Tryd.prog w "internal/strconv.uint64pow10" .u64 Lib.pow10Tab) :
  Calls Tryd.prog 46 #[.int .i64 n] w fun e w' => e = .returned (.string ⟨(Lib.itoa n).toArray⟩) ∧ ∃ k os, w' = grow (w.drewN k) os := Any.strconv_Itoa Tryd.laysM171 n h0 h1 w htab
def Tryd.laysC172_ren : Go.Shelf.Ren := ⟨fun|172 => 56|244 => 71|245 => 72|247 => 83|279 => 84|280 => 85|281 => 86|282 => 87|287 => 98|316 => 99|171 => 46|205 => 100|321 => 111|322 => 112|243 => 65|246 => 77|283 => 88|284 => 89|285 => 90|286 => 91|129 => 102|317 => 101|318 => 103|319 => 104|320 => 105|337 => 113|338 => 114|n => n, fun|9 => 9|3 => 3|75 => 108|76 => 109|4 => 4|5 => 5|167 => 139|37 => 123|0 => 0|85 => 140|2 => 2|168 => 142|53 => 146|175 => 158|46 => 160|210 => 163|127 => 136|145 => 175|143 => 173|21 => 21|171 => 145|173 => 149|212 => 167|51 => 168|20 => 20|213 => 169|232 => 183|233 => 184|80 => 127|n => n, fun|15 => 1|16 => 2|17 => 3|18 => 7|19 => 8|n => n⟩
theorem Tryd.laysC172 : Go.Proofs.LaysC.n172 Tryd.prog Tryd.laysC172_ren := {
 mixed := by kernel_rfl
 f129 := Tryd.func102.trans (congrArg some (by kernel_rfl))
 f171 := Tryd.func46.trans (congrArg some (by kernel_rfl))
 f172 := Tryd.func56.trans (congrArg some (by kernel_rfl))
 f205 := Tryd.func100.trans (congrArg some (by kernel_rfl))
 f243 := Tryd.func65.trans (congrArg some (by kernel_rfl))
 f244 := Tryd.func71.trans (congrArg some (by kernel_rfl))
 f245 := Tryd.func72.trans (congrArg some (by kernel_rfl))
 f246 := Tryd.func77.trans (congrArg some (by kernel_rfl))
 f247 := Tryd.func83.trans (congrArg some (by kernel_rfl))
 f279 := Tryd.func84.trans (congrArg some (by kernel_rfl))
 f280 := Tryd.func85.trans (congrArg some (by kernel_rfl))
 f281 := Tryd.func86.trans (congrArg some (by kernel_rfl))
 f282 := Tryd.func87.trans (congrArg some (by kernel_rfl))
 f283 := Tryd.func88.trans (congrArg some (by kernel_rfl))
 f284 := Tryd.func89.trans (congrArg some (by kernel_rfl))
 f285 := Tryd.func90.trans (congrArg some (by kernel_rfl))
 f286 := Tryd.func91.trans (congrArg some (by kernel_rfl))
 f287 := Tryd.func98.trans (congrArg some (by kernel_rfl))
 f316 := Tryd.func99.trans (congrArg some (by kernel_rfl))
 f317 := Tryd.func101.trans (congrArg some (by kernel_rfl))
 f318 := Tryd.func103.trans (congrArg some (by kernel_rfl))
 f319 := Tryd.func104.trans (congrArg some (by kernel_rfl))
 f320 := Tryd.func105.trans (congrArg some (by kernel_rfl))
 f321 := Tryd.func111.trans (congrArg some (by kernel_rfl))
 f322 := Tryd.func112.trans (congrArg some (by kernel_rfl))
 f337 := Tryd.func113.trans (congrArg some (by kernel_rfl))
 f338 := Tryd.func114.trans (congrArg some (by kernel_rfl))
 t0 := Tryd.underlying0
 a0 := Tryd.isAgg0
 z0 := Tryd.sizeOf0
 v0 := Tryd.zeroValue0
 t2 := Tryd.underlying2
 a2 := Tryd.isAgg2
 z2 := Tryd.sizeOf2
 v2 := Tryd.zeroValue2
 t3 := Tryd.underlying3
 a3 := Tryd.isAgg3
 z3 := Tryd.sizeOf3
 v3 := Tryd.zeroValue3
 t4 := Tryd.underlying4
 a4 := Tryd.isAgg4
 z4 := Tryd.sizeOf4
 v4 := Tryd.zeroValue4
 t5 := Tryd.underlying5
 a5 := Tryd.isAgg5
 z5 := Tryd.sizeOf5
 v5 := Tryd.zeroValue5
 t9 := Tryd.underlying9
 a9 := Tryd.isAgg9
 z9 := Tryd.sizeOf9
 v9 := Tryd.zeroValue9
 t20 := Tryd.underlying20
 a20 := Tryd.isAgg20
 z20 := Tryd.sizeOf20
 v20 := Tryd.zeroValue20
 t21 := Tryd.underlying21
 a21 := Tryd.isAgg21
 z21 := Tryd.sizeOf21
 v21 := Tryd.zeroValue21
 t37 := Tryd.underlying123
 a37 := Tryd.isAgg123
 z37 := Tryd.sizeOf123
 v37 := Tryd.zeroValue123
 t46 := Tryd.underlying160
 a46 := Tryd.isAgg160
 z46 := Tryd.sizeOf160
 v46 := Tryd.zeroValue160
 t51 := Tryd.underlying168
 a51 := Tryd.isAgg168
 z51 := Tryd.sizeOf168
 v51 := Tryd.zeroValue168
 t53 := Tryd.underlying146
 a53 := Tryd.isAgg146
 z53 := Tryd.sizeOf146
 v53 := Tryd.zeroValue146
 t75 := Tryd.underlying108
 a75 := Tryd.isAgg108
 z75 := Tryd.sizeOf108
 v75 := Tryd.zeroValue108
 t76 := Tryd.underlying109
 a76 := Tryd.isAgg109
 z76 := Tryd.sizeOf109
 v76 := Tryd.zeroValue109
 t85 := Tryd.underlying140
 a85 := Tryd.isAgg140
 z85 := Tryd.sizeOf140
 v85 := Tryd.zeroValue140
 t127 := Tryd.underlying136
 a127 := Tryd.isAgg136
 z127 := Tryd.sizeOf136
 v127 := Tryd.zeroValue136
 t143 := Tryd.underlying173
 a143 := Tryd.isAgg173
 z143 := Tryd.sizeOf173
 v143 := Tryd.zeroValue173
 t145 := Tryd.underlying175
 a145 := Tryd.isAgg175
 z145 := Tryd.sizeOf175
 v145 := Tryd.zeroValue175
 t167 := Tryd.underlying139
 a167 := Tryd.isAgg139
 z167 := Tryd.sizeOf139
 v167 := Tryd.zeroValue139
 t168 := Tryd.underlying142
 a168 := Tryd.isAgg142
 z168 := Tryd.sizeOf142
 v168 := Tryd.zeroValue142
 t171 := Tryd.underlying145
 a171 := Tryd.isAgg145
 z171 := Tryd.sizeOf145
 v171 := Tryd.zeroValue145
 t173 := Tryd.underlying149
 a173 := Tryd.isAgg149
 z173 := Tryd.sizeOf149
 v173 := Tryd.zeroValue149
 t175 := Tryd.underlying158
 a175 := Tryd.isAgg158
 z175 := Tryd.sizeOf158
 v175 := Tryd.zeroValue158
 t210 := Tryd.underlying163
 a210 := Tryd.isAgg163
 z210 := Tryd.sizeOf163
 v210 := Tryd.zeroValue163
 t212 := Tryd.underlying167
 a212 := Tryd.isAgg167
 z212 := Tryd.sizeOf167
 v212 := Tryd.zeroValue167
 t213 := Tryd.underlying169
 a213 := Tryd.isAgg169
 z213 := Tryd.sizeOf169
 t232 := Tryd.underlying183
 a232 := Tryd.isAgg183
 z232 := Tryd.sizeOf183
 v232 := Tryd.zeroValue183
 t233 := Tryd.underlying184
 a233 := Tryd.isAgg184
 z233 := Tryd.sizeOf184
 v233 := Tryd.zeroValue184
 g15 := by kernel_rfl
 g16 := by kernel_rfl
 g17 := by kernel_rfl
 g18 := by kernel_rfl
 g19 := by kernel_rfl
 t80 := Tryd.underlying127
 a80 := Tryd.isAgg127
 z80 := Tryd.sizeOf127
 v80 := Tryd.zeroValue127
 i0 := by kernel_rfl
 i2 := by kernel_rfl
 i3 := by kernel_rfl
 i4 := by kernel_rfl
 i5 := by kernel_rfl
 i9 := by kernel_rfl
 i20 := by kernel_rfl
 i21 := by kernel_rfl
 i37 := by kernel_rfl
 i46 := by kernel_rfl
 i51 := by kernel_rfl
 i53 := by kernel_rfl
 i75 := by kernel_rfl
 i76 := by kernel_rfl
 i80 := by kernel_rfl
 i85 := by kernel_rfl
 i127 := by kernel_rfl
 i143 := by kernel_rfl
 i145 := by kernel_rfl
 i167 := by kernel_rfl
 i168 := by kernel_rfl
 i171 := by kernel_rfl
 i173 := by kernel_rfl
 i175 := by kernel_rfl
 i210 := by kernel_rfl
 i212 := by kernel_rfl
 i232 := by kernel_rfl
 i233 := by kernel_rfl
 m15 := by kernel_rfl
 m16 := by kernel_rfl
 m17 := by kernel_rfl
 m18 := by kernel_rfl
 m19 := by kernel_rfl
 c0 := by kernel_rfl
 c2 := by kernel_rfl
 c3 := by kernel_rfl
 c4 := by kernel_rfl
 c5 := by kernel_rfl
 c9 := by kernel_rfl
 c20 := by kernel_rfl
 c21 := by kernel_rfl
 c37 := by kernel_rfl
 c46 := by kernel_rfl
 c51 := by kernel_rfl
 c53 := by kernel_rfl
 c75 := by kernel_rfl
 c76 := by kernel_rfl
 c80 := by kernel_rfl
 c85 := by kernel_rfl
 c127 := by kernel_rfl
 c143 := by kernel_rfl
 c145 := by kernel_rfl
 c167 := by kernel_rfl
 c168 := by kernel_rfl
 c171 := by kernel_rfl
 c173 := by kernel_rfl
 c175 := by kernel_rfl
 c210 := by kernel_rfl
 c212 := by kernel_rfl
 c213 := by kernel_rfl
 c232 := by kernel_rfl
 c233 := by kernel_rfl }
open Go.RowKit in
theorem Tryd.strconv_Atoi_ok (s : ByteArray) (hmax : s.size ≤ 9223372036854775806) (v : Int) (h : Lib.atoiAll s.data.toList = .ok v) (w : World) :
  Calls Tryd.prog 56 #[.string s] w fun e w' => e = .returned (.tuple #[.int .i64 v, .nilIface]) ∧ (w' = w ∨ ∃ t, w' = Lib.bytesWorld w 5 t) := Any.strconv_Atoi_ok Tryd.laysC172 s hmax v h w
open Go.RowKit in
theorem Tryd.strconv_Atoi_syntax (s : ByteArray) (hlim : s.size ≤ 281474976710656) (h : Lib.atoiAll s.data.toList = .«syntax») (ev : Value) (w : World) (hv : w.cell? ⟨1, 0, none⟩ = some ev) (hev : ev = .nilIface ∨ ∃ te pe, ev = .iface te pe) :
  Calls Tryd.prog 56 #[.string s] w fun e w' => ∃ N, e = .returned (.tuple #[.int .i64 (0), .iface 142 (.pointer (some ⟨N, 0, none⟩))]) ∧ w.heap.size ≤ N ∧ w'.heap[N]? = some (.cells #[.string ⟨#[65, 116, 111, 105]⟩, .string s, ev] 163 (0, 0)) ∧ Below w.heap.size w w' := Any.strconv_Atoi_syntax Tryd.laysC172 s hlim h ev w hv hev
open Go.RowKit in
theorem Tryd.strconv_Atoi_range (s : ByteArray) (hlim : s.size ≤ 281474976710656) (h : Lib.atoiAll s.data.toList = .range) (ev : Value) (w : World) (hv : w.cell? ⟨2, 0, none⟩ = some ev) (hev : ev = .nilIface ∨ ∃ te pe, ev = .iface te pe) :
  Calls Tryd.prog 56 #[.string s] w fun e w' => ∃ N, e = .returned (.tuple #[.int .i64 (Lib.atoiSat s.data.toList), .iface 142 (.pointer (some ⟨N, 0, none⟩))]) ∧ w.heap.size ≤ N ∧ w'.heap[N]? = some (.cells #[.string ⟨#[65, 116, 111, 105]⟩, .string s, ev] 163 (0, 0)) ∧ Below w.heap.size w w' := Any.strconv_Atoi_range Tryd.laysC172 s hlim h ev w hv hev
def Tryd.lays146_ren : Go.Shelf.Ren := ⟨fun|146 => 53|221 => 70|268 => 80|138 => 81|143 => 82|195 => 94|197 => 95|218 => 96|219 => 97|260 => 106|217 => 107|225 => 108|224 => 109|267 => 110|266 => 115|314 => 116|n => n, fun|9 => 9|31 => 93|3 => 3|4 => 4|0 => 0|105 => 155|21 => 21|5 => 5|46 => 160|119 => 177|139 => 180|138 => 179|146 => 181|51 => 168|n => n, fun|1 => 4|3 => 5|4 => 6|n => n⟩
theorem Tryd.lays146 : Go.Proofs.Lays.n146 Tryd.prog Tryd.lays146_ren := {
 mixed := by kernel_rfl
 f138 := Tryd.func81.trans (congrArg some (by kernel_rfl))
 f143 := Tryd.func82.trans (congrArg some (by kernel_rfl))
 f146 := Tryd.func53.trans (congrArg some (by kernel_rfl))
 f195 := Tryd.func94.trans (congrArg some (by kernel_rfl))
 f197 := Tryd.func95.trans (congrArg some (by kernel_rfl))
 f217 := Tryd.func107.trans (congrArg some (by kernel_rfl))
 f218 := Tryd.func96.trans (congrArg some (by kernel_rfl))
 f219 := Tryd.func97.trans (congrArg some (by kernel_rfl))
 f221 := Tryd.func70.trans (congrArg some (by kernel_rfl))
 f224 := Tryd.func109.trans (congrArg some (by kernel_rfl))
 f225 := Tryd.func108.trans (congrArg some (by kernel_rfl))
 f260 := Tryd.func106.trans (congrArg some (by kernel_rfl))
 f266 := Tryd.func115.trans (congrArg some (by kernel_rfl))
 f267 := Tryd.func110.trans (congrArg some (by kernel_rfl))
 f268 := Tryd.func80.trans (congrArg some (by kernel_rfl))
 f314 := Tryd.func116.trans (congrArg some (by kernel_rfl))
 t0 := Tryd.underlying0
 a0 := Tryd.isAgg0
 z0 := Tryd.sizeOf0
 v0 := Tryd.zeroValue0
 t3 := Tryd.underlying3
 a3 := Tryd.isAgg3
 z3 := Tryd.sizeOf3
 v3 := Tryd.zeroValue3
 t4 := Tryd.underlying4
 a4 := Tryd.isAgg4
 z4 := Tryd.sizeOf4
 v4 := Tryd.zeroValue4
 t5 := Tryd.underlying5
 a5 := Tryd.isAgg5
 z5 := Tryd.sizeOf5
 v5 := Tryd.zeroValue5
 t9 := Tryd.underlying9
 a9 := Tryd.isAgg9
 z9 := Tryd.sizeOf9
 v9 := Tryd.zeroValue9
 t21 := Tryd.underlying21
 a21 := Tryd.isAgg21
 z21 := Tryd.sizeOf21
 v21 := Tryd.zeroValue21
 t31 := Tryd.underlying93
 a31 := Tryd.isAgg93
 z31 := Tryd.sizeOf93
 v31 := Tryd.zeroValue93
 t46 := Tryd.underlying160
 a46 := Tryd.isAgg160
 z46 := Tryd.sizeOf160
 v46 := Tryd.zeroValue160
 t51 := Tryd.underlying168
 a51 := Tryd.isAgg168
 z51 := Tryd.sizeOf168
 v51 := Tryd.zeroValue168
 t105 := Tryd.underlying155
 a105 := Tryd.isAgg155
 z105 := Tryd.sizeOf155
 v105 := Tryd.zeroValue155
 t119 := Tryd.underlying177
 a119 := Tryd.isAgg177
 z119 := Tryd.sizeOf177
 t138 := Tryd.underlying179
 a138 := Tryd.isAgg179
 z138 := Tryd.sizeOf179
 v138 := Tryd.zeroValue179
 t139 := Tryd.underlying180
 a139 := Tryd.isAgg180
 z139 := Tryd.sizeOf180
 v139 := Tryd.zeroValue180
 t146 := Tryd.underlying181
 a146 := Tryd.isAgg181
 z146 := Tryd.sizeOf181
 v146 := Tryd.zeroValue181
 g1 := by kernel_rfl
 g3 := by kernel_rfl
 g4 := by kernel_rfl }
open Go.RowKit Go.Lib in
theorem Tryd.strings_Split (s sep : ByteArray) (m : Int) (w : World) (hs : s.size < 4294967281) (hm : w.cell? ⟨4, 0, none⟩ = some (.int .i64 m)) (h1 : 1 ≤ sep.size) :
  Calls Tryd.prog 53 #[.string s, .string sep] w fun e w' =>
   e = .returned (.slice (some ⟨w.heap.size, 0, none⟩) (Lib.countB s sep + 1) (Lib.countB s sep + 1)) ∧ w' = w.alloc (.cells ((Lib.splitB sep 0 (Lib.countB s sep) s).map Value.string).toArray 9) := Any.strings_Split Tryd.lays146 (by kernel_rfl) s sep m w hs hm h1
end Go.Proofs

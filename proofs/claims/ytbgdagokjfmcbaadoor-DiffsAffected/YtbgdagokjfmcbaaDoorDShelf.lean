import Derived.Shelf.Strings.Builder1
import Derived.Shelf.Strconv.Itoa0
import Derived.Shelf.Strconv.Itoa1
import Derived.Shelf.LaysM
import Derived.Shelf.Strconv.Itoa2
import Derived.Shelf.Strconv.Itoa3
import Derived.Ground.Names2Prog
import Derived.Shelf.Slices.Clone
import Derived.Shelf.Slices.SearchI
import Derived.Ground.SlgnProg
import Derived.Shelf.SlicesE.Clone
import Derived.Test.YtbgdagokjfmcbaaDoorProg
namespace Go.Proofs
open Go.Shelf
def Tryd.laysM171_ren : Go.Shelf.Ren := ⟨fun | 171 => 76 | 243 => 90 | 246 => 97 | 283 => 104 | 284 => 105 | 285 => 106 | 286 => 107 | 129 => 111 | 317 => 110 | 318 => 112 | 319 => 113 | 320 => 114 | 337 => 115 | 338 => 116 | n => n, fun | 3 => 3 | 9 => 9 | 2 => 2 | 4 => 4 | 171 => 158 | 0 => 0 | 53 => 159 | 37 => 49 | 5 => 5 | 173 => 162 | 212 => 167 | 51 => 168 | 20 => 20 | 213 => 169 | 46 => 170 | 232 => 173 | 233 => 174 | n => n, fun | 17 => 1 | 18 => 2 | 19 => 3 | n => n⟩
theorem Tryd.laysM171 : Go.Proofs.LaysM.n171 Tryd.prog Tryd.laysM171_ren := {
 mixed := by kernel_rfl
 f129 := Tryd.func111.trans (congrArg some (by kernel_rfl))
 f171 := Tryd.func76.trans (congrArg some (by kernel_rfl))
 f243 := Tryd.func90.trans (congrArg some (by kernel_rfl))
 f246 := Tryd.func97.trans (congrArg some (by kernel_rfl))
 f283 := Tryd.func104.trans (congrArg some (by kernel_rfl))
 f284 := Tryd.func105.trans (congrArg some (by kernel_rfl))
 f285 := Tryd.func106.trans (congrArg some (by kernel_rfl))
 f286 := Tryd.func107.trans (congrArg some (by kernel_rfl))
 f317 := Tryd.func110.trans (congrArg some (by kernel_rfl))
 f318 := Tryd.func112.trans (congrArg some (by kernel_rfl))
 f319 := Tryd.func113.trans (congrArg some (by kernel_rfl))
 f320 := Tryd.func114.trans (congrArg some (by kernel_rfl))
 f337 := Tryd.func115.trans (congrArg some (by kernel_rfl))
 f338 := Tryd.func116.trans (congrArg some (by kernel_rfl))
 t0 := Tryd.underlying0
 a0 := Tryd.isAgg0
 z0 := Tryd.sizeOf0
 v0 := Tryd.zeroValue0
 t2 := Tryd.underlying2
 a2 := Tryd.isAgg2
 z2 := Tryd.sizeOf2
 v2 := Tryd.zeroValue2
 t3 := Tryd.underlying3
 a3 := Tryd.isAgg3
 z3 := Tryd.sizeOf3
 v3 := Tryd.zeroValue3
 t4 := Tryd.underlying4
 a4 := Tryd.isAgg4
 z4 := Tryd.sizeOf4
 v4 := Tryd.zeroValue4
 t5 := Tryd.underlying5
 a5 := Tryd.isAgg5
 z5 := Tryd.sizeOf5
 v5 := Tryd.zeroValue5
 t9 := Tryd.underlying9
 a9 := Tryd.isAgg9
 z9 := Tryd.sizeOf9
 v9 := Tryd.zeroValue9
 t20 := Tryd.underlying20
 a20 := Tryd.isAgg20
 z20 := Tryd.sizeOf20
 v20 := Tryd.zeroValue20
 t37 := Tryd.underlying49
 a37 := Tryd.isAgg49
 z37 := Tryd.sizeOf49
 v37 := Tryd.zeroValue49
 t46 := Tryd.underlying170
 a46 := Tryd.isAgg170
 z46 := Tryd.sizeOf170
 v46 := Tryd.zeroValue170
 t51 := Tryd.underlying168
 a51 := Tryd.isAgg168
 z51 := Tryd.sizeOf168
 v51 := Tryd.zeroValue168
 t53 := Tryd.underlying159
 a53 := Tryd.isAgg159
 z53 := Tryd.sizeOf159
 v53 := Tryd.zeroValue159
 t171 := Tryd.underlying158
 a171 := Tryd.isAgg158
 z171 := Tryd.sizeOf158
 v171 := Tryd.zeroValue158
 t173 := Tryd.underlying162
 a173 := Tryd.isAgg162
 z173 := Tryd.sizeOf162
 v173 := Tryd.zeroValue162
 t212 := Tryd.underlying167
 a212 := Tryd.isAgg167
 z212 := Tryd.sizeOf167
 v212 := Tryd.zeroValue167
 t213 := Tryd.underlying169
 a213 := Tryd.isAgg169
 z213 := Tryd.sizeOf169
 t232 := Tryd.underlying173
 a232 := Tryd.isAgg173
 z232 := Tryd.sizeOf173
 v232 := Tryd.zeroValue173
 t233 := Tryd.underlying174
 a233 := Tryd.isAgg174
 z233 := Tryd.sizeOf174
 v233 := Tryd.zeroValue174
 g17 := by kernel_rfl
 g18 := by kernel_rfl
 g19 := by kernel_rfl
 i0 := by kernel_rfl
 i2 := by kernel_rfl
 i3 := by kernel_rfl
 i4 := by kernel_rfl
 i5 := by kernel_rfl
 i9 := by kernel_rfl
 i20 := by kernel_rfl
 i37 := by kernel_rfl
 i46 := by kernel_rfl
 i51 := by kernel_rfl
 i53 := by kernel_rfl
 i171 := by kernel_rfl
 i173 := by kernel_rfl
 i212 := by kernel_rfl
 i232 := by kernel_rfl
 i233 := by kernel_rfl
 m17 := by kernel_rfl
 m18 := by kernel_rfl
 m19 := by kernel_rfl }
open Go.RowKit Go.Sort Go.Lib in
theorem Tryd.strconv_Itoa (n : Int) (h0 : -9223372036854775808 ≤ n) (h1 : n ≤ 9223372036854775807) (w : World) (htab : Lib.TabIs Tryd.prog w "internal/strconv.uint64pow10" .u64 Lib.pow10Tab) :
  Calls Tryd.prog 76 #[.int .i64 n] w fun e w' => e = .returned (.string ⟨(Lib.itoa n).toArray⟩) ∧ ∃ k os, w' = grow (w.drewN k) os := Any.strconv_Itoa Tryd.laysM171 n h0 h1 w htab
end Go.Proofs

import Derived.Test.YtcoakjnmnommpaaDoorProg
import Derived.Shelf.Strings.Builder1
import Derived.KernelRfl
import Derived.Shelf.RegionOpenPlain
import Derived.Shelf.Small.Wraps
import Derived.Shelf.Strings.BuilderF
import Derived.Shelf.Strings.BuilderK
import Derived.Shelf.Utf8.RuneCount
import Derived.Shelf.Strconv.Atoi
import Derived.Shelf.Strconv.Itoa0
import Derived.Shelf.Strconv.Itoa1
import Derived.Shelf.LaysM
import Derived.Shelf.Strconv.Itoa2
import Derived.Shelf.Strconv.Itoa3
import Derived.Shelf.Strconv.AtoiErrFast
import Derived.Shelf.Strconv.ParseIntEmpty
import Derived.Shelf.Strconv.AtoiFail
import Derived.Shelf.Strconv.Clone
import Derived.Shelf.Strconv.SyntaxError
import Derived.Shelf.LaysC
import Derived.Shelf.Strconv.ToError
import Derived.Shelf.Strconv.Lower
import Derived.Shelf.Strconv.ParseUint10
import Derived.Shelf.Strconv.ParseUint10Empty
import Derived.Shelf.Strconv.ParseUint10Any
import Derived.Shelf.Strconv.ParseInt10
import Derived.Shelf.Strconv.AtoiLong
import Derived.Shelf.Strconv.AtoiInnerAll
import Derived.Shelf.Strconv.RangeError
import Derived.Shelf.Strconv.ToErrorRange
import Derived.Shelf.Strconv.AtoiAll
import Derived.Shelf.Strconv.ErrVarAll
import Derived.Shelf.Strconv.ParseUintEmpty
import Derived.Shelf.Strconv.ParseUint10b64
import Derived.Shelf.Strconv.ParseUint10b32
import Derived.Shelf.Strconv.ParseUint10b16
import Derived.Shelf.Strconv.ParseUint10b8
import Derived.Shelf.Strings.Search1
import Derived.Shelf.Strings.Search2
import Derived.Shelf.Strings.Search3
import Derived.Shelf.Strings.Count
import Derived.Shelf.Strings.Shaped
import Derived.Shelf.Strings.Prefix
import Derived.Shelf.Strings.Split
import Derived.Shelf.Strings.SplitShaped
import Derived.Shelf.Unicode.Decode
import Derived.Shelf.Strings.RuneCount
import Derived.Shelf.Strings.Explode
import Derived.Shelf.Unicode.DecodeSlow
import Derived.Shelf.Unicode.DecodeAny
import Derived.Ground.Names2Prog
import Derived.Shelf.Slices.Clone
import Derived.Ground.SlgnProg
import Derived.Shelf.SlicesE.Clone
namespace Go.Proofs
open Go.Shelf Go.RowKit
set_option linter.unusedVariables false
set_option maxHeartbeats 1000000
set_option maxRecDepth 100000
theorem zaE9 (b : Nat) (w : World) (h0 : w.cell? ⟨b, 0, none⟩ = some (.pointer (some ⟨b, 0, none⟩))) :
  Calls Tryd.prog 65 #[.pointer (some ⟨b, 0, none⟩)] w fun e w' => e = .returned (.tuple #[]) ∧ w' = w := by
 obtain ⟨j, hj⟩ : ∃ j, Tryd.prog.info? 83 = some j := Option.isSome_iff_exists.1 (by kernel_rfl)
 have t70 : Tryd.prog.underlying 81 = some (.pointer 83) := by kernel_rfl
 go_enter Tryd.func65, Tryd.ntmps65
 go_wp2
 rw [Lib.run_neq_ptr_same w _ t70 hj]
 go_wp2
 go_end0
 exact ⟨rfl, rfl⟩
theorem wdC9 (k : Nat) : liesAt Tryd.prog Tryd.prog.depth 83 (k + 1) 0 83 1 = true := by kernel_rfl
theorem kaw9 (b k : Nat) (w : World) (h0 : w.cell? ⟨b, 0, none⟩ = some (.pointer none)) (hsh : w.shape? b = some (83, (k + 1) * 2)) (hfz : w.frozen? ⟨b, 0, none⟩ = false) :
  Calls Tryd.prog 65 #[.pointer (some ⟨b, 0, none⟩)] w fun e w' => e = .returned (.tuple #[]) ∧ w' = w.setCell ⟨b, 0, none⟩ (.pointer (some ⟨b, 0, none⟩)) := by
 obtain ⟨j, hj, hjs⟩ : ∃ j, Tryd.prog.info? 83 = some j ∧ j.size = 2 := Option.map_eq_some_iff.1 (by kernel_rfl : (Tryd.prog.info? 83).map (·.size) = some 2)
 have t70 : Tryd.prog.underlying 81 = some (.pointer 83) := by kernel_rfl
 have t164 : Tryd.prog.underlying 122 = some .unsafePointer := by kernel_rfl
 have hc : Tryd.prog.cellsOf 83 = 2 := by kernel_rfl
 have hl : liesAt Tryd.prog Tryd.prog.depth 83 ((k + 1) * 2 / Tryd.prog.cellsOf 83) 0 83 1 = true := by
  rw [hc, Nat.mul_div_cancel _ (by decide)]; exact wdC9 k
 go_enter Tryd.func65, Tryd.ntmps65
 go_wp2
 rw [Lib.run_to_unsafe w ⟨b, 0, none⟩ t70 t164 hj (by rw [hjs]; decide) hsh (show 0 < (k + 1) * 2 by omega)]
 simp only [Result.andThen]
 rw [Oper.upon_value]
 go_wp2
 rw [run_callFunc_extern Tryd.func75 (by kernel_rfl) (by kernel_rfl) (by kernel_rfl) (e := Extern.AbiNoEscape.same) (by kernel_rfl)]
 rw [Lib.run_noEscape]
 simp only [Result.andThen]
 rw [Oper.upon_value]
 go_wp2
 rw [Lib.run_from_unsafe w ⟨b, 0, none⟩ t164 t70 hj hsh hl]
 simp only [Result.andThen]
 rw [Oper.upon_value]
 go_wp2
 go_end0
 exact ⟨rfl, rfl⟩
theorem xaE9 (b g cap : Nat) (cur : Array Value) (l : List UInt8) (w : World) (h0 : l ≠ []) (c0 : w.cell? ⟨b, 1, none⟩ = some (.slice (some ⟨g, 0, none⟩) l.length cap)) (hg : w.heap[g]? = some (.cells cur 5 (0, 0)))
  (h1 : l.length ≤ cap) (h2 : cap ≤ cur.size) (h3 : cap ≤ maxLen) (hc : ∀ (j : Nat) (x : UInt8), l[j]? = some x → cur[j]? = some (Value.int .u8 x.toNat)) :
  Calls Tryd.prog 44 #[.pointer (some ⟨b, 0, none⟩)] w fun e w' => e = .returned (.string ⟨l.toArray⟩) ∧ w' = w.drew.freeze ⟨g, 0, none⟩ l.length := by
 have c1 : w.drew.cell? ⟨b, 1, none⟩ = some (.slice (some ⟨g, 0, none⟩) l.length cap) := c0
 have hl0 : l.length ≠ 0 := by simpa using h0
 have hSD : (Builtin.unsafeSliceData_ #[56] 114 #[.slice (some ⟨g, 0, none⟩) l.length cap]).run Tryd.prog w.drew = .ok (.pointer (some ⟨g, 0, none⟩)) w.drew :=
  Lib.run_unsafeSliceData_row _ _ _ _ _ _ (by omega)
 have t146 : Tryd.prog.underlying 114 = some (.pointer 5) := by kernel_rfl
 have hc5 : Tryd.prog.cellsOf 5 = 1 := by kernel_rfl
 have hUS : (Builtin.unsafeString_ #[114, 3] 9 #[.pointer (some ⟨g, 0, none⟩), .int .i64 l.length]).run Tryd.prog w.drew = .ok (.string ⟨l.toArray⟩) (w.drew.freeze ⟨g, 0, none⟩ l.length) := by
  refine Lib.run_unsafeString_row w.drew 114 3 9 5 t146 hc5 g cur.size (by have hg' : w.drew.heap[g]? = some (.cells cur 5 (0, 0)) := hg; simp [World.shape?, hg']) l h0 (by omega) (by unfold maxLen at h3; omega) ?_
  intro j x hx
  have hg' : w.drew.heap[g]? = some (.cells cur 5 (0, 0)) := hg
  have e : ((⟨g, 0, none⟩ : Addr).add j) = ⟨g, j, none⟩ := by unfold Addr.add; split <;> simp_all
  rw [e]
  simp [World.cell?, hg', hc j x hx]
 have mixed : Tryd.prog.follows .mixedOrders = true := by kernel_rfl
 go_enter Tryd.func44, Tryd.ntmps44
 go_wp2
 go_region_o
 all_goals (go_wp2; go_ret; exact ⟨rfl, rfl⟩)
end Go.Proofs
namespace Go.Proofs
open Go.Shelf
def Tryd.lays104_ren : Go.Shelf.Ren := ⟨fun|104 => 45|211 => 67|207 => 77|n => n, fun|9 => 9|4 => 4|24 => 92|3 => 3|n => n, fun|n => n⟩
def Tryd.laysM171_ren : Go.Shelf.Ren := ⟨fun|171 => 43|243 => 66|246 => 76|283 => 84|284 => 85|285 => 86|286 => 87|129 => 98|317 => 97|318 => 99|319 => 100|320 => 101|337 => 110|338 => 74|n => n, fun|3 => 3|9 => 9|2 => 2|4 => 4|171 => 131|0 => 0|53 => 66|37 => 56|5 => 5|173 => 133|212 => 146|51 => 147|20 => 20|213 => 148|46 => 31|232 => 167|233 => 130|n => n, fun|17 => 1|18 => 7|19 => 0|n => n⟩
theorem Tryd.laysM171 : Go.Proofs.LaysM.n171 Tryd.prog Tryd.laysM171_ren := {
 mixed := by kernel_rfl
 f129 := Tryd.func98.trans (congrArg some (by kernel_rfl))
 f171 := Tryd.func43.trans (congrArg some (by kernel_rfl))
 f243 := Tryd.func66.trans (congrArg some (by kernel_rfl))
 f246 := Tryd.func76.trans (congrArg some (by kernel_rfl))
 f283 := Tryd.func84.trans (congrArg some (by kernel_rfl))
 f284 := Tryd.func85.trans (congrArg some (by kernel_rfl))
 f285 := Tryd.func86.trans (congrArg some (by kernel_rfl))
 f286 := Tryd.func87.trans (congrArg some (by kernel_rfl))
 f317 := Tryd.func97.trans (congrArg some (by kernel_rfl))
 f318 := Tryd.func99.trans (congrArg some (by kernel_rfl))
 f319 := Tryd.func100.trans (congrArg some (by kernel_rfl))
 f320 := Tryd.func101.trans (congrArg some (by kernel_rfl))
 f337 := Tryd.func110.trans (congrArg some (by kernel_rfl))
 f338 := Tryd.func74.trans (congrArg some (by kernel_rfl))
 t0 := Tryd.underlying0
 a0 := Tryd.isAgg0
 z0 := Tryd.sizeOf0
 v0 := Tryd.zeroValue0
 t2 := Tryd.underlying2
 a2 := Tryd.isAgg2
 z2 := Tryd.sizeOf2
 v2 := Tryd.zeroValue2
 t3 := Tryd.underlying3
 a3 := Tryd.isAgg3
 z3 := Tryd.sizeOf3
 v3 := Tryd.zeroValue3
 t4 := Tryd.underlying4
 a4 := Tryd.isAgg4
 z4 := Tryd.sizeOf4
 v4 := Tryd.zeroValue4
 t5 := Tryd.underlying5
 a5 := Tryd.isAgg5
 z5 := Tryd.sizeOf5
 v5 := Tryd.zeroValue5
 t9 := Tryd.underlying9
 a9 := Tryd.isAgg9
 z9 := Tryd.sizeOf9
 v9 := Tryd.zeroValue9
 t20 := Tryd.underlying20
 a20 := Tryd.isAgg20
 z20 := Tryd.sizeOf20
 v20 := Tryd.zeroValue20
 t37 := Tryd.underlying56
 a37 := Tryd.isAgg56
 z37 := Tryd.sizeOf56
 v37 := Tryd.zeroValue56
 t46 := Tryd.underlying31
 a46 := Tryd.isAgg31
 z46 := Tryd.sizeOf31
 v46 := Tryd.zeroValue31
 t51 := Tryd.underlying147
 a51 := Tryd.isAgg147
 z51 := Tryd.sizeOf147
 v51 := Tryd.zeroValue147
 t53 := Tryd.underlying66
 a53 := Tryd.isAgg66
 z53 := Tryd.sizeOf66
 v53 := Tryd.zeroValue66
 t171 := Tryd.underlying131
 a171 := Tryd.isAgg131
 z171 := Tryd.sizeOf131
 v171 := Tryd.zeroValue131
 t173 := Tryd.underlying133
 a173 := Tryd.isAgg133
 z173 := Tryd.sizeOf133
 v173 := Tryd.zeroValue133
 t212 := Tryd.underlying146
 a212 := Tryd.isAgg146
 z212 := Tryd.sizeOf146
 v212 := Tryd.zeroValue146
 t213 := Tryd.underlying148
 a213 := Tryd.isAgg148
 z213 := Tryd.sizeOf148
 t232 := Tryd.underlying167
 a232 := Tryd.isAgg167
 z232 := Tryd.sizeOf167
 v232 := Tryd.zeroValue167
 t233 := Tryd.underlying130
 a233 := Tryd.isAgg130
 z233 := Tryd.sizeOf130
 v233 := Tryd.zeroValue130
 g17 := by kernel_rfl
 g18 := by kernel_rfl
 g19 := by kernel_rfl
 i0 := by kernel_rfl
 i2 := by kernel_rfl
 i3 := by kernel_rfl
 i4 := by kernel_rfl
 i5 := by kernel_rfl
 i9 := by kernel_rfl
 i20 := by kernel_rfl
 i37 := by kernel_rfl
 i46 := by kernel_rfl
 i51 := by kernel_rfl
 i53 := by kernel_rfl
 i171 := by kernel_rfl
 i173 := by kernel_rfl
 i212 := by kernel_rfl
 i232 := by kernel_rfl
 i233 := by kernel_rfl
 m17 := by kernel_rfl
 m18 := by kernel_rfl
 m19 := by kernel_rfl }
open Go.RowKit Go.Sort Go.Lib in
theorem Tryd.strconv_Itoa (n : Int) (h0 : -9223372036854775808 ≤ n) (h1 : n ≤ 9223372036854775807) (w : World) (htab : Lib.TabIs Tryd.prog w "internal/strconv.uint64pow10" .u64 Lib.pow10Tab) :
  Calls Tryd.prog 43 #[.int .i64 n] w fun e w' => e = .returned (.string ⟨(Lib.itoa n).toArray⟩) ∧ ∃ k os, w' = grow (w.drewN k) os := Any.strconv_Itoa Tryd.laysM171 n h0 h1 w htab
def Tryd.laysC172_ren : Go.Shelf.Ren := ⟨fun|172 => 69|244 => 81|245 => 82|247 => 92|279 => 93|280 => 94|281 => 95|282 => 96|287 => 107|316 => 108|171 => 43|205 => 109|321 => 113|322 => 114|243 => 66|246 => 76|283 => 84|284 => 85|285 => 86|286 => 87|129 => 98|317 => 97|318 => 99|319 => 100|320 => 101|337 => 110|338 => 74|n => n, fun|9 => 9|3 => 3|75 => 85|76 => 86|4 => 4|5 => 5|167 => 138|37 => 56|0 => 0|85 => 139|2 => 2|168 => 141|53 => 66|175 => 150|46 => 31|210 => 154|127 => 114|145 => 166|143 => 164|21 => 21|171 => 131|173 => 133|212 => 146|51 => 147|20 => 20|213 => 148|232 => 167|233 => 130|80 => 91|n => n, fun|15 => 3|16 => 4|17 => 1|18 => 7|19 => 0|n => n⟩
theorem Tryd.laysC172 : Go.Proofs.LaysC.n172 Tryd.prog Tryd.laysC172_ren := {
 mixed := by kernel_rfl
 f129 := Tryd.func98.trans (congrArg some (by kernel_rfl))
 f171 := Tryd.func43.trans (congrArg some (by kernel_rfl))
 f172 := Tryd.func69.trans (congrArg some (by kernel_rfl))
 f205 := Tryd.func109.trans (congrArg some (by kernel_rfl))
 f243 := Tryd.func66.trans (congrArg some (by kernel_rfl))
 f244 := Tryd.func81.trans (congrArg some (by kernel_rfl))
 f245 := Tryd.func82.trans (congrArg some (by kernel_rfl))
 f246 := Tryd.func76.trans (congrArg some (by kernel_rfl))
 f247 := Tryd.func92.trans (congrArg some (by kernel_rfl))
 f279 := Tryd.func93.trans (congrArg some (by kernel_rfl))
 f280 := Tryd.func94.trans (congrArg some (by kernel_rfl))
 f281 := Tryd.func95.trans (congrArg some (by kernel_rfl))
 f282 := Tryd.func96.trans (congrArg some (by kernel_rfl))
 f283 := Tryd.func84.trans (congrArg some (by kernel_rfl))
 f284 := Tryd.func85.trans (congrArg some (by kernel_rfl))
 f285 := Tryd.func86.trans (congrArg some (by kernel_rfl))
 f286 := Tryd.func87.trans (congrArg some (by kernel_rfl))
 f287 := Tryd.func107.trans (congrArg some (by kernel_rfl))
 f316 := Tryd.func108.trans (congrArg some (by kernel_rfl))
 f317 := Tryd.func97.trans (congrArg some (by kernel_rfl))
 f318 := Tryd.func99.trans (congrArg some (by kernel_rfl))
 f319 := Tryd.func100.trans (congrArg some (by kernel_rfl))
 f320 := Tryd.func101.trans (congrArg some (by kernel_rfl))
 f321 := Tryd.func113.trans (congrArg some (by kernel_rfl))
 f322 := Tryd.func114.trans (congrArg some (by kernel_rfl))
 f337 := Tryd.func110.trans (congrArg some (by kernel_rfl))
 f338 := Tryd.func74.trans (congrArg some (by kernel_rfl))
 t0 := Tryd.underlying0
 a0 := Tryd.isAgg0
 z0 := Tryd.sizeOf0
 v0 := Tryd.zeroValue0
 t2 := Tryd.underlying2
 a2 := Tryd.isAgg2
 z2 := Tryd.sizeOf2
 v2 := Tryd.zeroValue2
 t3 := Tryd.underlying3
 a3 := Tryd.isAgg3
 z3 := Tryd.sizeOf3
 v3 := Tryd.zeroValue3
 t4 := Tryd.underlying4
 a4 := Tryd.isAgg4
 z4 := Tryd.sizeOf4
 v4 := Tryd.zeroValue4
 t5 := Tryd.underlying5
 a5 := Tryd.isAgg5
 z5 := Tryd.sizeOf5
 v5 := Tryd.zeroValue5
 t9 := Tryd.underlying9
 a9 := Tryd.isAgg9
 z9 := Tryd.sizeOf9
 v9 := Tryd.zeroValue9
 t20 := Tryd.underlying20
 a20 := Tryd.isAgg20
 z20 := Tryd.sizeOf20
 v20 := Tryd.zeroValue20
 t21 := Tryd.underlying21
 a21 := Tryd.isAgg21
 z21 := Tryd.sizeOf21
 v21 := Tryd.zeroValue21
 t37 := Tryd.underlying56
 a37 := Tryd.isAgg56
 z37 := Tryd.sizeOf56
 v37 := Tryd.zeroValue56
 t46 := Tryd.underlying31
 a46 := Tryd.isAgg31
 z46 := Tryd.sizeOf31
 v46 := Tryd.zeroValue31
 t51 := Tryd.underlying147
 a51 := Tryd.isAgg147
 z51 := Tryd.sizeOf147
 v51 := Tryd.zeroValue147
 t53 := Tryd.underlying66
 a53 := Tryd.isAgg66
 z53 := Tryd.sizeOf66
 v53 := Tryd.zeroValue66
 t75 := Tryd.underlying85
 a75 := Tryd.isAgg85
 z75 := Tryd.sizeOf85
 v75 := Tryd.zeroValue85
 t76 := Tryd.underlying86
 a76 := Tryd.isAgg86
 z76 := Tryd.sizeOf86
 v76 := Tryd.zeroValue86
 t85 := Tryd.underlying139
 a85 := Tryd.isAgg139
 z85 := Tryd.sizeOf139
 v85 := Tryd.zeroValue139
 t127 := Tryd.underlying114
 a127 := Tryd.isAgg114
 z127 := Tryd.sizeOf114
 v127 := Tryd.zeroValue114
 t143 := Tryd.underlying164
 a143 := Tryd.isAgg164
 z143 := Tryd.sizeOf164
 v143 := Tryd.zeroValue164
 t145 := Tryd.underlying166
 a145 := Tryd.isAgg166
 z145 := Tryd.sizeOf166
 v145 := Tryd.zeroValue166
 t167 := Tryd.underlying138
 a167 := Tryd.isAgg138
 z167 := Tryd.sizeOf138
 v167 := Tryd.zeroValue138
 t168 := Tryd.underlying141
 a168 := Tryd.isAgg141
 z168 := Tryd.sizeOf141
 v168 := Tryd.zeroValue141
 t171 := Tryd.underlying131
 a171 := Tryd.isAgg131
 z171 := Tryd.sizeOf131
 v171 := Tryd.zeroValue131
 t173 := Tryd.underlying133
 a173 := Tryd.isAgg133
 z173 := Tryd.sizeOf133
 v173 := Tryd.zeroValue133
 t175 := Tryd.underlying150
 a175 := Tryd.isAgg150
 z175 := Tryd.sizeOf150
 v175 := Tryd.zeroValue150
 t210 := Tryd.underlying154
 a210 := Tryd.isAgg154
 z210 := Tryd.sizeOf154
 v210 := Tryd.zeroValue154
 t212 := Tryd.underlying146
 a212 := Tryd.isAgg146
 z212 := Tryd.sizeOf146
 v212 := Tryd.zeroValue146
 t213 := Tryd.underlying148
 a213 := Tryd.isAgg148
 z213 := Tryd.sizeOf148
 t232 := Tryd.underlying167
 a232 := Tryd.isAgg167
 z232 := Tryd.sizeOf167
 v232 := Tryd.zeroValue167
 t233 := Tryd.underlying130
 a233 := Tryd.isAgg130
 z233 := Tryd.sizeOf130
 v233 := Tryd.zeroValue130
 g15 := by kernel_rfl
 g16 := by kernel_rfl
 g17 := by kernel_rfl
 g18 := by kernel_rfl
 g19 := by kernel_rfl
 t80 := Tryd.underlying91
 a80 := Tryd.isAgg91
 z80 := Tryd.sizeOf91
 v80 := Tryd.zeroValue91
 i0 := by kernel_rfl
 i2 := by kernel_rfl
 i3 := by kernel_rfl
 i4 := by kernel_rfl
 i5 := by kernel_rfl
 i9 := by kernel_rfl
 i20 := by kernel_rfl
 i21 := by kernel_rfl
 i37 := by kernel_rfl
 i46 := by kernel_rfl
 i51 := by kernel_rfl
 i53 := by kernel_rfl
 i75 := by kernel_rfl
 i76 := by kernel_rfl
 i80 := by kernel_rfl
 i85 := by kernel_rfl
 i127 := by kernel_rfl
 i143 := by kernel_rfl
 i145 := by kernel_rfl
 i167 := by kernel_rfl
 i168 := by kernel_rfl
 i171 := by kernel_rfl
 i173 := by kernel_rfl
 i175 := by kernel_rfl
 i210 := by kernel_rfl
 i212 := by kernel_rfl
 i232 := by kernel_rfl
 i233 := by kernel_rfl
 m15 := by kernel_rfl
 m16 := by kernel_rfl
 m17 := by kernel_rfl
 m18 := by kernel_rfl
 m19 := by kernel_rfl
 c0 := by kernel_rfl
 c2 := by kernel_rfl
 c3 := by kernel_rfl
 c4 := by kernel_rfl
 c5 := by kernel_rfl
 c9 := by kernel_rfl
 c20 := by kernel_rfl
 c21 := by kernel_rfl
 c37 := by kernel_rfl
 c46 := by kernel_rfl
 c51 := by kernel_rfl
 c53 := by kernel_rfl
 c75 := by kernel_rfl
 c76 := by kernel_rfl
 c80 := by kernel_rfl
 c85 := by kernel_rfl
 c127 := by kernel_rfl
 c143 := by kernel_rfl
 c145 := by kernel_rfl
 c167 := by kernel_rfl
 c168 := by kernel_rfl
 c171 := by kernel_rfl
 c173 := by kernel_rfl
 c175 := by kernel_rfl
 c210 := by kernel_rfl
 c212 := by kernel_rfl
 c213 := by kernel_rfl
 c232 := by kernel_rfl
 c233 := by kernel_rfl }
open Go.RowKit in
theorem Tryd.strconv_Atoi_ok (s : ByteArray) (hmax : s.size ≤ 9223372036854775806) (v : Int) (h : Lib.atoiAll s.data.toList = .ok v) (w : World) :
  Calls Tryd.prog 69 #[.string s] w fun e w' => e = .returned (.tuple #[.int .i64 v, .nilIface]) ∧ (w' = w ∨ ∃ t, w' = Lib.bytesWorld w 5 t) := Any.strconv_Atoi_ok Tryd.laysC172 s hmax v h w
open Go.RowKit in
theorem Tryd.strconv_Atoi_syntax (s : ByteArray) (hlim : s.size ≤ 281474976710656) (h : Lib.atoiAll s.data.toList = .«syntax») (ev : Value) (w : World) (hv : w.cell? ⟨3, 0, none⟩ = some ev) (hev : ev = .nilIface ∨ ∃ te pe, ev = .iface te pe) :
  Calls Tryd.prog 69 #[.string s] w fun e w' => ∃ N, e = .returned (.tuple #[.int .i64 (0), .iface 141 (.pointer (some ⟨N, 0, none⟩))]) ∧ w.heap.size ≤ N ∧ w'.heap[N]? = some (.cells #[.string ⟨#[65, 116, 111, 105]⟩, .string s, ev] 154 (0, 0)) ∧ Below w.heap.size w w' := Any.strconv_Atoi_syntax Tryd.laysC172 s hlim h ev w hv hev
open Go.RowKit in
theorem Tryd.strconv_Atoi_range (s : ByteArray) (hlim : s.size ≤ 281474976710656) (h : Lib.atoiAll s.data.toList = .range) (ev : Value) (w : World) (hv : w.cell? ⟨4, 0, none⟩ = some ev) (hev : ev = .nilIface ∨ ∃ te pe, ev = .iface te pe) :
  Calls Tryd.prog 69 #[.string s] w fun e w' => ∃ N, e = .returned (.tuple #[.int .i64 (Lib.atoiSat s.data.toList), .iface 141 (.pointer (some ⟨N, 0, none⟩))]) ∧ w.heap.size ≤ N ∧ w'.heap[N]? = some (.cells #[.string ⟨#[65, 116, 111, 105]⟩, .string s, ev] 154 (0, 0)) ∧ Below w.heap.size w w' := Any.strconv_Atoi_range Tryd.laysC172 s hlim h ev w hv hev
def Tryd.lays146_ren : Go.Shelf.Ren := ⟨fun|146 => 46|221 => 68|268 => 78|138 => 79|143 => 80|195 => 88|197 => 89|218 => 90|219 => 91|260 => 102|217 => 103|225 => 104|224 => 105|267 => 106|266 => 111|314 => 112|n => n, fun|9 => 9|31 => 94|3 => 3|4 => 4|0 => 0|105 => 135|21 => 21|5 => 5|46 => 31|119 => 157|139 => 160|138 => 159|146 => 161|51 => 147|n => n, fun|1 => 2|3 => 5|4 => 6|n => n⟩
theorem Tryd.lays146 : Go.Proofs.Lays.n146 Tryd.prog Tryd.lays146_ren := {
 mixed := by kernel_rfl
 f138 := Tryd.func79.trans (congrArg some (by kernel_rfl))
 f143 := Tryd.func80.trans (congrArg some (by kernel_rfl))
 f146 := Tryd.func46.trans (congrArg some (by kernel_rfl))
 f195 := Tryd.func88.trans (congrArg some (by kernel_rfl))
 f197 := Tryd.func89.trans (congrArg some (by kernel_rfl))
 f217 := Tryd.func103.trans (congrArg some (by kernel_rfl))
 f218 := Tryd.func90.trans (congrArg some (by kernel_rfl))
 f219 := Tryd.func91.trans (congrArg some (by kernel_rfl))
 f221 := Tryd.func68.trans (congrArg some (by kernel_rfl))
 f224 := Tryd.func105.trans (congrArg some (by kernel_rfl))
 f225 := Tryd.func104.trans (congrArg some (by kernel_rfl))
 f260 := Tryd.func102.trans (congrArg some (by kernel_rfl))
 f266 := Tryd.func111.trans (congrArg some (by kernel_rfl))
 f267 := Tryd.func106.trans (congrArg some (by kernel_rfl))
 f268 := Tryd.func78.trans (congrArg some (by kernel_rfl))
 f314 := Tryd.func112.trans (congrArg some (by kernel_rfl))
 t0 := Tryd.underlying0
 a0 := Tryd.isAgg0
 z0 := Tryd.sizeOf0
 v0 := Tryd.zeroValue0
 t3 := Tryd.underlying3
 a3 := Tryd.isAgg3
 z3 := Tryd.sizeOf3
 v3 := Tryd.zeroValue3
 t4 := Tryd.underlying4
 a4 := Tryd.isAgg4
 z4 := Tryd.sizeOf4
 v4 := Tryd.zeroValue4
 t5 := Tryd.underlying5
 a5 := Tryd.isAgg5
 z5 := Tryd.sizeOf5
 v5 := Tryd.zeroValue5
 t9 := Tryd.underlying9
 a9 := Tryd.isAgg9
 z9 := Tryd.sizeOf9
 v9 := Tryd.zeroValue9
 t21 := Tryd.underlying21
 a21 := Tryd.isAgg21
 z21 := Tryd.sizeOf21
 v21 := Tryd.zeroValue21
 t31 := Tryd.underlying94
 a31 := Tryd.isAgg94
 z31 := Tryd.sizeOf94
 v31 := Tryd.zeroValue94
 t46 := Tryd.underlying31
 a46 := Tryd.isAgg31
 z46 := Tryd.sizeOf31
 v46 := Tryd.zeroValue31
 t51 := Tryd.underlying147
 a51 := Tryd.isAgg147
 z51 := Tryd.sizeOf147
 v51 := Tryd.zeroValue147
 t105 := Tryd.underlying135
 a105 := Tryd.isAgg135
 z105 := Tryd.sizeOf135
 v105 := Tryd.zeroValue135
 t119 := Tryd.underlying157
 a119 := Tryd.isAgg157
 z119 := Tryd.sizeOf157
 t138 := Tryd.underlying159
 a138 := Tryd.isAgg159
 z138 := Tryd.sizeOf159
 v138 := Tryd.zeroValue159
 t139 := Tryd.underlying160
 a139 := Tryd.isAgg160
 z139 := Tryd.sizeOf160
 v139 := Tryd.zeroValue160
 t146 := Tryd.underlying161
 a146 := Tryd.isAgg161
 z146 := Tryd.sizeOf161
 v146 := Tryd.zeroValue161
 g1 := by kernel_rfl
 g3 := by kernel_rfl
 g4 := by kernel_rfl }
open Go.RowKit Go.Lib in
theorem Tryd.strings_Split (s sep : ByteArray) (m : Int) (w : World) (hs : s.size < 4294967281) (hm : w.cell? ⟨2, 0, none⟩ = some (.int .i64 m)) (h1 : 1 ≤ sep.size) :
  Calls Tryd.prog 46 #[.string s, .string sep] w fun e w' =>
   e = .returned (.slice (some ⟨w.heap.size, 0, none⟩) (Lib.countB s sep + 1) (Lib.countB s sep + 1)) ∧ w' = w.alloc (.cells ((Lib.splitB sep 0 (Lib.countB s sep) s).map Value.string).toArray 9) := Any.strings_Split Tryd.lays146 (by kernel_rfl) s sep m w hs hm h1
end Go.Proofs

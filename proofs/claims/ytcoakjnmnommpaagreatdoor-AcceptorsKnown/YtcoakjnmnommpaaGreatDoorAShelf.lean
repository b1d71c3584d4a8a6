import Derived.Test.YtcoakjnmnommpaaGreatDoorA0
import Derived.Test.YtcoakjnmnommpaaGreatDoorProg
import Derived.Shelf.Strings.Builder1
import Derived.KernelRfl
import Derived.Shelf.RegionOpenPlain
import Derived.Shelf.Small.Wraps
import Derived.Shelf.Strings.BuilderF
import Derived.Shelf.Strings.BuilderK
import Derived.Shelf.Utf8.RuneCount
import Derived.Shelf.Strconv.Atoi
import Derived.Shelf.Strconv.Itoa0
import Derived.Shelf.Strconv.Itoa1
import Derived.Shelf.LaysM
import Derived.Shelf.Strconv.Itoa2
import Derived.Shelf.Strconv.Itoa3
import Derived.Shelf.Strconv.AtoiErrFast
import Derived.Shelf.Strconv.ParseIntEmpty
import Derived.Shelf.Strconv.AtoiFail
import Derived.Shelf.Strconv.Clone
import Derived.Shelf.Strconv.SyntaxError
import Derived.Shelf.LaysC
import Derived.Shelf.Strconv.ToError
import Derived.Shelf.Strconv.Lower
import Derived.Shelf.Strconv.ParseUint10
import Derived.Shelf.Strconv.ParseUint10Empty
import Derived.Shelf.Strconv.ParseUint10Any
import Derived.Shelf.Strconv.ParseInt10
import Derived.Shelf.Strconv.AtoiLong
import Derived.Shelf.Strconv.AtoiInnerAll
import Derived.Shelf.Strconv.RangeError
import Derived.Shelf.Strconv.ToErrorRange
import Derived.Shelf.Strconv.AtoiAll
import Derived.Shelf.Strconv.ErrVarAll
import Derived.Shelf.Strconv.ParseUintEmpty
import Derived.Shelf.Strconv.ParseUint10b64
import Derived.Shelf.Strconv.ParseUint10b32
import Derived.Shelf.Strconv.ParseUint10b16
import Derived.Shelf.Strconv.ParseUint10b8
import Derived.Shelf.Strings.Search1
import Derived.Shelf.Strings.Search2
import Derived.Shelf.Strings.Search3
import Derived.Shelf.Strings.Count
import Derived.Shelf.Strings.Shaped
import Derived.Shelf.Strings.Prefix
import Derived.Shelf.Strings.Split
import Derived.Shelf.Strings.SplitShaped
import Derived.Shelf.Unicode.Decode
import Derived.Shelf.Strings.RuneCount
import Derived.Shelf.Strings.Explode
import Derived.Shelf.Unicode.DecodeSlow
import Derived.Shelf.Unicode.DecodeAny
import Derived.Ground.Names2Prog
import Derived.Shelf.Slices.Clone
import Derived.Ground.SlgnProg
import Derived.Shelf.SlicesE.Clone
namespace Go.Proofs
open Go.Shelf Go.RowKit
set_option linter.unusedVariables false
set_option maxHeartbeats 1000000
set_option maxRecDepth 100000
theorem xaQ9 (b : Nat) (w : World) (h0 : w.cell? ⟨b, 0, none⟩ = some (.pointer (some ⟨b, 0, none⟩))) :
  Calls Tryz.prog 73 #[.pointer (some ⟨b, 0, none⟩)] w fun e w' => e = .returned (.tuple #[]) ∧ w' = w := by
 obtain ⟨j, hj⟩ : ∃ j, Tryz.prog.info? 95 = some j := n'i.1 (by kernel_rfl);have t70 : Tryz.prog.underlying 93 = some (.pointer 95) := by kernel_rfl
 go_enter Tryz.func73, Tryz.ntmps73
 go_wp2
 rw [Lib.run_neq_ptr_same w _ t70 hj]
 go_wp2
 go_end0
 exact ⟨rfl, rfl⟩
theorem xei9 (k : Nat) : liesAt Tryz.prog Tryz.prog.depth 95 (k + 1) 0 95 1 = true := by kernel_rfl
theorem xaI9 (b k : Nat) (w : World) (h0 : w.cell? ⟨b, 0, none⟩ = some (.pointer none)) (hsh : w.shape? b = some (95, (k + 1) * 2)) (hfz : w.frozen? ⟨b, 0, none⟩ = false) :
  Calls Tryz.prog 73 #[.pointer (some ⟨b, 0, none⟩)] w fun e w' => e = .returned (.tuple #[]) ∧ w' = w.setCell ⟨b, 0, none⟩ (.pointer (some ⟨b, 0, none⟩)) := by
 obtain ⟨j, hj, hjs⟩ : ∃ j, Tryz.prog.info? 95 = some j ∧ j.size = 2 := Option.map_eq_some_iff.1 (by kernel_rfl : (Tryz.prog.info? 95).map (·.size) = some 2);have t70 : Tryz.prog.underlying 93 = some (.pointer 95) := by kernel_rfl
 have t164 : Tryz.prog.underlying 123 = some .unsafePointer := by kernel_rfl
 have hc : Tryz.prog.cellsOf 95 = 2 := by kernel_rfl
 have hl : liesAt Tryz.prog Tryz.prog.depth 95 ((k + 1) * 2 / Tryz.prog.cellsOf 95) 0 95 1 = true := by
  rw [hc, Nat.mul_div_cancel _ (by decide)]; exact xei9 k
 go_enter Tryz.func73, Tryz.ntmps73
 go_wp2
 rw [Lib.run_to_unsafe w ⟨b, 0, none⟩ t70 t164 hj (by rw [hjs]; decide) hsh (show 0 < (k + 1) * 2 by omega)];simp only [Result.andThen];rw [Oper.upon_value]
 go_wp2
 rw [run_callFunc_extern Tryz.func81 (by kernel_rfl) (by kernel_rfl) (by kernel_rfl) (e := Extern.AbiNoEscape.same) (by kernel_rfl)];rw [Lib.run_noEscape];simp only [Result.andThen];rw [Oper.upon_value]
 go_wp2
 rw [Lib.run_from_unsafe w ⟨b, 0, none⟩ t164 t70 hj hsh hl];simp only [Result.andThen];rw [Oper.upon_value]
 go_wp2
 go_end0
 exact ⟨rfl, rfl⟩
theorem waQ9 (b g cap : Nat) (cur : Array Value) (l : List UInt8) (w : World) (h0 : l ≠ []) (c0 : w.cell? ⟨b, 1, none⟩ = some (.slice (some ⟨g, 0, none⟩) l.length cap)) (hg : w.heap[g]? = some (.cells cur 5 (0, 0)))
  (h1 : l.length ≤ cap) (h2 : cap ≤ cur.size) (h3 : cap ≤ maxLen) (hc : ∀ (j : Nat) (x : UInt8), l[j]? = some x → cur[j]? = some (Value.int .u8 x.toNat)) :
  Calls Tryz.prog 63 #[.pointer (some ⟨b, 0, none⟩)] w fun e w' => e = .returned (.string ⟨l.toArray⟩) ∧ w' = w.drew.freeze ⟨g, 0, none⟩ l.length := by
 have c1 : w.drew.cell? ⟨b, 1, none⟩ = some (.slice (some ⟨g, 0, none⟩) l.length cap) := c0;have hl0 : l.length ≠ 0 := by simpa using h0
 have hSD : (Builtin.unsafeSliceData_ #[25] 116 #[.slice (some ⟨g, 0, none⟩) l.length cap]).run Tryz.prog w.drew = .ok (.pointer (some ⟨g, 0, none⟩)) w.drew :=
  Lib.run_unsafeSliceData_row _ _ _ _ _ _ (by omega)
 have t146 : Tryz.prog.underlying 116 = some (.pointer 5) := by kernel_rfl
 have hc5 : Tryz.prog.cellsOf 5 = 1 := by kernel_rfl
 have hUS : (Builtin.unsafeString_ #[116, 3] 9 #[.pointer (some ⟨g, 0, none⟩), .int .i64 l.length]).run Tryz.prog w.drew = .ok (.string ⟨l.toArray⟩) (w.drew.freeze ⟨g, 0, none⟩ l.length) := by
  refine Lib.run_unsafeString_row w.drew 116 3 9 5 t146 hc5 g cur.size (by have hg' : w.drew.heap[g]? = some (.cells cur 5 (0, 0)) := hg; simp [World.shape?, hg']) l h0 (by omega) (by unfold maxLen at h3; omega) ?_;intro j x hx;have hg' : w.drew.heap[g]? = some (.cells cur 5 (0, 0)) := hg;have e : ((⟨g, 0, none⟩ : Addr).add j) = ⟨g, j, none⟩ := by unfold Addr.add; split <;> simp_all
  rw [e];simp [World.cell?, hg', hc j x hx]
 have mixed : Tryz.prog.follows .mixedOrders = true := by kernel_rfl
 go_enter Tryz.func63, Tryz.ntmps63
 go_wp2
 go_region_o
 all_goals (go_wp2; go_ret; exact ⟨rfl, rfl⟩)
end Go.Proofs
namespace Go.Proofs
open Go.Shelf
def Tryz.lays104_ren : Go.Shelf.Ren := ⟨fun|104 => 70|211 => 78|207 => 83|n => n, fun|9 => 9|4 => 4|24 => 109|3 => 3|n => n, fun|n => n⟩
def Tryz.laysM171_ren : Go.Shelf.Ren := ⟨fun|171 => 62|243 => 74|246 => 82|283 => 89|284 => 90|285 => 91|286 => 92|129 => 103|317 => 102|318 => 104|319 => 105|320 => 106|337 => 115|338 => 66|n => n, fun|3 => 3|9 => 9|2 => 2|4 => 4|171 => 130|0 => 0|53 => 66|37 => 25|5 => 5|173 => 132|212 => 145|51 => 146|20 => 20|213 => 147|46 => 104|232 => 166|233 => 119|n => n, fun|17 => 1|18 => 7|19 => 0|n => n⟩
theorem Tryz.laysM171 : Go.Proofs.LaysM.n171 Tryz.prog Tryz.laysM171_ren := {
 mixed := by kernel_rfl
 f129 := Tryz.func103.trans (congrArg some (by kernel_rfl))
 f171 := Tryz.func62.trans (congrArg some (by kernel_rfl))
 f243 := Tryz.func74.trans (congrArg some (by kernel_rfl))
 f246 := Tryz.func82.trans (congrArg some (by kernel_rfl))
 f283 := Tryz.func89.trans (congrArg some (by kernel_rfl))
 f284 := Tryz.func90.trans (congrArg some (by kernel_rfl))
 f285 := Tryz.func91.trans (congrArg some (by kernel_rfl))
 f286 := Tryz.func92.trans (congrArg some (by kernel_rfl))
 f317 := Tryz.func102.trans (congrArg some (by kernel_rfl))
 f318 := Tryz.func104.trans (congrArg some (by kernel_rfl))
 f319 := Tryz.func105.trans (congrArg some (by kernel_rfl))
 f320 := Tryz.func106.trans (congrArg some (by kernel_rfl))
 f337 := Tryz.func115.trans (congrArg some (by kernel_rfl))
 f338 := Tryz.func66.trans (congrArg some (by kernel_rfl))
 t0 := Tryz.underlying0
 a0 := Tryz.isAgg0
 z0 := Tryz.sizeOf0
 v0 := Tryz.zeroValue0
 t2 := Tryz.underlying2
 a2 := Tryz.isAgg2
 z2 := Tryz.sizeOf2
 v2 := Tryz.zeroValue2
 t3 := Tryz.underlying3
 a3 := Tryz.isAgg3
 z3 := Tryz.sizeOf3
 v3 := Tryz.zeroValue3
 t4 := Tryz.underlying4
 a4 := Tryz.isAgg4
 z4 := Tryz.sizeOf4
 v4 := Tryz.zeroValue4
 t5 := Tryz.underlying5
 a5 := Tryz.isAgg5
 z5 := Tryz.sizeOf5
 v5 := Tryz.zeroValue5
 t9 := Tryz.underlying9
 a9 := Tryz.isAgg9
 z9 := Tryz.sizeOf9
 v9 := Tryz.zeroValue9
 t20 := Tryz.underlying20
 a20 := Tryz.isAgg20
 z20 := Tryz.sizeOf20
 v20 := Tryz.zeroValue20
 t37 := Tryz.underlying25
 a37 := Tryz.isAgg25
 z37 := Tryz.sizeOf25
 v37 := Tryz.zeroValue25
 t46 := Tryz.underlying104
 a46 := Tryz.isAgg104
 z46 := Tryz.sizeOf104
 v46 := Tryz.zeroValue104
 t51 := Tryz.underlying146
 a51 := Tryz.isAgg146
 z51 := Tryz.sizeOf146
 v51 := Tryz.zeroValue146
 t53 := Tryz.underlying66
 a53 := Tryz.isAgg66
 z53 := Tryz.sizeOf66
 v53 := Tryz.zeroValue66
 t171 := Tryz.underlying130
 a171 := Tryz.isAgg130
 z171 := Tryz.sizeOf130
 v171 := Tryz.zeroValue130
 t173 := Tryz.underlying132
 a173 := Tryz.isAgg132
 z173 := Tryz.sizeOf132
 v173 := Tryz.zeroValue132
 t212 := Tryz.underlying145
 a212 := Tryz.isAgg145
 z212 := Tryz.sizeOf145
 v212 := Tryz.zeroValue145
 t213 := Tryz.underlying147
 a213 := Tryz.isAgg147
 z213 := Tryz.sizeOf147
 t232 := Tryz.underlying166
 a232 := Tryz.isAgg166
 z232 := Tryz.sizeOf166
 v232 := Tryz.zeroValue166
 t233 := Tryz.underlying119
 a233 := Tryz.isAgg119
 z233 := Tryz.sizeOf119
 v233 := Tryz.zeroValue119
 g17 := by kernel_rfl
 g18 := by kernel_rfl
 g19 := by kernel_rfl
 i0 := by kernel_rfl
 i2 := by kernel_rfl
 i3 := by kernel_rfl
 i4 := by kernel_rfl
 i5 := by kernel_rfl
 i9 := by kernel_rfl
 i20 := by kernel_rfl
 i37 := by kernel_rfl
 i46 := by kernel_rfl
 i51 := by kernel_rfl
 i53 := by kernel_rfl
 i171 := by kernel_rfl
 i173 := by kernel_rfl
 i212 := by kernel_rfl
 i232 := by kernel_rfl
 i233 := by kernel_rfl
 m17 := by kernel_rfl
 m18 := by kernel_rfl
 m19 := by kernel_rfl }
open Go.RowKit Go.Sort Go.Lib in
theorem Tryz.strconv_Itoa (n : Int) (h0 : -9223372036854775808 ≤ n) (h1 : n ≤ 9223372036854775807) (w : World) (htab : Lib.TabIs Tryz.prog w "internal/strconv.uint64pow10" .u64 Lib.pow10Tab) :
  Calls Tryz.prog 62 #[.int .i64 n] w fun e w' => e = .returned (.string ⟨(Lib.itoa n).toArray⟩) ∧ ∃ k os, w' = grow (w.drewN k) os := Any.strconv_Itoa Tryz.laysM171 n h0 h1 w htab
def Tryz.laysC172_ren : Go.Shelf.Ren := ⟨fun|172 => 80|244 => 87|245 => 88|247 => 97|279 => 98|280 => 99|281 => 100|282 => 101|287 => 112|316 => 113|171 => 62|205 => 114|321 => 118|322 => 119|243 => 74|246 => 82|283 => 89|284 => 90|285 => 91|286 => 92|129 => 103|317 => 102|318 => 104|319 => 105|320 => 106|337 => 115|338 => 66|n => n, fun|9 => 9|3 => 3|75 => 97|76 => 98|4 => 4|5 => 5|167 => 137|37 => 25|0 => 0|85 => 138|2 => 2|168 => 140|53 => 66|175 => 149|46 => 104|210 => 153|127 => 116|145 => 165|143 => 163|21 => 21|171 => 130|173 => 132|212 => 145|51 => 146|20 => 20|213 => 147|232 => 166|233 => 119|80 => 103|n => n, fun|15 => 3|16 => 4|17 => 1|18 => 7|19 => 0|n => n⟩
theorem Tryz.laysC172 : Go.Proofs.LaysC.n172 Tryz.prog Tryz.laysC172_ren := {
 mixed := by kernel_rfl
 f129 := Tryz.func103.trans (congrArg some (by kernel_rfl))
 f171 := Tryz.func62.trans (congrArg some (by kernel_rfl))
 f172 := Tryz.func80.trans (congrArg some (by kernel_rfl))
 f205 := Tryz.func114.trans (congrArg some (by kernel_rfl))
 f243 := Tryz.func74.trans (congrArg some (by kernel_rfl))
 f244 := Tryz.func87.trans (congrArg some (by kernel_rfl))
 f245 := Tryz.func88.trans (congrArg some (by kernel_rfl))
 f246 := Tryz.func82.trans (congrArg some (by kernel_rfl))
 f247 := Tryz.func97.trans (congrArg some (by kernel_rfl))
 f279 := Tryz.func98.trans (congrArg some (by kernel_rfl))
 f280 := Tryz.func99.trans (congrArg some (by kernel_rfl))
 f281 := Tryz.func100.trans (congrArg some (by kernel_rfl))
 f282 := Tryz.func101.trans (congrArg some (by kernel_rfl))
 f283 := Tryz.func89.trans (congrArg some (by kernel_rfl))
 f284 := Tryz.func90.trans (congrArg some (by kernel_rfl))
 f285 := Tryz.func91.trans (congrArg some (by kernel_rfl))
 f286 := Tryz.func92.trans (congrArg some (by kernel_rfl))
 f287 := Tryz.func112.trans (congrArg some (by kernel_rfl))
 f316 := Tryz.func113.trans (congrArg some (by kernel_rfl))
 f317 := Tryz.func102.trans (congrArg some (by kernel_rfl))
 f318 := Tryz.func104.trans (congrArg some (by kernel_rfl))
 f319 := Tryz.func105.trans (congrArg some (by kernel_rfl))
 f320 := Tryz.func106.trans (congrArg some (by kernel_rfl))
 f321 := Tryz.func118.trans (congrArg some (by kernel_rfl))
 f322 := Tryz.func119.trans (congrArg some (by kernel_rfl))
 f337 := Tryz.func115.trans (congrArg some (by kernel_rfl))
 f338 := Tryz.func66.trans (congrArg some (by kernel_rfl))
 t0 := Tryz.underlying0
 a0 := Tryz.isAgg0
 z0 := Tryz.sizeOf0
 v0 := Tryz.zeroValue0
 t2 := Tryz.underlying2
 a2 := Tryz.isAgg2
 z2 := Tryz.sizeOf2
 v2 := Tryz.zeroValue2
 t3 := Tryz.underlying3
 a3 := Tryz.isAgg3
 z3 := Tryz.sizeOf3
 v3 := Tryz.zeroValue3
 t4 := Tryz.underlying4
 a4 := Tryz.isAgg4
 z4 := Tryz.sizeOf4
 v4 := Tryz.zeroValue4
 t5 := Tryz.underlying5
 a5 := Tryz.isAgg5
 z5 := Tryz.sizeOf5
 v5 := Tryz.zeroValue5
 t9 := Tryz.underlying9
 a9 := Tryz.isAgg9
 z9 := Tryz.sizeOf9
 v9 := Tryz.zeroValue9
 t20 := Tryz.underlying20
 a20 := Tryz.isAgg20
 z20 := Tryz.sizeOf20
 v20 := Tryz.zeroValue20
 t21 := Tryz.underlying21
 a21 := Tryz.isAgg21
 z21 := Tryz.sizeOf21
 v21 := Tryz.zeroValue21
 t37 := Tryz.underlying25
 a37 := Tryz.isAgg25
 z37 := Tryz.sizeOf25
 v37 := Tryz.zeroValue25
 t46 := Tryz.underlying104
 a46 := Tryz.isAgg104
 z46 := Tryz.sizeOf104
 v46 := Tryz.zeroValue104
 t51 := Tryz.underlying146
 a51 := Tryz.isAgg146
 z51 := Tryz.sizeOf146
 v51 := Tryz.zeroValue146
 t53 := Tryz.underlying66
 a53 := Tryz.isAgg66
 z53 := Tryz.sizeOf66
 v53 := Tryz.zeroValue66
 t75 := Tryz.underlying97
 a75 := Tryz.isAgg97
 z75 := Tryz.sizeOf97
 v75 := Tryz.zeroValue97
 t76 := Tryz.underlying98
 a76 := Tryz.isAgg98
 z76 := Tryz.sizeOf98
 v76 := Tryz.zeroValue98
 t85 := Tryz.underlying138
 a85 := Tryz.isAgg138
 z85 := Tryz.sizeOf138
 v85 := Tryz.zeroValue138
 t127 := Tryz.underlying116
 a127 := Tryz.isAgg116
 z127 := Tryz.sizeOf116
 v127 := Tryz.zeroValue116
 t143 := Tryz.underlying163
 a143 := Tryz.isAgg163
 z143 := Tryz.sizeOf163
 v143 := Tryz.zeroValue163
 t145 := Tryz.underlying165
 a145 := Tryz.isAgg165
 z145 := Tryz.sizeOf165
 v145 := Tryz.zeroValue165
 t167 := Tryz.underlying137
 a167 := Tryz.isAgg137
 z167 := Tryz.sizeOf137
 v167 := Tryz.zeroValue137
 t168 := Tryz.underlying140
 a168 := Tryz.isAgg140
 z168 := Tryz.sizeOf140
 v168 := Tryz.zeroValue140
 t171 := Tryz.underlying130
 a171 := Tryz.isAgg130
 z171 := Tryz.sizeOf130
 v171 := Tryz.zeroValue130
 t173 := Tryz.underlying132
 a173 := Tryz.isAgg132
 z173 := Tryz.sizeOf132
 v173 := Tryz.zeroValue132
 t175 := Tryz.underlying149
 a175 := Tryz.isAgg149
 z175 := Tryz.sizeOf149
 v175 := Tryz.zeroValue149
 t210 := Tryz.underlying153
 a210 := Tryz.isAgg153
 z210 := Tryz.sizeOf153
 v210 := Tryz.zeroValue153
 t212 := Tryz.underlying145
 a212 := Tryz.isAgg145
 z212 := Tryz.sizeOf145
 v212 := Tryz.zeroValue145
 t213 := Tryz.underlying147
 a213 := Tryz.isAgg147
 z213 := Tryz.sizeOf147
 t232 := Tryz.underlying166
 a232 := Tryz.isAgg166
 z232 := Tryz.sizeOf166
 v232 := Tryz.zeroValue166
 t233 := Tryz.underlying119
 a233 := Tryz.isAgg119
 z233 := Tryz.sizeOf119
 v233 := Tryz.zeroValue119
 g15 := by kernel_rfl
 g16 := by kernel_rfl
 g17 := by kernel_rfl
 g18 := by kernel_rfl
 g19 := by kernel_rfl
 t80 := Tryz.underlying103
 a80 := Tryz.isAgg103
 z80 := Tryz.sizeOf103
 v80 := Tryz.zeroValue103
 i0 := by kernel_rfl
 i2 := by kernel_rfl
 i3 := by kernel_rfl
 i4 := by kernel_rfl
 i5 := by kernel_rfl
 i9 := by kernel_rfl
 i20 := by kernel_rfl
 i21 := by kernel_rfl
 i37 := by kernel_rfl
 i46 := by kernel_rfl
 i51 := by kernel_rfl
 i53 := by kernel_rfl
 i75 := by kernel_rfl
 i76 := by kernel_rfl
 i80 := by kernel_rfl
 i85 := by kernel_rfl
 i127 := by kernel_rfl
 i143 := by kernel_rfl
 i145 := by kernel_rfl
 i167 := by kernel_rfl
 i168 := by kernel_rfl
 i171 := by kernel_rfl
 i173 := by kernel_rfl
 i175 := by kernel_rfl
 i210 := by kernel_rfl
 i212 := by kernel_rfl
 i232 := by kernel_rfl
 i233 := by kernel_rfl
 m15 := by kernel_rfl
 m16 := by kernel_rfl
 m17 := by kernel_rfl
 m18 := by kernel_rfl
 m19 := by kernel_rfl
 c0 := by kernel_rfl
 c2 := by kernel_rfl
 c3 := by kernel_rfl
 c4 := by kernel_rfl
 c5 := by kernel_rfl
 c9 := by kernel_rfl
 c20 := by kernel_rfl
 c21 := by kernel_rfl
 c37 := by kernel_rfl
 c46 := by kernel_rfl
 c51 := by kernel_rfl
 c53 := by kernel_rfl
 c75 := by kernel_rfl
 c76 := by kernel_rfl
 c80 := by kernel_rfl
 c85 := by kernel_rfl
 c127 := by kernel_rfl
 c143 := by kernel_rfl
 c145 := by kernel_rfl
 c167 := by kernel_rfl
 c168 := by kernel_rfl
 c171 := by kernel_rfl
 c173 := by kernel_rfl
 c175 := by kernel_rfl
 c210 := by kernel_rfl
 c212 := by kernel_rfl
 c213 := by kernel_rfl
 c232 := by kernel_rfl
 c233 := by kernel_rfl }
open Go.RowKit in
theorem Tryz.strconv_Atoi_ok (s : ByteArray) (hmax : s.size ≤ 9223372036854775806) (v : Int) (h : Lib.atoiAll s.data.toList = .ok v) (w : World) :
  Calls Tryz.prog 80 #[.string s] w fun e w' => e = .returned (.tuple #[.int .i64 v, .nilIface]) ∧ (w' = w ∨ ∃ t, w' = Lib.bytesWorld w 5 t) := Any.strconv_Atoi_ok Tryz.laysC172 s hmax v h w
open Go.RowKit in
theorem Tryz.strconv_Atoi_syntax (s : ByteArray) (hlim : s.size ≤ 281474976710656) (h : Lib.atoiAll s.data.toList = .«syntax») (ev : Value) (w : World) (hv : w.cell? ⟨3, 0, none⟩ = some ev) (hev : ev = .nilIface ∨ ∃ te pe, ev = .iface te pe) :
  Calls Tryz.prog 80 #[.string s] w fun e w' => ∃ N, e = .returned (.tuple #[.int .i64 (0), .iface 140 (.pointer (some ⟨N, 0, none⟩))]) ∧ w.heap.size ≤ N ∧ w'.heap[N]? = some (.cells #[.string ⟨#[65, 116, 111, 105]⟩, .string s, ev] 153 (0, 0)) ∧ Below w.heap.size w w' := Any.strconv_Atoi_syntax Tryz.laysC172 s hlim h ev w hv hev
open Go.RowKit in
theorem Tryz.strconv_Atoi_range (s : ByteArray) (hlim : s.size ≤ 281474976710656) (h : Lib.atoiAll s.data.toList = .range) (ev : Value) (w : World) (hv : w.cell? ⟨4, 0, none⟩ = some ev) (hev : ev = .nilIface ∨ ∃ te pe, ev = .iface te pe) :
  Calls Tryz.prog 80 #[.string s] w fun e w' => ∃ N, e = .returned (.tuple #[.int .i64 (Lib.atoiSat s.data.toList), .iface 140 (.pointer (some ⟨N, 0, none⟩))]) ∧ w.heap.size ≤ N ∧ w'.heap[N]? = some (.cells #[.string ⟨#[65, 116, 111, 105]⟩, .string s, ev] 153 (0, 0)) ∧ Below w.heap.size w w' := Any.strconv_Atoi_range Tryz.laysC172 s hlim h ev w hv hev
def Tryz.lays146_ren : Go.Shelf.Ren := ⟨fun|146 => 71|221 => 79|268 => 84|138 => 85|143 => 86|195 => 93|197 => 94|218 => 95|219 => 96|260 => 107|217 => 108|225 => 109|224 => 110|267 => 111|266 => 116|314 => 117|n => n, fun|9 => 9|31 => 111|3 => 3|4 => 4|0 => 0|105 => 134|21 => 21|5 => 5|46 => 104|119 => 156|139 => 159|138 => 158|146 => 160|51 => 146|n => n, fun|1 => 2|3 => 5|4 => 6|n => n⟩
theorem Tryz.lays146 : Go.Proofs.Lays.n146 Tryz.prog Tryz.lays146_ren := {
 mixed := by kernel_rfl
 f138 := Tryz.func85.trans (congrArg some (by kernel_rfl))
 f143 := Tryz.func86.trans (congrArg some (by kernel_rfl))
 f146 := Tryz.func71.trans (congrArg some (by kernel_rfl))
 f195 := Tryz.func93.trans (congrArg some (by kernel_rfl))
 f197 := Tryz.func94.trans (congrArg some (by kernel_rfl))
 f217 := Tryz.func108.trans (congrArg some (by kernel_rfl))
 f218 := Tryz.func95.trans (congrArg some (by kernel_rfl))
 f219 := Tryz.func96.trans (congrArg some (by kernel_rfl))
 f221 := Tryz.func79.trans (congrArg some (by kernel_rfl))
 f224 := Tryz.func110.trans (congrArg some (by kernel_rfl))
 f225 := Tryz.func109.trans (congrArg some (by kernel_rfl))
 f260 := Tryz.func107.trans (congrArg some (by kernel_rfl))
 f266 := Tryz.func116.trans (congrArg some (by kernel_rfl))
 f267 := Tryz.func111.trans (congrArg some (by kernel_rfl))
 f268 := Tryz.func84.trans (congrArg some (by kernel_rfl))
 f314 := Tryz.func117.trans (congrArg some (by kernel_rfl))
 t0 := Tryz.underlying0
 a0 := Tryz.isAgg0
 z0 := Tryz.sizeOf0
 v0 := Tryz.zeroValue0
 t3 := Tryz.underlying3
 a3 := Tryz.isAgg3
 z3 := Tryz.sizeOf3
 v3 := Tryz.zeroValue3
 t4 := Tryz.underlying4
 a4 := Tryz.isAgg4
 z4 := Tryz.sizeOf4
 v4 := Tryz.zeroValue4
 t5 := Tryz.underlying5
 a5 := Tryz.isAgg5
 z5 := Tryz.sizeOf5
 v5 := Tryz.zeroValue5
 t9 := Tryz.underlying9
 a9 := Tryz.isAgg9
 z9 := Tryz.sizeOf9
 v9 := Tryz.zeroValue9
 t21 := Tryz.underlying21
 a21 := Tryz.isAgg21
 z21 := Tryz.sizeOf21
 v21 := Tryz.zeroValue21
 t31 := Tryz.underlying111
 a31 := Tryz.isAgg111
 z31 := Tryz.sizeOf111
 v31 := Tryz.zeroValue111
 t46 := Tryz.underlying104
 a46 := Tryz.isAgg104
 z46 := Tryz.sizeOf104
 v46 := Tryz.zeroValue104
 t51 := Tryz.underlying146
 a51 := Tryz.isAgg146
 z51 := Tryz.sizeOf146
 v51 := Tryz.zeroValue146
 t105 := Tryz.underlying134
 a105 := Tryz.isAgg134
 z105 := Tryz.sizeOf134
 v105 := Tryz.zeroValue134
 t119 := Tryz.underlying156
 a119 := Tryz.isAgg156
 z119 := Tryz.sizeOf156
 t138 := Tryz.underlying158
 a138 := Tryz.isAgg158
 z138 := Tryz.sizeOf158
 v138 := Tryz.zeroValue158
 t139 := Tryz.underlying159
 a139 := Tryz.isAgg159
 z139 := Tryz.sizeOf159
 v139 := Tryz.zeroValue159
 t146 := Tryz.underlying160
 a146 := Tryz.isAgg160
 z146 := Tryz.sizeOf160
 v146 := Tryz.zeroValue160
 g1 := by kernel_rfl
 g3 := by kernel_rfl
 g4 := by kernel_rfl }
open Go.RowKit Go.Lib in
theorem Tryz.strings_Split (s sep : ByteArray) (m : Int) (w : World) (hs : s.size < 4294967281) (hm : w.cell? ⟨2, 0, none⟩ = some (.int .i64 m)) (h1 : 1 ≤ sep.size) :
  Calls Tryz.prog 71 #[.string s, .string sep] w fun e w' =>
   e = .returned (.slice (some ⟨w.heap.size, 0, none⟩) (Lib.countB s sep + 1) (Lib.countB s sep + 1)) ∧ w' = w.alloc (.cells ((Lib.splitB sep 0 (Lib.countB s sep) s).map Value.string).toArray 9) := Any.strings_Split Tryz.lays146 (by kernel_rfl) s sep m w hs hm h1
end Go.Proofs

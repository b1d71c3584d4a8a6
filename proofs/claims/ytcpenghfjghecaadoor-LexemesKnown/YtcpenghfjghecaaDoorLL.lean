import Derived.Test.YtcpenghfjghecaaDoorLB
import Derived.Shelf.Strings.SlTrimAscii
import Derived.Test.YtcpenghfjghecaaDoorV25
import Derived.Test.YtcpenghfjghecaaDoorLShelf
/- Lexemes: the library's functions. -/
namespace Go.Proofs
open Go Go.V
set_option linter.unusedVariables false
set_option linter.unusedSimpArgs false
set_option maxHeartbeats 0
set_option maxRecDepth 100000
theorem pre57 (H : List Blk) (s p : List UInt8) : ACalls Tryd.prog G0 57 [.str s, .str p] H (.bool (Lib.hasPrefix s p)) H := prefix_ac Tryd.strings_HasPrefix s p
theorem idx41 (H : List Blk) (s : List UInt8) (c : UInt8) (n : Int) (hn : n = (c.toNat : Int)) : ACalls Tryd.prog G0 41 [.str s, .int .u8 n] H (.int .i64 (Lib.indexByte s c)) H := index_ac Tryd.strings_IndexByte s c n hn
theorem last24 (H : List Blk) (s : List UInt8) (hs : s.length ≤ 1000000) : ACalls Tryd.prog G0 24 [.str s, .int .u8 10] H (.int .i64 (Lib.lastIndexByte ⟨s.toArray⟩ 10)) H := lastIndex_ac Tryd.strings_LastIndexByte s 10 (by omega)
theorem cnt23 (H : List Blk) (s : List UInt8) : ACalls Tryd.prog G0 23 [.str s, .str [10]] H (.int .i64 ((s.count 10 : Nat) : Int)) H := count_ac Tryd.strings_Count_one s 10
theorem trim56 (H : List Blk) (s : List UInt8) : ACalls Tryd.prog G0 56 [.str s, .str [48, 49, 50, 51, 52, 53, 54, 55, 56, 57]] H (.str (Lib.trimLeftS s [48, 49, 50, 51, 52, 53, 54, 55, 56, 57])) H := trimLeft_ac (fun s c w h1 h2 => Any.strings_TrimLeft_laid Tryd.lays161 (by kernel_rfl) s c w h1 h2) s _ (by decide) (by decide)
theorem atoi34 (H : List Blk) (s : List UInt8) (hl : s.length ≤ 281474976710656) : ACalls Tryd.prog G0 34 [.str s] H (.tup [.int .i64 (atoiM s).1, errA (atoiM s).2]) H :=
  atoi_ac (gs := 2) (gr := 3) rfl rfl (fun s hm v h w => Tryd.strconv_Atoi_ok s hm v h w) (fun s hl h ev w h1 h2 => Tryd.strconv_Atoi_syntax s hl h ev w h1 h2) (fun s hl h ev w h1 h2 => Tryd.strconv_Atoi_range s hl h ev w h1 h2) s hl
theorem join33 (H : List Blk) (x : AV) (xs : List (List UInt8)) (sep : List UInt8) (hx : strSrc H x xs) (h1 : (Lib.join xs sep).length ≤ 140737488355328) (h2 : xs.length ≤ 140737488355328) : ACalls Tryd.prog G0 33 [x, .str sep] H (.str (Lib.join xs sep)) H :=
  join_ac hx (fun a c sep w => Tryd.strings_Join_none a c sep w) (fun bk o c xs sep w h1 h2 h3 h4 h5 => Tryd.strings_Join bk o c xs sep w h1 h2 h3 h4 h5) sep h1 h2
end Go.Proofs

import Derived.Test.YtfdnlhegmdhcjaaDoorFB
import Derived.Test.YtfdnlhegmdhcjaaDoorV25
import Derived.Test.YtfdnlhegmdhcjaaDoorFShelf
namespace Go.Proofs
open Go Go.V
set_option linter.unusedVariables false
set_option linter.unusedSimpArgs false
set_option maxHeartbeats 0
set_option maxRecDepth 100000
theorem itoa46 (H : List Blk) (n : Int) (h0 : -9223372036854775808 ≤ n) (h1 : n ≤ 9223372036854775807) : ACalls Tryd.prog G0 46 [.int .i64 n] H (.str (Lib.itoa n)) H :=
 itoa_ac (g := 3) (by kernel_rfl) rfl (fun n h0 h1 w ht => Tryd.strconv_Itoa n h0 h1 w ht) n h0 h1
theorem atoi56 (H : List Blk) (s : List UInt8) (hl : s.length ≤ 281474976710656) : ACalls Tryd.prog G0 56 [.str s] H (.tup [.int .i64 (atoiM s).1, errA (atoiM s).2]) H :=
 atoi_ac (gs := 1) (gr := 2) rfl rfl (fun s hm v h w => Tryd.strconv_Atoi_ok s hm v h w) (fun s hl h ev w h1 h2 => Tryd.strconv_Atoi_syntax s hl h ev w h1 h2) (fun s hl h ev w h1 h2 => Tryd.strconv_Atoi_range s hl h ev w h1 h2) s hl
theorem split53 (H : List Blk) (s sep : List UInt8) (hs : s.length < 4294967281) (h1 : 1 ≤ sep.length) : ACalls Tryd.prog G0 53 [.str s, .str sep] H (.sl 1 (strs (splitM s sep)) (some (splitM s sep).length)) H :=
 split_ac (gm := 4) rfl (fun s sep m w hs hm h1 => Tryd.strings_Split s sep m w hs hm h1) s sep hs h1
theorem join47 (H : List Blk) (x : AV) (xs : List (List UInt8)) (sep : List UInt8) (hx : strSrc H x xs) (h1 : (Lib.join xs sep).length ≤ 140737488355328) (h2 : xs.length ≤ 140737488355328) : ACalls Tryd.prog G0 47 [x, .str sep] H (.str (Lib.join xs sep)) H :=
 join_ac hx (fun a c sep w => Tryd.strings_Join_none a c sep w) (fun bk o c xs sep w h1 h2 h3 h4 h5 => Tryd.strings_Join bk o c xs sep w h1 h2 h3 h4 h5) sep h1 h2
end Go.Proofs

/- The library V, part 25: library functions. -/
import Derived.Test.YtfdnlhegmdhcjaaDoorV51
set_option linter.unusedVariables false
set_option linter.unusedSimpArgs false
namespace Go.V
open Go Go.RowKit
structure LibIds where
 itoa : FuncId
 atoi : FuncId
 split : FuncId
 join : FuncId
 clone : List FuncId
section
variable {P : Program} {G : Glob}
structure LibOk (P : Program) (G : Glob) (L : LibIds) : Prop where
 itoa : ∀ (H : List Blk) (n : Int), -9223372036854775808 ≤ n → n ≤ 9223372036854775807 → ACalls P G L.itoa [.int .i64 n] H (.str (Lib.itoa n)) H
 atoi : ∀ (H : List Blk) (s : List UInt8), s.length ≤ 281474976710656 → ACalls P G L.atoi [.str s] H (.tup [.int .i64 (atoiM s).1, errA (atoiM s).2]) H
 split : ∀ (H : List Blk) (s sep : List UInt8), s.length < 4294967281 → 1 ≤ sep.length → ACalls P G L.split [.str s, .str sep] H (.sl 1 (strs (splitM s sep)) (some (splitM s sep).length)) H
 join : ∀ (H : List Blk) (x : AV) (xs : List (List UInt8)) (sep : List UInt8), strSrc H x xs → (Lib.join xs sep).length ≤ 140737488355328 → xs.length ≤ 140737488355328 → ACalls P G L.join [x, .str sep] H (.str (Lib.join xs sep)) H
 clone : ∀ f ∈ L.clone, ∀ (H : List Blk) (k : Nat) (c : Option Nat), ACalls P G f [.sl k [] c] H (.sl 0 [] (some 0)) H
end
end Go.V

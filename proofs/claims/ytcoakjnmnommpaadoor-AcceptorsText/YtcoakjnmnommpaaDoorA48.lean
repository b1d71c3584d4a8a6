import Derived.Test.YtcoakjnmnommpaaDoorA47
namespace Go.Proofs
open Go Go.V Go.RowKit
set_option linter.unusedVariables false
set_option linter.unusedSimpArgs false
set_option maxHeartbeats 0
def lcN (rows : List (List Int × Bool)) : List LC := rows.map fun r => (r.1, none)
def parRO (o : Option (Int × List (List Int × Bool))) : AV := match o with
 | none => .tup [dA0, .int .i64 4]
 | some (A, rows) => if checkD A (rowsD (lcP rows)) rows.length ≠ 0 then .tup [dA0, .int .i64 (checkD A (rowsD (lcP rows)) rows.length)] else .tup [dA A 1 (lcN rows) none 1 (acP rows) none, .int .i64 0]
end Go.Proofs

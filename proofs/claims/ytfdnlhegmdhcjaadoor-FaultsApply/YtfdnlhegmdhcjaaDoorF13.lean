import Derived.Test.YtfdnlhegmdhcjaaDoorF12
import Derived.Test.YtfdnlhegmdhcjaaDoorF10
namespace Go.Proofs
open Go Go.V
set_option linter.unusedVariables false
set_option linter.unusedSimpArgs false
set_option maxHeartbeats 0
def kindsB (b n : Nat) : List Int := (List.range n).flatMap fun (k : Nat) => if b / 2 ^ k % 2 = 1 then [(k : Int)] else []
theorem fls_ne (f g : Flt) : (decide (f.k = g.k) && (decide (f.s = g.s) && (decide (f.i = g.i) && (decide (f.t = g.t) && (decide (f.a = g.a) && decide (f.o = g.o)))))) = decide (f = g) := by
 obtain ⟨a, b, c, d, e, h⟩ := f
 obtain ⟨a', b', c', d', e', h'⟩ := g
 apply Bool.eq_iff_iff.mpr
 simp
theorem eqA_33 (d : Nat) (a b c e f g a' b' c' e' f' g' : Int) : eqA Tryd.prog (d + 2) 33 (.agg [.int .i64 a, .int .i64 b, .int .i64 c, .int .i64 e, .int .i64 f, .int .i64 g]) (.agg [.int .i64 a', .int .i64 b', .int .i64 c', .int .i64 e', .int .i64 f', .int .i64 g']) = (true, decide (a = a') && (decide (b = b') && (decide (c = c') && (decide (e = e') && (decide (f = f') && decide (g = g')))))) := by
 rw [eqA_struct (shp_of ti33)]
 simp only [List.foldr_cons, List.foldr_nil, ti3, eqPair_one]
 simp [eqA_3, cut, fitsAt]
theorem eq33 (f g : Flt) : eqA Tryd.prog 8 33 (.agg (flA f)) (.agg (flA g)) = (true, decide (f = g)) := by
 unfold flA
 rw [eqA_33 6, fls_ne]
theorem eq33u (a b c e f g a' b' c' e' f' g' : Int) : eqA Tryd.prog 8 33 (.agg [.int .i64 a, .int .i64 b, .int .i64 c, .int .i64 e, .int .i64 f, .int .i64 g]) (.agg [.int .i64 a', .int .i64 b', .int .i64 c', .int .i64 e', .int .i64 f', .int .i64 g']) = (true, decide ((⟨a, b, c, e, f, g⟩ : Flt) = ⟨a', b', c', e', f', g'⟩)) := eq33 ⟨a, b, c, e, f, g⟩ ⟨a', b', c', e', f', g'⟩
end Go.Proofs

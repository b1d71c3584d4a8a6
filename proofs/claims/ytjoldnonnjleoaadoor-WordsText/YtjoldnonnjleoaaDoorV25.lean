/- The library V, part 25: library functions inside of the evaluator. -/
import Derived.Test.YtjoldnonnjleoaaDoorV24
set_option linter.unusedVariables false
set_option linter.unusedSimpArgs false
namespace Go.V
open Go Go.RowKit

/-- Decimal digits in front of acc, with so many at most. -/
def digF : Nat → Nat → List UInt8 → List UInt8
  | 0, _, acc => acc
  | f + 1, u, acc => match decide (u < 10) with | true => UInt8.ofNat (48 + u) :: acc | false => digF f (u / 10) (UInt8.ofNat (48 + u % 10) :: acc)
theorem digF_eq : ∀ (f u : Nat) (acc : List UInt8), u < 10 ^ (f + 1) → digF (f + 1) u acc = Lib.decDigits u ++ acc := by
  intro f
  induction f with
  | zero =>
    intro u acc h
    have hu : u < 10 := by simpa using h
    unfold digF
    rw [decide_eq_true hu, Lib.decDigits, dif_pos hu]; rfl
  | succ f ih =>
    intro u acc h
    unfold digF
    by_cases hu : u < 10
    · rw [decide_eq_true hu, Lib.decDigits, dif_pos hu]; rfl
    · rw [decide_eq_false hu]
      have : u / 10 < 10 ^ (f + 1) := by rw [Nat.pow_succ] at h; omega
      simp only
      rw [ih (u / 10) _ this]
      conv => rhs; rw [Lib.decDigits, dif_neg hu]
      simp
def itoaF : Int → List UInt8
  | .ofNat n => digF 20 n []
  | .negSucc n => 45 :: digF 20 (n + 1) []
theorem itoaF_eq (n : Int) (h0 : -9223372036854775808 ≤ n) (h1 : n ≤ 9223372036854775807) : itoaF n = Lib.itoa n := by
  cases n with
  | ofNat n =>
    have hn : n < 10 ^ 20 := by have : (n : Int) ≤ 9223372036854775807 := h1; omega
    simp only [itoaF, Lib.itoa]
    rw [if_neg (by simp), digF_eq 19 n [] hn]; simp
  | negSucc n =>
    have hn : n + 1 < 10 ^ 20 := by omega
    simp only [itoaF, Lib.itoa]
    rw [if_pos (by omega), digF_eq 19 (n + 1) [] hn]; simp
def strsOf? : List (List AV) → Option (List (List UInt8))
  | [] => some []
  | [.str s] :: r => match strsOf? r with | some l => some (s :: l) | none => none
  | _ => none
theorem strsOf?_eq : ∀ (es : List (List AV)) (xs : List (List UInt8)), strsOf? es = some xs → es = strs xs
  | [], xs, h => by simp [strsOf?] at h; subst h; rfl
  | e :: r, xs, h => by
    unfold strsOf? at h
    split at h
    · rename_i heq; cases heq
    · rename_i s r' heq
      injection heq with h1 h2; subst h1; subst h2
      split at h
      · rename_i l hl
        injection h with h; subst h
        rw [strsOf?_eq _ _ hl]; rfl
      · cases h
    · cases h
def strSrc? (H : List Blk) : AV → Option (List (List UInt8))
  | .sl 1 es _ => strsOf? es
  | .own b n h _ =>
    match H[b]? with
    | some (.row 1 _ es) => match h == es.length && decide (n ≤ es.length) with | true => strsOf? (es.take n) | false => none
    | _ => none
  | _ => none
theorem strSrc?_ok {H : List Blk} {x : AV} {xs : List (List UInt8)} (h : strSrc? H x = some xs) : strSrc H x xs := by
  unfold strSrc? at h
  split at h
  · exact .inl ⟨_, by rw [strsOf?_eq _ _ h]⟩
  · rename_i b n h0 c
    split at h
    · rename_i t es hb
      split at h
      · rename_i hc
        simp only [Bool.and_eq_true, beq_iff_eq, decide_eq_true_eq] at hc
        exact .inr ⟨b, n, c, t, es, by rw [hc.1], hb, hc.2, strsOf?_eq _ _ h⟩
      · cases h
    · cases h
  · cases h

/-- strconv.Itoa, strconv.Atoi, strings.Split, strings.Join, slices.Clone (of an empty slice). -/
structure LibIds where
  itoa : FuncId
  atoi : FuncId
  split : FuncId
  join : FuncId
  clone : List FuncId
def libPrim (L : LibIds) : XCall := fun f args H =>
  match f == L.itoa with
  | true =>
    match args with
    | [.int .i64 n] => match decide (-9223372036854775808 ≤ n) && decide (n ≤ 9223372036854775807) with | true => some (.str (itoaF n), H) | false => none
    | _ => none
  | false =>
  match f == L.atoi with
  | true =>
    match args with
    | [.str s] => match decide (s.length ≤ 281474976710656) with | true => some (.tup [.int .i64 (atoiM s).1, errA (atoiM s).2], H) | false => none
    | _ => none
  | false =>
  match f == L.split with
  | true =>
    match args with
    | [.str s, .str sep] => match decide (s.length < 4294967281) && decide (1 ≤ sep.length) with | true => some (.sl 1 (strs (splitM s sep)) (some (splitM s sep).length), H) | false => none
    | _ => none
  | false =>
  match f == L.join with
  | true =>
    match args with
    | [x, .str sep] =>
      match strSrc? H x with
      | some xs => match decide ((Lib.join xs sep).length ≤ 140737488355328) && decide (xs.length ≤ 140737488355328) with | true => some (.str (Lib.join xs sep), H) | false => none
      | none => none
    | _ => none
  | false =>
  match L.clone.contains f with
  | true =>
    match args with
    | [.sl _ [] _] => some (.sl 0 [] (some 0), H)
    | _ => none
  | false => none

section
variable {P : Program} {G : Glob}
/-- What the library's functions do in this program. -/
structure LibOk (P : Program) (G : Glob) (L : LibIds) : Prop where
  itoa : ∀ (H : List Blk) (n : Int), -9223372036854775808 ≤ n → n ≤ 9223372036854775807 → ACalls P G L.itoa [.int .i64 n] H (.str (Lib.itoa n)) H
  atoi : ∀ (H : List Blk) (s : List UInt8), s.length ≤ 281474976710656 → ACalls P G L.atoi [.str s] H (.tup [.int .i64 (atoiM s).1, errA (atoiM s).2]) H
  split : ∀ (H : List Blk) (s sep : List UInt8), s.length < 4294967281 → 1 ≤ sep.length → ACalls P G L.split [.str s, .str sep] H (.sl 1 (strs (splitM s sep)) (some (splitM s sep).length)) H
  join : ∀ (H : List Blk) (x : AV) (xs : List (List UInt8)) (sep : List UInt8), strSrc H x xs → (Lib.join xs sep).length ≤ 140737488355328 → xs.length ≤ 140737488355328 → ACalls P G L.join [x, .str sep] H (.str (Lib.join xs sep)) H
  clone : ∀ f ∈ L.clone, ∀ (H : List Blk) (k : Nat) (c : Option Nat), ACalls P G f [.sl k [] c] H (.sl 0 [] (some 0)) H
theorem libPrim_ok {L : LibIds} (h : LibOk P G L) (f : FuncId) (args : List AV) (H : List Blk) (r : AV) (H' : List Blk) (hp : libPrim L f args H = some (r, H')) : ACalls P G f args H r H' := by
  unfold libPrim at hp
  split at hp
  · rename_i hf
    have hf := beq_iff_eq.1 hf; subst hf
    split at hp
    · split at hp
      · rename_i hb
        simp only [Bool.and_eq_true, decide_eq_true_eq] at hb
        injection hp with hp; injection hp with h1 h2; subst h1; subst h2
        rw [itoaF_eq _ hb.1 hb.2]
        exact h.itoa _ _ hb.1 hb.2
      · cases hp
    · cases hp
  split at hp
  · rename_i hf
    have hf := beq_iff_eq.1 hf; subst hf
    split at hp
    · split at hp
      · rename_i hb
        injection hp with hp; injection hp with h1 h2; subst h1; subst h2
        exact h.atoi _ _ (of_decide_eq_true hb)
      · cases hp
    · cases hp
  split at hp
  · rename_i hf
    have hf := beq_iff_eq.1 hf; subst hf
    split at hp
    · split at hp
      · rename_i hb
        simp only [Bool.and_eq_true, decide_eq_true_eq] at hb
        injection hp with hp; injection hp with h1 h2; subst h1; subst h2
        exact h.split _ _ _ hb.1 hb.2
      · cases hp
    · cases hp
  split at hp
  · rename_i hf
    have hf := beq_iff_eq.1 hf; subst hf
    split at hp
    · split at hp
      · rename_i xs hx
        split at hp
        · rename_i hb
          simp only [Bool.and_eq_true, decide_eq_true_eq] at hb
          injection hp with hp; injection hp with h1 h2; subst h1; subst h2
          exact h.join _ _ _ _ (strSrc?_ok hx) hb.1 hb.2
        · cases hp
      · cases hp
    · cases hp
  split at hp
  · rename_i hf
    split at hp
    · injection hp with hp; injection hp with h1 h2; subst h1; subst h2
      exact h.clone _ (by simpa using hf) _ _ _
    · cases hp
  · cases hp
end
end Go.V

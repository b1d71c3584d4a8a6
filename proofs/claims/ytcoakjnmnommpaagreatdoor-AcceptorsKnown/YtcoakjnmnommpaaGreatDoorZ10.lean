import Derived.Test.YtcoakjnmnommpaaGreatDoorZ3
import Derived.Test.YtcoakjnmnommpaaGreatDoorA12
import Derived.Test.YtcoakjnmnommpaaGreatDoorA37
import Derived.Test.YtcoakjnmnommpaaGreatDoorA20
import Derived.Test.YtcoakjnmnommpaaGreatDoorZ1
import Derived.Test.YtcoakjnmnommpaaGreatDoorZ6
namespace Go.Proofs
open Go Go.V Go.RowKit
set_option linter.unusedVariables false
set_option linter.unusedSimpArgs false
set_option maxHeartbeats 0
set_option maxRecDepth 100000
theorem xQ0 {A : Nat} {w : List Int} (hA : 1 ≤ A ∧ A ≤ 16) : kG0 A w = wag9 A w := by
 rw [kG0, wag9];by_cases h : 256 < w.length
 ·rw [if_pos (.inr h), if_pos h]
 ·rw [if_neg (by omega), if_neg h];by_cases h2 : w.any (badW A) = true
  ·rw [if_pos (.inr h2), if_pos h2]
  ·rw [if_neg (fun q => q.elim (fun q => by omega) h2), if_neg h2]
theorem wcT9 {sym : Int} {zr : Nat} {l : List RC} {c : Option Nat} {zs : Nat} {st : List Int} {cs : Option Nat} {za : Nat} {ac : List Int} {ca : Option Nat} (hsz : SizeN zr l zs st za ac) (w : List Int) (cw : Option Nat) (hw : w.length ≤ 9223372036854775807) :
  ∃ (a : Bool) (e : Int), PC Tryz.prog G0 14 [nA sym zr l c zs st cs za ac ca, .sl 1 (ints w) cw] (.tup [.bool a, .int .i64 e]) ∧
   ((wh0 sym (rowsV l) st ac ≠ 0 ∧ a = false ∧ e = wh0 sym (rowsV l) st ac) ∨ (wh0 sym (rowsV l) st ac = 0 ∧ wag9 sym w ≠ 0 ∧ a = false ∧ e = wag9 sym w) ∨
    (wh0 sym (rowsV l) st ac = 0 ∧ wag9 sym w = 0 ∧ e = 0 ∧ PC Tryz.prog G0 16 [nA sym zr l c zs st cs za ac ca, .sl 1 (ints w) cw] (.int .i64 (if a = true then 1 else 0)))) := by
 have h := xy0 sym zr l c zs st cs za ac ca hsz 1 w cw (.inr rfl) hw;rw [accV] at h;by_cases h0 : wh0 sym (rowsV l) st ac = 0
 ·rw [if_neg (by simp [h0])] at h;obtain ⟨A, rfl, hok⟩ := wK0 h0;rw [xQ0 ⟨hok.a1, hok.a2⟩] at h;by_cases h1 : wag9 A w = 0
  ·rw [if_neg (by simp [h1])] at h;obtain ⟨_, hw256, _, hwr⟩ := xan9 (sym := A) (w := w) (by rw [xQ0 ⟨hok.a1, hok.a2⟩]; exact h1);exact ⟨_, _, h, .inr (.inr ⟨h0, h1, rfl, xaL9 A zr l c zs st cs za ac ca hsz hok 1 w cw (.inr rfl) hw256 hwr⟩)⟩
  ·rw [if_pos h1] at h;exact ⟨_, _, h, .inr (.inl ⟨h0, h1, rfl, rfl⟩)⟩
 ·rw [if_pos h0] at h;exact ⟨_, _, h, .inl ⟨h0, rfl, rfl⟩⟩
theorem vcT9 {sym : Int} {zr : Nat} {l : List LC} {c : Option Nat} {za : Nat} {ac : List Bool} {ca : Option Nat} (hsz : SizeD zr l za ac) (w : List Int) (cw : Option Nat) (hw : w.length ≤ 9223372036854775807) :
  ∃ (a : Bool) (e : Int), PC Tryz.prog G0 22 [dA sym zr l c za ac ca, .sl 1 (ints w) cw] (.tup [.bool a, .int .i64 e]) ∧
   ((vd0 sym (kd0 l) ac.length ≠ 0 ∧ a = false ∧ e = vd0 sym (kd0 l) ac.length) ∨ (vd0 sym (kd0 l) ac.length = 0 ∧ wag9 sym w ≠ 0 ∧ a = false ∧ e = wag9 sym w) ∨
    (vd0 sym (kd0 l) ac.length = 0 ∧ wag9 sym w = 0 ∧ e = 0 ∧ PC Tryz.prog G0 28 [dA sym zr l c za ac ca, .sl 1 (ints w) cw] (.int .i64 (if a = true then 1 else 0)))) := by
 have h := xcK9 sym zr l c za ac ca hsz 1 w cw (.inr rfl) hw;rw [accD] at h;by_cases h0 : vd0 sym (kd0 l) ac.length = 0
 ·rw [if_neg (by simp [h0])] at h;obtain ⟨A, rfl, hok⟩ := qV0 h0;rw [xQ0 ⟨hok.a1, hok.a2⟩] at h;by_cases h1 : wag9 A w = 0
  ·rw [if_neg (by simp [h1])] at h;obtain ⟨_, hw256, _, hwr⟩ := xan9 (sym := A) (w := w) (by rw [xQ0 ⟨hok.a1, hok.a2⟩]; exact h1);exact ⟨_, _, h, .inr (.inr ⟨h0, h1, rfl, wbA9 A zr l c za ac ca hsz hok 1 w cw (.inr rfl) hw256 hwr⟩)⟩
  ·rw [if_pos h1] at h;exact ⟨_, _, h, .inr (.inl ⟨h0, h1, rfl, rfl⟩)⟩
 ·rw [if_pos h0] at h;exact ⟨_, _, h, .inl ⟨h0, rfl, rfl⟩⟩
def keC9 (l K : List Int) (k : Nat) : List Nat := (List.range k).filter fun i => l.contains (K.getD i 0)
def rvK (l : List RC) (s a t : Nat) : List Nat := (List.range t).filter fun s' => (lstC l s' a).1.contains (s : Int)
def rvR (l : List RC) (s a : Nat) : List LC := (List.range a).map fun a => (intN (revG l s a), none)
def rvN (A : Nat) (l : List RC) (s : Nat) : List RC := (List.range s).map fun s => (rvR l s A, none)
theorem zaN9 (A : Nat) (l : List RC) (s : Nat) : (rvN A l s).length = s := by simp [rvN]
def addQ (o : List Nat) (t : Nat) : List Nat := if o.contains t = true then o else o ++ [t]
def qbl9 (o l : List Nat) : List Nat := l.foldl addQ o
def rowQ (f : Nat → List Nat) (o : List Nat) (a : Nat) : List Nat := (List.range a).foldl (fun o a => qbl9 o (f a)) o
def outQ (f : Nat → Nat → List Nat) (A : Nat) (S : List Nat) : Nat → List Nat
 | 0 => S
 | k + 1 => if k < (outQ f A S k).length then rowQ (f ((outQ f A S k).getD k 0)) (outQ f A S k) A else outQ f A S k
theorem xaN9 (f : Nat → List Nat) (o : List Nat) (a : Nat) : rowQ f o (a + 1) = qbl9 (rowQ f o a) (f a) := by
 rw [rowQ, l'Z, n'T]; rfl
structure vaQ9 (n : Nat) (P : Nat → Prop) (o : List Nat) : Prop where
 nd : o.Nodup
 lt : ∀ t ∈ o, t < n
 ok : ∀ t ∈ o, P t
theorem kcT9 {n : Nat} {P : Nat → Prop} {o : List Nat} {t : Nat} (h : vaQ9 n P o) (ht : t < n) (hp : P t) : vaQ9 n P (addQ o t) := by
 unfold addQ;split
 ·exact h
 ·rename_i hc;rw [l'h] at hc;refine ⟨?_, fun u hu => ?_, fun u hu => ?_⟩
  ·rw [List.nodup_append];exact ⟨h.nd, by simp, fun a ha b hb => by rw [l'N.1 hb]; rintro rfl; exact hc ha⟩
  ·rcases l'D.1 hu with q|q
   ·exact h.lt u q
   ·rw [l'N.1 q]; exact ht
  ·rcases l'D.1 hu with q|q
   ·exact h.ok u q
   ·rw [l'N.1 q]; exact hp
theorem vds9 (o : List Nat) (t : Nat) : ∃ r, addQ o t = o ++ r := by
 unfold addQ; split
 ·exact ⟨[], by simp⟩
 ·exact ⟨[t], rfl⟩
theorem kds9 (o : List Nat) (t u : Nat) : u ∈ addQ o t ↔ u ∈ o ∨ u = t := by
 unfold addQ; split
 ·rename_i h;rw [l'h] at h;exact ⟨.inl, fun q => q.elim id (fun q => q ▸ h)⟩
 ·rw [l'D, l'N]
theorem qcU9 (o : List Nat) : ∀ l : List Nat, ∃ r, qbl9 o l = o ++ r := by
 intro l;induction l generalizing o with
 | nil => exact ⟨[], by simp [qbl9]⟩
 | cons t l ih =>
  obtain ⟨r1, h1⟩ := vds9 o t;obtain ⟨r2, h2⟩ := ih (addQ o t);exact ⟨r1 ++ r2, by show qbl9 (addQ o t) l = _; rw [h2, h1, l'A]⟩
theorem zcU9 (o : List Nat) (u : Nat) : ∀ l : List Nat, u ∈ qbl9 o l ↔ u ∈ o ∨ u ∈ l := by
 intro l;induction l generalizing o with
 | nil => simp [qbl9]
 | cons t l ih =>
  show u ∈ qbl9 (addQ o t) l ↔ _;rw [ih, kds9, l'C, or_assoc]
theorem vba9 {n : Nat} {P : Nat → Prop} : ∀ {l o : List Nat}, vaQ9 n P o → (∀ t ∈ l, t < n ∧ P t) → vaQ9 n P (qbl9 o l)
 | [], o, h, _ => h
 | t :: l, o, h, hl => vba9 (l := l) (kcT9 h (hl t l'n).1 (hl t l'n).2) fun u hu => hl u (l'g _ hu)
theorem kbZ9 (f : Nat → List Nat) (o : List Nat) : ∀ a, ∃ r, rowQ f o a = o ++ r
 | 0 => ⟨[], by simp [rowQ]⟩
 | a + 1 => by
  obtain ⟨r1, h1⟩ := kbZ9 f o a;obtain ⟨r2, h2⟩ := qcU9 (rowQ f o a) (f a);exact ⟨r1 ++ r2, by rw [xaN9, h2, h1, l'A]⟩
theorem qca9 (f : Nat → List Nat) (o : List Nat) (u : Nat) : ∀ a, u ∈ rowQ f o a ↔ u ∈ o ∨ ∃ b, b < a ∧ u ∈ f b
 | 0 => by simp [rowQ]
 | a + 1 => by
  rw [xaN9, zcU9, qca9 f o u a];constructor
  ·rintro ((h|⟨b, hb, h⟩)|h)
   ·exact .inl h
   ·exact .inr ⟨b, by omega, h⟩
   ·exact .inr ⟨a, by omega, h⟩
  ·rintro (h|⟨b, hb, h⟩)
   ·exact .inl (.inl h)
   ·by_cases hba : b = a
    ·subst hba; exact .inr h
    ·exact .inl (.inr ⟨b, by omega, h⟩)
theorem kbA9 {n : Nat} {P : Nat → Prop} {f : Nat → List Nat} {o : List Nat} (h : vaQ9 n P o) : ∀ a, (∀ b, b < a → ∀ t ∈ f b, t < n ∧ P t) → vaQ9 n P (rowQ f o a)
 | 0, _ => h
 | a + 1, hf => by
  rw [xaN9];exact vba9 (kbA9 h a fun b hb => hf b (by omega)) (hf a (by omega))
section
variable {f : Nat → Nat → List Nat} {A n : Nat} {S : List Nat} {P : Nat → Prop}
theorem zbl9 (k : Nat) : ∃ r, outQ f A S (k + 1) = outQ f A S k ++ r := by
 rw [outQ]; split
 ·exact kbZ9 _ _ A
 ·exact ⟨[], by simp⟩
theorem qao9 (h : vaQ9 n P S) (hf : ∀ s, s < n → P s → ∀ a, a < A → ∀ t ∈ f s a, t < n ∧ P t) : ∀ k, vaQ9 n P (outQ f A S k)
 | 0 => h
 | k + 1 => by
  have ih := qao9 h hf k;rw [outQ]; split
  ·rename_i hk;have hm := wc0 (d := 0) hk;exact kbA9 ih A fun b hb => hf _ (ih.lt _ hm) (ih.ok _ hm) b hb
  ·exact ih
theorem qdt9 (h : vaQ9 n P S) (hf : ∀ s, s < n → P s → ∀ a, a < A → ∀ t ∈ f s a, t < n ∧ P t) (k : Nat) : (outQ f A S k).length ≤ n :=
 vO0 n _ (qao9 h hf k).nd (qao9 h hf k).lt
theorem xdV9 {k j : Nat} (h : j < (outQ f A S k).length) : (outQ f A S (k + 1)).getD j 0 = (outQ f A S k).getD j 0 := by
 obtain ⟨r, e⟩ := zbl9 (f := f) (A := A) (S := S) k;rw [e, l'b, l'd h, ← l'b]
theorem zdt9 (k : Nat) : ∀ t ∈ S, t ∈ outQ f A S k := by
 induction k with
 | zero => exact fun t h => h
 | succ k ih =>
  obtain ⟨r, e⟩ := zbl9 (f := f) (A := A) (S := S) k;rw [e]; exact fun t h => n'c _ (ih t h)
theorem waN9 : ∀ k, ∀ j, j < k → j < (outQ f A S k).length → ∀ a, a < A → ∀ t ∈ f ((outQ f A S k).getD j 0) a, t ∈ outQ f A S k
 | 0, j, hj, _, _, _, _, _ => by omega
 | k + 1, j, hj, hl, a, ha, t, ht => by
  obtain ⟨r, e⟩ := zbl9 (f := f) (A := A) (S := S) k;by_cases hc : j < (outQ f A S k).length
  ·rw [xdV9 hc] at ht;by_cases hjk : j < k
   ·rw [e]; exact n'c _ (waN9 k j hjk hc a ha t ht)
   ·obtain rfl : j = k := by omega
    rw [outQ, if_pos hc, qca9];exact .inr ⟨a, ha, ht⟩
  ·exfalso;by_cases hjk : k < (outQ f A S k).length
   ·omega
   ·rw [outQ, if_neg hjk] at hl; omega
end
end Go.Proofs

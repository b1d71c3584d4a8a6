import Derived.Test.YtlpjemobbjijdaaGreatDoorNUM
namespace Go.Proofs
set_option linter.unusedVariables false
set_option linter.unusedSimpArgs false
def letB (c : UInt8) : Bool := (decide (97 ≤ c.toNat) && decide (c.toNat ≤ 122)) || (decide (65 ≤ c.toNat) && decide (c.toNat ≤ 90))
def digB (c : UInt8) : Bool := decide (48 ≤ c.toNat) && decide (c.toNat ≤ 57)
def wrdB (c : UInt8) : Bool := letB c || digB c || decide (c.toNat = 95)
def sngs : Bs := [33, 36, 37, 38, 40, 41, 42, 43, 44, 45, 46, 47, 58, 59, 60, 61, 62, 63, 64, 91, 93, 94, 123, 124, 125, 126]
def sngB (c : UInt8) : Bool := sngs.contains c
def wI0 (c d : UInt8) : Bool := (decide (c = 45) && decide (d = 62)) || ((decide (c = 60) || decide (c = 62) || decide (c = 33) || decide (c = 58)) && decide (d = 61))
def vx0 : Bs → Bool
 | c :: d :: _ => wI0 c d
 | _ => false
def zm0 (s : Bs) : Nat := if vx0 s = true then 2 else match s with|[] => 0|c :: _ => if sngB c = true then 1 else 0
def zB0 (w : Bs) : Int × Int :=
 if letB (w.headD 0) = true then (if w.length ≤ 16 then (1, 0) else (0, 10))
 else if w.all digB = true ∧ w.length ≤ 9 ∧ ¬ (1 < w.length ∧ w.headD 0 = 48) then (2, 0) else (0, 4)
structure Tk where
 k : Int
 t : Bs
 l : Int
 c : Int
 deriving DecidableEq
inductive LexR where
 | ok (l : List Tk)
 | err (l c e : Int)
 deriving DecidableEq
def LexR.cons (t : Tk) : LexR → LexR
 | .ok l => .ok (t :: l)
 | .err l c e => .err l c e
def LexR.app (ts : List Tk) : LexR → LexR
 | .ok l => .ok (ts ++ l)
 | .err l c e => .err l c e
theorem LexR.app_nil (r : LexR) : r.app [] = r := by cases r <;> rfl
theorem LexR.app_snoc (a : List Tk) (t : Tk) (r : LexR) : (r.cons t).app a = r.app (a ++ [t]) := by cases r <;> simp [LexR.app, LexR.cons]
def blkB (b : UInt8) : Bool := decide (b = 32) || decide (b = 9) || decide (b = 13)
def toNl (s : Bs) : Bs := s.dropWhile fun b => !decide (b = 10)
def wordS (s : Bs) : Bs := s.takeWhile wrdB
def tokS (s : Bs) : Int × Nat × Int :=
 if wrdB (s.headD 0) = true then ((zB0 (wordS s)).1, (wordS s).length, (zB0 (wordS s)).2)
 else if zm0 s = 0 then (0, 0, 4) else (3, zm0 s, 0)
def lexG : Nat → Bs → Int → Int → LexR
 | 0, _, _, _ => .ok []
 | _ + 1, [], _, _ => .ok []
 | f + 1, b :: r, l, c =>
  if b = 10 then lexG f r (l + 1) 1
  else if blkB b = true then lexG f r l (c + 1)
  else if b = 35 then lexG f (toNl r) l c
  else if (tokS (b :: r)).2.2 ≠ 0 then .err l c (tokS (b :: r)).2.2
  else (lexG f ((b :: r).drop (tokS (b :: r)).2.1) l (c + (tokS (b :: r)).2.1)).cons ⟨(tokS (b :: r)).1, (b :: r).take (tokS (b :: r)).2.1, l, c⟩
theorem zar9 (s : Bs) : (toNl s).length ≤ s.length := by
 unfold toNl;induction s with
 | nil => simp
 | cons b r ih =>
  rw [n'd];split
  ·simp only [List.length_cons]; omega
  ·exact l'd _
theorem xcm9 {b : UInt8} {r : Bs} (h : wrdB b = true) : 1 ≤ (wordS (b :: r)).length := by
 simp [wordS, List.takeWhile_cons, h]
theorem wG0 {b : UInt8} {r : Bs} (h : (tokS (b :: r)).2.2 = 0) : 1 ≤ (tokS (b :: r)).2.1 := by
 unfold tokS at *;split
 ·rename_i q; exact xcm9 q
 ·rename_i q;rw [if_neg q] at h;split at h
  ·cases h
  ·rename_i q2; rw [if_neg q2]; simp only; omega
theorem xE0 : ∀ (f g : Nat) (s : Bs) (l c : Int), s.length < f → s.length < g → lexG f s l c = lexG g s l c
 | 0, g, s, l, c, h, _ => by omega
 | f + 1, 0, s, l, c, _, h => by omega
 | f + 1, g + 1, [], l, c, _, _ => rfl
 | f + 1, g + 1, b :: r, l, c, h1, h2 => by
  simp only [List.length_cons] at h1 h2;rw [lexG, lexG];have ht := zar9 r;rw [xE0 f g r _ _ (by omega) (by omega), xE0 f g r _ _ (by omega) (by omega), xE0 f g (toNl r) _ _ (by omega) (by omega)];by_cases he : (tokS (b :: r)).2.2 = 0
  ·have hp := wG0 he;have hl : ((b :: r).drop (tokS (b :: r)).2.1).length ≤ r.length := by rw [l'z, List.length_cons]; omega
   rw [xE0 f g _ _ _ (by omega) (by omega)]
  ·simp only [he, ne_eq, not_false_eq_true, if_true]
def lexR (s : Bs) (l c : Int) : LexR := lexG (s.length + 1) s l c
theorem vG0 (l c : Int) : lexR [] l c = .ok [] := rfl
theorem xe0 (b : UInt8) (r : Bs) (l c : Int) : lexR (b :: r) l c =
  if b = 10 then lexR r (l + 1) 1
  else if blkB b = true then lexR r l (c + 1)
  else if b = 35 then lexR (toNl r) l c
  else if (tokS (b :: r)).2.2 ≠ 0 then .err l c (tokS (b :: r)).2.2
  else (lexR ((b :: r).drop (tokS (b :: r)).2.1) l (c + (tokS (b :: r)).2.1)).cons ⟨(tokS (b :: r)).1, (b :: r).take (tokS (b :: r)).2.1, l, c⟩ := by
 have ht := zar9 r;unfold lexR;rw [lexG];simp only [List.length_cons];rw [xE0 (r.length + 1) ((toNl r).length + 1) (toNl r) _ _ (by omega) (by omega)];by_cases he : (tokS (b :: r)).2.2 = 0
 ·have hp := wG0 he;have hl : ((b :: r).drop (tokS (b :: r)).2.1).length ≤ r.length := by rw [l'z, List.length_cons]; omega
  rw [xE0 (r.length + 1) (((b :: r).drop (tokS (b :: r)).2.1).length + 1) ((b :: r).drop (tokS (b :: r)).2.1) _ _ (by omega) (by omega)]
 ·simp only [he, ne_eq, not_false_eq_true, if_true]
def gapS : Bool → Bs → Nat
 | _, [] => 0
 | false, b :: r => if blkB b = true ∨ b = 10 then 1 + gapS false r else if b = 35 then 1 + gapS true r else 0
 | true, b :: r => if b = 10 then 1 + gapS false r else 1 + gapS true r
theorem vai9 : ∀ (x : Bool) (s : Bs), gapS x s ≤ s.length
 | x, [] => by cases x <;> exact l'd _
 | false, b :: r => by
  rw [gapS];have h1 := vai9 false r;have h2 := vai9 true r;simp only [List.length_cons];split
  ·omega
  ·split <;> omega
 | true, b :: r => by
  rw [gapS];have h1 := vai9 false r;have h2 := vai9 true r;simp only [List.length_cons];split <;> omega
def posT (l c : Int) : Bs → Int × Int
 | [] => (l, c)
 | b :: r => if b = 10 then posT (l + 1) 1 r else posT l (c + 1) r
theorem xcP9 (s t : Bs) : ∀ l c, posT l c (s ++ t) = posT (posT l c s).1 (posT l c s).2 t := by
 induction s with
 | nil => intro l c; rfl
 | cons b r ih =>
  intro l c;rw [List.cons_append, posT, posT];split
  ·exact ih _ _
  ·exact ih _ _
def kMac : Bs := [109, 97, 99, 104, 105, 110, 101]
def kIns : Bs := [105, 110, 112, 117, 116, 115]
def kk0 : Bs := [111, 117, 116, 112, 117, 116, 115]
def kSts : Bs := [115, 116, 97, 116, 101, 115]
def kEnd : Bs := [101, 110, 100]
def resB : List Bs := [kMac, kIns, kk0, kSts, kEnd]
def tk0 : Tk := ⟨0, [], 0, 0⟩
inductive PE (α : Type) where
 | ok (a : α)
 | no (i : Nat) (e : Int)
def PE.bind {α β : Type} : PE α → (α → PE β) → PE β
 | .ok a, f => f a
 | .no i e, _ => .no i e
def xp0 (l : List Tk) (i : Nat) : PE Tk := if i < l.length then .ok (l.getD i tk0) else .no (i - 1) 4
def xd0 (l : List Tk) (w : Bs) (i : Nat) : PE Unit := (xp0 l i).bind fun t => if t.t = w then .ok () else .no i 4
def wh0 (l : List Tk) (i : Nat) : PE Bs := (xp0 l i).bind fun t => if t.k = 1 then (if resB.contains t.t = true then .no i 10 else .ok t.t) else .no i 4
def idxB (l : List Bs) (s : Bs) : Nat := l.findIdx fun x => decide (x = s)
def ofM (l : List Tk) (ns : List Bs) (i : Nat) : PE Nat := (wh0 l i).bind fun s => if idxB ns s < ns.length then .ok (idxB ns s) else .no i 7
def kG0 (l : List Tk) (most : Nat) : Nat → List Bs → Nat → PE (List Bs × Nat)
 | 0, _, i => .no i 4
 | f + 1, out, i => (wh0 l i).bind fun s => if out.contains s = true then .no i 8 else if out.length = most then .no i 3 else
   (xp0 l (i + 1)).bind fun t => if t.t = [59] then .ok (out ++ [s], i + 2) else if t.t = [44] then kG0 l most f (out ++ [s]) (i + 2) else .no (i + 1) 4
def ql0 (l : List Tk) (w : Bs) (most i : Nat) : PE (List Bs × Nat) := (xd0 l w i).bind fun _ => kG0 l most (l.length + 1) [] (i + 1)
abbrev ER := List (List (Int × Int))
def getE (R : ER) (s i : Nat) : Int × Int := (R.getD s []).getD i (-1, -1)
def setE (R : ER) (s i : Nat) (e : Int × Int) : ER := R.set s ((R.getD s []).set i e)
def vI0 (l : List Tk) (ins outs sts : List Bs) (i : Nat) : PE (Nat × Nat × Nat × Nat) :=
 (ofM l sts i).bind fun s => (ofM l ins (i + 1)).bind fun a => (xd0 l [47] (i + 2)).bind fun _ => (ofM l outs (i + 3)).bind fun o =>
  (xd0 l [45, 62] (i + 4)).bind fun _ => (ofM l sts (i + 5)).bind fun t => (xd0 l [59] (i + 6)).bind fun _ => .ok (s, a, o, t)
def zab9 (l : List Tk) (i : Nat) : Bool := decide (i < l.length) && decide ((l.getD i tk0).t = kEnd)
def kj0 (l : List Tk) (ins outs sts : List Bs) : Nat → ER → Nat → PE (ER × Nat)
 | 0, _, i => .no i 4
 | f + 1, R, i => if zab9 l i = true then .ok (R, i) else (vI0 l ins outs sts i).bind fun p =>
   if (getE R p.1 p.2.1).1 = -1 then kj0 l ins outs sts f (setE R p.1 p.2.1 ((p.2.2.2 : Int), (p.2.2.1 : Int))) (i + 7) else .no i 8
def xab9 (l : List Tk) (i : Nat) : PE Unit := (xd0 l kEnd i).bind fun _ => (xd0 l [59] (i + 1)).bind fun _ => if i + 2 < l.length then .no (i + 2) 4 else .ok ()
structure kai9 where
 name : Bs
 ins : List Bs
 outs : List Bs
 sts : List Bs
 rows : ER
def row0 (n : Nat) : List (Int × Int) := List.replicate n (-1, -1)
def kx0 (l : List Tk) : PE Bs := (xd0 l kMac 0).bind fun _ => (wh0 l 1).bind fun n => (xd0 l [59] 2).bind fun _ => .ok n
def ko0 (l : List Tk) : PE (List Bs × List Bs × List Bs × Nat) := (ql0 l kIns 16 3).bind fun p => (ql0 l kk0 16 p.2).bind fun q => (ql0 l kSts 64 q.2).bind fun r => .ok (p.1, q.1, r.1, r.2)
def xh0 (l : List Tk) : PE kai9 := (kx0 l).bind fun n => (ko0 l).bind fun p =>
 (kj0 l p.1 p.2.1 p.2.2.1 (l.length + 1) (List.replicate p.2.2.1.length (row0 p.1.length)) p.2.2.2).bind fun q => (xab9 l q.2).bind fun _ => .ok ⟨n, p.1, p.2.1, p.2.2.1, q.1⟩
def remB : Bool → Bs → Bool
 | x, [] => x
 | x, b :: r => remB (!decide (b = 10) && (x || decide (b = 35))) r
theorem xbE9 : ∀ (s t : Bs) (x : Bool), remB x (s ++ t) = remB (remB x s) t
 | [], _, _ => rfl
 | b :: r, t, x => by rw [List.cons_append, remB, remB]; exact xbE9 r t _
def lexX (x : Bool) (s : Bs) (l c : Int) : LexR := if x = true then lexR (toNl s) l c else lexR s l c
theorem wbE9 (s : Bs) (l c d : Int) : lexR (toNl s) l c = lexR (toNl s) l d := by
 unfold toNl;induction s with
 | nil => rfl
 | cons b r ih =>
  rw [n'd];split
  ·exact ih
  ·rename_i h;have : b = 10 := by simpa using h
   rw [xe0, xe0, if_pos this, if_pos this]
theorem wcm9 (x : Bool) (b : UInt8) (r : Bs) (h : 0 < gapS x (b :: r)) : gapS x (b :: r) = 1 + gapS (remB x [b]) r ∧ (remB x [b] = true ∨ blkB b = true ∨ b = 10) := by
 cases x
 ·rw [gapS] at h ⊢;simp only [remB, n'l];by_cases e1 : blkB b = true ∨ b = 10
  ·have e2 : ¬ b = 35 := by
    rintro rfl
    revert e1; decide
   rw [if_pos e1];simp only [e2, decide_false, n'U];exact ⟨trivial, .inr e1⟩
  ·rw [if_neg e1] at h ⊢;by_cases e2 : b = 35
   ·rw [if_pos e2];subst e2;exact ⟨rfl, .inl (by decide)⟩
   ·rw [if_neg e2] at h;exact absurd h (by omega)
 ·rw [gapS];simp only [remB, Bool.true_or, n'B];by_cases e : b = 10
  ·subst e; exact ⟨rfl, .inr (.inr rfl)⟩
  ·rw [if_neg e];simp only [e, decide_false, Bool.not_false];exact ⟨trivial, .inl trivial⟩
theorem vcm9 (x : Bool) (b : UInt8) (r : Bs) (h : gapS x (b :: r) = 0) : x = false ∧ ¬ blkB b = true ∧ ¬ b = 10 ∧ ¬ b = 35 := by
 cases x
 ·rw [gapS] at h;refine ⟨rfl, ?_⟩;split at h
  ·omega
  ·rename_i e;split at h
   ·omega
   ·rename_i e2;exact ⟨fun q => e (.inl q), fun q => e (.inr q), e2⟩
 ·rw [gapS] at h;split at h <;> omega
theorem kcm9 (x : Bool) (b : UInt8) (r : Bs) (l c : Int) (h : 0 < gapS x (b :: r)) :
  lexX x (b :: r) l c = lexX (remB x [b]) r (posT l c [b]).1 (posT l c [b]).2 := by
 have e10 : blkB 10 = false := by decide
 have e35 : blkB 35 = false := by decide
 cases x
 ·rw [gapS] at h;simp only [lexX, remB, n'l, posT, l'I, if_false];rw [xe0];by_cases e1 : b = 10
  ·subst e1; rfl
  ·rw [if_neg e1, if_neg e1];by_cases e2 : blkB b = true
   ·have e3 : ¬ b = 35 := by rintro rfl; rw [e35] at e2; cases e2
    rw [if_pos e2];simp only [e3, decide_false, n'U, l'I, if_false]
   ·rw [if_neg e2];by_cases e3 : b = 35
    ·subst e3;exact wbE9 _ _ _ _
    ·rw [if_neg (by simp [e1, e2]), if_neg e3] at h;exact absurd h (by omega)
 ·simp only [lexX, remB, Bool.true_or, posT, if_true, n'B];by_cases e1 : b = 10
  ·subst e1;simp only [toNl, n'd, decide_true, n'S, l'I, if_false, if_true];rw [xe0]; rfl
  ·rw [if_neg e1];simp only [e1, toNl, n'd, decide_false, Bool.not_false, if_true];exact wbE9 _ _ _ _
theorem zdc9 : ∀ (s : Bs) (x : Bool) (l c : Int) (k : Nat), k ≤ gapS x s →
  gapS (remB x (s.take k)) (s.drop k) = gapS x s - k ∧ lexX (remB x (s.take k)) (s.drop k) (posT l c (s.take k)).1 (posT l c (s.take k)).2 = lexX x s l c
 | s, x, l, c, 0, _ => by simp [remB, posT]
 | [], x, l, c, k + 1, h => by cases x <;> simp [gapS] at h
 | b :: r, x, l, c, k + 1, h => by
  have hp : 0 < gapS x (b :: r) := by omega
  have hc := wcm9 x b r hp;have hl := kcm9 x b r l c hp;have ih := zdc9 r (remB x [b]) (posT l c [b]).1 (posT l c [b]).2 k (by omega);rw [List.take_succ_cons, List.drop_succ_cons];have e1 : remB x (b :: r.take k) = remB (remB x [b]) (r.take k) := xbE9 [b] _ x;have e2 : posT l c (b :: r.take k) = posT (posT l c [b]).1 (posT l c [b]).2 (r.take k) := xcP9 [b] _ l c;rw [e1, e2, hl];exact ⟨by rw [ih.1, hc.1]; omega, ih.2⟩
theorem qcn9 (b : UInt8) (r : Bs) (l c : Int) (h2 : ¬ blkB b = true) (h1 : ¬ b = 10) (h3 : ¬ b = 35) (t : Tk) (ts : List Tk) (h : lexR (b :: r) l c = .ok (t :: ts)) :
  (tokS (b :: r)).2.2 = 0 ∧ t = ⟨(tokS (b :: r)).1, (b :: r).take (tokS (b :: r)).2.1, l, c⟩ ∧ lexR ((b :: r).drop (tokS (b :: r)).2.1) l (c + (tokS (b :: r)).2.1) = .ok ts := by
 rw [xe0, if_neg h1, if_neg h2, if_neg h3] at h;split at h
 ·cases h
 ·rename_i e;have e' : (tokS (b :: r)).2.2 = 0 := by simpa using e
  refine ⟨e', ?_⟩;cases q : lexR ((b :: r).drop (tokS (b :: r)).2.1) l (c + (tokS (b :: r)).2.1) with
  | ok m => rw [q] at h; simp only [LexR.cons, LexR.ok.injEq, List.cons.injEq] at h; exact ⟨h.1.symm, by rw [h.2]⟩
  | err => rw [q] at h; cases h
theorem zcn9 (s : Bs) (x : Bool) (l c : Int) :
  (s.drop (gapS x s) = [] ∧ lexX x s l c = .ok []) ∨
  (∃ b r, s.drop (gapS x s) = b :: r ∧ remB x (s.take (gapS x s)) = false ∧ ¬ blkB b = true ∧ ¬ b = 10 ∧ ¬ b = 35 ∧ lexX x s l c = lexR (b :: r) (posT l c (s.take (gapS x s))).1 (posT l c (s.take (gapS x s))).2) := by
 have h := zdc9 s x l c (gapS x s) (l'd _);cases q : s.drop (gapS x s) with
 | nil =>
  left
  rw [q] at h;refine ⟨rfl, ?_⟩;rw [← h.2, lexX]; split <;> rfl
 | cons b r =>
  right
  rw [q, l'N] at h;have z := vcm9 _ b r h.1;refine ⟨b, r, rfl, z.1, z.2.1, z.2.2.1, z.2.2.2, ?_⟩;rw [← h.2, z.1]; rfl
theorem vdq9 (b c : UInt8) (h : wI0 b c = true) : ¬ b = 10 ∧ ¬ c = 10 ∧ ¬ b = 35 ∧ ¬ c = 35 := by
 simp only [wI0, l's, l'a, decide_eq_true_eq] at h;refine ⟨?_, ?_, ?_, ?_⟩ <;> rintro rfl <;> revert h <;> (intro h; rcases h with ⟨_, h⟩|⟨h, h'⟩) <;> simp_all
theorem qaA9 (s : Bs) : ∀ b ∈ wordS s, wrdB b = true := by
 intro b hb;induction s with
 | nil => simp [wordS] at hb
 | cons a r ih =>
  simp only [wordS, List.takeWhile_cons] at hb ih;split at hb
  ·rename_i h;rcases l'w.mp hb with e|e
   ·rw [e]; exact h
   ·exact ih e
  ·cases hb
theorem wo0 (s : Bs) : s.take (wordS s).length = wordS s := by
 induction s with
 | nil => rfl
 | cons a r ih =>
  simp only [wordS, List.takeWhile_cons] at *;split
  ·rw [List.length_cons, List.take_succ_cons, ih]
  ·rfl
theorem vbE9 (s : Bs) : zm0 s ≤ s.length := by
 unfold zm0;split
 ·rename_i h;match s, h with
  | c :: d :: r, _ => simp
  | [], h => cases h
  | [c], h => cases h
 ·cases s with
  | nil => simp
  | cons c r => simp only [List.length_cons]; split <;> omega
theorem zO0 (s : Bs) : ∀ b ∈ s.take (tokS s).2.1, ¬ b = 10 ∧ ¬ b = 35 := by
 have w35 : wrdB 35 = false := by decide
 have s35 : sngB 35 = false := by decide
 have w10 : wrdB 10 = false := by decide
 have s10 : sngB 10 = false := by decide
 intro b hb;unfold tokS at hb;split at hb
 ·simp only at hb;rw [wo0] at hb;have := qaA9 s b hb;constructor <;> rintro rfl
  ·rw [w10] at this; cases this
  ·rw [w35] at this; cases this
 ·split at hb
  ·simp at hb
  ·simp only at hb;unfold zm0 at hb;split at hb
   ·rename_i h;match s, h with
    | c :: d :: r, h =>
     simp only [vx0] at h;have := vdq9 c d h;simp only [List.take_succ_cons, List.take_zero, l'w, l'J, or_false] at hb;rcases hb with rfl|rfl
     ·exact ⟨this.1, this.2.2.1⟩
     ·exact ⟨this.2.1, this.2.2.2⟩
    | [], h => cases h
    | [c], h => cases h
   ·cases s with
    | nil => simp at hb
    | cons c r =>
     simp only at hb;split at hb
     ·rename_i h;simp only [List.take_succ_cons, List.take_zero, l'w, l'J, or_false] at hb;subst hb;constructor <;> rintro rfl
      ·rw [s10] at h; cases h
      ·rw [s35] at h; cases h
     ·simp at hb
theorem qaj9 (s : Bs) : (tokS s).2.1 ≤ s.length := by
 unfold tokS;split
 ·simp only;have := congrArg List.length (wo0 s);rw [l'x] at this;omega
 ·split
  ·exact n'b _
  ·exact vbE9 s
theorem xbi9 : ∀ (w : Bs) (l c : Int), (∀ b ∈ w, ¬ b = 10 ∧ ¬ b = 35) → posT l c w = (l, c + w.length)
 | [], l, c, _ => by simp [posT]
 | b :: r, l, c, h => by
  rw [posT, if_neg (h b l'm).1, xbi9 r l (c + 1) fun x hx => h x (l'v _ hx)];simp only [List.length_cons, Int.natCast_add, Int.natCast_one, Prod.mk.injEq, true_and]; omega
theorem qS0 {α} (p : α → Bool) : ∀ s : List α, (s.takeWhile p).takeWhile p = s.takeWhile p
 | [] => rfl
 | a :: r => by
  rw [List.takeWhile_cons];split
  ·rename_i h; rw [List.takeWhile_cons, if_pos h, qS0 p r]
  ·rfl
theorem xcn9 (b : UInt8) (r : Bs) (he : (tokS (b :: r)).2.2 = 0) : tokS ((b :: r).take (tokS (b :: r)).2.1) = tokS (b :: r) := by
 unfold tokS at *;by_cases h : wrdB b = true
 ·simp only [List.headD_cons, h, if_true] at he ⊢;rw [wo0];have hw : wordS (wordS (b :: r)) = wordS (b :: r) := qS0 wrdB _;have hh : (wordS (b :: r)).headD 0 = b := by
   unfold wordS;rw [List.takeWhile_cons, if_pos h]; rfl
  rw [hh, hw, if_pos h]
 ·simp only [List.headD_cons, h, if_false, l'I] at he ⊢;by_cases hm : zm0 (b :: r) = 0
  ·simp [hm] at he
  ·simp only [hm, if_false];have hb : ((b :: r).take (zm0 (b :: r))).headD 0 = b := by
    obtain ⟨n, hn⟩ : ∃ n, zm0 (b :: r) = n + 1 := ⟨zm0 (b :: r) - 1, by omega⟩;rw [hn]; rfl
   rw [hb];simp only [h, if_false, l'I];have hk : zm0 ((b :: r).take (zm0 (b :: r))) = zm0 (b :: r) := by
    have hm' := hm;unfold zm0 at hm' ⊢;by_cases hp : vx0 (b :: r) = true
    ·rw [if_pos hp];match r, hp with
     | d :: r, hp => exact if_pos hp
     | [], hp => cases hp
    ·rw [if_neg hp] at hm' ⊢;simp only at hm' ⊢;by_cases hs : sngB b = true
     ·rw [if_pos hs]; simp [vx0, hs]
     ·rw [if_neg hs] at hm'; exact absurd rfl hm'
   rw [hk]; simp only [hm, if_false]
def eG (s : Bs) (ts : List Tk) : Nat → Nat
 | 0 => 0
 | i + 1 => eG s ts i + gapS false (s.drop (eG s ts i)) + ((ts.drop i).headD ⟨0, [], 0, 0⟩).t.length
structure qej9 (s : Bs) (ts : List Tk) (i : Nat) : Prop where
 le : eG s ts i ≤ s.length
 lex : lexR (s.drop (eG s ts i)) (posT 1 1 (s.take (eG s ts i))).1 (posT 1 1 (s.take (eG s ts i))).2 = .ok (ts.drop i)
 rem : remB false (s.take (eG s ts i)) = false
end Go.Proofs

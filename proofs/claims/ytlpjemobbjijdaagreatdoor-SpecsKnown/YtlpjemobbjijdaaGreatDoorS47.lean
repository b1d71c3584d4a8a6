import Derived.Test.YtlpjemobbjijdaaGreatDoorS30
import Derived.Test.YtlpjemobbjijdaaGreatDoorS46
import Derived.Test.YtlpjemobbjijdaaGreatDoorS13
namespace Go.Proofs
open Go Go.V
set_option linter.unusedVariables false
set_option linter.unusedSimpArgs false
def Lx (s : Bs) (ks : List (Int × Bs)) : Prop := ∀ l c, ∃ ts, lexR s l c = .ok ts ∧ kts ts = ks
theorem vbI9 : Lx [] [] := fun l c => ⟨[], rfl, rfl⟩
theorem kbV9 {s : Bs} {ks : List (Int × Bs)} (h : Lx s ks) : Lx (10 :: s) ks := fun l c => by
 rw [xe0, if_pos rfl]; exact h _ _
theorem xae9 {s : Bs} {ks : List (Int × Bs)} (b : UInt8) (hb : blkB b = true) (h : Lx s ks) : Lx (b :: s) ks := fun l c => by
 rw [xe0, if_neg (by rintro rfl; exact absurd hb (by decide)), if_pos hb]; exact h _ _
theorem qdP9 {s : Bs} {ks : List (Int × Bs)} (m : Bs) (hm : ∀ b ∈ m, ¬ b = 10) (h : Lx s ks) : Lx (35 :: (m ++ 10 :: s)) ks := fun l c => by
 have ht : toNl (m ++ 10 :: s) = 10 :: s := by
  unfold toNl;rw [List.dropWhile_append_of_pos (fun b hb => by simp [hm b hb])];simp
 rw [xe0, if_neg (by decide), if_neg (by decide), if_pos rfl, ht]; exact kbV9 h l c
theorem vcy9 {s w : Bs} {k : Int} {ks : List (Int × Bs)} (hv : qk0 k w) (ht : tokS (w ++ s) = (k, w.length, 0)) (h : Lx s ks) : Lx (w ++ s) ((k, w) :: ks) := fun l c => by
 cases w with
 | nil => exact absurd rfl hv.2
 | cons b r =>
  obtain ⟨h1, h2, h3⟩ := zaj9 hv;rw [List.cons_append] at ht ⊢;rw [xe0, if_neg h2, if_neg h1, if_neg h3, ht];simp only;rw [if_neg (by decide), ← List.cons_append, List.drop_left' rfl, n'i rfl];obtain ⟨ts, e1, e2⟩ := h l (c + ((b :: r).length : Nat));rw [e1];exact ⟨_, rfl, by simp [kts, LexR.cons] at e2 ⊢; exact e2⟩
theorem kcy9 {w s : Bs} (hw : wordS w = w) (hs : s = [] ∨ ∃ b r, s = b :: r ∧ wrdB b = false) : wordS (w ++ s) = w := by
 have hall : ∀ b ∈ w, wrdB b = true := fun b hb => qaA9 w b (by rw [hw]; exact hb);unfold wordS at *;rw [List.takeWhile_append_of_pos hall];rcases hs with rfl|⟨b, r, rfl, hb⟩
 ·simp
 ·rw [List.takeWhile_cons, hb]; simp
theorem zaD9 {s w : Bs} {ks : List (Int × Bs)} (hv : qk0 1 w) (hs : s = [] ∨ ∃ b r, s = b :: r ∧ wrdB b = false) (h : Lx s ks) : Lx (w ++ s) ((1, w) :: ks) := by
 refine vcy9 hv ?_ h;obtain ⟨h1, h2⟩ := hv;cases w with
 | nil => exact absurd rfl h2
 | cons b r =>
  have hb : wrdB b = true := by
   unfold tokS at h1;split at h1
   ·assumption
   ·split at h1
    ·simp only [Prod.mk.injEq] at h1; exact absurd h1.1 (by decide)
    ·simp only [Prod.mk.injEq] at h1; exact absurd h1.1 (by decide)
  have hk := h1;unfold tokS at hk;rw [if_pos (show wrdB ((b :: r).headD 0) = true from hb)] at hk;simp only [Prod.mk.injEq] at hk;have hw : wordS (b :: r) = b :: r := by
   rw [← wo0, hk.2.1, l'E]
  have hwa := kcy9 hw hs;unfold tokS;rw [if_pos (show wrdB ((b :: r ++ s).headD 0) = true from hb), hwa];rw [hw] at hk;rw [← hk.1];simp only [Prod.mk.injEq, true_and];exact hk.2.2
theorem xaD9 {s : Bs} {ks : List (Int × Bs)} (b : UInt8) (hb : b = 59 ∨ b = 44 ∨ b = 47) (h : Lx s ks) : Lx (b :: s) ((3, [b]) :: ks) := by
 have hv : qk0 3 [b] := by rcases hb with rfl|rfl|rfl <;> exact ⟨by decide, by decide⟩
 refine vcy9 (w := [b]) hv ?_ h;have hw : wrdB b = false := by rcases hb with rfl|rfl|rfl <;> decide
 have hm : zm0 ([b] ++ s) = 1 := by
  have hp : vx0 ([b] ++ s) = false := by
   cases s with
   | nil => rfl
   | cons d t => show wI0 b d = false; rcases hb with rfl|rfl|rfl <;> simp [wI0]
  unfold zm0;rw [hp];rcases hb with rfl|rfl|rfl <;> rfl
 unfold tokS;rw [if_neg (by show ¬ wrdB b = true; rw [hw]; decide), hm]; rfl
theorem zcW9 {s : Bs} {ks : List (Int × Bs)} (h : Lx s ks) : Lx (45 :: 62 :: s) ((3, [45, 62]) :: ks) := by
 refine vcy9 (w := [45, 62]) ⟨by decide, by decide⟩ ?_ h;have hm : zm0 ([45, 62] ++ s) = 2 := by unfold zm0; rw [if_pos (show vx0 ([45, 62] ++ s) = true from by show wI0 45 62 = true; decide)]
 unfold tokS;rw [if_neg (by show ¬ wrdB 45 = true; decide), hm]; rfl
def cmT : List Bs → List (Int × Bs)
 | [] => []
 | [a] => [(1, a)]
 | a :: b :: r => (1, a) :: (3, [44]) :: cmT (b :: r)
theorem kbI9 (a b : Bs) (r : List Bs) (sep : Bs) : Lib.join (a :: b :: r) sep = a ++ (sep ++ Lib.join (b :: r) sep) := by
 rw [Lib.join_cons, Lib.join_cons]; simp [Lib.joinTail]
theorem zdP9 : ∀ (l : List Bs) (rest : Bs) (ks : List (Int × Bs)), l ≠ [] → (∀ s ∈ l, qk0 1 s) → (∃ b r, rest = b :: r ∧ wrdB b = false) → Lx rest ks → Lx (Lib.join l [44, 32] ++ rest) (cmT l ++ ks)
 | [], _, _, h, _, _, _ => absurd rfl h
 | [a], rest, ks, _, hv, hr, h => by
  rw [Lib.join_one]; exact zaD9 (hv a l'm) (.inr hr) h
 | a :: b :: r, rest, ks, _, hv, hr, h => by
  have ih := zdP9 (b :: r) rest ks (by simp) (fun s hs => hv s (l'v _ hs)) hr h;rw [kbI9, l't, l't];refine zaD9 (hv a l'm) (.inr ⟨44, 32 :: (Lib.join (b :: r) [44, 32] ++ rest), rfl, by decide⟩) ?_;exact xaD9 44 (.inr (.inl rfl)) (xae9 32 (by decide) ih)
theorem zby9 {s w : Bs} {ks : List (Int × Bs)} (hv : qk0 1 w) (h : Lx s ks) : Lx (w ++ 32 :: s) ((1, w) :: ks) :=
 zaD9 hv (.inr ⟨32, s, rfl, by decide⟩) (xae9 32 (by decide) h)
theorem qcz9 {s w : Bs} {ks : List (Int × Bs)} (hv : qk0 1 w) (h : Lx s ks) : Lx (w ++ 59 :: 10 :: s) ((1, w) :: (3, [59]) :: ks) :=
 zaD9 hv (.inr ⟨59, 10 :: s, rfl, by decide⟩) (xaD9 59 (.inl rfl) (kbV9 h))
abbrev Qd := Nat × Nat × Nat × Nat
def edT (x : GS) (q : Qd) : Bs := lnL [x.sts.getD q.1 [], x.ins.getD q.2.1 [], [47], x.outs.getD q.2.2.1 [], [45, 62], x.sts.getD q.2.2.2 []]
def edK (x : GS) (q : Qd) : List (Int × Bs) := [(1, x.sts.getD q.1 []), (1, x.ins.getD q.2.1 []), (3, [47]), (1, x.outs.getD q.2.2.1 []), (3, [45, 62]), (1, x.sts.getD q.2.2.2 []), (3, [59])]
def QOk (x : GS) (q : Qd) : Prop := q.1 < x.sts.length ∧ q.2.1 < x.ins.length ∧ q.2.2.1 < x.outs.length ∧ q.2.2.2 < x.sts.length
theorem ku0 {s : Bs} (h : nmB s = true) : qk0 1 s := by
 unfold nmB at h;rw [l'a, decide_eq_true_eq] at h;exact (qL0 1 s).1 h.1
theorem xby9 {x : GS} (hv : x.V) {q : Qd} (hq : QOk x q) {s : Bs} {ks : List (Int × Bs)} (h : Lx s ks) : Lx (edT x q ++ s) (edK x q ++ ks) := by
 obtain ⟨h1, h2, h3, h4⟩ := hq;have n1 := ku0 (hv.nm x.sts (by simp [GS.lists]) _ (ze0 [] h1));have n2 := ku0 (hv.nm x.ins (by simp [GS.lists]) _ (ze0 [] h2));have n3 := ku0 (hv.nm x.outs (by simp [GS.lists]) _ (ze0 [] h3));have n4 := ku0 (hv.nm x.sts (by simp [GS.lists]) _ (ze0 [] h4));have e : edT x q ++ s = x.sts.getD q.1 [] ++ 32 :: (x.ins.getD q.2.1 [] ++ 32 :: 47 :: 32 :: (x.outs.getD q.2.2.1 [] ++ 32 :: 45 :: 62 :: 32 :: (x.sts.getD q.2.2.2 [] ++ 59 :: 10 :: s))) := by
  simp [edT, lnL, Lib.join_cons, Lib.joinTail]
 rw [e];exact zby9 n1 (zby9 n2 (xaD9 47 (.inr (.inr rfl)) (xae9 32 (by decide) (zby9 n3 (zcW9 (xae9 32 (by decide) (qcz9 n4 h)))))))
def hdK (x : GS) : List (Int × Bs) := (1, kMac) :: (1, x.nm) :: (3, [59]) :: (1, kIns) :: (cmT x.ins ++ (3, [59]) :: (1, kk0) :: (cmT x.outs ++ (3, [59]) :: (1, kSts) :: (cmT x.sts ++ [(3, [59])])))
theorem wby9 {x : GS} (hv : x.V) {s : Bs} {ks : List (Int × Bs)} (h : Lx s ks) : Lx (zn0 x ++ s) (hdK x ++ ks) := by
 have m := kE0 hv.m;have c1 := hv.ci;have c2 := hv.co;have c3 := hv.cs;have w : ∀ k, k ∈ resB → qk0 1 k := by
  intro k hk;simp only [resB, l'w, l'J, or_false] at hk;rcases hk with rfl|rfl|rfl|rfl|rfl <;> exact ⟨by decide, by decide⟩
 have n0 := ku0 (hv.nm [x.nm] (by simp [GS.lists]) _ l'm);have n1 : ∀ s ∈ x.ins, qk0 1 s := fun s hs => ku0 (hv.nm x.ins (by simp [GS.lists]) s hs);have n2 : ∀ s ∈ x.outs, qk0 1 s := fun s hs => ku0 (hv.nm x.outs (by simp [GS.lists]) s hs);have n3 : ∀ s ∈ x.sts, qk0 1 s := fun s hs => ku0 (hv.nm x.sts (by simp [GS.lists]) s hs);have e1 : x.ins ≠ [] := fun e => by rw [e] at c1; simp at c1; omega
 have e2 : x.outs ≠ [] := fun e => by rw [e] at c2; simp at c2; omega
 have e3 : x.sts ≠ [] := fun e => by rw [e] at c3; simp at c3; omega
 have e : zn0 x ++ s = kMac ++ 32 :: (x.nm ++ 59 :: 10 :: (kIns ++ 32 :: (Lib.join x.ins [44, 32] ++ 59 :: 10 :: (kk0 ++ 32 :: (Lib.join x.outs [44, 32] ++ 59 :: 10 :: (kSts ++ 32 :: (Lib.join x.sts [44, 32] ++ 59 :: 10 :: s))))))) := by
  simp [zn0, lnL, Lib.join_cons, Lib.joinTail]
 have ek : hdK x ++ ks = (1, kMac) :: (1, x.nm) :: (3, [59]) :: (1, kIns) :: (cmT x.ins ++ (3, [59]) :: (1, kk0) :: (cmT x.outs ++ (3, [59]) :: (1, kSts) :: (cmT x.sts ++ (3, [59]) :: ks))) := by simp [hdK]
 rw [e, ek];have st : ∀ {l : List Bs} {s : Bs} {ks : List (Int × Bs)}, l ≠ [] → (∀ s ∈ l, qk0 1 s) → Lx s ks → Lx (Lib.join l [44, 32] ++ 59 :: 10 :: s) (cmT l ++ (3, [59]) :: ks) := fun hl hn h => zdP9 _ _ _ hl hn ⟨59, _, rfl, by decide⟩ (xaD9 59 (.inl rfl) (kbV9 h));exact zby9 (w kMac (by simp [resB])) (qcz9 n0 (zby9 (w kIns (by simp [resB])) (st e1 n1 (zby9 (w kk0 (by simp [resB])) (st e2 n2 (zby9 (w kSts (by simp [resB])) (st e3 n3 h)))))))
set_option maxHeartbeats 0
set_option maxRecDepth 100000
def qbW9 (p : kai9) : AV := .agg [.str p.name, .int .i64 p.ins.length, .int .i64 p.outs.length, .sl 1 (p.rows.map fun r => [.sl 2 (rowA r) none]) none, .sl 1 (strs p.ins) none, .sl 1 (strs p.outs) none, .sl 1 (strs p.sts) none]
def zcz9 (s : Bs) : AV :=
 if (ofS s).2.2.2 = 0 then match xh0 (ofS s).1 with
  | .ok p => .tup [qbW9 p, .int .i64 0, .int .i64 0, .int .i64 0]
  | .no k e => .tup [zSpecA, .int .i64 (locR (ofS s).1 k).1, .int .i64 (locR (ofS s).1 k).2, .int .i64 e]
 else .tup [zSpecA, .int .i64 (ofS s).2.1, .int .i64 (ofS s).2.2.1, .int .i64 (ofS s).2.2.2]
def g0 : RX := ⟨[], 0, [], some 0, 0, [], some 0, 0, [], some 0⟩
theorem wH0 {l : List Tk} {w : Bs} {r : RS} (h : r.2 = 0 → r.1 ≤ l.length) : (zh0 l w r).2 = 0 → (zh0 l w r).1 ≤ l.length := fun q => zas9 q h
theorem xcW9 {l : List Tk} {r : RS} (h : r.2 = 0 → r.1 ≤ l.length) : (qap9 l r).1.2 = 0 → (qap9 l r).1.1 ≤ l.length := by
 obtain ⟨a, e⟩ := r;intro q;by_cases he : e = 0
 ·subst he;rw [qde9] at *;cases h1 : wh0 l a with
  | ok s => have := wA0 h1; simp only; omega
  | no k e => rw [h1] at q; exact absurd q (qQ0 h1)
 ·rw [zde9 _ he] at q; exact absurd q he
theorem qbJ9 {l : List Tk} {ns : List Bs} {r : RS} (h : r.2 = 0 → r.1 ≤ l.length) : (ofS' l ns r).1.2 = 0 → (ofS' l ns r).1.1 ≤ l.length := by
 obtain ⟨a, e⟩ := r;intro q;by_cases he : e = 0
 ·subst he;rw [ofS0] at *;cases h1 : ofM l ns a with
  | ok s => have := (zH0 h1).1; simp only; omega
  | no k e => rw [h1] at q; exact absurd q (wbk9 h1)
 ·rw [ofS1 _ _ he] at q; exact absurd q he
theorem xcz9 (l : List Tk) (most : Nat) : ∀ (f : Nat) (o : List Bs) (i : Nat), i ≤ l.length → (lsG l most f o i).1.2 = 0 → (lsG l most f o i).1.1 ≤ l.length
 | 0, o, i, h, q => absurd q (by show (4 : Int) ≠ 0; decide)
 | f + 1, o, i, h, q => by
  rw [lsG] at *;cases h1 : wh0 l i with
  | no k e => rw [h1] at q; exact absurd q (qQ0 h1)
  | ok s =>
   rw [h1] at q;simp only at q ⊢;split at q
   ·exact absurd q (by show (8 : Int) ≠ 0; decide)
   rename_i h2;rw [if_neg h2];split at q
   ·exact absurd q (by show (3 : Int) ≠ 0; decide)
   rename_i h3;rw [if_neg h3];split at q
   ·rename_i h4;rw [if_pos h4];exact xcz9 l most f _ _ (by omega) q
   ·rename_i h4;rw [if_neg h4];exact zas9 q (fun _ => wA0 h1)
theorem vaW9 {l : List Tk} {w : Bs} {m : Nat} {r : RS} (h : r.2 = 0 → r.1 ≤ l.length) : (xB0 l w m r).1.2 = 0 → (xB0 l w m r).1.1 ≤ l.length := fun q => by
 unfold xB0 at *;split at q
 ·rename_i q2; exact absurd q q2
 ·rename_i q2;rw [if_neg q2];exact xcz9 _ _ _ _ _ (zas9 (n'D.1 q2) h) q
def h24 (P1 : Blk) (N : Bs) (I O Q : List Bs) (w : Nat) (R : ER) : List Blk := .row 7 27 [[.str [], .int .i64 0, .int .i64 0, .sl 0 [] (some 0), .sl 0 [] (some 0), .sl 0 [] (some 0), .sl 0 [] (some 0)]] :: P1 :: .row 7 27 [[.str N, .int .i64 I.length, .int .i64 O.length, .own 3 w w none, .sl (zB I) (strs I) (cB I), .sl (zB O) (strs O) (cB O), .sl (zB Q) (strs Q) (cB Q)]] :: .row 1 50 (ownR 4 I.length none w) :: xf0 2 70 (R.map rowA)
theorem wcz9 (j : Nat) : rowA (row0 j) ++ [[.int .i64 (-1), .int .i64 (-1)]] = rowA (row0 (j + 1)) := by
 simp [rowA, row0, List.replicate_succ', eA]
theorem xas9 (j : Nat) : (row0 j).length = j := by simp [row0]
theorem wcW9 {l : List Tk} {k : Nat} {e : Int} (h : xh0 l = .no k e) (hp : 0 < l.length) : k < l.length := by
 unfold xh0 at h;cases h0 : kx0 l with
 | no a b => rw [h0] at h; injection h with q1 q2; rw [← q1]; exact qdd9 h0 hp
 | ok n =>
 rw [h0] at h;simp only [PE.bind] at h;cases h1 : ko0 l with
 | no a b => rw [h1] at h; injection h with q1 q2; rw [← q1]; exact vcs9 h1 (zdd9 h0)
 | ok p =>
 rw [h1] at h;simp only at h;have hl := (vac9 (ins := p.1) (outs := p.2.1) (sts := p.2.2.1) (i := p.2.2.2) h1).2.2.2;cases h2 : kj0 l p.1 p.2.1 p.2.2.1 (l.length + 1) (List.replicate p.2.2.1.length (row0 p.1.length)) p.2.2.2 with
 | no a b => rw [h2] at h; injection h with q1 q2; rw [← q1]; exact zaV9 hp h2 (by omega) hl
 | ok q =>
 rw [h2] at h;simp only at h;cases h3 : xab9 l q.2 with
 | no a b => rw [h3] at h; injection h with q1 q2; rw [← q1]; exact xdd9 h3 (qaC9 h2 hl)
 | ok u => rw [h3] at h; cases h
theorem zbJ9 {l : List Tk} {most : Nat} : ∀ {f i : Nat} {o : List Bs} {q : List Bs × Nat}, kG0 l most f o i = .ok q → q.1 ≠ []
 | 0, i, o, q, h => by cases h
 | f + 1, i, o, q, h => by
  obtain ⟨f', s, e, _, _, _, _, h⟩ := var9 h;injection e with e
  subst e;rcases h with ⟨_, h⟩|⟨_, h⟩
  ·rw [h]; simp
  ·exact zbJ9 h
theorem kaW9 {l : List Tk} {w : Bs} {most i : Nat} {q : List Bs × Nat} (h : ql0 l w most i = .ok q) : q.1 ≠ [] := by
 unfold ql0 at h;cases h1 : xd0 l w i with
 | no a b => rw [h1] at h; cases h
 | ok u => rw [h1] at h; exact zbJ9 h
theorem wae9 {l : List Tk} {p : kai9} (h : xh0 l = .ok p) : p.ins ≠ [] ∧ p.outs ≠ [] ∧ p.sts ≠ [] := by
 unfold xh0 at h;cases h0 : kx0 l with
 | no a b => rw [h0] at h; cases h
 | ok n =>
 rw [h0] at h;simp only [PE.bind] at h;cases h1 : ko0 l with
 | no a b => rw [h1] at h; cases h
 | ok p =>
 rw [h1] at h;simp only at h;cases h2 : kj0 l p.1 p.2.1 p.2.2.1 (l.length + 1) (List.replicate p.2.2.1.length (row0 p.1.length)) p.2.2.2 with
 | no a b => rw [h2] at h; cases h
 | ok q =>
 rw [h2] at h;simp only at h;cases h3 : xab9 l q.2 with
 | no a b => rw [h3] at h; cases h
 | ok u =>
 rw [h3] at h;injection h with h
 subst h;unfold ko0 at h1;cases g1 : ql0 l kIns 16 3 with
 | no a b => rw [g1] at h1; cases h1
 | ok u =>
 rw [g1] at h1;simp only [PE.bind] at h1;cases g2 : ql0 l kk0 16 u.2 with
 | no a b => rw [g2] at h1; cases h1
 | ok v =>
 rw [g2] at h1;simp only at h1;cases g3 : ql0 l kSts 64 v.2 with
 | no a b => rw [g3] at h1; cases h1
 | ok w =>
 rw [g3] at h1;injection h1 with h1
 subst h1;exact ⟨kaW9 g1, kaW9 g2, kaW9 g3⟩
theorem vby9 (R : ER) (k n : Nat) (b0 b1 b2 b3 : Blk) (hw : RectE n k R) :
  ((ownR 4 k none n).map fun e => e.map (wg0 (b0 :: b1 :: b2 :: b3 :: xf0 2 70 (List.map rowA R)) 1)) = R.map fun r => [.sl 2 (rowA r) none] := by
 have hg : ∀ s, (R.map rowA).getD s [] = rowA (R.getD s []) := fun s => by
  rw [l'b, l'k, l'b]; cases R[s]? <;> rfl
 rw [vaK9 (z := 2) (t := 70) (rss := R.map rowA) (fun s hs => ?_) (fun s hs => ?_)]
 ·refine n'I (by simp [hw.1]) fun j h1 h2 => ?_;simp only [l'B, z'h] at h1;have hj : j < R.length := by rw [hw.1]; omega
  simp [hj]
 ·show (xf0 2 70 (R.map rowA))[s]? = _;exact xay9 (N := R.length) (by simp) (by rw [hw.1]; omega)
 ·rw [hg, qf0]; exact hw.2 s hs
theorem vcW9 (R : ER) (k n : Nat) (b0 b1 b2 b3 : Blk) (hw : RectE n k R) :
  ((ownR 4 k none n).all fun e => e.all (okC (b0 :: b1 :: b2 :: b3 :: xf0 2 70 (List.map rowA R)) 1)) = true := by
 have hg : ∀ s, (R.map rowA).getD s [] = rowA (R.getD s []) := fun s => by
  rw [l'b, l'k, l'b]; cases R[s]? <;> rfl
 refine vcj9 (z := 2) (t := 70) (rss := R.map rowA) (fun s hs => ?_) (fun s hs => ?_) (fun s hs => ?_)
 ·show (xf0 2 70 (R.map rowA))[s]? = _;exact xay9 (N := R.length) (by simp) (by rw [hw.1]; omega)
 ·rw [hg, qf0]; exact hw.2 s hs
 ·rw [hg]; exact xm0 _ _
def finS (l : List Tk) (r : RS) : RS := if (zh0 l [59] (zh0 l kEnd r)).2 = 0 ∧ (zh0 l [59] (zh0 l kEnd r)).1 < l.length then ((zh0 l [59] (zh0 l kEnd r)).1, 4) else zh0 l [59] (zh0 l kEnd r)
def rdR (ts : List Tk) (cc : Option Nat) (a : Nat) (e : Int) (N : Bs) (I O Q : List Bs) : Blk := .row 10 123 [stR ts cc a e ⟨N, zB I, I, cB I, zB O, O, cB O, zB Q, Q, cB Q⟩]
theorem vde9 (ts : List Tk) (cc : Option Nat) (N : Bs) (I O Q : List Bs) (R : ER) (r : RS) (hlen : ts.length ≤ 1000000) (hr : r.2 = 0 → r.1 ≤ ts.length) (l1 : I.length ≤ 16) (l2 : O.length ≤ 16) (l3 : Q.length ≤ 64) (hR : RectE Q.length I.length R)
  (hrd : match xh0 ts with|.ok p => (finS ts r).2 = 0 ∧ p = ⟨N, I, O, Q, R⟩|.no k e => finS ts r = (k, e) ∧ e ≠ 0) (s : Nat → AV) (d2 : s 2 = .ptr 0 0 0 1) (d6 : s 6 = .sl 4 (tks ts) cc) (d10 : s 10 = .ptr 1 0 0 1) (d11 : s 11 = .ptr 2 0 0 1) :
  Go false Tryz.prog G0 0 228 (wf0 Tryz.f24) [1, 1, 1, 1, 1, 1, 1, 1, 1, 1, 1, 1, 1] (vbc9 Tryz.prog 228 [.cell 2 27, .tmp 3, .tmp 4, .tmp 5] 2 (match xh0 ts with
   | .ok p => .tup [qbW9 p, .int .i64 0, .int .i64 0, .int .i64 0]
   | .no k e => .tup [zSpecA, .int .i64 (locR ts k).1, .int .i64 (locR ts k).2, .int .i64 e])) True s (h24 (rdR ts cc r.1 r.2 N I O Q) N I O Q Q.length R) := by
 have htl := wd0 ts;have b1 := wH0 (w := kEnd) hr;have c1 := qae9 ts cc ⟨N, zB I, I, cB I, zB O, O, cB O, zB Q, Q, cB Q⟩ kEnd r hlen hr;have c2 := qae9 ts cc ⟨N, zB I, I, cB I, zB O, O, cB O, zB Q, Q, cB Q⟩ [59] _ hlen b1;have b2 := wH0 (w := [59]) b1;unfold finS at hrd;generalize zh0 ts [59] (zh0 ts kEnd r) = T at *;generalize zh0 ts kEnd r = r1 at *;obtain ⟨k3, e3⟩ := T;obtain ⟨k2, e2⟩ := r1;obtain ⟨k1, e1⟩ := r;simp only at *;have t1 := za0 I;have t2 := za0 O;have t3 := za0 Q;have i1 : ∀ p, idsE p (strs I) = true := fun p => xa0 p _;have i2 : ∀ p, idsE p (strs O) = true := fun p => xa0 p _;have i3 : ∀ p, idsE p (strs Q) = true := fun p => xa0 p _;have i4 : ∀ p, idsE p (tks ts) = true := fun p => vp0 p _;cases hp : xh0 ts with
 | ok p =>
  rw [hp] at hrd;simp only at hrd ⊢;obtain ⟨h1, rfl⟩ := hrd;obtain ⟨n1, n2, n3⟩ := wae9 hp;have z : e3 = 0 ∧ ¬ k3 < ts.length := by
   split at h1
   ·exact absurd h1 (by show (4 : Int) ≠ 0; decide)
   ·rename_i q; exact ⟨h1, fun q2 => q ⟨h1, q2⟩⟩
  obtain ⟨rfl, z2⟩ := z;have z3 : ¬ (k3 : Int) < ts.length := by omega
  simp only at n1 n2 n3;simp only [zB, cB, if_neg n1, if_neg n2, if_neg n3] at c1 c2;unfold qbW9 h24 rdR;simp only [zB, cB, if_neg n1, if_neg n2, if_neg n3];have hcl := fun b0 b1 b2 b3 => vby9 R I.length Q.length b0 b1 b2 b3 hR;have hok := fun b0 b1 b2 b3 => vcW9 R I.length Q.length b0 b1 b2 b3 hR;have w1 := qq0 4 I.length none Q.length;have w2 : (ownR 4 I.length none Q.length).take Q.length = ownR 4 I.length none Q.length := l'y (by omega);unfold stR kEnd at *;generalize ownR 4 I.length none Q.length = RW at *;repeat' (first|(first|refine nav ?_|(refine g0_ ?_; first|refine dN (p := [0, 0, 1, 0, 1, 1, 1, 1, 1, 1, 1, 1, 1, 1, 1, 1, 1, 1, 1, 1, 1]) [(211, 10), (212, 211)] [(2, some 2)] [] ?_|refine dN (p := [0, 1, 1, 1, 1, 1, 1, 1, 1, 1, 1, 1, 1, 1, 1, 1, 1, 1, 1]) [(215, 10), (216, 215), (217, 214), (218, 217), (219, 218), (221, 10), (222, 221), (223, 220), (224, 223), (225, 224), (226, 10), (227, 226)] [(2, some 2)] [] ?_|refine goD ?_))|(with_reducible first|refine gG ?_ ?_|refine ⟨fun h => ?_, fun h => ?_⟩ <;> try omega|refine andG ?_)|refine cp c1 ?_ (hi := by (simp [idsL, idsE, AV.ids, i1, i2, i3, i4]))|refine cp c2 ?_ (hi := by (simp [idsL, idsE, AV.ids, i1, i2, i3, i4]))|simp (disch := try exact discB) only [push_cast, simprocAttr, d2, d6, d10, d11, t1, t2, t3, htl, z3, w1, w2, hcl, hok])
 | no k e =>
  rw [hp] at hrd;simp only at hrd ⊢;obtain ⟨h1, he⟩ := hrd;have hk := wcW9 hp;have hid := fun p a e => kP0 p ts cc a e ⟨N, zB I, I, cB I, zB O, O, cB O, zB Q, Q, cB Q⟩;unfold locR zSpecA h24 rdR;by_cases hc : e3 = 0 ∧ k3 < ts.length
  ·obtain ⟨rfl, z2⟩ := hc;rw [if_pos ⟨rfl, z2⟩] at h1;simp only [Prod.mk.injEq] at h1;obtain ⟨rfl, rfl⟩ := h1;have z3 : (k3 : Int) < ts.length := by omega
   have z4 : ¬ (ts.length : Int) = 0 := by omega
   have hf := qaO9 ts cc ⟨N, zB I, I, cB I, zB O, O, cB O, zB Q, Q, cB Q⟩ k3 0 k3 4;rw [if_pos (by omega)];have e1 := qn0 ts k3 z2;unfold tkA at e1;simp only;generalize ts.getD k3 tk0 = t at *;obtain ⟨tk, tt, tl, tc⟩ := t;simp only at *;unfold stR kEnd at *;repeat' (first|(first|refine nav ?_|(refine g0_ ?_; first|refine dN (p := [0, 0, 1, 0, 1, 1, 1, 1, 1, 1, 1, 1, 1, 1, 1, 1, 1, 1, 1, 1, 1]) [(211, 10), (212, 211)] [(2, some 2)] [] ?_|refine dN (p := [0, 1, 1, 1, 1, 1, 1, 1, 1, 1, 1, 1, 1, 1, 1, 1, 1, 1, 1]) [(215, 10), (216, 215), (217, 214), (218, 217), (219, 218), (221, 10), (222, 221), (223, 220), (224, 223), (225, 224), (226, 10), (227, 226)] [(2, some 2)] [] ?_|refine goD ?_))|(with_reducible first|refine gG ?_ ?_|refine ⟨fun h => ?_, fun h => ?_⟩ <;> try omega|refine andG ?_)|refine cp c1 ?_ (hi := by (simp [idsL, idsE, AV.ids, i1, i2, i3, i4, hid]))|refine cp c2 ?_ (hi := by (simp [idsL, idsE, AV.ids, i1, i2, i3, i4, hid]))|refine cp hf ?_ (hi := by (simp [idsL, idsE, AV.ids, i1, i2, i3, i4, hid]))|simp (disch := try exact discB) only [push_cast, simprocAttr, d2, d6, d10, d11, t1, t2, t3, htl, z3, z4, e1])
   all_goals exact z2
  ·rw [if_neg hc] at h1;simp only [Prod.mk.injEq] at h1;obtain ⟨rfl, rfl⟩ := h1;clear hc;by_cases hz : 0 < ts.length
   ·have z2 := hk hz;have z4 : ¬ (ts.length : Int) = 0 := by omega
    rw [if_pos hz];have e1 := qn0 ts k3 z2;unfold tkA at e1;simp only;generalize ts.getD k3 tk0 = t at *;obtain ⟨tk, tt, tl, tc⟩ := t;simp only at *;unfold stR kEnd at *;repeat' (first|(first|refine nav ?_|(refine g0_ ?_; first|refine dN (p := [0, 0, 1, 0, 1, 1, 1, 1, 1, 1, 1, 1, 1, 1, 1, 1, 1, 1, 1, 1, 1]) [(211, 10), (212, 211)] [(2, some 2)] [] ?_|refine dN (p := [0, 1, 1, 1, 1, 1, 1, 1, 1, 1, 1, 1, 1, 1, 1, 1, 1, 1, 1]) [(215, 10), (216, 215), (217, 214), (218, 217), (219, 218), (221, 10), (222, 221), (223, 220), (224, 223), (225, 224), (226, 10), (227, 226)] [(2, some 2)] [] ?_|refine goD ?_))|(with_reducible first|refine gG ?_ ?_|refine ⟨fun h => ?_, fun h => ?_⟩ <;> try omega|refine andG ?_)|refine cp c1 ?_ (hi := by (simp [idsL, idsE, AV.ids, i1, i2, i3, i4, hid]))|refine cp c2 ?_ (hi := by (simp [idsL, idsE, AV.ids, i1, i2, i3, i4, hid]))|simp (disch := try exact discB) only [push_cast, simprocAttr, d2, d6, d10, d11, t1, t2, t3, htl, he, z4, e1])
    all_goals exact z2
   ·have z4 : ts.length = 0 := by omega
    rw [if_neg hz];unfold stR kEnd at *;repeat' (first|(first|refine nav ?_|(refine g0_ ?_; first|refine dN (p := [0, 0, 1, 0, 1, 1, 1, 1, 1, 1, 1, 1, 1, 1, 1, 1, 1, 1, 1, 1, 1]) [(211, 10), (212, 211)] [(2, some 2)] [] ?_|refine dN (p := [0, 1, 1, 1, 1, 1, 1, 1, 1, 1, 1, 1, 1, 1, 1, 1, 1, 1, 1]) [(215, 10), (216, 215), (217, 214), (218, 217), (219, 218), (221, 10), (222, 221), (223, 220), (224, 223), (225, 224), (226, 10), (227, 226)] [(2, some 2)] [] ?_|refine goD ?_))|(with_reducible first|refine gG ?_ ?_|refine ⟨fun h => ?_, fun h => ?_⟩ <;> try omega|refine andG ?_)|refine cp c1 ?_ (hi := by (simp [idsL, idsE, AV.ids, i1, i2, i3, i4, hid]))|refine cp c2 ?_ (hi := by (simp [idsL, idsE, AV.ids, i1, i2, i3, i4, hid]))|simp (disch := try exact discB) only [push_cast, simprocAttr, d2, d6, d10, d11, t1, t2, t3, htl, he, z4])
end Go.Proofs

import Derived.Test.YtlpjemobbjijdaaGreatDoorS30
import Derived.Test.YtlpjemobbjijdaaGreatDoorS46
import Derived.Test.YtlpjemobbjijdaaGreatDoorS13
namespace Go.Proofs
open Go Go.V
set_option linter.unusedVariables false
set_option linter.unusedSimpArgs false
def Lx (s : Bs) (ks : List (Int × Bs)) : Prop := ∀ l c, ∃ ts, lexR s l c = .ok ts ∧ kts ts = ks
theorem zck9 : Lx [] [] := fun l c => ⟨[], rfl, rfl⟩
theorem kbK9 {s : Bs} {ks : List (Int × Bs)} (h : Lx s ks) : Lx (10 :: s) ks := fun l c => by
 rw [xe0, if_pos rfl]; exact h _ _
theorem kY0 {s : Bs} {ks : List (Int × Bs)} (b : UInt8) (hb : blkB b = true) (h : Lx s ks) : Lx (b :: s) ks := fun l c => by
 rw [xe0, if_neg (by rintro rfl; exact absurd hb (by decide)), if_pos hb]; exact h _ _
theorem wdx9 {s : Bs} {ks : List (Int × Bs)} (m : Bs) (hm : ∀ b ∈ m, ¬ b = 10) (h : Lx s ks) : Lx (35 :: (m ++ 10 :: s)) ks := fun l c => by
 have ht : toNl (m ++ 10 :: s) = 10 :: s := by
  unfold toNl
  rw [List.dropWhile_append_of_pos (fun b hb => by simp [hm b hb])]
  simp
 rw [xe0, if_neg (by decide), if_neg (by decide), if_pos rfl, ht]; exact kbK9 h l c
theorem xck9 {s w : Bs} {k : Int} {ks : List (Int × Bs)} (hv : qp0 k w) (ht : tokS (w ++ s) = (k, w.length, 0)) (h : Lx s ks) : Lx (w ++ s) ((k, w) :: ks) := fun l c => by
 cases w with
 | nil => exact absurd rfl hv.2
 | cons b r =>
  obtain ⟨h1, h2, h3⟩ := waD9 hv
  rw [List.cons_append] at ht ⊢
  rw [xe0, if_neg h2, if_neg h1, if_neg h3, ht]
  simp only
  rw [if_neg (by decide), ← List.cons_append, List.drop_left' rfl, List.take_left' rfl]
  obtain ⟨ts, e1, e2⟩ := h l (c + ((b :: r).length : Nat))
  rw [e1]
  exact ⟨_, rfl, by simp [kts, LexR.cons] at e2 ⊢; exact e2⟩
theorem wck9 {w s : Bs} (hw : wordS w = w) (hs : s = [] ∨ ∃ b r, s = b :: r ∧ wrdB b = false) : wordS (w ++ s) = w := by
 have hall : ∀ b ∈ w, wrdB b = true := fun b hb => kas9 w b (by rw [hw]; exact hb)
 unfold wordS at *
 rw [List.takeWhile_append_of_pos hall]
 rcases hs with rfl|⟨b, r, rfl, hb⟩
 ·simp
 ·rw [List.takeWhile_cons, hb]; simp
theorem kau9 {s w : Bs} {ks : List (Int × Bs)} (hv : qp0 1 w) (hs : s = [] ∨ ∃ b r, s = b :: r ∧ wrdB b = false) (h : Lx s ks) : Lx (w ++ s) ((1, w) :: ks) := by
 refine xck9 hv ?_ h
 obtain ⟨h1, h2⟩ := hv
 cases w with
 | nil => exact absurd rfl h2
 | cons b r =>
  have hb : wrdB b = true := by
   unfold tokS at h1
   split at h1
   ·assumption
   ·split at h1
    ·simp only [Prod.mk.injEq] at h1; exact absurd h1.1 (by decide)
    ·simp only [Prod.mk.injEq] at h1; exact absurd h1.1 (by decide)
  have hk := h1
  unfold tokS at hk
  rw [if_pos (show wrdB ((b :: r).headD 0) = true from hb)] at hk
  simp only [Prod.mk.injEq] at hk
  have hw : wordS (b :: r) = b :: r := by
   rw [← zo0, hk.2.1, List.take_length]
  have hwa := wck9 hw hs
  unfold tokS
  rw [if_pos (show wrdB ((b :: r ++ s).headD 0) = true from hb), hwa]
  rw [hw] at hk
  rw [← hk.1]
  simp only [Prod.mk.injEq, true_and]
  exact hk.2.2
theorem qav9 {s : Bs} {ks : List (Int × Bs)} (b : UInt8) (hb : b = 59 ∨ b = 44 ∨ b = 47) (h : Lx s ks) : Lx (b :: s) ((3, [b]) :: ks) := by
 have hv : qp0 3 [b] := by rcases hb with rfl|rfl|rfl <;> exact ⟨by decide, by decide⟩
 refine xck9 (w := [b]) hv ?_ h
 have hw : wrdB b = false := by rcases hb with rfl|rfl|rfl <;> decide
 have hm : kk0 ([b] ++ s) = 1 := by
  have hp : vL0 ([b] ++ s) = false := by
   cases s with
   | nil => rfl
   | cons d t => show kac9 b d = false; rcases hb with rfl|rfl|rfl <;> simp [kac9]
  unfold kk0
  rw [hp]
  rcases hb with rfl|rfl|rfl <;> rfl
 unfold tokS
 rw [if_neg (by show ¬ wrdB b = true; rw [hw]; decide), hm]; rfl
theorem kcG9 {s : Bs} {ks : List (Int × Bs)} (h : Lx s ks) : Lx (45 :: 62 :: s) ((3, [45, 62]) :: ks) := by
 refine xck9 (w := [45, 62]) ⟨by decide, by decide⟩ ?_ h
 have hm : kk0 ([45, 62] ++ s) = 2 := by unfold kk0; rw [if_pos (show vL0 ([45, 62] ++ s) = true from by show kac9 45 62 = true; decide)]
 unfold tokS
 rw [if_neg (by show ¬ wrdB 45 = true; decide), hm]; rfl
def cmT : List Bs → List (Int × Bs)
 | [] => []
 | [a] => [(1, a)]
 | a :: b :: r => (1, a) :: (3, [44]) :: cmT (b :: r)
theorem zby9 (a b : Bs) (r : List Bs) (sep : Bs) : Lib.join (a :: b :: r) sep = a ++ (sep ++ Lib.join (b :: r) sep) := by
 rw [Lib.join_cons, Lib.join_cons]; simp [Lib.joinTail]
theorem vdx9 : ∀ (l : List Bs) (rest : Bs) (ks : List (Int × Bs)), l ≠ [] → (∀ s ∈ l, qp0 1 s) → (∃ b r, rest = b :: r ∧ wrdB b = false) → Lx rest ks → Lx (Lib.join l [44, 32] ++ rest) (cmT l ++ ks)
 | [], _, _, h, _, _, _ => absurd rfl h
 | [a], rest, ks, _, hv, hr, h => by
  rw [Lib.join_one]; exact kau9 (hv a List.mem_cons_self) (.inr hr) h
 | a :: b :: r, rest, ks, _, hv, hr, h => by
  have ih := vdx9 (b :: r) rest ks (by simp) (fun s hs => hv s (List.mem_cons_of_mem _ hs)) hr h
  rw [zby9, List.append_assoc, List.append_assoc]
  refine kau9 (hv a List.mem_cons_self) (.inr ⟨44, 32 :: (Lib.join (b :: r) [44, 32] ++ rest), rfl, by decide⟩) ?_
  exact qav9 44 (.inr (.inl rfl)) (kY0 32 (by decide) ih)
theorem xbo9 {s w : Bs} {ks : List (Int × Bs)} (hv : qp0 1 w) (h : Lx s ks) : Lx (w ++ 32 :: s) ((1, w) :: ks) :=
 kau9 hv (.inr ⟨32, s, rfl, by decide⟩) (kY0 32 (by decide) h)
theorem qcM9 {s w : Bs} {ks : List (Int × Bs)} (hv : qp0 1 w) (h : Lx s ks) : Lx (w ++ 59 :: 10 :: s) ((1, w) :: (3, [59]) :: ks) :=
 kau9 hv (.inr ⟨59, 10 :: s, rfl, by decide⟩) (qav9 59 (.inl rfl) (kbK9 h))
abbrev Qd := Nat × Nat × Nat × Nat
def edT (x : GS) (q : Qd) : Bs := lnL [x.sts.getD q.1 [], x.ins.getD q.2.1 [], [47], x.outs.getD q.2.2.1 [], [45, 62], x.sts.getD q.2.2.2 []]
def edK (x : GS) (q : Qd) : List (Int × Bs) := [(1, x.sts.getD q.1 []), (1, x.ins.getD q.2.1 []), (3, [47]), (1, x.outs.getD q.2.2.1 []), (3, [45, 62]), (1, x.sts.getD q.2.2.2 []), (3, [59])]
def QOk (x : GS) (q : Qd) : Prop := q.1 < x.sts.length ∧ q.2.1 < x.ins.length ∧ q.2.2.1 < x.outs.length ∧ q.2.2.2 < x.sts.length
theorem qt0 {s : Bs} (h : nmB s = true) : qp0 1 s := by
 unfold nmB at h
 rw [Bool.and_eq_true, decide_eq_true_eq] at h
 exact (zX0 1 s).1 h.1
theorem wbo9 {x : GS} (hv : x.V) {q : Qd} (hq : QOk x q) {s : Bs} {ks : List (Int × Bs)} (h : Lx s ks) : Lx (edT x q ++ s) (edK x q ++ ks) := by
 obtain ⟨h1, h2, h3, h4⟩ := hq
 have n1 := qt0 (hv.nm x.sts (by simp [GS.lists]) _ (ve0 [] h1))
 have n2 := qt0 (hv.nm x.ins (by simp [GS.lists]) _ (ve0 [] h2))
 have n3 := qt0 (hv.nm x.outs (by simp [GS.lists]) _ (ve0 [] h3))
 have n4 := qt0 (hv.nm x.sts (by simp [GS.lists]) _ (ve0 [] h4))
 have e : edT x q ++ s = x.sts.getD q.1 [] ++ 32 :: (x.ins.getD q.2.1 [] ++ 32 :: 47 :: 32 :: (x.outs.getD q.2.2.1 [] ++ 32 :: 45 :: 62 :: 32 :: (x.sts.getD q.2.2.2 [] ++ 59 :: 10 :: s))) := by
  simp [edT, lnL, Lib.join_cons, Lib.joinTail]
 rw [e]
 exact xbo9 n1 (xbo9 n2 (qav9 47 (.inr (.inr rfl)) (kY0 32 (by decide) (xbo9 n3 (kcG9 (kY0 32 (by decide) (qcM9 n4 h)))))))
def hdK (x : GS) : List (Int × Bs) := (1, kMac) :: (1, x.nm) :: (3, [59]) :: (1, kIns) :: (cmT x.ins ++ (3, [59]) :: (1, xn0) :: (cmT x.outs ++ (3, [59]) :: (1, kSts) :: (cmT x.sts ++ [(3, [59])])))
theorem vck9 {x : GS} (hv : x.V) {s : Bs} {ks : List (Int × Bs)} (h : Lx s ks) : Lx (wm0 x ++ s) (hdK x ++ ks) := by
 have m := zL0 hv.m
 have c1 := hv.ci
 have c2 := hv.co
 have c3 := hv.cs
 have w : ∀ k, k ∈ resB → qp0 1 k := by
  intro k hk
  simp only [resB, List.mem_cons, List.not_mem_nil, or_false] at hk
  rcases hk with rfl|rfl|rfl|rfl|rfl <;> exact ⟨by decide, by decide⟩
 have n0 := qt0 (hv.nm [x.nm] (by simp [GS.lists]) _ List.mem_cons_self)
 have n1 : ∀ s ∈ x.ins, qp0 1 s := fun s hs => qt0 (hv.nm x.ins (by simp [GS.lists]) s hs)
 have n2 : ∀ s ∈ x.outs, qp0 1 s := fun s hs => qt0 (hv.nm x.outs (by simp [GS.lists]) s hs)
 have n3 : ∀ s ∈ x.sts, qp0 1 s := fun s hs => qt0 (hv.nm x.sts (by simp [GS.lists]) s hs)
 have e1 : x.ins ≠ [] := fun e => by rw [e] at c1; simp at c1; omega
 have e2 : x.outs ≠ [] := fun e => by rw [e] at c2; simp at c2; omega
 have e3 : x.sts ≠ [] := fun e => by rw [e] at c3; simp at c3; omega
 have e : wm0 x ++ s = kMac ++ 32 :: (x.nm ++ 59 :: 10 :: (kIns ++ 32 :: (Lib.join x.ins [44, 32] ++ 59 :: 10 :: (xn0 ++ 32 :: (Lib.join x.outs [44, 32] ++ 59 :: 10 :: (kSts ++ 32 :: (Lib.join x.sts [44, 32] ++ 59 :: 10 :: s))))))) := by
  simp [wm0, lnL, Lib.join_cons, Lib.joinTail]
 have ek : hdK x ++ ks = (1, kMac) :: (1, x.nm) :: (3, [59]) :: (1, kIns) :: (cmT x.ins ++ (3, [59]) :: (1, xn0) :: (cmT x.outs ++ (3, [59]) :: (1, kSts) :: (cmT x.sts ++ (3, [59]) :: ks))) := by simp [hdK]
 rw [e, ek]
 have st : ∀ {l : List Bs} {s : Bs} {ks : List (Int × Bs)}, l ≠ [] → (∀ s ∈ l, qp0 1 s) → Lx s ks → Lx (Lib.join l [44, 32] ++ 59 :: 10 :: s) (cmT l ++ (3, [59]) :: ks) := fun hl hn h => vdx9 _ _ _ hl hn ⟨59, _, rfl, by decide⟩ (qav9 59 (.inl rfl) (kbK9 h))
 exact xbo9 (w kMac (by simp [resB])) (qcM9 n0 (xbo9 (w kIns (by simp [resB])) (st e1 n1 (xbo9 (w xn0 (by simp [resB])) (st e2 n2 (xbo9 (w kSts (by simp [resB])) (st e3 n3 h)))))))
end Go.Proofs
namespace Go.Proofs
open Go Go.V
set_option linter.unusedVariables false
set_option linter.unusedSimpArgs false
set_option maxHeartbeats 0
set_option maxRecDepth 100000
def kem9 (p : vas9) : AV := .agg [.str p.name, .int .i64 p.ins.length, .int .i64 p.outs.length, .sl 1 (p.rows.map fun r => [.sl 2 (rowA r) none]) none, .sl 1 (strs p.ins) none, .sl 1 (strs p.outs) none, .sl 1 (strs p.sts) none]
def zeo9 (s : Bs) : AV :=
 if (ofS s).2.2.2 = 0 then match kp0 (ofS s).1 with
  | .ok p => .tup [kem9 p, .int .i64 0, .int .i64 0, .int .i64 0]
  | .no k e => .tup [zSpecA, .int .i64 (locR (ofS s).1 k).1, .int .i64 (locR (ofS s).1 k).2, .int .i64 e]
 else .tup [zSpecA, .int .i64 (ofS s).2.1, .int .i64 (ofS s).2.2.1, .int .i64 (ofS s).2.2.2]
def g0 : RX := ⟨[], 0, [], some 0, 0, [], some 0, 0, [], some 0⟩
def h24 (P1 : Blk) (N : Bs) (I O Q : List Bs) (w : Nat) (R : ER) : List Blk := .row 7 27 [[.str [], .int .i64 0, .int .i64 0, .sl 0 [] (some 0), .sl 0 [] (some 0), .sl 0 [] (some 0), .sl 0 [] (some 0)]] :: P1 :: .row 7 27 [[.str N, .int .i64 I.length, .int .i64 O.length, .own 3 w w none, .sl (zB I) (strs I) (cB I), .sl (zB O) (strs O) (cB O), .sl (zB Q) (strs Q) (cB Q)]] :: .row 1 50 (ownR 4 I.length none w) :: xh0 2 70 (R.map rowA)
theorem xby9 {l : List Tk} {most : Nat} : ∀ {f i : Nat} {o : List Bs} {q : List Bs × Nat}, zH0 l most f o i = .ok q → q.1 ≠ []
 | 0, i, o, q, h => by cases h
 | f + 1, i, o, q, h => by
  obtain ⟨f', s, e, _, _, _, _, h⟩ := zal9 h
  injection e with e
  subst e
  rcases h with ⟨_, h⟩|⟨_, h⟩
  ·rw [h]; simp
  ·exact xby9 h
theorem zaN9 {l : List Tk} {w : Bs} {most i : Nat} {q : List Bs × Nat} (h : xl0 l w most i = .ok q) : q.1 ≠ [] := by
 unfold xl0 at h
 cases h1 : we0 l w i with
 | no a b => rw [h1] at h; cases h
 | ok u => rw [h1] at h; exact xby9 h
theorem kck9 {l : List Tk} {p : vas9} (h : kp0 l = .ok p) : p.ins ≠ [] ∧ p.outs ≠ [] ∧ p.sts ≠ [] := by
 unfold kp0 at h
 cases h0 : xE0 l with
 | no a b => rw [h0] at h; cases h
 | ok n =>
 rw [h0] at h
 simp only [PE.bind] at h
 cases h1 : vp0 l with
 | no a b => rw [h1] at h; cases h
 | ok p =>
 rw [h1] at h
 simp only at h
 cases h2 : vk0 l p.1 p.2.1 p.2.2.1 (l.length + 1) (List.replicate p.2.2.1.length (row0 p.1.length)) p.2.2.2 with
 | no a b => rw [h2] at h; cases h
 | ok q =>
 rw [h2] at h
 simp only at h
 cases h3 : xai9 l q.2 with
 | no a b => rw [h3] at h; cases h
 | ok u =>
 rw [h3] at h
 injection h with h
 subst h
 unfold vp0 at h1
 cases g1 : xl0 l kIns 16 3 with
 | no a b => rw [g1] at h1; cases h1
 | ok u =>
 rw [g1] at h1
 simp only [PE.bind] at h1
 cases g2 : xl0 l xn0 16 u.2 with
 | no a b => rw [g2] at h1; cases h1
 | ok v =>
 rw [g2] at h1
 simp only at h1
 cases g3 : xl0 l kSts 64 v.2 with
 | no a b => rw [g3] at h1; cases h1
 | ok w =>
 rw [g3] at h1
 injection h1 with h1
 subst h1
 exact ⟨zaN9 g1, zaN9 g2, zaN9 g3⟩
def finS (l : List Tk) (r : RS) : RS := if (ky0 l [59] (ky0 l kEnd r)).2 = 0 ∧ (ky0 l [59] (ky0 l kEnd r)).1 < l.length then ((ky0 l [59] (ky0 l kEnd r)).1, 4) else ky0 l [59] (ky0 l kEnd r)
def rdR (ts : List Tk) (cc : Option Nat) (a : Nat) (e : Int) (N : Bs) (I O Q : List Bs) : Blk := .row 10 123 [stR ts cc a e ⟨N, zB I, I, cB I, zB O, O, cB O, zB Q, Q, cB Q⟩]
end Go.Proofs

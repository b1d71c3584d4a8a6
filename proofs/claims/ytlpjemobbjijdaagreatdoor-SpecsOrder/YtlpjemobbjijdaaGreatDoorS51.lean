import Derived.Test.YtlpjemobbjijdaaGreatDoorSP8
import Derived.Test.YtlpjemobbjijdaaGreatDoorS49
import Derived.Test.YtlpjemobbjijdaaGreatDoorS44
import Derived.Test.YtlpjemobbjijdaaGreatDoorS28
import Derived.Test.YtlpjemobbjijdaaGreatDoorS27
namespace Go.Proofs
open Go Go.V
set_option linter.unusedVariables false
set_option linter.unusedSimpArgs false
def gapsB : List Bs := [[], [10, 10], [32, 9], [35, 32, 97, 32, 114, 101, 109, 97, 114, 107, 59, 32, 109, 97, 99, 104, 105, 110, 101, 32, 101, 110, 100, 10], [13, 10, 32, 32]]
theorem vaN9 {g : Bs} (hg : g ∈ gapsB) : ∀ s ks, Lx s ks → Lx (g ++ s) ks := fun s ks h => by
 simp only [gapsB, List.mem_cons, List.not_mem_nil, or_false] at hg
 rcases hg with rfl|rfl|rfl|rfl|rfl
 ·exact h
 ·exact kbK9 (kbK9 h)
 ·exact kY0 32 (by decide) (kY0 9 (by decide) h)
 ·exact wdx9 [32, 97, 32, 114, 101, 109, 97, 114, 107, 59, 32, 109, 97, 99, 104, 105, 110, 101, 32, 101, 110, 100] (by decide) h
 ·exact kY0 13 (by decide) (kbK9 (kY0 32 (by decide) (kY0 32 (by decide) h)))
theorem vcH9 {g : Bs} (hg : g ∈ gapsB) (s : Bs) : ∃ b r, g ++ 59 :: s = b :: r ∧ wrdB b = false := by
 simp only [gapsB, List.mem_cons, List.not_mem_nil, or_false] at hg
 rcases hg with rfl|rfl|rfl|rfl|rfl <;> exact ⟨_, _, rfl, by decide⟩
theorem kcH9 {g : Bs} (hg : g ∈ gapsB) : g.length ≤ 24 := by
 simp only [gapsB, List.mem_cons, List.not_mem_nil, or_false] at hg
 rcases hg with rfl|rfl|rfl|rfl|rfl <;> decide
def pkO (o : List Nat) (k m : Nat) : Nat := if k < o.length then o.getD k 0 % m else 0
theorem zcl9 (o : List Nat) (k : Nat) {m : Nat} (h : 0 < m) : pkO o k m < m := by
 unfold pkO; split
 ·exact Nat.mod_lt _ h
 ·exact h
def stO {α : Type} (o : List Nat) (L : List α) : Nat → List α × List α
 | 0 => ([], L)
 | k + 1 => ((stO o L k).1 ++ ((stO o L k).2.drop (pkO o k (stO o L k).2.length)).take 1, (stO o L k).2.take (pkO o k (stO o L k).2.length) ++ (stO o L k).2.drop (pkO o k (stO o L k).2.length + 1))
theorem kaN9 {α : Type} (o : List Nat) (L : List α) : ∀ k, k ≤ L.length → (stO o L k).2.length = L.length - k
 | 0, _ => rfl
 | k + 1, h => by
  have ih := kaN9 o L k (by omega)
  have hp := zcl9 o k (m := (stO o L k).2.length) (by omega)
  simp only [stO, List.length_append, List.length_take, List.length_drop]
  omega
theorem xcl9 {α β : Type} (o : List Nat) (f : α → β) (L : List α) : ∀ k, stO o (L.map f) k = ((stO o L k).1.map f, (stO o L k).2.map f)
 | 0 => rfl
 | k + 1 => by
  simp only [stO, xcl9 o f L k, List.length_map, List.map_append, List.map_take, List.map_drop]
theorem qaO9 {α : Type} (o : List Nat) (L : List α) : ∀ k, ((stO o L k).1 ++ (stO o L k).2).Perm L
 | 0 => List.Perm.refl _
 | k + 1 => by
  refine List.Perm.trans ?_ (qaO9 o L k)
  simp only [stO]
  generalize (stO o L k).1 = d
  generalize (stO o L k).2 = r
  generalize pkO o k r.length = n
  rw [List.append_assoc]
  refine List.Perm.append_left d ?_
  have e : r = r.take n ++ ((r.drop n).take 1 ++ r.drop (n + 1)) := by
   have : (r.drop n).take 1 ++ r.drop (n + 1) = r.drop n := by
    rw [← List.drop_drop, List.take_append_drop]
   rw [this, List.take_append_drop]
  rw [← List.append_assoc]
  refine List.Perm.trans ((List.perm_append_comm).append_right _) ?_
  rw [List.append_assoc, ← e]
theorem vdi9 {α : Type} (o : List Nat) (L : List α) : ((stO o L L.length).1).Perm L := by
 have h := qaO9 o L L.length
 have hl := kaN9 o L L.length (Nat.le_refl _)
 rw [Nat.sub_self] at hl
 rw [List.length_eq_zero_iff.1 hl, List.append_nil] at h
 exact h
theorem kdi9 (o : List Nat) (L : List Bs) (k : Nat) (h : k < L.length) : (stO o L (k + 1)).1 = (stO o L k).1 ++ [(stO o L k).2.getD (pkO o k (stO o L k).2.length) []] := by
 have hl := kaN9 o L k (by omega)
 have hp := zcl9 o k (m := (stO o L k).2.length) (by omega)
 simp only [stO]
 generalize (stO o L k).2 = r at *
 generalize pkO o k r.length = n at *
 rw [List.drop_eq_getElem_cons hp, List.getD_eq_getElem?_getD, List.getElem?_eq_getElem hp]; rfl
def txO (o : List Nat) (g T : Bs) (L : List Bs) (k : Nat) : Bs := T ++ (stO o L k).1.flatMap fun w => w ++ g
theorem xbz9 (o : List Nat) (g T : Bs) (L : List Bs) : txO o g T L 0 = T := by simp [txO, stO]
theorem qcI9 (o : List Nat) (g T : Bs) (L : List Bs) (k : Nat) (h : k < L.length) : txO o g T L (k + 1) = txO o g T L k ++ ((stO o L k).2.getD (pkO o k (stO o L k).2.length) [] ++ g) := by
 simp only [txO, kdi9 o L k h, List.flatMap_append, List.append_assoc, List.flatMap_cons, List.flatMap_nil, List.append_nil]
theorem wcl9 {m n : Nat} : ∀ (l : List Bs) (g : Bs), (∀ w ∈ l, w.length ≤ m) → g.length ≤ n → (l.flatMap fun w => w ++ g).length ≤ l.length * (m + n)
 | [], _, _, _ => by simp
 | w :: l, g, h, hg => by
  have a := wcl9 l g (fun v hv => h v (List.mem_cons_of_mem _ hv)) hg
  have b := h w List.mem_cons_self
  rw [List.flatMap_cons, List.length_append, List.length_append, List.length_cons, Nat.add_mul]
  omega
theorem zdy9 (o : List Nat) {g T : Bs} (L : List Bs) {m n : Nat} (hL : ∀ w ∈ L, w.length ≤ m) (hg : g.length ≤ n) (k : Nat) : (txO o g T L k).length ≤ T.length + L.length * (m + n) := by
 have hp := qaO9 o L k
 have hl := hp.length_eq
 rw [List.length_append] at hl
 have := wcl9 (stO o L k).1 g (fun w hw => hL w (hp.mem_iff.1 (List.mem_append_left _ hw))) hg
 have h2 : (stO o L k).1.length * (m + n) ≤ L.length * (m + n) := Nat.mul_le_mul_right _ (by omega)
 rw [txO, List.length_append]; omega
theorem wbz9 (x : GS) : linesL x x.rows.length = (allQ' x).map (edT x) := by
 unfold linesL allQ'
 rw [List.map_flatMap]
 refine congrArg (fun f => (List.range x.rows.length).flatMap f) (funext fun s => ?_)
 unfold zau9 rowQ
 rw [List.map_flatMap]
 refine congrArg (fun f => (List.range (x.row s).length).flatMap f) (funext fun i => ?_)
 unfold edL eLn
 split
 ·rfl
 ·simp [edT]
theorem vcl9 {x : GS} (hv : x.V) : ∀ w ∈ linesL x x.rows.length, w.length ≤ 104 := fun w hw => by
 unfold linesL zau9 at hw
 simp only [List.mem_flatMap] at hw
 obtain ⟨s, _, i, _, h⟩ := hw
 unfold edL at h
 split at h
 ·cases h
 ·rw [List.mem_singleton.1 h]; exact kcg9 hv _ _ _
theorem zbp9 {x : GS} (hv : x.V) {g : Bs} (hg : g ∈ gapsB) (o : List Nat) : ∀ T : Bs, T = txO o g (g ++ wm0 x) (linesL x x.rows.length) (linesL x x.rows.length).length ++ ([101, 110, 100] ++ g ++ [59] ++ g) → T.length ≤ 65536 →
  ∃ ts, ofS T = (ts, 0, 0, 0) ∧ kp0 ts = .ok ⟨x.nm, x.ins, x.outs, x.sts, edgesOf x.rows⟩ := by
 rintro T hT hl
 have hE := vdi9 o (allQ' x)
 have h0 : Lx (g ++ []) [] := vaN9 hg _ _ zck9
 have h1 : Lx (kEnd ++ (g ++ 59 :: (g ++ []))) ((1, kEnd) :: (3, [59]) :: []) := kau9 qcl9 (.inr (vcH9 hg _)) (vaN9 hg _ _ (qav9 59 (.inl rfl) h0))
 have h2 := vaN9 hg _ _ (vck9 hv (zbz9 hv g (vaN9 hg) (stO o (allQ' x) (allQ' x).length).1 (fun q hq => qbp9 hv q (hE.mem_iff.1 hq)) _ _ h1))
 have h3 : Lx T (hdK x ++ ((stO o (allQ' x) (allQ' x).length).1.flatMap (edK x) ++ [(1, kEnd), (3, [59])])) := by
  have e : T = g ++ (wm0 x ++ ((stO o (allQ' x) (allQ' x).length).1.flatMap (fun q => edT x q ++ g) ++ (kEnd ++ (g ++ 59 :: (g ++ []))))) := by
   rw [hT, txO, wbz9, xcl9, List.length_map]
   simp only [List.flatMap_map, List.append_assoc, List.append_nil, kEnd]; rfl
  rw [e]; exact h2
 obtain ⟨ts, t1, t2⟩ := h3 1 1
 refine ⟨ts, ?_, ?_⟩
 ·unfold ofS
  rw [if_neg (by omega), t1]; rfl
 ·rw [zbL9 hv _ (fun q hq => qbp9 hv q (hE.mem_iff.1 hq)) (((hE.map _).nodup_iff).2 (zbc9 x)) t2, wcH9 hv hE]
end Go.Proofs
namespace Go.Proofs
open Go Go.V
set_option linter.unusedVariables false
set_option linter.unusedSimpArgs false
def hE (x : GS) : Nat := 0 + 1 + 1 + 1 + 1 + 2 * x.ins.length + 1 + 2 * x.outs.length + 1 + 2 * x.sts.length
theorem xbc9 {ts : List Tk} {x : GS} (hv : x.V) {K : List (Int × Bs)} (h : kts ts = hdK x ++ K) : xE0 ts = .ok x.nm ∧ vp0 ts = .ok (x.ins, x.outs, x.sts, hE x) ∧ Dr ts (hE x) K ∧ ts.length = hE x + K.length := by
 have m := zL0 hv.m
 have c1 := hv.ci
 have c2 := hv.co
 have c3 := hv.cs
 have e1 : x.ins ≠ [] := fun e => by rw [e] at c1; simp at c1; omega
 have e2 : x.outs ≠ [] := fun e => by rw [e] at c2; simp at c2; omega
 have e3 : x.sts ≠ [] := fun e => by rw [e] at c3; simp at c3; omega
 have hlen : ts.length = (hdK x ++ K).length := by rw [← h]; simp [kts]
 have l1 := vR0 _ e1
 have l2 := vR0 _ e2
 have l3 := vR0 _ e3
 simp only [hdK, List.length_append, List.length_cons, List.length_nil, l1, l2, l3] at hlen
 have D0 : Dr ts 0 ((1, kMac) :: (1, x.nm) :: (3, [59]) :: (1, kIns) :: (cmT x.ins ++ (3, [59]) :: (1, xn0) :: (cmT x.outs ++ (3, [59]) :: (1, kSts) :: (cmT x.sts ++ (3, [59]) :: K)))) := by
  show (kts ts).drop 0 = _
  rw [h]; simp [hdK]
 have D1 := (qh0 D0).2.2.2
 have D2 := (qh0 D1).2.2.2
 have D3 := (qh0 D2).2.2.2
 have n0 := hv.nm [x.nm] (by simp [GS.lists]) _ List.mem_cons_self
 have hh : xE0 ts = .ok x.nm := by
  unfold xE0
  rw [vA0 D0]; simp only [PE.bind]
  rw [xav9 D1 n0]; simp only
  rw [vA0 D2]
 obtain ⟨g1, D4⟩ := xL0 (most := 16) D3 e1 (hv.nm x.ins (by simp [GS.lists])) (hv.nd x.ins (by simp [GS.lists])) (by omega) (by omega)
 obtain ⟨g2, D5⟩ := xL0 (most := 16) D4 e2 (hv.nm x.outs (by simp [GS.lists])) (hv.nd x.outs (by simp [GS.lists])) (by omega) (by omega)
 obtain ⟨g3, D6⟩ := xL0 (most := 64) D5 e3 (hv.nm x.sts (by simp [GS.lists])) (hv.nd x.sts (by simp [GS.lists])) (by omega) (by omega)
 refine ⟨hh, ?_, D6, ?_⟩
 ·unfold vp0
  rw [show (3 : Nat) = 0 + 1 + 1 + 1 from rfl, g1]; simp only [PE.bind]
  rw [g2]; simp only
  rw [g3]; rfl
 ·unfold hE; omega
theorem xbp9 {ts : List Tk} {x : GS} (hv : x.V) {q : Qd} (hq : QOk x q) (h : kts ts = hdK x ++ (edK x q ++ (edK x q ++ []))) : kp0 ts = .no (hE x + 7) 8 := by
 obtain ⟨g1, g2, D, hl⟩ := xbc9 hv h
 obtain ⟨e1, D1, e2⟩ := vbo9 hv hq D
 obtain ⟨f1, _, f2⟩ := vbo9 hv hq D1
 have hf : ∃ f, ts.length = f + 1 := ⟨ts.length - 1, by simp [edK] at hl; omega⟩
 obtain ⟨f, hf⟩ := hf
 have hR0 := vaZ9 x.sts.length x.ins.length
 have h0 : (getE (List.replicate x.sts.length (row0 x.ins.length)) q.1 q.2.1).1 = -1 := by
  simp [getE, row0, hq.1, hq.2.1]
 have h1 := qbc9 hR0 hq.1 hq.2.1 ((q.2.2.2 : Int), (q.2.2.1 : Int))
 unfold kp0
 rw [g1]; simp only [PE.bind]
 rw [g2]; simp only
 rw [hf, vk0, if_neg (by rw [e2]; decide), e1]
 simp only [PE.bind]
 rw [if_pos h0, vk0, if_neg (by rw [f2]; decide), f1]
 simp only [PE.bind]
 rw [h1, if_neg (by simp only; omega)]
theorem zcI9 {s : Bs} (h : qp0 1 s) : c10 s = 0 := by
 refine waL9 s fun b hb => qK0 s b ?_
 rw [h.1]; simp only
 rw [List.take_length]; exact hb
theorem zZ0 (sep : Bs) (hs : c10 sep = 0) : ∀ l : List Bs, (∀ w ∈ l, c10 w = 0) → c10 (Lib.join l sep) = 0
 | [], _ => by rw [Lib.join_nil]; rfl
 | [a], h => by rw [Lib.join_one]; exact h a List.mem_cons_self
 | a :: b :: r, h => by
  rw [zby9, wA0, wA0, hs, h a List.mem_cons_self, zZ0 sep hs (b :: r) fun w hw => h w (List.mem_cons_of_mem _ hw)]
theorem kcl9 {l : List Bs} (h : ∀ w ∈ l, c10 w = 0) : c10 (lnL l) = 1 := by
 rw [lnL, wA0, zZ0 [32] rfl l h]; rfl
theorem xcI9 (x : GS) (q : Qd) : ∃ r, edT x q = r ++ [10] := ⟨Lib.join [x.sts.getD q.1 [], x.ins.getD q.2.1 [], [47], x.outs.getD q.2.2.1 [], [45, 62], x.sts.getD q.2.2.2 []] [32] ++ [59], by simp [edT, lnL]⟩
theorem wcI9 {x : GS} (hv : x.V) {q : Qd} (hq : QOk x q) (l c : Int) : ∃ t ts, lexR (edT x q) l c = .ok (t :: ts) ∧ t.l = l ∧ t.c = c ∧ kts (t :: ts) = edK x q := by
 have n1 := qt0 (hv.nm x.sts (by simp [GS.lists]) _ (ve0 [] hq.1))
 obtain ⟨ts, h1, h2⟩ := wbo9 hv hq (s := []) (ks := []) zck9 l c
 rw [List.append_nil] at h1 h2
 have e : ∃ r, edT x q = x.sts.getD q.1 [] ++ 32 :: r := ⟨x.ins.getD q.2.1 [] ++ 32 :: 47 :: 32 :: (x.outs.getD q.2.2.1 [] ++ 32 :: 45 :: 62 :: 32 :: (x.sts.getD q.2.2.2 [] ++ [59, 10])), by simp [edT, lnL, Lib.join_cons, Lib.joinTail]⟩
 obtain ⟨r, e⟩ := e
 have h3 := h1
 rw [e, zcc9 r n1] at h3
 cases hr : lexR r l (c + (x.sts.getD q.1 []).length + 1) with
 | ok u =>
  rw [hr] at h3
  simp only [LexR.cons, LexR.ok.injEq] at h3
  subst h3
  exact ⟨_, _, h1, rfl, rfl, h2⟩
 | err a b c => rw [hr] at h3; simp [LexR.cons] at h3
theorem xbL9 {x : GS} (hv : x.V) {q : Qd} (hq : QOk x q) : ∀ T : Bs, T = wm0 x ++ edT x q ++ edT x q → T.length ≤ 65536 → ∃ ts, ofS T = (ts, 0, 0, 0) ∧ kp0 ts = .no (hE x + 7) 8 ∧ locR ts (hE x + 7) = (6, 1) := by
 rintro T hT hl
 have nmv : ∀ L ∈ x.lists, ∀ w ∈ L, c10 w = 0 := fun L hL w hw => zcI9 (qt0 (hv.nm L hL w hw))
 have b1 := nmv x.ins (by simp [GS.lists])
 have b2 := nmv x.outs (by simp [GS.lists])
 have b3 := nmv x.sts (by simp [GS.lists])
 have b0 := nmv [x.nm] (by simp [GS.lists]) _ List.mem_cons_self
 have two : ∀ a b : Bs, c10 a = 0 → c10 b = 0 → c10 (lnL [a, b]) = 1 := fun a b ha hb => kcl9 fun w hw => by
  simp only [List.mem_cons, List.not_mem_nil, or_false] at hw
  rcases hw with rfl|rfl
  ·exact ha
  ·exact hb
 have hh : c10 (wm0 x) = 4 := by
  unfold wm0
  rw [wA0, wA0, wA0, two kMac _ rfl b0, two kIns _ rfl (zZ0 _ rfl _ b1), two xn0 _ rfl (zZ0 _ rfl _ b2), two kSts _ rfl (zZ0 _ rfl _ b3)]
 have he : c10 (edT x q) = 1 := kcl9 fun w hw => by
  simp only [List.mem_cons, List.not_mem_nil, or_false] at hw
  rcases hw with rfl|rfl|rfl|rfl|rfl|rfl
  ·exact b3 _ (ve0 [] hq.1)
  ·exact b1 _ (ve0 [] hq.2.1)
  ·rfl
  ·exact b2 _ (ve0 [] hq.2.2.1)
  ·rfl
  ·exact b3 _ (ve0 [] hq.2.2.2)
 obtain ⟨r, hr⟩ := xcI9 x q
 obtain ⟨ts1, g1, g2⟩ := vck9 hv (wbo9 hv hq (s := []) (ks := []) zck9) 1 1
 rw [List.append_nil] at g1
 have e1 : wm0 x ++ edT x q = (wm0 x ++ r) ++ 10 :: [] := by rw [hr, List.append_assoc]
 have e2 : T = (wm0 x ++ r) ++ 10 :: edT x q := by
  rw [hT, hr]; simp
 have hc : c10 (wm0 x ++ r) = 4 := by
  rw [hr, wA0] at he
  have : c10 [10] = 1 := rfl
  rw [wA0, hh]; omega
 rw [e1, qcL9, wak9] at g1
 cases hR : lexR (wm0 x ++ r) 1 1 with
 | err a b c => rw [hR] at g1; simp [vaL9] at g1
 | ok u =>
  rw [hR] at g1
  simp only [vaL9, LexR.app, List.append_nil, LexR.ok.injEq] at g1
  subst g1
  obtain ⟨t, us, k1, k2, k3, k4⟩ := wcI9 hv hq 6 1
  have hT2 : lexR T 1 1 = .ok (u ++ t :: us) := by
   rw [e2, qcL9, hR, hc]
   show vaL9 (.ok u) (lexR (edT x q) 6 1) = _
   rw [k1]; rfl
  have hk : kts (u ++ t :: us) = hdK x ++ (edK x q ++ (edK x q ++ [])) := by
   rw [show kts (u ++ t :: us) = kts u ++ kts (t :: us) by simp [kts], g2, k4]; simp
  refine ⟨u ++ t :: us, ?_, xbp9 hv hq hk, ?_⟩
  ·unfold ofS
   rw [if_neg (by omega), hT2]; rfl
  ·have hl := (xbc9 hv (K := edK x q ++ []) g2).2.2.2
   have hlu : u.length = hE x + 7 := by rw [hl]; simp [edK]
   unfold locR
   rw [if_pos (by simp only [List.length_append, List.length_cons]; omega), ← hlu]
   simp [k2, k3]
end Go.Proofs
namespace Go.Proofs
open Go Go.V
set_option linter.unusedVariables false
set_option linter.unusedSimpArgs false
set_option maxHeartbeats 0
set_option maxRecDepth 100000
def z0 : GS := ⟨[], 0, 0, 0, [], some 0, 0, [], some 0, 0, [], some 0, 0, [], some 0⟩
theorem vcI9 (p : vas9) : wbJ9 p = .agg (gsP p (some p.ins.length) (some p.ins.length) (some p.outs.length) (some p.sts.length) (some p.sts.length)).A := by
 unfold wbJ9 GS.A gsP kc0
 rw [List.map_map]; rfl
end Go.Proofs

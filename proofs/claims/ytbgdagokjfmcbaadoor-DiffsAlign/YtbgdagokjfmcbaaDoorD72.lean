import Derived.Test.YtbgdagokjfmcbaaDoorD65
namespace Go.Proofs
def nextR (I : Nat) : List Nat → List Nat
 | [] => [0]
 | d :: r => if d + 1 < I then (d + 1) :: r else 0 :: nextR I r
def numR (I : Nat) : List Nat → Nat
 | [] => 0
 | d :: r => d + 1 + I * numR I r
def wordR (I : Nat) : Nat → List Nat
 | 0 => []
 | k + 1 => nextR I (wordR I k)
theorem wby9 {I : Nat} (h : 0 < I) : ∀ w : List Nat, (∀ d ∈ w, d < I) → ∀ d ∈ nextR I w, d < I
 | [], _ => by simpa [nextR] using h
 | x :: r, hw => by
  simp only [nextR];split
  ·intro d hd;rcases List.mem_cons.1 hd with rfl|hd
   ·assumption
   ·exact hw d (by simp [hd])
  ·intro d hd;rcases List.mem_cons.1 hd with rfl|hd
   ·exact h
   ·exact wby9 h r (fun d hd => hw d (by simp [hd])) d hd
theorem zbf9 {I : Nat} : ∀ w : List Nat, (∀ d ∈ w, d < I) → numR I (nextR I w) = numR I w + 1
 | [], _ => by simp [nextR, numR]
 | x :: r, hw => by
  have := hw x (by simp);simp only [nextR];split
  ·simp only [numR]; omega
  ·simp only [numR, zbf9 r (fun d hd => hw d (by simp [hd])), Nat.mul_add, Nat.mul_one]; omega
theorem vby9 {I : Nat} : ∀ a b : List Nat, (∀ d ∈ a, d < I) → (∀ d ∈ b, d < I) → numR I a = numR I b → a = b
 | [], [], _, _, _ => rfl
 | [], y :: b, _, _, h => by simp only [numR] at h; omega
 | x :: a, [], _, _, h => by simp only [numR] at h; omega
 | x :: a, y :: b, ha, hb, h => by
  have p := ha x (by simp);have q := hb y (by simp);simp only [numR] at h;have e : (x + I * numR I a) = (y + I * numR I b) := by omega
  have e1 : x = y := by
   have := congrArg (· % I) e;simpa [Nat.add_mul_mod_self_left, Nat.mod_eq_of_lt p, Nat.mod_eq_of_lt q] using this
  have e2 : numR I a = numR I b := Nat.eq_of_mul_eq_mul_left (by omega : 0 < I) (by omega : I * numR I a = I * numR I b);rw [e1, vby9 a b (fun d hd => ha d (by simp [hd])) (fun d hd => hb d (by simp [hd])) e2]
theorem xP0 {I : Nat} (h : 0 < I) : ∀ k, ∀ d ∈ wordR I k, d < I
 | 0 => by simp [wordR]
 | k + 1 => wby9 h _ (xP0 h k)
theorem wP0 {I : Nat} (h : 0 < I) : ∀ k, numR I (wordR I k) = k
 | 0 => rfl
 | k + 1 => by rw [wordR, zbf9 _ (xP0 h k), wP0 h k]
theorem zch9 {I : Nat} (h : 0 < I) {w : List Nat} (hw : ∀ d ∈ w, d < I) : wordR I (numR I w) = w := vby9 _ _ (xP0 h _) hw (wP0 h _)
def cntR (I : Nat) : Nat → Nat
 | 0 => 0
 | n + 1 => 1 + I * cntR I n
theorem xbq9 {I : Nat} : ∀ (w : List Nat) (n : Nat), (∀ d ∈ w, d < I) → w.length < n → numR I w < cntR I n
 | [], n + 1, _, _ => by simp only [numR, cntR]; omega
 | x :: r, n + 1, hw, hl => by
  have p := hw x (by simp);have := xbq9 r n (fun d hd => hw d (by simp [hd])) (by simpa using hl);have : I * (numR I r + 1) ≤ I * cntR I n := Nat.mul_le_mul_left _ this;simp only [numR, cntR];rw [Nat.mul_add] at this;omega
theorem xch9 {I : Nat} : ∀ (w : List Nat) (n : Nat), (∀ d ∈ w, d < I) → n ≤ w.length → cntR I n ≤ numR I w
 | _, 0, _, _ => by simp [cntR]
 | [], n + 1, _, h => by simp at h
 | x :: r, n + 1, hw, hl => by
  have := xch9 r n (fun d hd => hw d (by simp [hd])) (by simpa using hl);have : I * cntR I n ≤ I * numR I r := Nat.mul_le_mul_left _ this;simp only [numR, cntR];omega
theorem wax9 {I : Nat} (h : 0 < I) (k n : Nat) : (wordR I k).length < n ↔ k < cntR I n := by
 constructor
 ·intro q;have := xbq9 _ n (xP0 h k) q
  rwa [wP0 h] at this
 ·intro q;apply Nat.lt_of_not_le;intro z;have := xch9 _ n (xP0 h k) z;rw [wP0 h] at this;omega
end Go.Proofs
namespace Go.Proofs
open Go Go.V
set_option linter.unusedVariables false
set_option linter.unusedSimpArgs false
def qy0 (O : List Int) (t : Int) : Int := if t ∈ O then ((O.idxOf t : Nat) : Int) else -1
def zM0 (O : List Int) (e : Edg) : Edg := (qy0 O e.1, e.2)
def vp0 (O : List Int) (R : Rs) : Rs := O.map fun s => (R.getD s.toNat []).map (zM0 O)
structure xbf9 (I n : Nat) (la : List Row) (O : List Int) : Prop where
 z : O.getD 0 0 = 0
 ne : O ≠ []
 nd : O.Nodup
 b : ∀ s ∈ O, 0 ≤ s ∧ s < n
 c : ∀ s ∈ O, ∀ i : Nat, i < I → toAt la s i ≠ -1 → toAt la s i ∈ O
 r : ∀ s ∈ O, ReachS I la s
theorem vP0 {O : List Int} {t : Int} (h : t ∈ O) : 0 ≤ qy0 O t ∧ qy0 O t < O.length ∧ O.getD (qy0 O t).toNat 0 = t := by
 have hl := List.idxOf_lt_length_of_mem h;rw [qy0, if_pos h];refine ⟨by omega, by omega, ?_⟩;rw [Int.toNat_natCast, List.getD_eq_getElem?_getD, List.getElem?_eq_getElem hl, Option.getD_some];exact List.getElem_idxOf hl
theorem wbf9 {O : List Int} (hn : O.Nodup) {k : Nat} (hk : k < O.length) : qy0 O (O.getD k 0) = k := by
 have e : O.getD k 0 = O[k] := by simp [hk]
 rw [e, qy0, if_pos (List.getElem_mem hk), hn.idxOf_getElem k hk]
section
variable {I n : Nat} {o : Int} {la : List Row} {O : List Int}
theorem wp0 (O : List Int) (R : Rs) : (vp0 O R).length = O.length := by simp [vp0]
theorem qW0 (O : List Int) (R : Rs) {k : Nat} (hk : k < O.length) : (vp0 O R).getD k [] = (R.getD (O.getD k 0).toNat []).map (zM0 O) := by simp [vp0, hk]
theorem wch9 (h : xbf9 I n la O) (hw : ∀ s : Int, (0 ≤ s ∧ s < n) → ((edgesOf la).getD s.toNat []).length = I) {C : List Row} (hC : edgesOf C = vp0 O (edgesOf la)) {k i : Nat} (hk : k < O.length) (hi : i < I) : toAt C k i = qy0 O (toAt la (O.getD k 0) i) := by
 have hm : O.getD k 0 ∈ O := by rw [List.getD_eq_getElem?_getD, List.getElem?_eq_getElem hk]; exact List.getElem_mem hk
 have hlen := hw _ (h.b _ hm);have e1 : toAt C k i = (((edgesOf C).getD k []).getD i (0, 0)).1 := by
  rw [kd0]; simp [toAt]
 have e2 : toAt la (O.getD k 0) i = (((edgesOf la).getD (O.getD k 0).toNat []).getD i (0, 0)).1 := by
  rw [kd0]; simp [toAt]
 rw [e1, e2, hC, qW0 O _ hk];generalize (edgesOf la).getD (O.getD k 0).toNat [] = r at *;rw [List.getD_eq_getElem?_getD, List.getElem?_map, List.getElem?_eq_getElem (by omega)];simp [zM0, List.getD_eq_getElem?_getD, show i < r.length by omega]
theorem zbM9 (h : xbf9 I n la O) (hw : ∀ s : Int, (0 ≤ s ∧ s < n) → ((edgesOf la).getD s.toNat []).length = I) {C : List Row} (hC : edgesOf C = vp0 O (edgesOf la)) : ∀ k : Nat, k < O.length → ReachS I C k := by
 have h0 : 0 < O.length := List.length_pos_iff.2 h.ne;have key : ∀ s, ReachS I la s → s ∈ O ∧ ReachS I C (qy0 O s) := fun s hs => by
  induction hs with
  | zero =>
   have hm : (0 : Int) ∈ O := by
    have := h.z;rw [List.getD_eq_getElem?_getD, List.getElem?_eq_getElem h0, Option.getD_some] at this;exact this ▸ List.getElem_mem h0
   have : qy0 O 0 = 0 := by
    have := wbf9 h.nd h0;rw [h.z] at this; exact this
   exact ⟨hm, by rw [this]; exact ReachS.zero⟩
  | @step s i _ hi hne ih =>
   obtain ⟨hm, hr⟩ := ih;have hto := h.c s hm i hi hne;obtain ⟨p1, p2, p3⟩ := vP0 hm;obtain ⟨k, hk⟩ : ∃ k : Nat, qy0 O s = k := ⟨(qy0 O s).toNat, by omega⟩;have e := wch9 h hw hC (k := k) (i := i) (by omega) hi;have e3 : O.getD k 0 = s := by rw [← p3, hk]; rfl
   rw [e3] at e;obtain ⟨q1, q2, q3⟩ := vP0 hto;refine ⟨hto, ?_⟩;rw [← e];rw [hk] at hr;exact ReachS.step hr hi (by rw [e]; omega)
 intro k hk;have hm : O.getD k 0 ∈ O := by rw [List.getD_eq_getElem?_getD, List.getElem?_eq_getElem hk]; exact List.getElem_mem hk
 have := (key _ (h.r _ hm)).2
 rwa [wbf9 h.nd hk] at this
theorem xcG9 (h : xbf9 I n la O) (hw : ∀ s : Int, (0 ≤ s ∧ s < n) → ((edgesOf la).getD s.toNat []).length = I) (hf : FitR o n (edgesOf la)) (hln : (edgesOf la).length = n) : zs0 I (vp0 O (edgesOf la)) ∧ FitR o O.length (vp0 O (edgesOf la)) := by
 refine ⟨fun k hk => ?_, fun r hr e he => ?_⟩
 ·rw [wp0] at hk;have hm : O.getD k 0 ∈ O := by rw [List.getD_eq_getElem?_getD, List.getElem?_eq_getElem hk]; exact List.getElem_mem hk
  rw [qW0 O _ hk, List.length_map];exact hw _ (h.b _ hm)
 ·obtain ⟨s, hs, rfl⟩ := List.mem_map.1 hr;obtain ⟨x, hx, rfl⟩ := List.mem_map.1 he;have hb := h.b s hs;have hlen := hw s hb;have hmem : (edgesOf la).getD s.toNat [] ∈ edgesOf la := by
   rw [List.getD_eq_getElem?_getD, List.getElem?_eq_getElem (by omega)]; exact List.getElem_mem _
  have hfx := hf _ hmem x hx;rw [qP0] at hfx ⊢;rcases hfx with ⟨q1, q2⟩|⟨⟨q1, q2⟩, q3⟩
  ·left
   have : ¬ (-1 : Int) ∈ O := fun w => by have := h.b _ w; omega
   simp only [zM0, q1, q2, qy0, if_neg this, and_self]
  ·right
   obtain ⟨i, hi, rfl⟩ := List.getElem_of_mem hx;have hto : toAt la s i = (((edgesOf la).getD s.toNat [])[i]).1 := by
    have : toAt la s i = (((edgesOf la).getD s.toNat []).getD i (0, 0)).1 := by rw [kd0]; simp [toAt]
    rw [this, List.getD_eq_getElem?_getD, List.getElem?_eq_getElem hi, Option.getD_some]
   have := h.c s hs i (by omega) (by rw [hto]; omega);rw [hto] at this;obtain ⟨p1, p2, _⟩ := vP0 this;exact ⟨⟨⟨p1, p2⟩, by simpa [zM0] using q2⟩, by simpa [zM0] using q3⟩
end
end Go.Proofs
namespace Go.Proofs
def insO (lt : Int → Int → Bool) : List Int → Int → List Int
 | [], s => [s]
 | x :: r, s => if lt x s then x :: insO lt r s else s :: x :: r
theorem wac9 (lt : Int → Int → Bool) : ∀ (l : List Int) (s : Int), (insO lt l s).Perm (s :: l)
 | [], s => List.Perm.refl _
 | x :: r, s => by
  simp only [insO];split
  ·exact ((wac9 lt r s).cons x).trans (List.Perm.swap s x r)
  ·exact List.Perm.refl _
theorem zaH9 (lt : Int → Int → Bool) : ∀ (l acc : List Int), (l.foldl (insO lt) acc).Perm (acc ++ l)
 | [], acc => by simp
 | s :: r, acc => by
  rw [List.foldl_cons];refine (zaH9 lt r _).trans ?_;refine ((wac9 lt acc s).append_right r).trans ?_;exact List.perm_middle.symm
theorem vbf9 (lt : Int → Int → Bool) (z : Int) : ∀ (l acc : List Int), (∀ s ∈ l, lt z s = true) → ∃ r, l.foldl (insO lt) (z :: acc) = z :: r
 | [], acc, _ => ⟨acc, rfl⟩
 | s :: r, acc, h => by
  rw [List.foldl_cons];have : insO lt (z :: acc) s = z :: insO lt acc s := by simp [insO, h s (by simp)]
  rw [this];exact vbf9 lt z r _ (fun s hs => h s (by simp [hs]))
theorem wcG9 (lt : Int → Int → Bool) {l : List Int} (hnd : ((0 : Int) :: l).Nodup) (h : ∀ s ∈ l, lt 0 s = true) :
  let O := ((0 : Int) :: l).foldl (insO lt) []
  O.Nodup ∧ O.getD 0 0 = 0 ∧ O ≠ [] ∧ ∀ s, s ∈ O ↔ s ∈ (0 : Int) :: l := by
 intro O;have p : O.Perm ((0 : Int) :: l) := zaH9 lt ((0 : Int) :: l) [];refine ⟨p.nodup_iff.2 hnd, ?_, ?_, fun s => p.mem_iff⟩
 ·obtain ⟨r, hr⟩ := vbf9 lt 0 l [] h;have : O = (0 : Int) :: r := hr;rw [this]; rfl
 ·intro e;have := p.length_eq;rw [e] at this;simp at this
end Go.Proofs
namespace Go.Proofs
open Go Go.V
set_option linter.unusedVariables false
set_option linter.unusedSimpArgs false
def aftM (la : List Row) : Int → List Nat → Int
 | s, [] => s
 | s, a :: w => aftM la (if s < 0 then -1 else toAt la s a) w
theorem kby9 (la : List Row) : ∀ w, aftM la (-1) w = -1
 | [] => rfl
 | a :: w => by rw [aftM, if_pos (by omega)]; exact kby9 la w
theorem kbf9 (la : List Row) (a : Nat) : ∀ (w : List Nat) (s : Int), aftM la s (w ++ [a]) = if aftM la s w < 0 then -1 else toAt la (aftM la s w) a
 | [], s => rfl
 | b :: w, s => by rw [List.cons_append, aftM, kbf9 la a w, aftM]
def kal9 (I n : Nat) (la : List Row) : Prop := ∀ (s : Int) (i : Nat), (0 ≤ s ∧ s < n) → i < I → toAt la s i = -1 ∨ (0 ≤ toAt la s i ∧ toAt la s i < n)
section
variable {I n : Nat} {la : List Row}
theorem vax9 (hA : kal9 I n la) : ∀ (w : List Nat) (s : Int), (∀ a ∈ w, a < I) → (s = -1 ∨ (0 ≤ s ∧ s < n)) → aftM la s w = -1 ∨ (0 ≤ aftM la s w ∧ aftM la s w < n)
 | [], s, _, hs => hs
 | a :: w, s, hw, hs => by
  rw [aftM];refine vax9 hA w _ (fun b hb => hw b (List.mem_cons_of_mem _ hb)) ?_;rcases hs with rfl|hs
  ·left; rfl
  ·rw [if_neg (by omega)];exact hA s a hs (hw a List.mem_cons_self)
theorem kax9 (hA : kal9 I n la) (hn : 0 < n) {s : Int} (h : ReachS I la s) : 0 ≤ s ∧ s < n := by
 induction h with
 | zero => omega
 | step h hi hne ih => exact (hA _ _ ih hi).resolve_left hne
theorem qbg9 (hA : kal9 I n la) : ∀ (w : List Nat) (s : Int), (∀ a ∈ w, a < I) → ReachS I la s → (0 ≤ s ∧ s < n) → 0 ≤ aftM la s w → ReachS I la (aftM la s w)
 | [], s, _, hs, _, _ => hs
 | a :: w, s, hw, hs, hr, h => by
  rw [aftM, if_neg (by omega)] at h ⊢;have ha := hw a List.mem_cons_self;have hne : toAt la s a ≠ -1 := fun e => by rw [e, kby9] at h; omega
  exact qbg9 hA w _ (fun b hb => hw b (List.mem_cons_of_mem _ hb)) (ReachS.step hs ha hne) ((hA s a hr ha).resolve_left hne) h
theorem vcG9 (hA : kal9 I n la) (hn : 0 < n) {s : Int} (h : ReachS I la s) : ∃ k, RK (fun r t => r < n ∧ t < n ∧ ∃ i, i < I ∧ toAt la (r : Int) i = (t : Int)) k s.toNat := by
 induction h with
 | zero => exact ⟨0, rfl⟩
 | @step s i h hi hne ih =>
  obtain ⟨k, hk⟩ := ih;have h1 := kax9 hA hn h;have h2 := (hA s i h1 hi).resolve_left hne;refine ⟨k + 1, .inr ⟨_, hk, by omega, by omega, i, hi, ?_⟩⟩;rw [Int.toNat_of_nonneg h1.1, Int.toNat_of_nonneg h2.1]
theorem wbq9 : ∀ (k s : Nat), RK (fun r t => r < n ∧ t < n ∧ ∃ i, i < I ∧ toAt la (r : Int) i = (t : Int)) k s → ∃ w : List Nat, (∀ a ∈ w, a < I) ∧ w.length ≤ k ∧ aftM la 0 w = s
 | 0, s, h => ⟨[], by simp, Nat.le_refl _, by have h : s = 0 := h; rw [h]; rfl⟩
 | k + 1, s, h => by
  rcases h with h|⟨r, h, _, _, i, hi, e⟩
  ·obtain ⟨w, h1, h2, h3⟩ := wbq9 k s h;exact ⟨w, h1, by omega, h3⟩
  ·obtain ⟨w, h1, h2, h3⟩ := wbq9 k r h;refine ⟨w ++ [i], fun a ha => ?_, by simp; omega, ?_⟩
   ·rcases List.mem_append.1 ha with q|q
    ·exact h1 a q
    ·rw [List.mem_singleton.1 q]; exact hi
   ·rw [kbf9, h3, if_neg (by omega)]; exact e
theorem xbM9 (hA : kal9 I n la) (hn : 0 < n) {s : Int} (h : ReachS I la s) : ∃ w : List Nat, (∀ a ∈ w, a < I) ∧ w.length < n ∧ aftM la 0 w = s := by
 obtain ⟨k, hk⟩ := vcG9 hA hn h;obtain ⟨w, h1, h2, h3⟩ := wbq9 _ _ (zcG9 (fun r s q => q.2.1) hn k _ hk);have := kax9 hA hn h;exact ⟨w, h1, by omega, by omega⟩
end
def wrdI (I k : Nat) : List Nat := (wordR I k).reverse
def pthM (la : List Row) (I n : Nat) : Nat → List Bool × List (List Nat)
 | 0 => (List.replicate n false, List.replicate n [])
 | k + 1 => if 0 ≤ aftM la 0 (wrdI I k) ∧ (pthM la I n k).1.getD (aftM la 0 (wrdI I k)).toNat true = false then
   ((pthM la I n k).1.set (aftM la 0 (wrdI I k)).toNat true, (pthM la I n k).2.set (aftM la 0 (wrdI I k)).toNat (wrdI I k)) else pthM la I n k
theorem vbq9 {I : Nat} (h : 0 < I) (k : Nat) : ∀ a ∈ wrdI I k, a < I := fun a ha => xP0 h k a (List.mem_reverse.1 ha)
section
variable {I n : Nat} {la : List Row}
theorem zW0 : ∀ k, (pthM la I n k).1.length = n ∧ (pthM la I n k).2.length = n
 | 0 => by simp [pthM]
 | k + 1 => by
  rw [pthM];split
  ·simp [zW0 k]
  ·exact zW0 k
theorem vch9 (hI : 0 < I) (hn : 0 < n) (hA : kal9 I n la) : ∀ k (s : Nat), s < n → ((pthM la I n k).1.getD s false = true ↔ ∃ j, j < k ∧ aftM la 0 (wrdI I j) = s) ∧ ((pthM la I n k).1.getD s false = true → aftM la 0 ((pthM la I n k).2.getD s []) = s)
 | 0, s, hs => by
  have e : (pthM la I n 0).1.getD s false = false := by simp [pthM, hs]
  rw [e];exact ⟨⟨fun h => (by cases h), fun ⟨j, h, _⟩ => (by omega)⟩, fun h => (by cases h)⟩
 | k + 1, s, hs => by
  obtain ⟨i1, i2⟩ := vch9 hI hn hA k s hs;obtain ⟨l1, l2⟩ := zW0 (la := la) (I := I) (n := n) k;have hr := vax9 hA (wrdI I k) 0 (vbq9 hI k) (.inr (by omega));rw [pthM];generalize hw : wrdI I k = w at *;generalize ht : aftM la 0 w = t at *;split
  ·rename_i hc;have htn := hr.resolve_left (by omega);by_cases q : t.toNat = s
   ·have e1 : ((pthM la I n k).1.set t.toNat true).getD s false = true := by
     rw [q, List.getD_eq_getElem?_getD, List.getElem?_set_self (by omega)]; rfl
    have e2 : ((pthM la I n k).2.set t.toNat w).getD s [] = w := by
     rw [q, List.getD_eq_getElem?_getD, List.getElem?_set_self (by omega)]; rfl
    simp only [e1, e2, true_iff];exact ⟨⟨k, by omega, by rw [hw, ht]; omega⟩, fun _ => by rw [ht]; omega⟩
   ·have e1 : ((pthM la I n k).1.set t.toNat true).getD s false = (pthM la I n k).1.getD s false := by
     rw [List.getD_eq_getElem?_getD, List.getElem?_set_ne q, ← List.getD_eq_getElem?_getD]
    have e2 : ((pthM la I n k).2.set t.toNat w).getD s [] = (pthM la I n k).2.getD s [] := by
     rw [List.getD_eq_getElem?_getD, List.getElem?_set_ne q, ← List.getD_eq_getElem?_getD]
    simp only [e1, e2];refine ⟨i1.trans ⟨fun ⟨j, h1, h2⟩ => ⟨j, by omega, h2⟩, fun ⟨j, h1, h2⟩ => ?_⟩, i2⟩;rcases Nat.lt_or_ge j k with h|h
    ·exact ⟨j, h, h2⟩
    ·obtain rfl : j = k := by omega
     rw [hw, ht] at h2; omega
  ·rename_i hc;refine ⟨i1.trans ⟨fun ⟨j, h1, h2⟩ => ⟨j, by omega, h2⟩, fun ⟨j, h1, h2⟩ => ?_⟩, i2⟩;rcases Nat.lt_or_ge j k with h|h
   ·exact ⟨j, h, h2⟩
   ·obtain rfl : j = k := by omega
    rw [hw, ht] at h2;subst h2;refine i1.1 ?_;have : ¬ (pthM la I n j).1.getD s true = false := fun q => hc ⟨by omega, by simpa using q⟩;rw [List.getD_eq_getElem?_getD, List.getElem?_eq_getElem (by omega)] at this ⊢;simpa using this
theorem qbz9 (hn : 0 < n) : ∀ k, (pthM la I n (k + 1)).1.getD 0 false = true ∧ (pthM la I n (k + 1)).2.getD 0 [] = []
 | 0 => by
  have e : wrdI I 0 = [] := rfl;rw [pthM, e, show aftM la 0 [] = 0 from rfl, if_pos ⟨by omega, by simp [pthM, hn]⟩];simp [pthM, hn]
 | k + 1 => by
  obtain ⟨i1, i2⟩ := qbz9 hn k;obtain ⟨l1, l2⟩ := zW0 (la := la) (I := I) (n := n) (k + 1);rw [pthM];split
  ·rename_i hc;have q : (aftM la 0 (wrdI I (k + 1))).toNat ≠ 0 := fun q => by
    have := hc.2;rw [q, List.getD_eq_getElem?_getD, List.getElem?_eq_getElem (by omega)] at this;rw [List.getD_eq_getElem?_getD, List.getElem?_eq_getElem (by omega)] at i1;rw [Option.getD_some] at this i1;rw [i1] at this; cases this
   rw [List.getD_eq_getElem?_getD, List.getElem?_set_ne q, ← List.getD_eq_getElem?_getD, List.getD_eq_getElem?_getD (l := List.set _ _ _), List.getElem?_set_ne q, ← List.getD_eq_getElem?_getD];exact ⟨i1, i2⟩
  ·exact ⟨i1, i2⟩
end
def xM0 (a b : List Nat) : Bool := decide (a.length < b.length) || (decide (a.length = b.length) && decide (a < b))
def ordM (la : List Row) (I n : Nat) : List Int :=
 (((List.range n).filter fun s => (pthM la I n (cntR I n)).1.getD s false).map fun (s : Nat) => (s : Int)).foldl (insO fun x s => xM0 ((pthM la I n (cntR I n)).2.getD x.toNat []) ((pthM la I n (cntR I n)).2.getD s.toNat [])) []
theorem kcG9 (I : Nat) {n : Nat} (hn : 0 < n) : ∃ k, cntR I n = k + 1 := by
 obtain ⟨m, rfl⟩ : ∃ m, n = m + 1 := ⟨n - 1, by omega⟩;exact ⟨I * cntR I m, by rw [cntR]; omega⟩
theorem xcN9 {I n : Nat} {la : List Row} (hI : 0 < I) (hn : 0 < n) (hA : kal9 I n la) : xbf9 I n la (ordM la I n) ∧ ∀ s : Int, (0 ≤ s ∧ s < n) → (s ∈ ordM la I n ↔ ReachS I la s) := by
 have hiff := fun s hs => vch9 (la := la) hI hn hA (cntR I n) s hs;obtain ⟨k, hk⟩ := kcG9 I hn;obtain ⟨z1, z2⟩ := qbz9 (la := la) (I := I) hn k;rw [← hk] at z1 z2;have hre : ∀ s : Nat, s < n → ((pthM la I n (cntR I n)).1.getD s false = true ↔ ReachS I la s) := fun s hs => by
  rw [(hiff s hs).1];constructor
  ·rintro ⟨j, _, h⟩;have := qbg9 hA (wrdI I j) 0 (vbq9 hI j) ReachS.zero (by omega) (by omega);rw [h] at this; exact this
  ·intro h;obtain ⟨w, h1, h2, h3⟩ := xbM9 hA hn h;have hw : ∀ a ∈ w.reverse, a < I := fun a ha => h1 a (List.mem_reverse.1 ha);refine ⟨numR I w.reverse, xbq9 _ n hw (by simpa using h2), ?_⟩;rw [wrdI, zch9 hI hw, List.reverse_reverse]; exact h3
 unfold ordM;generalize hL : pthM la I n (cntR I n) = L at *;have hfl : ((List.range n).filter fun s => L.1.getD s false) = 0 :: ((List.range n).filter fun s => L.1.getD s false).tail := by
  obtain ⟨m, rfl⟩ : ∃ m, n = m + 1 := ⟨n - 1, by omega⟩;rw [List.range_succ_eq_map, List.filter_cons, if_pos z1]; rfl
 have hnd : ((List.range n).filter fun s => L.1.getD s false).Nodup := (List.nodup_range (n := n)).filter _;have hmem : ∀ s, s ∈ ((List.range n).filter fun s => L.1.getD s false) ↔ s < n ∧ L.1.getD s false = true := fun s => by simp
 rw [hfl] at hnd;have hmem2 : ∀ s : Int, s ∈ (((List.range n).filter fun s => L.1.getD s false).map fun (s : Nat) => (s : Int)) ↔ (0 ≤ s ∧ s < n) ∧ ReachS I la s := fun s => by
  rw [List.mem_map];constructor
  ·rintro ⟨t, ht, rfl⟩;obtain ⟨h1, h2⟩ := (hmem t).1 ht;exact ⟨by omega, (hre t h1).1 h2⟩
  ·rintro ⟨h1, h2⟩;refine ⟨s.toNat, (hmem _).2 ⟨by omega, (hre _ (by omega)).2 ?_⟩, by omega⟩;rw [Int.toNat_of_nonneg h1.1]; exact h2
 have key := wcG9 (fun x s : Int => xM0 (L.2.getD x.toNat []) (L.2.getD s.toNat [])) (l := (((List.range n).filter fun s => L.1.getD s false).tail).map fun (s : Nat) => (s : Int)) ?_ ?_
 ·have e : ((0 : Int) :: (((List.range n).filter fun s => L.1.getD s false).tail).map fun (s : Nat) => (s : Int)) = ((List.range n).filter fun s => L.1.getD s false).map fun (s : Nat) => (s : Int) := by
   rw [hfl]; rfl
  rw [e] at key;simp only [hmem2] at key;obtain ⟨k1, k2, k3, k4⟩ := key;refine ⟨⟨k2, k3, k1, fun s hs => ((k4 s).1 hs).1, fun s hs i hi hne => (k4 _).2 ?_, fun s hs => ((k4 s).1 hs).2⟩, fun s hs => ?_⟩
  ·obtain ⟨h1, h2⟩ := (k4 s).1 hs;exact ⟨(hA s i h1 hi).resolve_left hne, ReachS.step h2 hi hne⟩
  ·rw [k4]; exact ⟨fun h => h.2, fun h => ⟨hs, h⟩⟩
 ·rw [List.nodup_cons] at hnd ⊢;refine ⟨fun h => ?_, ?_⟩
  ·obtain ⟨t, ht, e⟩ := List.mem_map.1 h;obtain rfl : t = 0 := by omega
   exact hnd.1 ht
  ·rw [List.Nodup, List.pairwise_map];exact hnd.2.imp fun h e => h (by omega)
 ·intro s hs;obtain ⟨t, ht, rfl⟩ := List.mem_map.1 hs;have ht0 : t ≠ 0 := fun e => by rw [List.nodup_cons] at hnd; exact hnd.1 (e ▸ ht)
  have htm := (hmem t).1 (by rw [hfl]; exact List.mem_cons_of_mem _ ht);have ha := (hiff t htm.1).2 htm.2;show xM0 (L.2.getD (0 : Int).toNat []) (L.2.getD (t : Int).toNat []) = true;rw [show (0 : Int).toNat = 0 from rfl, Int.toNat_natCast, z2];cases hw : L.2.getD t [] with
  | nil => rw [hw] at ha; have ha : (0 : Int) = t := ha; omega
  | cons a w => simp [xM0]
def swS (a b : Int) (s : Int) : Int := if s = a then b else if s = b then a else s
theorem kbq9 (a b s : Int) : swS a b (swS a b s) = s := by unfold swS; split <;> split <;> (try split) <;> (try split) <;> omega
def swR (a b : Nat) (R : Rs) : Rs := (List.range R.length).map fun (s : Nat) => relS (swS a b) (R.getD (swS a b s).toNat [])
theorem kaP9 (a b : Nat) (R : Rs) : (swR a b R).length = R.length := by simp [swR]
theorem kch9 {n : Nat} {σ τ : Int → Int} {r : List Edg} (hr : ∀ e ∈ r, e.1 = -1 ∨ (0 ≤ e.1 ∧ e.1 < n)) (hσ : ∀ s : Int, (0 ≤ s ∧ s < n) → 0 ≤ σ s) : relS τ (relS σ r) = relS (fun s => τ (σ s)) r := by
 unfold relS;rw [List.map_map];refine List.map_congr_left fun e he => ?_;simp only [Function.comp];rcases hr e he with h|h
 ·simp only [if_pos h]
 ·have h1 : ¬ e.1 = -1 := by omega
  have h2 : ¬ σ e.1 = -1 := by have := hσ e.1 h; omega
  simp only [if_neg h1, if_neg h2]
theorem xde9 (r : List Edg) : relS (fun s => s) r = r := by
 unfold relS
 conv => rhs; rw [← List.map_id r]
 exact List.map_congr_left fun e _ => by split <;> rfl
structure Ren (n : Nat) (R0 R : Rs) (σ : Int → Int) : Prop where
 z : σ 0 = 0
 r : ∀ s : Int, (0 ≤ s ∧ s < n) → 0 ≤ σ s ∧ σ s < n
 j : ∀ s t : Int, (0 ≤ s ∧ s < n) → (0 ≤ t ∧ t < n) → σ s = σ t → s = t
 len : R.length = n
 row : ∀ s : Int, (0 ≤ s ∧ s < n) → R.getD (σ s).toNat [] = relS σ (R0.getD s.toNat [])
def FitS (n : Nat) (R : Rs) : Prop := ∀ s : Int, (0 ≤ s ∧ s < n) → ∀ e ∈ R.getD s.toNat [], e.1 = -1 ∨ (0 ≤ e.1 ∧ e.1 < n)
theorem wcN9 {n : Nat} {R0 : Rs} (h : R0.length = n) : Ren n R0 R0 (fun s => s) :=
 ⟨rfl, fun s h => h, fun s t _ _ e => e, h, fun s hs => (xde9 _).symm⟩
theorem qcH9 {n : Nat} {R0 R : Rs} {σ : Int → Int} (hf : FitS n R0) (h : Ren n R0 R σ) {a b : Nat} (ha : 1 ≤ a ∧ a < n) (hb : 1 ≤ b ∧ b < n) : Ren n R0 (swR a b R) (fun s => swS a b (σ s)) := by
 have hsw : ∀ s : Int, (0 ≤ s ∧ s < n) → 0 ≤ swS a b s ∧ swS a b s < n := fun s hs => by unfold swS; split <;> (try split) <;> omega
 refine ⟨by show swS a b (σ 0) = 0; rw [h.z]; unfold swS; rw [if_neg (by omega), if_neg (by omega)], fun s hs => hsw _ (h.r s hs), fun s t hs ht e => h.j s t hs ht ?_, by rw [kaP9, h.len], fun s hs => ?_⟩
 ·have e : swS a b (σ s) = swS a b (σ t) := e;rw [← kbq9 a b (σ s), e, kbq9]
 ·have h1 := h.r s hs;have h2 := hsw _ h1;have hlt : (swS a b (σ s)).toNat < (List.range R.length).length := by rw [List.length_range, h.len]; omega
  show (swR a b R).getD (swS a b (σ s)).toNat [] = _;rw [swR, List.getD_eq_getElem?_getD, List.getElem?_map, List.getElem?_eq_getElem hlt, Option.map_some, Option.getD_some, List.getElem_range, Int.toNat_of_nonneg h2.1, kbq9, h.row s hs];exact kch9 (hf s hs) fun t ht => (h.r t ht).1
theorem wde9 {n I : Nat} {la lb : List Row} {σ : Int → Int} (hw : ∀ s : Int, (0 ≤ s ∧ s < n) → ((edgesOf la).getD s.toNat []).length = I) (hf : FitS n (edgesOf la)) (h : Ren n (edgesOf la) (edgesOf lb) σ) : wcF9 n I la lb σ := by
 have hto : ∀ (l : List Row) (s : Int) (i : Nat), toAt l s i = (((edgesOf l).getD s.toNat []).getD i (0, 0)).1 := fun l s i => by rw [kd0]; simp [toAt]
 refine ⟨h.z, h.r, h.j, fun s i hs hi => ?_, fun s i hs hi => ?_⟩
 ·have hl := hw s hs;rw [hto];refine hf s hs _ ?_;rw [List.getD_eq_getElem?_getD (i := i), List.getElem?_eq_getElem (by omega)]; exact List.getElem_mem _
 ·have hl := hw s hs;rw [hto, hto, h.row s hs];generalize (edgesOf la).getD s.toNat [] = r at *;have hi2 : i < r.length := by omega
  rw [relS, List.getD_eq_getElem?_getD, List.getElem?_map, List.getD_eq_getElem?_getD, List.getElem?_eq_getElem hi2];simp only [Option.map_some, Option.getD_some];split
  ·assumption
  ·rfl
theorem xW0 (I : Nat) : ∀ (z r : List Nat), (∀ d ∈ z, I ≤ d + 1) → nextR I (z ++ r) = List.replicate z.length 0 ++ nextR I r
 | [], r, _ => rfl
 | d :: z, r, h => by
  rw [List.cons_append, nextR, if_neg (by have := h d List.mem_cons_self; omega), xW0 I z r fun e he => h e (List.mem_cons_of_mem _ he)];rfl
def wE0 (I : Nat) (w : List Nat) : List Nat := (nextR I w.reverse).reverse
theorem qci9 (I k : Nat) : wrdI I (k + 1) = wE0 I (wrdI I k) := by
 unfold wrdI wE0;rw [List.reverse_reverse]; rfl
theorem zci9 {I : Nat} {w : List Nat} (h : ∀ d ∈ w, I ≤ d + 1) : wE0 I w = List.replicate w.length 0 ++ [0] := by
 have := xW0 I w.reverse [] fun d hd => h d (List.mem_reverse.1 hd);rw [List.append_nil] at this;rw [wE0, this];simp only [nextR, List.length_reverse, List.reverse_append, List.reverse_replicate, List.reverse_cons, List.reverse_nil, List.nil_append];exact (List.replicate_succ (n := w.length) (a := 0)).symm.trans List.replicate_succ'
theorem qaQ9 {I d : Nat} {a z : List Nat} (hd : d + 1 < I) (h : ∀ e ∈ z, I ≤ e + 1) : wE0 I (a ++ d :: z) = a ++ (d + 1) :: List.replicate z.length 0 := by
 have := xW0 I z.reverse (d :: a.reverse) fun e he => h e (List.mem_reverse.1 he);rw [wE0, show (a ++ d :: z).reverse = z.reverse ++ d :: a.reverse by simp, this, nextR, if_pos hd];simp
theorem qdt9 : ∀ {i : Nat} {a b : List Nat}, a.length = b.length → i < a.length → (∀ j, j < i → a.getD j 0 = b.getD j 0) → a.getD i 0 ≠ b.getD i 0 → decide (a < b) = decide (a.getD i 0 < b.getD i 0)
 | 0, [], _, _, hi, _, _ => absurd hi (Nat.not_lt_zero _)
 | 0, x :: a, [], hl, _, _, _ => by cases hl
 | 0, x :: a, y :: b, _, _, _, hn => by
  have hn : x ≠ y := hn;show decide (x :: a < y :: b) = decide (x < y);rw [Bool.eq_iff_iff];simp only [decide_eq_true_eq, List.cons_lt_cons_iff];constructor
  ·rintro (h|⟨h, _⟩)
   ·exact h
   ·exact absurd h hn
  ·exact .inl
 | i + 1, [], _, _, hi, _, _ => absurd hi (Nat.not_lt_zero _)
 | i + 1, x :: a, [], hl, _, _, _ => by cases hl
 | i + 1, x :: a, y :: b, hl, hi, he, hn => by
  have h0 : x = y := he 0 (by omega);subst h0;have ih := qdt9 (i := i) (a := a) (b := b) (by simpa using hl) (by simpa using hi) (fun j hj => he (j + 1) (by omega)) hn;show decide (x :: a < x :: b) = decide (a.getD i 0 < b.getD i 0);rw [← ih, Bool.eq_iff_iff];simp only [decide_eq_true_eq, List.cons_lt_cons_iff];constructor
  ·rintro (h|⟨_, h⟩)
   ·omega
   ·exact h
  ·exact fun h => .inr ⟨trivial, h⟩
theorem zcH9 {a b : List Nat} (hl : a.length = b.length) {i : Nat} (hi : i < a.length) (he : ∀ j, j < i → a.getD j 0 = b.getD j 0) (hn : a.getD i 0 ≠ b.getD i 0) : xM0 a b = decide (a.getD i 0 < b.getD i 0) := by
 rw [xM0, decide_eq_false (by omega), decide_eq_true hl, Bool.false_or, Bool.true_and, qdt9 hl hi he hn]
theorem xcH9 {a b : List Nat} (hl : a.length ≠ b.length) : xM0 a b = decide (a.length < b.length) := by
 rw [xM0, decide_eq_false hl, Bool.false_and, Bool.or_false]
theorem wbM9 {a b : List Nat} (hl : a.length = b.length) (he : ∀ j, j < a.length → a.getD j 0 = b.getD j 0) : xM0 a b = false := by
 have : a = b := List.ext_getElem hl fun j h1 h2 => by
  have := he j h1;rw [List.getD_eq_getElem?_getD, List.getD_eq_getElem?_getD, List.getElem?_eq_getElem h1, List.getElem?_eq_getElem h2] at this;exact this
 subst this;rw [xM0, decide_eq_false (by omega), decide_eq_true rfl, Bool.false_or, Bool.true_and];exact decide_eq_false (List.lt_irrefl a)
end Go.Proofs

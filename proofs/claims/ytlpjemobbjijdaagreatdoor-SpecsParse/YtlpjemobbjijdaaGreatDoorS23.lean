import Derived.Test.YtlpjemobbjijdaaGreatDoorS20
import Derived.Lib.Join
namespace Go.Proofs
open Go Go.V
set_option linter.unusedVariables false
set_option linter.unusedSimpArgs false
set_option maxHeartbeats 0
set_option maxRecDepth 100000
def lnL (l : List Bs) : Bs := Lib.join l [32] ++ [59, 10]
theorem zaE9 (l : List Bs) (c : Option Nat) (t : Bs) (B0 P0 : Blk) (K : List Blk) (hl : l.length ≤ 1000000) (hj : (lnL l).length ≤ 1000000) (ht : t.length ≤ 1000000)
  (hP : (P0 = bldB (.ptr 1 0 0 1) t.length) ∨ (P0 = bldB (.lit (.pointer none)) 0 ∧ t = [])) :
  ka0 Tryz.prog G0 48 [.sl 1 (strs l) c, .ptr 1 0 0 1] (B0 :: P0 :: .row 1 5 (byt t) :: K) (.tup []) (B0 :: bldB (.ptr 1 0 0 1) (t ++ lnL l).length :: .row 1 5 (byt (t ++ lnL l)) :: K) := by
 have hid : ∀ p, idsE p (strs l) = true := fun p => za0 _ _
 have hJ := fun H => vaY9 H (.sl 1 (strs l) c) l [32] (.inl ⟨c, rfl⟩) (by simp only [lnL, List.length_append] at hj; omega) (by omega)
 have hW : ka0 Tryz.prog G0 49 [.ptr 1 0 0 1, .str (Lib.join l [32] ++ [59, 10])] (B0 :: P0 :: .row 1 5 (byt t) :: K) (.tup [.int .i64 (lnL l).length, .lit .nilIface]) (B0 :: bldB (.ptr 1 0 0 1) (t ++ lnL l).length :: .row 1 5 (byt (t ++ lnL l)) :: K) := by
  rw [show Lib.join l [32] ++ [59, 10] = lnL l from rfl]
  rcases hP with rfl|⟨rfl, rfl⟩
  ·exact xaM9 t (lnL l) B0 K (by omega)
  ·exact qQ0 (lnL l) B0 K hj
 have hjl : (Lib.join l [32]).length + 2 ≤ 1000000 := by simpa [lnL] using hj
 generalize bldB (.ptr 1 0 0 1) (t ++ lnL l).length = B1 at *
 generalize (lnL l).length = n at *
 generalize byt (t ++ lnL l) = Y at *
 generalize byt t = X at *
 generalize Lib.join l [32] = J at *
 generalize strs l = L at *
 refine vl0 7 [] Tryz.func48 rfl rfl rfl (by simp) ?_
 intro s ⟨a0, a1, hz⟩
 simp only [Nat.zero_add, Nat.reduceAdd] at a1
 clear hz
 repeat' (first|refine nav ?_|(refine g0_ ?_; refine goD ?_)|with_reducible refine gG ?_ ?_|((with_reducible refine And.intro (fun h => ?_) (fun h => ?_)) <;> try (exfalso; omega))|with_reducible refine andG ?_|(first|(refine ⟨_, _, (hJ _), ?_⟩)|(refine ⟨_, (hJ _), ?_⟩)|(refine ⟨_, fun _ => (hJ _), ?_⟩)|(refine ⟨_, _, hW, ?_⟩)|(refine ⟨_, hW, ?_⟩)|(refine ⟨_, fun _ => hW, ?_⟩))|simp (disch := try exact discB) only [push_cast, simprocAttr, a0, a1])
end Go.Proofs
namespace Go.Proofs
open Go Go.V
set_option linter.unusedVariables false
set_option linter.unusedSimpArgs false
set_option maxHeartbeats 0
set_option maxRecDepth 100000
theorem vcc9 (m : Nat) : ∀ (l : List Bs), (∀ s ∈ l, s.length ≤ m) → Lib.lens l ≤ l.length * m
 | [], _ => by simp [Lib.lens]
 | x :: r, h => by
  have h1 := h x List.mem_cons_self
  have h2 := vcc9 m r fun s hs => h s (List.mem_cons_of_mem _ hs)
  simp only [Lib.lens, List.map_cons, List.sum_cons, List.length_cons, Nat.succ_mul] at *
  omega
theorem waM9 (m : Nat) (sep : Bs) (l : List Bs) (h : ∀ s ∈ l, s.length ≤ m) : (Lib.join l sep).length ≤ l.length * (m + sep.length) := by
 cases l with
 | nil => simp [Lib.join_nil]
 | cons x r =>
  have h1 := h x List.mem_cons_self
  have h2 := vcc9 m r fun s hs => h s (List.mem_cons_of_mem _ hs)
  rw [Lib.join_cons, List.length_append, Lib.joinTail_length, List.length_cons, Nat.succ_mul, Nat.mul_add, Nat.mul_comm sep.length]
  omega
theorem xdn9 (m : Nat) (l : List Bs) (h : ∀ s ∈ l, s.length ≤ m) : (lnL l).length ≤ l.length * (m + 1) + 2 := by
 have := waM9 m [32] l h
 rw [show ([32] : Bs).length = 1 from rfl] at this
 simp only [lnL, List.length_append, List.length_cons, List.length_nil]
 omega
def eLn (x : GS) (s i : Nat) (e : Edg) : Bs := if e.1 = -1 then [] else lnL [x.sts.getD s [], x.ins.getD i [], [47], x.outs.getD e.2.toNat [], [45, 62], x.sts.getD e.1.toNat []]
def GS.row (x : GS) (s : Nat) : List Edg := (x.rows.getD s ([], none)).1
def rowT (x : GS) (s k : Nat) : Bs := (List.range k).flatMap fun i => eLn x s i ((x.row s).getD i (0, 0))
def waZ9 (x : GS) (s : Nat) : Bs := (List.range s).flatMap fun s => rowT x s (x.row s).length
def xbl9 (x : GS) : Bs := lnL [kMac, x.nm] ++ lnL [kIns, Lib.join x.ins [44, 32]] ++ lnL [km0, Lib.join x.outs [44, 32]] ++ lnL [kSts, Lib.join x.sts [44, 32]]
def vaZ9 (x : GS) : Bs := xbl9 x ++ waZ9 x x.rows.length ++ lnL [kEnd]
theorem kaZ9 (x : GS) (s : Nat) : rowT x s 0 = [] := rfl
theorem xaE9 (x : GS) : waZ9 x 0 = [] := rfl
theorem qba9 (x : GS) (s k : Nat) : rowT x s (k + 1) = rowT x s k ++ eLn x s k ((x.row s).getD k (0, 0)) := by rw [rowT, List.range_succ, List.flatMap_append]; simp [rowT]
theorem waE9 (x : GS) (s : Nat) : waZ9 x (s + 1) = waZ9 x s ++ rowT x s (x.row s).length := by rw [waZ9, List.range_succ, List.flatMap_append]; simp [waZ9]
theorem zcA9 {s : Bs} (h : nmB s = true) : 1 ≤ s.length ∧ s.length ≤ 16 := by
 unfold nmB at h
 rw [Bool.and_eq_true, decide_eq_true_eq, vV0] at h
 obtain ⟨hk, hn⟩ := h.1
 refine ⟨List.length_pos_iff.2 hn, ?_⟩
 unfold tokS at hk
 split at hk
 ·simp only [Prod.mk.injEq] at hk
  obtain ⟨h1, h2, h3⟩ := hk
  rw [← h2]
  unfold wx0 at h1
  split at h1
  ·split at h1
   ·assumption
   ·simp at h1
  ·split at h1 <;> simp at h1
 ·split at hk <;> simp at hk
structure GS.V (x : GS) : Prop where
 m : xi0 x.i x.o x.rows = 0
 ci : (x.ins.length : Int) = x.i
 co : (x.outs.length : Int) = x.o
 cs : x.sts.length = x.rows.length
 nm : ∀ l ∈ x.lists, ∀ s ∈ l, nmB s = true
 nd : ∀ l ∈ x.lists, l.Nodup
theorem chkS_zero {x : GS} : chkS x = 0 ↔ x.V := by
 unfold chkS
 constructor
 ·intro h
  split at h
  ·rename_i q; exact absurd h q
  rename_i h0
  split at h
  ·cases h
  rename_i h1
  split at h
  ·cases h
  rename_i h2
  split at h
  ·cases h
  rename_i h3
  simp only [ne_eq, Classical.not_not] at h0
  simp only [GS.cnt, Bool.or_eq_true, decide_eq_true_eq, not_or, ne_eq, Classical.not_not] at h1
  refine ⟨h0, h1.1.1, h1.1.2, h1.2, fun l hl s hs => ?_, fun l hl => ?_⟩
  ·cases hb : nmB s with
   | true => rfl
   | false =>
    exfalso
    apply h2
    rw [List.any_eq_true]
    exact ⟨l, hl, List.any_eq_true.2 ⟨s, hs, by rw [hb]; rfl⟩⟩
  ·apply Classical.byContradiction
   intro hn
   apply h3
   rw [List.any_eq_true]
   exact ⟨l, hl, by simp [hn]⟩
 ·intro h
  rw [if_neg (by rw [h.m]; simp), if_neg, if_neg, if_neg]
  ·rw [List.any_eq_true]
   rintro ⟨l, hl, h2⟩
   simp [h.nd l hl] at h2
  ·rw [List.any_eq_true]
   rintro ⟨l, hl, h2⟩
   rw [List.any_eq_true] at h2
   obtain ⟨s, hs, h2⟩ := h2
   rw [h.nm l hl s hs] at h2; cases h2
  ·simp [GS.cnt, h.ci, h.co, h.cs]
theorem GS.V.len {x : GS} (h : x.V) : (∀ s ∈ x.ins, s.length ≤ 16) ∧ (∀ s ∈ x.outs, s.length ≤ 16) ∧ (∀ s ∈ x.sts, s.length ≤ 16) ∧ x.nm.length ≤ 16 := by
 have key : ∀ l ∈ x.lists, ∀ s ∈ l, s.length ≤ 16 := fun l hl s hs => (zcA9 (h.nm l hl s hs)).2
 exact ⟨key _ (by simp [GS.lists]), key _ (by simp [GS.lists]), key _ (by simp [GS.lists]), key [x.nm] (by simp [GS.lists]) _ (by simp)⟩
theorem xav9 {l : List Bs} (h : ∀ s ∈ l, s.length ≤ 16) (k : Nat) : (l.getD k []).length ≤ 16 := by
 rcases Nat.lt_or_ge k l.length with q|q
 ·exact h _ (qv0 [] q)
 ·rw [List.getD_eq_getElem?_getD, List.getElem?_eq_none q]; simp
theorem qcG9 {x : GS} (h : x.V) (s i : Nat) (e : Edg) : (eLn x s i e).length ≤ 104 := by
 obtain ⟨h1, h2, h3, _⟩ := h.len
 unfold eLn
 split
 ·simp
 ·refine Nat.le_trans (xdn9 16 _ fun s hs => ?_) (by simp)
  simp only [List.mem_cons, List.not_mem_nil, or_false] at hs
  rcases hs with rfl|rfl|rfl|rfl|rfl|rfl
  ·exact xav9 h3 _
  ·exact xav9 h1 _
  ·decide
  ·exact xav9 h2 _
  ·decide
  ·exact xav9 h3 _
theorem wbl9 {x : GS} (h : x.V) (s : Nat) : ∀ k, (rowT x s k).length ≤ k * 104
 | 0 => by simp [kaZ9]
 | k + 1 => by
  have := wbl9 h s k
  have := qcG9 h s k ((x.row s).getD k (0, 0))
  rw [qba9, List.length_append]; omega
theorem vaM9 {x : GS} (h : x.V) : ∀ s, s ≤ x.rows.length → (waZ9 x s).length ≤ s * 1664
 | 0, _ => by simp [xaE9]
 | s + 1, hs => by
  have h1 := vaM9 h s (by omega)
  have h2 := wbl9 h s (x.row s).length
  have h3 := (zn0 h.m).2.2.2.1 s (by omega)
  have h4 := (zn0 h.m).1.2
  have h5 : (x.row s).length ≤ 16 := by unfold GS.row; omega
  rw [waE9, List.length_append]
  omega
theorem kaM9 (a b : Bs) (m : Nat) (ha : a.length ≤ 8) (hb : b.length ≤ m) : (lnL [a, b]).length ≤ m + 11 := by
 have : Lib.join [a, b] [32] = a ++ ([32] ++ b) := by rw [Lib.join_cons]; simp [Lib.joinTail]
 rw [lnL, this]
 simp only [List.length_append, List.length_cons, List.length_nil]; omega
theorem qB0 {l : List Bs} (h : ∀ s ∈ l, s.length ≤ 16) (n : Nat) (hn : l.length ≤ n) : (Lib.join l [44, 32]).length ≤ n * 18 := Nat.le_trans (waM9 16 [44, 32] l h) (Nat.mul_le_mul_right _ hn)
theorem GS.V.cnts {x : GS} (h : x.V) : x.ins.length ≤ 16 ∧ x.outs.length ≤ 16 ∧ x.sts.length ≤ 64 ∧ 1 ≤ x.ins.length ∧ 1 ≤ x.outs.length ∧ 1 ≤ x.sts.length := by
 have := zn0 h.m
 have := h.ci; have := h.co; have := h.cs
 omega
end Go.Proofs
namespace Go.Proofs
open Go Go.V
set_option linter.unusedVariables false
set_option linter.unusedSimpArgs false
set_option maxHeartbeats 0
set_option maxRecDepth 100000
def bigT (t : Bs) : Bool := decide (65536 < t.length)
def xcX9 (x : GS) : AV := if chkS x = 0 then (if bigT (vaZ9 x) = true then .tup [.str [], .int .i64 3] else .tup [.str (vaZ9 x), .int .i64 0]) else .tup [.str [], .int .i64 (chkS x)]
theorem vbt9 (p : Nat → Bool) (s : Bs) : idsE p (byt s) = true := xy0 _ _ fun x => by simp [idsL, AV.ids]
theorem xcA9 (x : GS) : vaZ9 x ≠ [] := by simp [vaZ9, lnL]
theorem wdJ9 (t : Bs) (B0 : Blk) (K : List Blk) : ka0 Tryz.prog G0 51 [.ptr 1 0 0 1] (B0 :: bldB (.ptr 1 0 0 1) t.length :: .row 1 5 (byt t) :: K) (.int .i64 t.length) (B0 :: bldB (.ptr 1 0 0 1) t.length :: .row 1 5 (byt t) :: K) := by
 unfold bldB
 refine vl0 8 [.tmp 2] Tryz.func51 rfl rfl rfl (by simp) ?_
 intro s ⟨a0, hz⟩
 clear hz
 repeat' (first|refine nav ?_|(refine g0_ ?_; refine goD ?_)|with_reducible refine gG ?_ ?_|((with_reducible refine And.intro (fun h => ?_) (fun h => ?_)) <;> try (exfalso; omega))|with_reducible refine andG ?_|simp (disch := try exact discB) only [push_cast, simprocAttr, a0, wv0])
def tS (x : GS) (s : Nat) : Bs := xbl9 x ++ waZ9 x s
def tR (x : GS) (s k : Nat) : Bs := tS x s ++ rowT x s k
theorem wcX9 (x : GS) : xbl9 x = tS x 0 := by simp [tS, xaE9]
theorem vcX9 (x : GS) (s : Nat) : tS x s = tR x s 0 := by simp [tR, kaZ9]
theorem wdn9 (x : GS) (s : Nat) : tR x s (x.row s).length = tS x (s + 1) := by rw [tR, tS, tS, waE9, List.append_assoc]
theorem kcX9 (x : GS) (s k : Nat) : tR x s (k + 1) = tR x s k ++ eLn x s k ((x.row s).getD k (0, 0)) := by rw [tR, tR, qba9, List.append_assoc]
theorem vdJ9 {x : GS} (h : x.V) (hh : (xbl9 x).length ≤ 2000) (s k : Nat) (hs : s < x.rows.length) (hk : k ≤ (x.row s).length) : (tR x s k).length ≤ 200000 := by
 have h1 := vaM9 h s (by omega)
 have h2 := wbl9 h s k
 have h3 := (zn0 h.m).2.2.2.1 s hs
 have h4 := (zn0 h.m).1.2
 have h6 := (zn0 h.m).2.2.1.2
 have h5 : (x.row s).length ≤ 16 := by unfold GS.row; omega
 rw [tR, tS, List.length_append, List.length_append]
 omega
theorem vdn9 (x : GS) (hx : x.Ok) : PC Tryz.prog G0 14 [.agg x.A] (xcX9 x) := by
 have hc := kad9 x hx
 unfold xcX9
 by_cases h0 : chkS x = 0
 rotate_left
 ·rw [if_neg h0]
  have hid := fun p => vD0 p x
  unfold GS.A at *
  generalize chkS x = m at *
  refine vb0 0 92 [.tmp 2, .tmp 3] Tryz.func14 rfl rfl rfl (by simp) ?_
  intro s ⟨a0, hz⟩
  clear hz
  repeat' (first|refine nav ?_|(refine g0_ ?_; refine goD ?_)|with_reducible refine gG ?_ ?_|((with_reducible refine And.intro (fun h => ?_) (fun h => ?_)) <;> try (exfalso; omega))|with_reducible refine andG ?_|(first|(refine ⟨_, _, pc_lift hc (by simp [idsL, idsE, AV.ids, hid]) _, ?_⟩)|(refine ⟨_, pc_lift hc (by simp [idsL, idsE, AV.ids, hid]) _, ?_⟩)|(refine ⟨_, fun _ => pc_lift hc (by simp [idsL, idsE, AV.ids, hid]) _, ?_⟩))|simp (disch := try exact discB) only [push_cast, simprocAttr, a0])
 ·rw [if_pos h0]
  rw [h0] at hc
  have hv := chkS_zero.1 h0
  obtain ⟨l1, l2, l3, l4, l5, l6⟩ := hv.cnts
  obtain ⟨n1, n2, n3, n4⟩ := hv.len
  have hm := zn0 hv.m
  have hz0 : x.zr = 1 := hx.r.resolve_left (by intro e; have := hm.2.2.1.1; rw [e] at this; simp at this)
  have hz1 : x.zi = 1 := hx.i.resolve_left (by intro e; rw [e] at l4; simp at l4)
  have hz2 : x.zo = 1 := hx.o.resolve_left (by intro e; rw [e] at l5; simp at l5)
  have hz3 : x.zs = 1 := hx.s.resolve_left (by intro e; rw [e] at l6; simp at l6)
  have hid := fun p => vD0 p x
  have hJ1 := fun H => vaY9 H (.sl 1 (strs x.ins) x.ci) x.ins [44, 32] (.inl ⟨_, rfl⟩) (by have := qB0 n1 16 l1; omega) (by omega)
  have hJ2 := fun H => vaY9 H (.sl 1 (strs x.outs) x.co) x.outs [44, 32] (.inl ⟨_, rfl⟩) (by have := qB0 n2 16 l2; omega) (by omega)
  have hJ3 := fun H => vaY9 H (.sl 1 (strs x.sts) x.cs) x.sts [44, 32] (.inl ⟨_, rfl⟩) (by have := qB0 n3 64 l3; omega) (by omega)
  have b1 := qB0 n1 16 l1
  have b2 := qB0 n2 16 l2
  have b3 := qB0 n3 64 l3
  have c0 := kaM9 kMac x.nm 16 (by decide) n4
  have c1 := kaM9 kIns (Lib.join x.ins [44, 32]) 288 (by decide) b1
  have c2 := kaM9 km0 (Lib.join x.outs [44, 32]) 288 (by decide) b2
  have c3 := kaM9 kSts (Lib.join x.sts [44, 32]) 1152 (by decide) b3
  have hl0 := zaE9 [kMac, x.nm] (some 2) [] (.row 7 27 [x.A]) (bldB (.lit (.pointer none)) 0) [] (by simp) (by omega) (by simp) (.inr ⟨rfl, rfl⟩)
  have hl1 := zaE9 [kIns, Lib.join x.ins [44, 32]] (some 2) (lnL [kMac, x.nm]) (.row 7 27 [x.A]) _ [] (by simp) (by omega) (by omega) (.inl rfl)
  have hl2 := zaE9 [km0, Lib.join x.outs [44, 32]] (some 2) (lnL [kMac, x.nm] ++ lnL [kIns, Lib.join x.ins [44, 32]]) (.row 7 27 [x.A]) _ [] (by simp) (by omega) (by rw [List.length_append]; omega) (.inl rfl)
  have hl3 := zaE9 [kSts, Lib.join x.sts [44, 32]] (some 2) (lnL [kMac, x.nm] ++ lnL [kIns, Lib.join x.ins [44, 32]] ++ lnL [km0, Lib.join x.outs [44, 32]]) (.row 7 27 [x.A]) _ [] (by simp) (by omega) (by rw [List.length_append, List.length_append]; omega) (.inl rfl)
  rw [List.nil_append] at hl0
  have hh : (xbl9 x).length ≤ 2000 := by simp only [xbl9, List.length_append]; omega
  have hhd : lnL [kMac, x.nm] ++ lnL [kIns, Lib.join x.ins [44, 32]] ++ lnL [km0, Lib.join x.outs [44, 32]] ++ lnL [kSts, Lib.join x.sts [44, 32]] = xbl9 x := rfl
  rw [hhd] at hl3
  have e0 : strs [kMac, x.nm] = [[.str [109, 97, 99, 104, 105, 110, 101]], [.str x.nm]] := rfl
  have e1 : strs [kIns, Lib.join x.ins [44, 32]] = [[.str [105, 110, 112, 117, 116, 115]], [.str (Lib.join x.ins [44, 32])]] := rfl
  have e2 : strs [km0, Lib.join x.outs [44, 32]] = [[.str [111, 117, 116, 112, 117, 116, 115]], [.str (Lib.join x.outs [44, 32])]] := rfl
  have e3 : strs [kSts, Lib.join x.sts [44, 32]] = [[.str [115, 116, 97, 116, 101, 115]], [.str (Lib.join x.sts [44, 32])]] := rfl
  rw [e0] at hl0
  rw [e1] at hl1
  rw [e2] at hl2
  rw [e3] at hl3
  have hbyt : byt [] = [] := rfl
  rw [hbyt] at hl0
  unfold bldB at hl0 hl1 hl2 hl3
  unfold GS.A at *
  rw [hz0, hz1, hz2, hz3] at hc hl0 hl1 hl2 hl3 ⊢
  clear c0 c1 c2 c3 b1 b2 b3 hhd e0 e1 e2 e3
  generalize lnL [kMac, x.nm] ++ lnL [kIns, Lib.join x.ins [44, 32]] ++ lnL [km0, Lib.join x.outs [44, 32]] = T3 at *
  generalize lnL [kMac, x.nm] ++ lnL [kIns, Lib.join x.ins [44, 32]] = T2 at *
  generalize lnL [kMac, x.nm] = T1 at *
  have hi1 : ∀ p, idsE p (vd0 x.rows) = true := fun p => zf0 p _
  have hi2 : ∀ p, idsE p (strs x.ins) = true := fun p => za0 p _
  have hi3 : ∀ p, idsE p (strs x.outs) = true := fun p => za0 p _
  have hi4 : ∀ p, idsE p (strs x.sts) = true := fun p => za0 p _
  have hlR := xG0 x.rows
  refine vb0 0 92 [.tmp 2, .tmp 3] Tryz.func14 rfl rfl rfl (by simp) ?_
  intro s ⟨a0, hz⟩
  clear hz
  repeat' (first|(first|(with_reducible refine kb0 (p := [0, 1, 1, 1]) ?_)|refine nav ?_|(refine g0_ ?_; first|refine goD ?_))|with_reducible refine gG ?_ ?_|((with_reducible refine And.intro (fun h => ?_) (fun h => ?_)) <;> try (exfalso; omega))|with_reducible refine andG ?_|(first|(refine ⟨_, _, pc_lift hc (by simp [idsL, idsE, AV.ids, hid, hi1, hi2, hi3, hi4]) _, ?_⟩)|(refine ⟨_, pc_lift hc (by simp [idsL, idsE, AV.ids, hid, hi1, hi2, hi3, hi4]) _, ?_⟩)|(refine ⟨_, fun _ => pc_lift hc (by simp [idsL, idsE, AV.ids, hid, hi1, hi2, hi3, hi4]) _, ?_⟩)|(refine ⟨_, _, (hJ1 _), ?_⟩)|(refine ⟨_, (hJ1 _), ?_⟩)|(refine ⟨_, fun _ => (hJ1 _), ?_⟩)|(refine ⟨_, _, (hJ2 _), ?_⟩)|(refine ⟨_, (hJ2 _), ?_⟩)|(refine ⟨_, fun _ => (hJ2 _), ?_⟩)|(refine ⟨_, _, (hJ3 _), ?_⟩)|(refine ⟨_, (hJ3 _), ?_⟩)|(refine ⟨_, fun _ => (hJ3 _), ?_⟩)|(refine ⟨_, _, hl0, ?_⟩)|(refine ⟨_, hl0, ?_⟩)|(refine ⟨_, fun _ => hl0, ?_⟩)|(refine ⟨_, _, hl1, ?_⟩)|(refine ⟨_, hl1, ?_⟩)|(refine ⟨_, fun _ => hl1, ?_⟩)|(refine ⟨_, _, hl2, ?_⟩)|(refine ⟨_, hl2, ?_⟩)|(refine ⟨_, fun _ => hl2, ?_⟩)|(refine ⟨_, _, hl3, ?_⟩)|(refine ⟨_, hl3, ?_⟩)|(refine ⟨_, fun _ => hl3, ?_⟩))|simp (disch := try exact discB) only [push_cast, simprocAttr, a0, en48])
  refine Halt.mk ?_
  refine vaa9 (by first|exact xb0|fail) (qC0 (b := 1) (i := 0) (j := 1) (sz := 1) (ty := 5) rfl rfl rfl) ?_
  repeat' (first|refine nav ?_|(refine g0_ ?_; refine goD ?_)|with_reducible refine gG ?_ ?_|((with_reducible refine And.intro (fun h => ?_) (fun h => ?_)) <;> try (exfalso; omega))|with_reducible refine andG ?_|(first|(refine ⟨_, _, pc_lift hc (by simp [idsL, idsE, AV.ids, hid, hi1, hi2, hi3, hi4]) _, ?_⟩)|(refine ⟨_, pc_lift hc (by simp [idsL, idsE, AV.ids, hid, hi1, hi2, hi3, hi4]) _, ?_⟩)|(refine ⟨_, fun _ => pc_lift hc (by simp [idsL, idsE, AV.ids, hid, hi1, hi2, hi3, hi4]) _, ?_⟩)|(refine ⟨_, _, (hJ1 _), ?_⟩)|(refine ⟨_, (hJ1 _), ?_⟩)|(refine ⟨_, fun _ => (hJ1 _), ?_⟩)|(refine ⟨_, _, (hJ2 _), ?_⟩)|(refine ⟨_, (hJ2 _), ?_⟩)|(refine ⟨_, fun _ => (hJ2 _), ?_⟩)|(refine ⟨_, _, (hJ3 _), ?_⟩)|(refine ⟨_, (hJ3 _), ?_⟩)|(refine ⟨_, fun _ => (hJ3 _), ?_⟩)|(refine ⟨_, _, hl0, ?_⟩)|(refine ⟨_, hl0, ?_⟩)|(refine ⟨_, fun _ => hl0, ?_⟩)|(refine ⟨_, _, hl1, ?_⟩)|(refine ⟨_, hl1, ?_⟩)|(refine ⟨_, fun _ => hl1, ?_⟩)|(refine ⟨_, _, hl2, ?_⟩)|(refine ⟨_, hl2, ?_⟩)|(refine ⟨_, fun _ => hl2, ?_⟩)|(refine ⟨_, _, hl3, ?_⟩)|(refine ⟨_, hl3, ?_⟩)|(refine ⟨_, fun _ => hl3, ?_⟩))|simp (disch := try exact discB) only [push_cast, simprocAttr, a0, en48])
  have hT0 := wcX9 x
  rw [hT0] at *
  refine go_loop rfl (fun mz s' H' => ∃ s : Nat, s ≤ x.rows.length ∧ mz = x.rows.length - s ∧ H' = [.row 7 27 [[.str x.nm, .int .i64 x.i, .int .i64 x.o, .sl 1 (vd0 x.rows) x.cr, .sl 1 (strs x.ins) x.ci, .sl 1 (strs x.outs) x.co, .sl 1 (strs x.sts) x.cs]], .row 2 89 [[.ptr 1 0 0 1, .own 2 (tS x s).length (tS x s).length none]], .row 1 5 (byt (tS x s))] ∧ s' 1 = .ptr 0 0 0 1 ∧ s' 5 = .ptr 1 0 0 1 ∧ s' 6 = .fn 48 [.ptr 1 0 0 1] ∧ s' 42 = .sl 1 (vd0 x.rows) x.cr ∧ s' 43 = .int .i64 x.rows.length ∧ s' 44 = .int .i64 s) (m := x.rows.length) (by first|exact xb0|fail) (Weak.refl _ _) ⟨0, by omega, by omega, rfl, ?_⟩ ?_
  ·simp (disch := try exact discB) only [push_cast, simprocAttr, a0, en48]
  ·rintro mz s' H' ⟨s, hs, rfl, rfl, b1, b5, b6, b42, b43, b44⟩
   rcases Nat.lt_or_ge s x.rows.length with hlt|hge
   ·have e1 := vq0 x.rows s hlt
    have hw := hm.2.2.2.1 s hlt
    have hfit := hm.2.2.2.2 s hlt
    have hRl := wdn9 x s
    have hRs := kcX9 x s
    have hRb := fun k hk => vdJ9 hv hh s k hlt hk
    rw [vcX9 x s]
    unfold GS.row at hRl hRs hRb
    generalize (x.rows.getD s ([], none)).2 = cr at *
    generalize (x.rows.getD s ([], none)).1 = r at *
    have hrl := zg0 r
    repeat' (first|refine nav ?_|(refine g0_ ?_; refine goD ?_)|with_reducible refine gG ?_ ?_|((with_reducible refine And.intro (fun h => ?_) (fun h => ?_)) <;> try (exfalso; omega))|with_reducible refine andG ?_|simp (disch := try exact discB) only [push_cast, simprocAttr, b1, b5, b6, b42, b43, b44, e1, hlR, hrl])
    refine go_loop rfl (fun mz s' H' => ∃ k : Nat, k ≤ r.length ∧ mz = r.length - k ∧ H' = [.row 7 27 [[.str x.nm, .int .i64 x.i, .int .i64 x.o, .sl 1 (vd0 x.rows) x.cr, .sl 1 (strs x.ins) x.ci, .sl 1 (strs x.outs) x.co, .sl 1 (strs x.sts) x.cs]], .row 2 89 [[.ptr 1 0 0 1, .own 2 (tR x s k).length (tR x s k).length none]], .row 1 5 (byt (tR x s k))] ∧ s' 1 = .ptr 0 0 0 1 ∧ s' 5 = .ptr 1 0 0 1 ∧ s' 6 = .fn 48 [.ptr 1 0 0 1] ∧ s' 42 = .sl 1 (vd0 x.rows) x.cr ∧ s' 43 = .int .i64 x.rows.length ∧ s' 44 = .int .i64 s ∧ s' 7 = .int .i64 s ∧ s' 49 = .sl 2 (rowA r) cr ∧ s' 50 = .int .i64 r.length ∧ s' 51 = .int .i64 k) (m := r.length) (by first|exact xb0|fail) (Weak.refl _ _) ⟨0, by omega, by omega, rfl, ?_⟩ ?_
    ·simp (disch := try exact discB) only [push_cast, simprocAttr, b1, b5, b6, b42, b43, b44, e1, hlR, hrl]
    ·clear b1 b5 b6 b42 b43 b44
     rintro mz s' H' ⟨k, hk, rfl, rfl, b1, b5, b6, b42, b43, b44, b7, b49, b50, b51⟩
     rcases Nat.lt_or_ge k r.length with hlt3|hge3
     ·have e3 := kl0 r k hlt3
      have hsc := hRs k
      have hb := hRb k (by omega)
      have hf1 := fitE_iff.1 (List.all_eq_true.1 hfit _ (qv0 (0, 0) hlt3))
      generalize r.getD k (0, 0) = e at *
      obtain ⟨t1, o1⟩ := e
      simp only [eA] at e3
      simp only [Prod.mk.injEq] at hf1
      by_cases ht : t1 = -1
      ·subst ht
       rw [eLn, if_pos rfl, List.append_nil] at hsc
       repeat' (first|(first|refine nav ?_|(refine g0_ ?_; first|refine qap9 (dr := exQ [59] []) rfl rfl mixed (by first|assumption|kernel_rfl) ?_|refine goD ?_))|with_reducible refine gG ?_ ?_|((with_reducible refine And.intro (fun h => ?_) (fun h => ?_)) <;> try (exfalso; omega))|with_reducible refine andG ?_|simp (disch := try exact discB) only [push_cast, simprocAttr, b1, b5, b6, b42, b43, b44, b7, b49, b50, b51, e3, hrl])
       rw [← hsc]
       refine wg0 (r.length - (k + 1)) 3 (by omega) (by first|exact xb0|fail) (by omega) (by simp) (by simp [Blk.below, idsE, idsL, AV.ids, hid, hi1, hi2, hi3, hi4, vbt9]) ⟨k + 1, by omega, rfl, rfl, ?_⟩
       simp (disch := try exact discB) only [push_cast, simprocAttr, b1, b5, b6, b42, b43, b44, b7, b49, b50, b51, e3, hrl]
       simp [ko0, AV.ids, idsL, hi1, qm0]
      ·rcases hf1 with ⟨q, _⟩|⟨q1, q2, q3, q4⟩
       ·exact absurd q ht
       obtain ⟨tn, rfl⟩ : ∃ n : Nat, t1 = n := ⟨t1.toNat, by omega⟩
       obtain ⟨on, rfl⟩ : ∃ n : Nat, o1 = n := ⟨o1.toNat, by omega⟩
       rw [eLn, if_neg ht, Int.toNat_natCast, Int.toNat_natCast] at hsc
       have hll := qcG9 hv s k ((tn : Int), (on : Int))
       rw [eLn, if_neg ht, Int.toNat_natCast, Int.toNat_natCast] at hll
       have hcs := hv.cs
       have hci := hv.ci
       have hco := hv.co
       have hc59 : ([59] : List Nat).contains 59 = true := rfl
       have g1 := qg0 x.sts s (by omega)
       have g2 := qg0 x.ins k (by omega)
       have g3 := qg0 x.outs on (by omega)
       have g4 := qg0 x.sts tn (by omega)
       have hL := zaE9 [x.sts.getD s [], x.ins.getD k [], [47], x.outs.getD on [], [45, 62], x.sts.getD tn []] (some 6) (tR x s k) (.row 7 27 [[.str x.nm, .int .i64 x.i, .int .i64 x.o, .sl 1 (vd0 x.rows) x.cr, .sl 1 (strs x.ins) x.ci, .sl 1 (strs x.outs) x.co, .sl 1 (strs x.sts) x.cs]]) _ [.row 2 70 [[.int .i64 (tn : Int), .int .i64 (on : Int)]]] (by simp) (by omega) (by omega) (.inl rfl)
       rw [← hsc] at hL
       rw [show strs [x.sts.getD s [], x.ins.getD k [], [47], x.outs.getD on [], [45, 62], x.sts.getD tn []] = [[.str (x.sts.getD s [])], [.str (x.ins.getD k [])], [.str [47]], [.str (x.outs.getD on [])], [.str [45, 62]], [.str (x.sts.getD tn [])]] from rfl] at hL
       unfold bldB at hL
       have hls := xa0 x.sts
       have hli := xa0 x.ins
       have hlo := xa0 x.outs
       generalize x.sts.getD s [] = S1 at *
       generalize x.ins.getD k [] = S2 at *
       generalize x.outs.getD on [] = S3 at *
       generalize x.sts.getD tn [] = S4 at *
       repeat' (first|(first|refine nav ?_|(refine g0_ ?_; first|refine qap9 (dr := exQ [59] []) rfl rfl mixed (by first|assumption|kernel_rfl) ?_|refine goD ?_))|with_reducible refine gG ?_ ?_|((with_reducible refine And.intro (fun h => ?_) (fun h => ?_)) <;> try (exfalso; omega))|with_reducible refine andG ?_|(first|(refine ⟨_, _, hL, ?_⟩)|(refine ⟨_, hL, ?_⟩)|(refine ⟨_, fun _ => hL, ?_⟩))|simp (disch := try exact discB) only [push_cast, simprocAttr, b1, b5, b6, b42, b43, b44, b7, b49, b50, b51, e3, hrl, g1, g2, g3, g4, hls, hli, hlo, ht, hc59])
       refine wg0 (r.length - (k + 1)) 3 (by omega) (by first|exact xb0|fail) (by omega) (by simp) (by simp [Blk.below, idsE, idsL, AV.ids, hid, hi1, hi2, hi3, hi4, vbt9]) ⟨k + 1, by omega, rfl, rfl, ?_⟩
       simp (disch := try exact discB) only [push_cast, simprocAttr, b1, b5, b6, b42, b43, b44, b7, b49, b50, b51, e3, hrl, g1, g2, g3, g4, hls, hli, hlo, ht, hc59]
       simp [ko0, AV.ids, idsL, hi1, qm0]
     ·obtain rfl : k = r.length := by omega
      repeat' (first|(first|refine nav ?_|(refine g0_ ?_; first|refine qap9 (dr := exQ [59] []) rfl rfl mixed (by first|assumption|kernel_rfl) ?_|refine goD ?_))|with_reducible refine gG ?_ ?_|((with_reducible refine And.intro (fun h => ?_) (fun h => ?_)) <;> try (exfalso; omega))|with_reducible refine andG ?_|(first|(refine ⟨_, _, hL, ?_⟩)|(refine ⟨_, hL, ?_⟩)|(refine ⟨_, fun _ => hL, ?_⟩))|simp (disch := try exact discB) only [push_cast, simprocAttr, b1, b5, b6, b42, b43, b44, b7, b49, b50, b51, hrl])
      rw [hRl]
      refine wa0 (x.rows.length - (s + 1)) (by omega) (by first|exact xb0|fail) ⟨s + 1, by omega, rfl, rfl, ?_⟩
      simp (disch := try exact discB) only [push_cast, simprocAttr, b1, b5, b6, b42, b43, b44, b7, b49, b50, b51, hrl]
   ·obtain rfl : s = x.rows.length := by omega
    have hTl : (tS x x.rows.length).length ≤ 200000 := by
     have := vaM9 hv x.rows.length (Nat.le_refl _)
     rw [tS, List.length_append]; omega
    have htx : vaZ9 x = tS x x.rows.length ++ lnL [kEnd] := rfl
    have hLE := zaE9 [kEnd] (some 1) (tS x x.rows.length) (.row 7 27 [[.str x.nm, .int .i64 x.i, .int .i64 x.o, .sl 1 (vd0 x.rows) x.cr, .sl 1 (strs x.ins) x.ci, .sl 1 (strs x.outs) x.co, .sl 1 (strs x.sts) x.cs]]) _ [] (by simp) (by decide) (by omega) (.inl rfl)
    rw [← htx] at hLE
    rw [show strs [kEnd] = [[.str [101, 110, 100]]] from rfl] at hLE
    have hlen := wdJ9 (vaZ9 x) (.row 7 27 [[.str x.nm, .int .i64 x.i, .int .i64 x.o, .sl 1 (vd0 x.rows) x.cr, .sl 1 (strs x.ins) x.ci, .sl 1 (strs x.outs) x.co, .sl 1 (strs x.sts) x.cs]]) []
    have hstr := qcA9 (vaZ9 x) (.row 7 27 [[.str x.nm, .int .i64 x.i, .int .i64 x.o, .sl 1 (vd0 x.rows) x.cr, .sl 1 (strs x.ins) x.ci, .sl 1 (strs x.outs) x.co, .sl 1 (strs x.sts) x.cs]]) (xcA9 x) (by rw [htx, List.length_append, show (lnL [kEnd]).length = 5 from rfl]; omega)
    unfold bldB at hLE hlen hstr
    generalize vaZ9 x = T at *
    unfold bigT
    repeat' (first|(first|refine nav ?_|(refine g0_ ?_; first|refine qap9 (dr := exQ [59] []) rfl rfl mixed (by first|assumption|kernel_rfl) ?_|refine goD ?_))|with_reducible refine gG ?_ ?_|((with_reducible refine And.intro (fun h => ?_) (fun h => ?_)) <;> try (exfalso; omega))|with_reducible refine andG ?_|(first|(refine ⟨_, _, hLE, ?_⟩)|(refine ⟨_, hLE, ?_⟩)|(refine ⟨_, fun _ => hLE, ?_⟩)|(refine ⟨_, _, hlen, ?_⟩)|(refine ⟨_, hlen, ?_⟩)|(refine ⟨_, fun _ => hlen, ?_⟩)|(refine ⟨_, _, hstr, ?_⟩)|(refine ⟨_, hstr, ?_⟩)|(refine ⟨_, fun _ => hstr, ?_⟩))|simp (disch := try exact discB) only [push_cast, simprocAttr, b1, b5, b6, b42, b43, b44, hlR])
    ·rw [if_pos (by omega)]
     simp (disch := try exact discB) only [push_cast, simprocAttr, b1, b5, b6, b42, b43, b44, hlR]
    ·rw [if_neg (by omega)]
     simp (disch := try exact discB) only [push_cast, simprocAttr, b1, b5, b6, b42, b43, b44, hlR]
end Go.Proofs

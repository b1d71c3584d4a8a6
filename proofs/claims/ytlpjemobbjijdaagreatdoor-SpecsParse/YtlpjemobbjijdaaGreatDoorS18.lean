import Derived.Test.YtlpjemobbjijdaaGreatDoorS17
namespace Go.Proofs
open Go Go.V
set_option linter.unusedVariables false
set_option linter.unusedSimpArgs false
set_option maxHeartbeats 0
set_option maxRecDepth 100000
structure GS where
 nm : Bs
 i : Int
 o : Int
 zr : Nat
 rows : List Row
 cr : Option Nat
 zi : Nat
 ins : List Bs
 ci : Option Nat
 zo : Nat
 outs : List Bs
 co : Option Nat
 zs : Nat
 sts : List Bs
 cs : Option Nat
def GS.A (x : GS) : List AV := [.str x.nm, .int .i64 x.i, .int .i64 x.o, .sl x.zr (vd0 x.rows) x.cr, .sl x.zi (strs x.ins) x.ci, .sl x.zo (strs x.outs) x.co, .sl x.zs (strs x.sts) x.cs]
def GS.lists (x : GS) : List (List Bs) := [[x.nm], x.ins, x.outs, x.sts]
structure GS.Ok (x : GS) : Prop where
 r : x.rows = [] ∨ x.zr = 1
 i : x.ins = [] ∨ x.zi = 1
 o : x.outs = [] ∨ x.zo = 1
 s : x.sts = [] ∨ x.zs = 1
 lr : x.rows.length ≤ 1000000
 lw : ∀ j, j < x.rows.length → (x.rows.getD j ([], none)).1.length ≤ 1000000
 li : x.ins.length ≤ 1000000
 lo : x.outs.length ≤ 1000000
 ls : x.sts.length ≤ 1000000
 nm : ∀ l ∈ x.lists, ∀ s ∈ l, s.length ≤ 60000
def GS.cnt (x : GS) : Bool := decide ((x.ins.length : Int) ≠ x.i) || decide ((x.outs.length : Int) ≠ x.o) || decide (x.sts.length ≠ x.rows.length)
def chkS (x : GS) : Int := if xi0 x.i x.o x.rows ≠ 0 then xi0 x.i x.o x.rows else if x.cnt = true then 16 else if (x.lists.any fun l => l.any fun s => !nmB s) = true then 10 else if (x.lists.any fun l => !decide l.Nodup) = true then 8 else 0
theorem vD0 (p : Nat → Bool) (x : GS) : idsL p x.A = true := by simp [GS.A, idsL, AV.ids]
def lsA (x : GS) : List (List AV) := [[.sl 1 (strs [x.nm]) (some 1)], [.sl 1 (strs x.ins) x.ci], [.sl 1 (strs x.outs) x.co], [.sl 1 (strs x.sts) x.cs]]
def lsC (x : GS) (k : Nat) : Option Nat := match k with|0 => some 1|1 => x.ci|2 => x.co|_ => x.cs
theorem xcc9 (x : GS) (k : Nat) (h : k < 4) : (lsA x).getD k [] = [.sl 1 (strs (x.lists.getD k [])) (lsC x k)] := by
 have : k = 0 ∨ k = 1 ∨ k = 2 ∨ k = 3 := by omega
 rcases this with rfl|rfl|rfl|rfl <;> rfl
theorem kW0 {p : List Bs → Bool} {x : GS} {k : Nat} (h : k < 4) (hp : p (x.lists.getD k []) = true) : x.lists.any p = true := by
 rw [List.any_eq_true]
 have hk : k < x.lists.length := h
 exact ⟨_, by rw [List.getD_eq_getElem?_getD, List.getElem?_eq_getElem hk]; exact List.getElem_mem hk, hp⟩
theorem vak9 {p : List Bs → Bool} {x : GS} (h : ∀ k, k < 4 → p (x.lists.getD k []) = false) : x.lists.any p = false := by
 have h0 := h 0 (by omega); have h1 := h 1 (by omega); have h2 := h 2 (by omega); have h3 := h 3 (by omega)
 simp only [GS.lists, List.getD_cons_zero, List.getD_cons_succ] at h0 h1 h2 h3
 simp [GS.lists, h0, h1, h2, h3]
theorem qaE9 {i o : Int} {l : List Row} (h : xi0 i o l = 0) : 1 ≤ i ∧ 1 ≤ o ∧ 1 ≤ l.length ∧ i ≤ 16 ∧ o ≤ 16 ∧ l.length ≤ 64 := by
 unfold xi0 at h
 split at h
 ·omega
 split at h
 ·omega
 omega
theorem xaZ9 {x : GS} {k : Nat} (h : k < 4) : x.lists.getD k [] ∈ x.lists := by
 have hk : k < x.lists.length := h
 rw [List.getD_eq_getElem?_getD, List.getElem?_eq_getElem hk]; exact List.getElem_mem hk
theorem wcc9 {x : GS} (hx : x.Ok) (h1 : 0 < x.ins.length) (h2 : 0 < x.outs.length) (h3 : 0 < x.sts.length) {k : Nat} (h : k < 4) : 0 < (x.lists.getD k []).length ∧ (x.lists.getD k []).length ≤ 1000000 := by
 have := hx.li; have := hx.lo; have := hx.ls
 have : k = 0 ∨ k = 1 ∨ k = 2 ∨ k = 3 := by omega
 rcases this with rfl|rfl|rfl|rfl
 ·exact ⟨Nat.one_pos, by show 1 ≤ 1000000; omega⟩
 ·exact ⟨h1, hx.li⟩
 ·exact ⟨h2, hx.lo⟩
 ·exact ⟨h3, hx.ls⟩
theorem kad9 (x : GS) (hx : x.Ok) : PC Tryz.prog G0 12 [.agg x.A] (.int .i64 (chkS x)) := by
 have hm := zbj9 x.i x.o x.rows x.zr x.cr hx.r hx.lr hx.lw
 have hid := fun p => vD0 p x
 have hlA := xcc9 x
 unfold GS.A at *
 refine vb0 0 77 [.tmp 2] Tryz.func12 rfl rfl rfl (by simp) ?_
 intro s ⟨a0, hz⟩
 clear hz
 repeat' (first|(first|(with_reducible refine kb0 (p := [0, 1, 0, 1, 1, 1, 1]) ?_)|refine nav ?_|(refine g0_ ?_; first|refine goD ?_))|with_reducible refine gG ?_ ?_|((with_reducible refine And.intro (fun h => ?_) (fun h => ?_)) <;> try (exfalso; omega))|with_reducible refine andG ?_|(first|(refine ⟨_, _, pc_lift hm (by simp [idsL, idsE, AV.ids]) _, ?_⟩)|(refine ⟨_, pc_lift hm (by simp [idsL, idsE, AV.ids]) _, ?_⟩)|(refine ⟨_, fun _ => pc_lift hm (by simp [idsL, idsE, AV.ids]) _, ?_⟩))|simp (disch := try exact discB) only [push_cast, simprocAttr, a0])
 ·congr 1
  rw [chkS, if_pos h]
 ·rename_i h0
  congr 1
  rw [chkS, if_neg (by rw [h0]; simp), if_pos]
  unfold GS.cnt
  simp only [Bool.or_eq_true, decide_eq_true_eq, ne_eq]
  exact h
 rename_i h0
 have hcnt : x.cnt = false := by
  unfold GS.cnt
  simp only [Bool.or_eq_false_iff, decide_eq_false_iff_not, ne_eq, Classical.not_not]
  exact h
 have hp := qaE9 h0
 have hl1 : 0 < x.ins.length := by omega
 have hl2 : 0 < x.outs.length := by omega
 have hl3 : 0 < x.sts.length := by omega
 have hz1 : x.zi = 1 := hx.i.resolve_left (by intro e; rw [e] at hl1; simp at hl1)
 have hz2 : x.zo = 1 := hx.o.resolve_left (by intro e; rw [e] at hl2; simp at hl2)
 have hz3 : x.zs = 1 := hx.s.resolve_left (by intro e; rw [e] at hl3; simp at hl3)
 rw [hz1, hz2, hz3]
 have hll := fun k (h : k < 4) => wcc9 hx hl1 hl2 hl3 h
 have hnm : ∀ k, k < 4 → ∀ s ∈ x.lists.getD k [], s.length ≤ 1000000 := fun k h s hs => Nat.le_trans (hx.nm _ (xaZ9 h) s hs) (by omega)
 have hLA : lsA x = [[.sl 1 (strs [x.nm]) (some 1)], [.sl 1 (strs x.ins) x.ci], [.sl 1 (strs x.outs) x.co], [.sl 1 (strs x.sts) x.cs]] := rfl
 have hln : (lsA x).length = 4 := rfl
 have hidl : ∀ p, idsE p (lsA x) = true := fun p => by simp [lsA, idsE, idsL, AV.ids]
 have hs1 : strs [x.nm] = [[.str x.nm]] := rfl
 rw [hs1] at hLA
 rw [hLA] at hlA hln hidl
 generalize [[AV.sl 1 [[AV.str x.nm]] (some 1)], [AV.sl 1 (strs x.ins) x.ci], [AV.sl 1 (strs x.outs) x.co], [AV.sl 1 (strs x.sts) x.cs]] = LS at *
 rw [hz1, hz2, hz3] at hid
 generalize hB0 : [AV.str x.nm, AV.int .i64 x.i, AV.int .i64 x.o, AV.sl x.zr (vd0 x.rows) x.cr, AV.sl 1 (strs x.ins) x.ci, AV.sl 1 (strs x.outs) x.co, AV.sl 1 (strs x.sts) x.cs] = B0 at *
 refine Halt.mk ?_
 refine go_loop rfl (fun mz s' H' => ∃ k : Nat, k ≤ 4 ∧ mz = 4 - k ∧ H' = [.row 7 27 [B0]] ∧ s' 1 = .ptr 0 0 0 1 ∧ s' 4 = .sl 1 LS (some 4) ∧ s' 52 = .sl 1 LS (some 4) ∧ s' 53 = .int .i64 4 ∧ s' 54 = .int .i64 k ∧ ∀ j, j < k → ((x.lists.getD j []).any fun s => !nmB s) = false) (m := 4) (by first|exact xb0|fail) (Weak.refl _ _) ⟨0, by omega, by omega, rfl, ?_⟩ ?_
 ·simp (disch := try exact discB) only [push_cast, simprocAttr, Nat.add_zero]
  all_goals exact fun j hj => by omega
 ·rintro mz s' H' ⟨k, hk, rfl, rfl, b1, b4, b52, b53, b54, ik⟩
  rcases Nat.lt_or_ge k 4 with hlt|hge
  ·have e1 := hlA k hlt
   have hc := wM0 (fun s => !nmB s) 39 [] 1 (x.lists.getD k []) (lsC x k) [.row 7 27 [B0]] (.inr rfl) (by kernel_rfl) (fun s hs => pc_lift (zdJ9 s (hnm k hlt s hs)) (by simp [idsL, AV.ids]) _) (hll k hlt).2
   have h10 := fun h => kW0 (x := x) (p := fun l => l.any fun s => !nmB s) hlt h
   have hsn := fun (hb : ((x.lists.getD k []).any fun s => !nmB s) = false) (j : Nat) (hj : j < k + 1) => (by
    rcases Nat.lt_or_ge j k with q|q
    ·exact ik j q
    ·rw [show j = k by omega]; exact hb : ((x.lists.getD j []).any fun s => !nmB s) = false)
   generalize strs (x.lists.getD k []) = L at *
   generalize hb : ((x.lists.getD k []).any fun s => !nmB s) = b at *
   cases b with
   | true =>
    repeat' (first|refine nav ?_|(refine g0_ ?_; refine goD ?_)|with_reducible refine gG ?_ ?_|((with_reducible refine And.intro (fun h => ?_) (fun h => ?_)) <;> try (exfalso; omega))|with_reducible refine andG ?_|(first|(refine ⟨_, _, hc, ?_⟩)|(refine ⟨_, hc, ?_⟩)|(refine ⟨_, fun _ => hc, ?_⟩))|simp (disch := try exact discB) only [push_cast, simprocAttr, b1, b4, b52, b53, b54, e1, hln])
    rw [chkS, if_neg (by rw [h0]; simp), if_neg (by rw [hcnt]; simp), if_pos (h10 rfl)]
   | false =>
    repeat' (first|refine nav ?_|(refine g0_ ?_; refine goD ?_)|with_reducible refine gG ?_ ?_|((with_reducible refine And.intro (fun h => ?_) (fun h => ?_)) <;> try (exfalso; omega))|with_reducible refine andG ?_|(first|(refine ⟨_, _, hc, ?_⟩)|(refine ⟨_, hc, ?_⟩)|(refine ⟨_, fun _ => hc, ?_⟩))|simp (disch := try exact discB) only [push_cast, simprocAttr, b1, b4, b52, b53, b54, e1, hln])
    refine wa0 (4 - (k + 1)) (by omega) (by first|exact xb0|fail) ⟨k + 1, by omega, rfl, rfl, ?_⟩
    simp (disch := try exact discB) only [push_cast, simprocAttr, b1, b4, b52, b53, b54, e1, hln]
    exact hsn rfl
  ·obtain rfl : k = 4 := by omega
   have hno := vak9 (p := fun l => l.any fun s => !nmB s) ik
   repeat' (first|refine nav ?_|(refine g0_ ?_; refine goD ?_)|with_reducible refine gG ?_ ?_|((with_reducible refine And.intro (fun h => ?_) (fun h => ?_)) <;> try (exfalso; omega))|with_reducible refine andG ?_|simp (disch := try exact discB) only [push_cast, simprocAttr, b1, b4, b52, b53, b54, hln])
   refine go_loop rfl (fun mz s' H' => ∃ m : Nat, m ≤ 4 ∧ mz = 4 - m ∧ H' = [.row 7 27 [B0]] ∧ s' 1 = .ptr 0 0 0 1 ∧ s' 4 = .sl 1 LS (some 4) ∧ s' 61 = .sl 1 LS (some 4) ∧ s' 62 = .int .i64 4 ∧ s' 63 = .int .i64 m ∧ ∀ j, j < m → (x.lists.getD j []).Nodup) (m := 4) (by first|exact xb0|fail) (Weak.refl _ _) ⟨0, by omega, by omega, rfl, ?_⟩ ?_
   ·simp (disch := try exact discB) only [push_cast, simprocAttr, b1, b4, b52, b53, b54, hln]
    all_goals exact fun j hj => by omega
   ·clear b1 b4
    rintro mz s' H' ⟨m, hm, rfl, rfl, b1, b4, b61, b62, b63, im⟩
    rcases Nat.lt_or_ge m 4 with hlt|hge
    ·have e1 := hlA m hlt
     obtain ⟨hp0, hp1⟩ := hll m hlt
     have hcv := zcz9 1 (x.lists.getD m []) (lsC x m)
     have hcs := wcz9 1 (x.lists.getD m []) (lsC x m) (.inr rfl) hp0 hp1 [.row 7 27 [B0]]
     have hcc := zcc9 1 (x.lists.getD m []) none ([.row 7 27 [B0]] ++ [.row 1 9 (strs (srtB (x.lists.getD m [])))]) rfl hp0 hp1
     have hlt2 := zbD9 (x.lists.getD m [])
     have h8 := fun h => kW0 (x := x) (p := fun l => !decide l.Nodup) hlt h
     have hsn := fun (hb : (x.lists.getD m []).Nodup) (j : Nat) (hj : j < m + 1) => (by
      rcases Nat.lt_or_ge j m with q|q
      ·exact im j q
      ·rw [show j = m by omega]; exact hb : (x.lists.getD j []).Nodup)
     have hSl := xa0 (x.lists.getD m [])
     have hiS : ∀ p, idsE p (strs (x.lists.getD m [])) = true := fun p => za0 _ _
     have hL2 : (strs (cmpL (x.lists.getD m []))).length = (x.lists.getD m []).length := by
      have h1 := waD9 (x.lists.getD m [])
      have h2 := qJ0 (x.lists.getD m [])
      rw [xa0]; simp only [cmpL, List.length_append, List.length_replicate]; omega
     rw [show (Lib.compact (srtB (x.lists.getD m []))).length = cmpK (x.lists.getD m []) from rfl] at hlt2
     generalize strs (srtB (x.lists.getD m [])) = L1 at *
     generalize strs (cmpL (x.lists.getD m [])) = L2 at *
     generalize strs (x.lists.getD m []) = L at *
     generalize x.lists.getD m [] = l at *
     repeat' (first|refine nav ?_|(refine g0_ ?_; refine goD ?_)|with_reducible refine gG ?_ ?_|((with_reducible refine And.intro (fun h => ?_) (fun h => ?_)) <;> try (exfalso; omega))|with_reducible refine andG ?_|(first|(refine ⟨_, _, pc_lift hcv (by simp [idsL, idsE, AV.ids, hiS]) _, ?_⟩)|(refine ⟨_, pc_lift hcv (by simp [idsL, idsE, AV.ids, hiS]) _, ?_⟩)|(refine ⟨_, fun _ => pc_lift hcv (by simp [idsL, idsE, AV.ids, hiS]) _, ?_⟩)|(refine ⟨_, _, hcs, ?_⟩)|(refine ⟨_, hcs, ?_⟩)|(refine ⟨_, fun _ => hcs, ?_⟩)|(refine ⟨_, _, hcc, ?_⟩)|(refine ⟨_, hcc, ?_⟩)|(refine ⟨_, fun _ => hcc, ?_⟩))|simp (disch := try exact discB) only [push_cast, simprocAttr, b1, b4, b61, b62, b63, e1, hln, hSl, hL2])
     ·rename_i h
      rw [chkS, if_neg (by rw [h0]; simp), if_neg (by rw [hcnt]; simp), if_neg (by rw [hno]; simp), if_pos (h8 (by rw [decide_eq_false (hlt2.1 h)]; rfl))]
     ·rename_i h
      have hnd : l.Nodup := Classical.not_not.1 fun q => by have := hlt2.2 q; omega
      refine wg0 (4 - (m + 1)) 1 (by omega) (by first|exact xb0|fail) (by omega) (by simp) (by simp [Blk.below, idsE, idsL, AV.ids, hid]) ⟨m + 1, by omega, rfl, rfl, ?_⟩
      simp (disch := try exact discB) only [push_cast, simprocAttr, b1, b4, b61, b62, b63, e1, hln, hSl, hL2]
      refine ⟨rfl, ?_, ?_, rfl, rfl, hsn hnd⟩ <;> simp [ko0, AV.ids, hidl]
    ·obtain rfl : m = 4 := by omega
     have hno2 := vak9 (p := fun l => !decide l.Nodup) (fun j hj => by rw [decide_eq_true (im j hj)]; rfl)
     repeat' (first|refine nav ?_|(refine g0_ ?_; refine goD ?_)|with_reducible refine gG ?_ ?_|((with_reducible refine And.intro (fun h => ?_) (fun h => ?_)) <;> try (exfalso; omega))|with_reducible refine andG ?_|simp (disch := try exact discB) only [push_cast, simprocAttr, b1, b4, b61, b62, b63, hln])
     rw [chkS, if_neg (by rw [h0]; simp), if_neg (by rw [hcnt]; simp), if_neg (by rw [hno]; simp), if_neg (by rw [hno2]; simp)]
end Go.Proofs

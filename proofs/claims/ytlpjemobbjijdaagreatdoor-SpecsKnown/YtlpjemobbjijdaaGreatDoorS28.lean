import Derived.Test.YtlpjemobbjijdaaGreatDoorS26
namespace Go.Proofs
open Go Go.V
set_option linter.unusedVariables false
set_option linter.unusedSimpArgs false
set_option maxHeartbeats 0
set_option maxRecDepth 100000
def GS.l3 (x : GS) : List (List Bs) := [x.ins, x.outs, x.sts]
structure GS.Big (x : GS) : Prop where
 r : x.rows = [] ∨ x.zr = 1
 i : x.ins = [] ∨ x.zi = 1
 o : x.outs = [] ∨ x.zo = 1
 s : x.sts = [] ∨ x.zs = 1
 lr : x.rows.length ≤ 9223372036854775807
 lw : ∀ j, j < x.rows.length → (x.rows.getD j ([], none)).1.length ≤ 9223372036854775807
 li : x.ins.length ≤ 9223372036854775807
 lo : x.outs.length ≤ 9223372036854775807
 ls : x.sts.length ≤ 9223372036854775807
 ln : x.nm.length ≤ 9223372036854775807
 lm : ∀ l ∈ x.l3, ∀ s ∈ l, s.length ≤ 9223372036854775807
def grA (x : GS) : Bool := decide (70 < x.rows.length) || decide (20 < x.ins.length) || decide (20 < x.outs.length) || decide (70 < x.sts.length) || decide (40 < x.nm.length)
def qep9 (x : GS) : Bool := grA x || (edgesOf x.rows).any (fun r => decide (20 < r.length)) || x.l3.any fun l => l.any fun s => decide (40 < s.length)
def l3A (x : GS) : List (List AV) := [[.sl x.zi (strs x.ins) x.ci], [.sl x.zo (strs x.outs) x.co], [.sl x.zs (strs x.sts) x.cs]]
def l3Z (x : GS) (k : Nat) : Nat := match k with|0 => x.zi|1 => x.zo|_ => x.zs
def l3C (x : GS) (k : Nat) : Option Nat := match k with|0 => x.ci|1 => x.co|_ => x.cs
theorem xbI9 {l : List Bs} {i : Nat} (hi : i < l.length) : idxI l (l.getD i []) < i ↔ ∃ j, j < i ∧ l.getD j [] = l.getD i [] := by
 constructor
 ·intro h;apply n'V;intro hno;have hb : ∀ j, j < i → decide (l.getD j [] = l.getD i []) = false := fun j hj => decide_eq_false fun e => hno ⟨j, hj, e⟩;rw [idxI, xC0 _ [] l i hb hi (by simp)] at h;omega
 ·rintro ⟨j, hj, e⟩
  -- the least one
  have : ∀ n, n ≤ j → (∃ m, m ≤ n ∧ l.getD m [] = l.getD i []) → idxI l (l.getD i []) ≤ n := by
   intro n;induction n using Nat.strongRecOn with
   | ind n ih =>
    intro hn ⟨m, hm, em⟩;by_cases hl : ∃ m', m' < m ∧ l.getD m' [] = l.getD i []
    ·obtain ⟨m', h1, h2⟩ := hl;have := ih m' (by omega) (by omega) ⟨m', l'd _, h2⟩;omega
    ·have hb : ∀ j, j < m → decide (l.getD j [] = l.getD i []) = false := fun j hj => decide_eq_false fun e => hl ⟨j, hj, e⟩;rw [idxI, xC0 _ [] l m hb (by omega) (by simpa using em)];omega
  have := this j (l'd _) ⟨j, l'd _, e⟩;omega
theorem nodup_iff {l : List Bs} : l.Nodup ↔ ∀ i, i < l.length → ¬ idxI l (l.getD i []) < i := by
 constructor
 ·intro h i hi hlt;obtain ⟨j, hj, e⟩ := (xbI9 hi).1 hlt;rw [l'b, l'b, l'e hi, l'e (by omega : j < l.length), Option.getD_some, Option.getD_some] at e;have := (z'n h).1 e;omega
 ·intro h;refine n'W.2 fun i j hi hj hij e => ?_;refine h j hj ((xbI9 hj).2 ⟨i, hij, ?_⟩);rw [l'b, l'b, l'e hi, l'e hj, Option.getD_some, Option.getD_some, e]
theorem wbV9 (x : GS) (hx : x.Ok) : PC Tryz.prog G0 11 [.agg x.A] (.int .i64 (chkS x)) := by
 have hm := zbU9 x.i x.o x.rows x.zr x.cr hx.r hx.lr hx.lw;have hid := fun p => vr0 p x;have hlA := xct9 x;unfold GS.A at *;refine wb0 0 111 [.tmp 2] Tryz.func11 rfl rfl rfl (by simp) ?_;intro s ⟨a0, hz⟩;clear hz;repeat' (first|refine nv ?_|(with_reducible first|refine gG ?_ ?_|refine ⟨fun h => ?_, fun h => ?_⟩ <;> try omega|refine andG ?_)|refine cp hm ?_|simp (disch := try exact discB) only [push_cast, simprocAttr, a0])
 ·congr 1
  rw [chkS, if_pos h]
 ·rename_i h0;congr 1
  rw [chkS, if_neg (by rw [h0]; simp), if_pos];unfold GS.cnt;simp only [l's, decide_eq_true_eq, ne_eq];exact h
 rename_i h0;have hcnt : x.cnt = false := by
  unfold GS.cnt;simp only [n't, decide_eq_false_iff_not, ne_eq, n'D];exact h
 have hp := kE0 h0;have hl1 : 0 < x.ins.length := by omega
 have hl2 : 0 < x.outs.length := by omega
 have hl3 : 0 < x.sts.length := by omega
 have hz1 : x.zi = 1 := hx.i.resolve_left (by intro e; rw [e] at hl1; simp at hl1);have hz2 : x.zo = 1 := hx.o.resolve_left (by intro e; rw [e] at hl2; simp at hl2);have hz3 : x.zs = 1 := hx.s.resolve_left (by intro e; rw [e] at hl3; simp at hl3);rw [hz1, hz2, hz3];have hll := fun k (h : k < 4) => wct9 hx hl1 hl2 hl3 h;have hnm : ∀ k, k < 4 → ∀ s ∈ x.lists.getD k [], s.length ≤ 60000 := fun k h s hs => hx.nm _ (wbj9 h) s hs;have hLA : lsA x = [[.sl 1 (strs [x.nm]) (some 1)], [.sl 1 (strs x.ins) x.ci], [.sl 1 (strs x.outs) x.co], [.sl 1 (strs x.sts) x.cs]] := by rw [lsA]
 have hln : (lsA x).length = 4 := rfl;have hs1 : strs [x.nm] = [[.str x.nm]] := rfl;rw [hs1] at hLA;rw [hLA] at hlA hln;generalize [[AV.sl 1 [[AV.str x.nm]] (some 1)], [AV.sl 1 (strs x.ins) x.ci], [AV.sl 1 (strs x.outs) x.co], [AV.sl 1 (strs x.sts) x.cs]] = LS at *;generalize hB0 : [AV.str x.nm, AV.int .i64 x.i, AV.int .i64 x.o, AV.sl x.zr (kb0 x.rows) x.cr, AV.sl 1 (strs x.ins) x.ci, AV.sl 1 (strs x.outs) x.co, AV.sl 1 (strs x.sts) x.cs] = B0 at *;refine go_loop rfl (fun mz s' H' => ∃ k : Nat, k ≤ 4 ∧ mz = 4 - k ∧ H' = [.row 7 27 [B0]] ∧ s' 4 = .sl 1 LS (some 4) ∧ s' 5 = .int .i64 k ∧ ∀ j, j < k → ((x.lists.getD j []).any fun s => !nmB s) = false) (m := 4) (by first|exact va0|fail) (Weak.refl _ _) ⟨0, by omega, by omega, rfl, ?_⟩ ?_
 ·simp (disch := try exact discB) only [push_cast, simprocAttr, Nat.add_zero];all_goals exact fun j hj => by omega
 ·rintro mz s' H' ⟨k, hk, rfl, rfl, b4, b5, ik⟩;rcases l'h k 4 with hlt|hge
  ·have e1 := hlA k hlt;have h10 := fun h => kac9 (x := x) (p := fun l => l.any fun s => !nmB s) hlt h;have hsn := wE0 (P := fun j => ((x.lists.getD j []).any fun s => !nmB s) = false) (k := k) ik;have hnm := hnm k hlt;obtain ⟨_, hll⟩ := hll k hlt;have hsl := za0 (x.lists.getD k []);generalize x.lists.getD k [] = l at *;repeat' (first|refine nv ?_|(with_reducible first|refine gG ?_ ?_|refine ⟨fun h => ?_, fun h => ?_⟩ <;> try omega|refine andG ?_)|simp (disch := try exact discB) only [push_cast, simprocAttr, b4, b5, e1, hln])
   refine go_loop rfl (fun mz s' H' => ∃ q : Nat, q ≤ l.length ∧ mz = l.length - q ∧ H' = [.row 7 27 [B0]] ∧ s' 4 = .sl 1 LS (some 4) ∧ s' 5 = .int .i64 k ∧ s' 6 = .int .i64 q ∧ ∀ j, j < q → nmB (l.getD j []) = true) (m := l.length) (by first|exact va0|fail) (Weak.refl _ _) ⟨0, by omega, by omega, rfl, ?_⟩ ?_
   ·simp (disch := try exact discB) only [push_cast, simprocAttr, b4, b5, e1, hln];all_goals exact fun j hj => by omega
   ·clear b4 b5;rintro mz s' H' ⟨q, hq, rfl, rfl, b4, b5, b6, iq⟩;rcases l'h q l.length with hlt2|hge2
    ·have e2 := vc0 l q hlt2;have hN := qcs9 (l.getD q []) (hnm _ (ze0 [] hlt2));have hRs := wac9 (l.getD q []);have hsn2 := wE0 (P := fun j => nmB (l.getD j []) = true) (k := q) iq;have hbad : nmB (l.getD q []) = false → (l.any fun s => !nmB s) = true := fun h => l'H.2 ⟨_, ze0 [] hlt2, by rw [h]; rfl⟩;have hnb : nmB (l.getD q []) = (decide (chkT 1 (l.getD q []) = 0) && !resB.contains (l.getD q [])) := rfl;have hc01 : chkT 1 (l.getD q []) = 0 ∨ chkT 1 (l.getD q []) = 1 := by unfold chkT; split; exact .inl rfl; exact .inr rfl
     rw [hnb] at hbad hsn2;generalize resB.contains (l.getD q []) = rb at *;generalize chkT 1 (l.getD q []) = c at *;generalize l.getD q [] = y at *;rcases hc01 with rfl|rfl
     ·rw [show (1 : Int) - 0 = 1 by decide] at hN;cases rb with
      | true =>
       rw [show bI true = 1 from rfl] at hRs;repeat' (first|refine nv ?_|(with_reducible first|refine gG ?_ ?_|refine ⟨fun h => ?_, fun h => ?_⟩ <;> try omega|refine andG ?_)|refine cp hN ?_|refine cp hRs ?_|simp (disch := try exact discB) only [push_cast, simprocAttr, b4, b5, b6, e1, e2, hln, hsl])
       rw [chkS, if_neg (by rw [h0]; simp), if_neg (by rw [hcnt]; simp), if_pos (h10 (hbad rfl))]
      | false =>
       rw [show bI false = 0 from rfl] at hRs;repeat' (first|refine nv ?_|(with_reducible first|refine gG ?_ ?_|refine ⟨fun h => ?_, fun h => ?_⟩ <;> try omega|refine andG ?_)|refine cp hN ?_|refine cp hRs ?_|simp (disch := try exact discB) only [push_cast, simprocAttr, b4, b5, b6, e1, e2, hln, hsl])
       refine wa0 (l.length - (q + 1)) (by omega) (by first|exact va0|fail) ⟨q + 1, by omega, rfl, rfl, ?_⟩;simp (disch := try exact discB) only [push_cast, simprocAttr, b4, b5, b6, e1, e2, hln, hsl];exact hsn2 rfl
     ·rw [show (1 : Int) - 1 = 0 by decide] at hN;repeat' (first|refine nv ?_|(with_reducible first|refine gG ?_ ?_|refine ⟨fun h => ?_, fun h => ?_⟩ <;> try omega|refine andG ?_)|refine cp hN ?_|refine cp hRs ?_|simp (disch := try exact discB) only [push_cast, simprocAttr, b4, b5, b6, e1, e2, hln, hsl])
      refine ⟨.top, ?_⟩;repeat' (first|refine nv ?_|(with_reducible first|refine gG ?_ ?_|refine ⟨fun h => ?_, fun h => ?_⟩ <;> try omega|refine andG ?_)|refine cp hN ?_|refine cp hRs ?_|simp (disch := try exact discB) only [push_cast, simprocAttr, b4, b5, b6, e1, e2, hln, hsl])
      rw [chkS, if_neg (by rw [h0]; simp), if_neg (by rw [hcnt]; simp), if_pos (h10 (hbad rfl))]
    ·obtain rfl : q = l.length := by omega
     have hno2 : (l.any fun s => !nmB s) = false := by
      rw [z'j];intro s hs;obtain ⟨j, hj, rfl⟩ := n'F hs;have := iq j hj;rw [l'b, l'e hj, Option.getD_some] at this;rw [this]; decide
     repeat' (first|refine nv ?_|(with_reducible first|refine gG ?_ ?_|refine ⟨fun h => ?_, fun h => ?_⟩ <;> try omega|refine andG ?_)|simp (disch := try exact discB) only [push_cast, simprocAttr, b4, b5, b6, e1, hln, hsl])
     refine wa0 (4 - (k + 1)) (by omega) (by first|exact va0|fail) ⟨k + 1, by omega, rfl, rfl, ?_⟩;simp (disch := try exact discB) only [push_cast, simprocAttr, b4, b5, b6, e1, hln, hsl];exact hsn hno2
  ·obtain rfl : k = 4 := by omega
   have hno := kar9 (p := fun l => l.any fun s => !nmB s) ik;repeat' (first|refine nv ?_|(with_reducible first|refine gG ?_ ?_|refine ⟨fun h => ?_, fun h => ?_⟩ <;> try omega|refine andG ?_)|simp (disch := try exact discB) only [push_cast, simprocAttr, b4, b5, hln])
   clear ik;refine go_loop rfl (fun mz s' H' => ∃ k : Nat, k ≤ 4 ∧ mz = 4 - k ∧ H' = [.row 7 27 [B0]] ∧ s' 4 = .sl 1 LS (some 4) ∧ s' 7 = .int .i64 k ∧ ∀ j, j < k → (x.lists.getD j []).Nodup) (m := 4) (by first|exact va0|fail) (Weak.refl _ _) ⟨0, by omega, by omega, rfl, ?_⟩ ?_
   ·simp (disch := try exact discB) only [push_cast, simprocAttr, b4, b5, hln];all_goals exact fun j hj => by omega
   ·rintro mz s' H' ⟨k, hk, rfl, rfl, b4, b7, ik⟩;rcases l'h k 4 with hlt|hge
    ·have e1 := hlA k hlt;have h8 := fun h => kac9 (x := x) (p := fun l => !decide l.Nodup) hlt h;have hsn := wE0 (P := fun j => (x.lists.getD j []).Nodup) (k := k) ik;obtain ⟨_, hll⟩ := hll k hlt;have hsl := za0 (x.lists.getD k []);generalize x.lists.getD k [] = l at *;repeat' (first|refine nv ?_|(with_reducible first|refine gG ?_ ?_|refine ⟨fun h => ?_, fun h => ?_⟩ <;> try omega|refine andG ?_)|simp (disch := try exact discB) only [push_cast, simprocAttr, b4, b7, e1, hln])
     refine go_loop rfl (fun mz s' H' => ∃ q : Nat, q ≤ l.length ∧ mz = l.length - q ∧ H' = [.row 7 27 [B0]] ∧ s' 4 = .sl 1 LS (some 4) ∧ s' 7 = .int .i64 k ∧ s' 8 = .int .i64 q ∧ ∀ j, j < q → ¬ idxI l (l.getD j []) < j) (m := l.length) (by first|exact va0|fail) (Weak.refl _ _) ⟨0, by omega, by omega, rfl, ?_⟩ ?_
     ·simp (disch := try exact discB) only [push_cast, simprocAttr, b4, b7, e1, hln];all_goals exact fun j hj => by omega
     ·clear b4 b7;rintro mz s' H' ⟨q, hq, rfl, rfl, b4, b7, b8, iq⟩;rcases l'h q l.length with hlt2|hge2
      ·have e2 := vc0 l q hlt2;have hI := vaj9 1 l (lsC x k) (l.getD q []) (.inr rfl) hll;have hsn2 := wE0 (P := fun j => ¬ idxI l (l.getD j []) < j) (k := q) iq;have hbad : idxI l (l.getD q []) < q → (!decide l.Nodup) = true := fun h => by
        rw [decide_eq_false fun hnd => nodup_iff.1 hnd q hlt2 h]; rfl
       generalize idxI l (l.getD q []) = v at *;generalize l.getD q [] = y at *;repeat' (first|refine nv ?_|(with_reducible first|refine gG ?_ ?_|refine ⟨fun h => ?_, fun h => ?_⟩ <;> try omega|refine andG ?_)|refine cp hI ?_|simp (disch := try exact discB) only [push_cast, simprocAttr, b4, b7, b8, e1, e2, hln, hsl])
       ·rw [chkS, if_neg (by rw [h0]; simp), if_neg (by rw [hcnt]; simp), if_neg (by rw [hno]; simp), if_pos (h8 (hbad (by omega)))]
       ·refine wa0 (l.length - (q + 1)) (by omega) (by first|exact va0|fail) ⟨q + 1, by omega, rfl, rfl, ?_⟩;simp (disch := try exact discB) only [push_cast, simprocAttr, b4, b7, b8, e1, e2, hln, hsl];exact hsn2 (by omega)
      ·obtain rfl : q = l.length := by omega
       have hnd : l.Nodup := nodup_iff.2 iq;repeat' (first|refine nv ?_|(with_reducible first|refine gG ?_ ?_|refine ⟨fun h => ?_, fun h => ?_⟩ <;> try omega|refine andG ?_)|simp (disch := try exact discB) only [push_cast, simprocAttr, b4, b7, b8, e1, hln, hsl])
       refine wa0 (4 - (k + 1)) (by omega) (by first|exact va0|fail) ⟨k + 1, by omega, rfl, rfl, ?_⟩;simp (disch := try exact discB) only [push_cast, simprocAttr, b4, b7, b8, e1, hln, hsl];exact hsn hnd
    ·obtain rfl : k = 4 := by omega
     have hno2 := kar9 (p := fun l => !decide l.Nodup) (fun j hj => by rw [decide_eq_true (ik j hj)]; rfl);repeat' (first|refine nv ?_|(with_reducible first|refine gG ?_ ?_|refine ⟨fun h => ?_, fun h => ?_⟩ <;> try omega|refine andG ?_)|simp (disch := try exact discB) only [push_cast, simprocAttr, b4, b7, hln])
     rw [chkS, if_neg (by rw [h0]; simp), if_neg (by rw [hcnt]; simp), if_neg (by rw [hno]; simp), if_neg (by rw [hno2]; simp)]
end Go.Proofs

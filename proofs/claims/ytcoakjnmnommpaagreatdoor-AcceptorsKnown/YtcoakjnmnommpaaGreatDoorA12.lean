import Derived.Test.YtcoakjnmnommpaaGreatDoorA10
import Derived.Test.YtcoakjnmnommpaaGreatDoorA6
namespace Go.Proofs
open Go Go.V
set_option linter.unusedVariables false
set_option linter.unusedSimpArgs false
set_option maxHeartbeats 0
def runP (rows : List (List (List Int))) (p : Nat → Bool) (w : List Nat) : Nat → Bool := w.foldl (zbx9 rows) p
theorem vcJ9 {A : Nat} {rows : List (List (List Int))} {st ac : List Int} (h : OkNv A rows st ac) : ∀ (w : List Nat) {p : Nat → Bool} {S : List Nat}, SetIs rows.length p S → (∀ a ∈ w, a < A) → SetIs rows.length (runP rows p w) (runX (stepN (nfOf rows st ac)) S w)
 | [], p, S, hp, _ => hp
 | a :: w, p, S, hp, hw => vcJ9 h w (xbV9 h hp (hw a l'n)) fun b hb => hw b (l'g _ hb)
theorem kcJ9 (rows : List (List (List Int))) (p : Nat → Bool) (w : List Nat) (a : Nat) : runP rows p (w ++ [a]) = zbx9 rows (runP rows p w) a := by simp [runP]
structure SizeN (zr : Nat) (l : List RC) (zs : Nat) (st : List Int) (za : Nat) (ac : List Int) : Prop where
 zl : l = [] ∨ zr = 1
 zst : st = [] ∨ zs = 1
 zac : ac = [] ∨ za = 1
 bl : l.length ≤ 9223372036854775807
 bst : st.length ≤ 9223372036854775807
 bac : ac.length ≤ 9223372036854775807
 br : ∀ s, s < l.length → (l.getD s ([], none)).1.length ≤ 9223372036854775807
 bi : ∀ s a, s < l.length → a < (l.getD s ([], none)).1.length → ((l.getD s ([], none)).1.getD a ([], none)).1.length ≤ 9223372036854775807
theorem SizeN.check {sym : Int} {zr : Nat} {l : List RC} {c : Option Nat} {zs : Nat} {st : List Int} {cs : Option Nat} {za : Nat} {ac : List Int} {ca : Option Nat} (h : SizeN zr l zs st za ac) : PC Tryz.prog G0 20 [nA sym zr l c zs st cs za ac ca] (.int .i64 (wh0 sym (rowsV l) st ac)) :=
 kcl9 sym zr l c zs st cs za ac ca h.zl h.zst h.zac h.bl h.bst h.bac h.br h.bi
theorem OkNv.row {A : Nat} {l : List RC} {st ac : List Int} (h : OkNv A (rowsV l) st ac) {s : Nat} (hs : s < l.length) : (l.getD s ([], none)).1.length = A := by
 have := h.len s (by rw [wb0]; exact hs);rw [qL0 l s hs, vam9] at this;exact this
theorem OkNv.lst {A : Nat} {l : List RC} {st ac : List Int} (h : OkNv A (rowsV l) st ac) {s a : Nat} (hs : s < l.length) (ha : a < A) : zf0 (lstC l s a).1 l.length = true := by
 have := h.ri s a (by rw [wb0]; exact hs) ha;rw [qL0 l s hs, kam9 _ a (by rw [h.row hs]; exact ha), wb0] at this;exact this
theorem qcK9 {A : Nat} {zr : Nat} {l : List RC} {c : Option Nat} {zs : Nat} {st : List Int} {cs : Option Nat} {za : Nat} {ac : List Int} {ca : Option Nat} (hzr : l = [] ∨ zr = 1) (h : OkNv A (rowsV l) st ac) (hi : ∀ s a, s < l.length → a < A → (lstC l s a).1.length ≤ 9223372036854775807) {p : Nat → Bool} {S : List Nat} (hp : SetIs l.length p S) {a : Nat} (ha : a < A) :
  PC Tryz.prog G0 47 [nA A zr l c zs st cs za ac ca, .agg (setL p), .int .i64 a] (.agg (setL (zbx9 (rowsV l) p a))) := by
 have hn := h.n;have ha2 := h.a2;rw [wb0] at hn;have hm : ∀ s ∈ elemsP p, s < l.length := fun s hs => by rw [hp.elems hn] at hs; exact hp.lt hs
 refine zek9 A zr l c zs st cs za ac ca p a hzr hn (by omega) (fun s hs => ⟨hm s hs, by rw [h.row (hm s hs)]; exact ha⟩) (fun s hs => ⟨hi s a (hm s hs) ha, fun x hx => ?_⟩) (fun s hs => by rw [h.row hs]; omega);have := qf0 (h.lst (hm s hs) ha) x hx;omega
theorem xan9 {sym : Int} {w : List Int} (h : kG0 sym w = 0) : sym ≤ 16 ∧ w.length ≤ 256 ∧ 1 ≤ sym ∧ ∀ x ∈ w, 0 ≤ x ∧ x < sym := by
 unfold kG0 at h;split at h
 ·cases h
 ·rename_i h1;split at h
  ·cases h
  ·rename_i h2;simp only [not_or, Bool.not_eq_true, Int.not_lt, Nat.not_lt] at h1 h2;refine ⟨h1.1, h1.2, h2.1, fun x hx => ?_⟩;have := z'j.1 h2.2 x hx;simp only [badW, l'H, decide_eq_true_eq, not_or] at this;omega
def accV (sym : Int) (l : List RC) (st ac : List Int) (w : List Int) : AV :=
 if wh0 sym (rowsV l) st ac ≠ 0 then .tup [.bool false, .int .i64 (wh0 sym (rowsV l) st ac)]
 else if kG0 sym w ≠ 0 then .tup [.bool false, .int .i64 (kG0 sym w)]
 else .tup [.bool (xbJ9 (nfOf (rowsV l) st ac) (natL w)), .int .i64 0]
set_option maxRecDepth 100000 in
theorem xy0 (sym : Int) (zr : Nat) (l : List RC) (c : Option Nat) (zs : Nat) (st : List Int) (cs : Option Nat) (za : Nat) (ac : List Int) (ca : Option Nat) (hsz : SizeN zr l zs st za ac) (zw : Nat) (w : List Int) (cw : Option Nat) (hzw : w = [] ∨ zw = 1) (hw : w.length ≤ 9223372036854775807) :
  PC Tryz.prog G0 14 [nA sym zr l c zs st cs za ac ca, .sl zw (ints w) cw] (accV sym l st ac w) := by
 have hck := hsz.check (sym := sym) (c := c) (cs := cs) (ca := ca);have hcw := wcJ9 zw w cw sym hzw hw;have hidR : ∀ p, idsE p (xe0 l) = true := fun p => ze0 _ _;have hidS : ∀ p, idsE p (ints st) = true := fun p => wa0 _ _;have hidA : ∀ p, idsE p (ints ac) = true := fun p => wa0 _ _;have hidW : ∀ p, idsE p (ints w) = true := fun p => wa0 _ _;unfold accV;by_cases h0 : wh0 sym (rowsV l) st ac = 0
 ·rw [if_neg (by simp [h0])];rw [h0] at hck;by_cases h1 : kG0 sym w = 0
  ·rw [if_neg (by simp [h1])];rw [h1] at hcw;obtain ⟨A, rfl, hok⟩ := wK0 h0;obtain ⟨_, hw256, _, hwr⟩ := xan9 h1;have hn := hok.n;rw [wb0] at hn;have hst := hok.st;have hac := hok.ac;rw [wb0] at hst hac;have hofs := of32 zs st cs hsz.zst hsz.bst (fun x hx => by have := qf0 hst x hx; omega);have hofa := of32 za ac ca hsz.zac hsz.bac (fun x hx => by have := qf0 hac x hx; omega);have hS0 := xaK9 hst;have hF := xaK9 hac;have hrun := fun w h => vcJ9 hok w (p := inL st) (S := natL st) (by rw [wb0]; exact hS0) h;have hlang : xbJ9 (nfOf (rowsV l) st ac) (natL w) = accN (nfOf (rowsV l) st ac) (runX (stepN (nfOf (rowsV l) st ac)) (natL st) (natL w)) := rfl;have hmeet := xbK9 (runP (rowsV l) (inL st) (natL w)) (inL ac);have hwA : ∀ a ∈ natL w, a < A := fun a ha => by
    obtain ⟨x, hx, rfl⟩ := l'B.1 ha;have := hwr x hx; omega
   have hr2 := hrun _ hwA;rw [wb0] at hr2;rw [xbx9 hr2 hF hn] at hmeet;rw [show ((runX (stepN (nfOf (rowsV l) st ac)) (natL st) (natL w)).any fun s => (natL ac).contains s) = xbJ9 (nfOf (rowsV l) st ac) (natL w) from rfl] at hmeet;generalize xbJ9 (nfOf (rowsV l) st ac) (natL w) = R at *;have hstep : ∀ k, k < w.length → PC Tryz.prog G0 47 [nA A zr l c zs st cs za ac ca, .agg (setL (runP (rowsV l) (inL st) (natL (w.take k)))), .int .i64 (w.getD k 0)] (.agg (setL (runP (rowsV l) (inL st) (natL (w.take (k + 1)))))) := fun k hk => by
    have hx := hwr _ (wc0 (d := 0) hk);have hrk := hrun (natL (w.take k)) (fun a ha => by
     obtain ⟨x, hx, rfl⟩ := l'B.1 ha;have := hwr x (n'y hx); omega)
    rw [wb0] at hrk;have e : natL (w.take (k + 1)) = natL (w.take k) ++ [(w.getD k 0).toNat] := by rw [natL, xm0 Int.toNat w 0 k hk]; rfl
    rw [e, kcJ9];have hi : ∀ s a, s < l.length → a < A → (lstC l s a).1.length ≤ 9223372036854775807 := fun s a hs ha => hsz.bi s a hs (by rw [hok.row hs]; exact ha);have hz := qcK9 (c := c) (zs := zs) (cs := cs) (za := za) (ca := ca) hsz.zl hok hi hrk (a := (w.getD k 0).toNat) (by omega);rw [show (((w.getD k 0).toNat : Nat) : Int) = w.getD k 0 by omega] at hz;exact hz
   have hil := xa0 w;have hP0 : runP (rowsV l) (inL st) (natL (w.take 0)) = inL st := rfl;have hPn : runP (rowsV l) (inL st) (natL (w.take w.length)) = runP (rowsV l) (inL st) (natL w) := by rw [l'x]
   rw [← hPn] at hmeet;generalize hPk : (fun k => setL (runP (rowsV l) (inL st) (natL (w.take k)))) = PK at *;have hPK : ∀ k, setL (runP (rowsV l) (inL st) (natL (w.take k))) = PK k := fun k => by rw [← hPk]
   have hPK0 : setL (inL st) = PK 0 := by rw [← hPK 0, hP0]
   have hPl : ∀ k, (PK k).length = 4 := fun k => by rw [← hPK k]; rfl
   have hPi : ∀ k f, idsL f (PK k) = true := fun k f => by rw [← hPK k]; exact xu0 _ _
   have hPt : ∀ k, (PK k).take 4 = PK k := fun k => by rw [← hPK k]; rfl
   have hPd : ∀ k, (PK k).drop 4 = [] := fun k => by rw [← hPK k]; rfl
   have hAi : ∀ f, idsL f (setL (inL ac)) = true := fun f => xu0 _ _;simp only [hPK] at hstep hmeet;rw [hPK0] at hofs;generalize setL (inL ac) = SA at *;clear hrun hlang hr2;have e1 := xc0 w;unfold nA at *;generalize hRN : xe0 l = RN at *;refine qc0 0 42 [.tmp 4, .tmp 5] Tryz.func14 rfl rfl rfl (by simp) ?_;intro s ⟨a0, a1, hz⟩;simp only [l'm, Nat.reduceAdd] at a1;clear hz;repeat' (first|refine nv ?_|(with_reducible first|refine gG ?_ ?_|refine ⟨fun h => ?_, fun h => ?_⟩ <;> try omega|refine andG ?_)|refine cp_ hck ?_ (hi := by (simp [idsL, idsE, AV.ids, hidR, hidS, hidA, hidW, hPi, hAi]))|refine cp_ hcw ?_ (hi := by (simp [idsL, idsE, AV.ids, hidR, hidS, hidA, hidW, hPi, hAi]))|refine cp_ hofs ?_ (hi := by (simp [idsL, idsE, AV.ids, hidR, hidS, hidA, hidW, hPi, hAi]))|simp (disch := try exact qa0) only [push_cast, simprocAttr, a0, a1, hPl, hPt, hPd])
   refine go_loop rfl (fun mz s' H' => ∃ k : Nat, k ≤ w.length ∧ mz = w.length - k ∧ H' = [.row 4 29 [[.int .i64 A, .sl zr RN c, .sl zs (ints st) cs, .sl za (ints ac) ca]], .row 4 68 [PK k]] ∧ s' 2 = .ptr 0 0 0 1 ∧ s' 8 = .ptr 1 0 0 1 ∧ s' 26 = .sl zw (ints w) cw ∧ s' 27 = .int .i64 w.length ∧ s' 28 = .int .i64 k) (m := w.length) (by first|exact va0|fail) (Weak.refl _ _) ⟨0, by omega, by omega, rfl, ?_⟩ ?_
   ·simp (disch := try exact qa0) only [push_cast, simprocAttr, a0, a1, hPl, hPt, hPd]
   ·rintro mz s' H' ⟨k, hk, rfl, rfl, b2, b8, b26, b27, b28⟩;rcases l'i k w.length with hlt|hge
    ·obtain rfl := hzw.resolve_left (by intro h; rw [h] at hlt; simp at hlt);have e1 := e1 k hlt;have hstk := hstep k hlt;generalize w.getD k 0 = x at *;repeat' (first|refine nv ?_|(with_reducible first|refine gG ?_ ?_|refine ⟨fun h => ?_, fun h => ?_⟩ <;> try omega|refine andG ?_)|refine cp_ hstk ?_ (hi := by (simp [idsL, idsE, AV.ids, hidR, hidS, hidA, hidW, hPi, hAi]))|simp (disch := try exact qa0) only [push_cast, simprocAttr, b2, b8, b26, b27, b28, e1, hil, hPl, hPt, hPd])
     refine za0 (w.length - (k + 1)) (by omega) (by first|exact va0|fail) ⟨k + 1, by omega, rfl, rfl, ?_⟩;simp (disch := try exact qa0) only [push_cast, simprocAttr, b2, b8, b26, b27, b28, e1, hil, hPl, hPt, hPd]
    ·obtain rfl : k = w.length := by omega
     repeat' (first|refine nv ?_|(with_reducible first|refine gG ?_ ?_|refine ⟨fun h => ?_, fun h => ?_⟩ <;> try omega|refine andG ?_)|refine cp_ hofa ?_ (hi := by (simp [idsL, idsE, AV.ids, hidR, hidS, hidA, hidW, hPi, hAi]))|refine cp_ hmeet ?_ (hi := by (simp [idsL, idsE, AV.ids, hidR, hidS, hidA, hidW, hPi, hAi]))|simp (disch := try exact qa0) only [push_cast, simprocAttr, b2, b8, b26, b27, b28, hil, hPl, hPt, hPd])
  ·rw [if_pos h1];generalize kG0 sym w = e at *;unfold nA at *;generalize xe0 l = RN at *;generalize ints st = IS at *;generalize ints ac = IA at *;generalize ints w = IW at *;refine qc0 0 42 [.tmp 4, .tmp 5] Tryz.func14 rfl rfl rfl (by simp) ?_;intro s ⟨a0, a1, hz⟩;simp only [l'm, Nat.reduceAdd] at a1;clear hz;repeat' (first|refine nv ?_|(with_reducible first|refine gG ?_ ?_|refine ⟨fun h => ?_, fun h => ?_⟩ <;> try omega|refine andG ?_)|refine cp_ hck ?_ (hi := by (simp [idsL, idsE, AV.ids, hidR, hidS, hidA, hidW]))|refine cp_ hcw ?_ (hi := by (simp [idsL, idsE, AV.ids, hidR, hidS, hidA, hidW]))|simp (disch := try exact qa0) only [push_cast, simprocAttr, a0, a1, h1])
 ·rw [if_pos h0];generalize wh0 sym (rowsV l) st ac = e at *;unfold nA at *;generalize xe0 l = RN at *;generalize ints st = IS at *;generalize ints ac = IA at *;generalize ints w = IW at *;refine qc0 0 42 [.tmp 4, .tmp 5] Tryz.func14 rfl rfl rfl (by simp) ?_;intro s ⟨a0, a1, hz⟩;simp only [l'm, Nat.reduceAdd] at a1;clear hz;repeat' (first|refine nv ?_|(with_reducible first|refine gG ?_ ?_|refine ⟨fun h => ?_, fun h => ?_⟩ <;> try omega|refine andG ?_)|refine cp_ hck ?_ (hi := by (simp [idsL, idsE, AV.ids, hidR, hidS, hidA, hidW]))|simp (disch := try exact qa0) only [push_cast, simprocAttr, a0, a1, h0])
def vl0 (l : List LC) : List (List Nat) := (kd0 l).map natL
theorem zas9 (l : List LC) : (vl0 l).length = l.length := by simp [vl0, kd0]
theorem waa9 (l : List LC) (s a : Nat) (hs : s < l.length) (ha : a < (l.getD s ([], none)).1.length) : ((vl0 l).getD s []).getD a 0 = ((l.getD s ([], none)).1.getD a 0).toNat := by
 simp [vl0, kd0, natL, hs] at ha ⊢;simp [ha]
structure SizeD (zr : Nat) (l : List LC) (za : Nat) (ac : List Bool) : Prop where
 zl : l = [] ∨ zr = 1
 zac : ac = [] ∨ za = 1
 bl : l.length ≤ 9223372036854775807
 bac : ac.length ≤ 9223372036854775807
 br : ∀ s, s < l.length → (l.getD s ([], none)).1.length ≤ 9223372036854775807
theorem SizeD.check {sym : Int} {zr : Nat} {l : List LC} {c : Option Nat} {za : Nat} {ac : List Bool} {ca : Option Nat} (h : SizeD zr l za ac) : PC Tryz.prog G0 21 [dA sym zr l c za ac ca] (.int .i64 (vd0 sym (kd0 l) ac.length)) :=
 qcJ9 sym zr l c za ac ca h.zl h.bl h.bac h.br
theorem OkDv.row {A : Nat} {l : List LC} {m : Nat} (h : OkDv A (kd0 l) m) {s : Nat} (hs : s < l.length) : (l.getD s ([], none)).1.length = A := by
 have := h.len s (by rw [ve0]; exact hs);rw [qan9 l s hs] at this;exact this
theorem OkDv.at {A : Nat} {l : List LC} {m : Nat} (h : OkDv A (kd0 l) m) {s a : Nat} (hs : s < l.length) (ha : a < A) : 0 ≤ (l.getD s ([], none)).1.getD a 0 ∧ (l.getD s ([], none)).1.getD a 0 < l.length := by
 have := h.tq s a (by rw [ve0]; exact hs) ha;rw [qan9 l s hs, ve0] at this;exact this
theorem zcK9 {A : Nat} {l : List LC} {m : Nat} (h : OkDv A (kd0 l) m) (w : List Nat) (hw : ∀ a ∈ w, a < A) : runD (vl0 l) 0 w < l.length := by
 have h1 := h.n1;rw [ve0] at h1;have := qdA9 (vl0 l) A (fun s hs a ha => by
  rw [zas9] at hs ⊢;rw [waa9 l s a hs (by rw [h.row hs]; exact ha)];have := h.at hs ha;omega) w 0 hw (by rw [zas9]; omega)
 rwa [zas9] at this
theorem kby9 (rows : List (List Nat)) (w : List Nat) (a : Nat) : runD rows 0 (w ++ [a]) = (rows.getD (runD rows 0 w) []).getD a 0 := by simp [runD, n'T]
def accD (sym : Int) (l : List LC) (ac : List Bool) (w : List Int) : AV :=
 if vd0 sym (kd0 l) ac.length ≠ 0 then .tup [.bool false, .int .i64 (vd0 sym (kd0 l) ac.length)]
 else if kG0 sym w ≠ 0 then .tup [.bool false, .int .i64 (kG0 sym w)]
 else .tup [.bool (ac.getD (runD (vl0 l) 0 (natL w)) false), .int .i64 0]
set_option maxRecDepth 100000 in
theorem xcK9 (sym : Int) (zr : Nat) (l : List LC) (c : Option Nat) (za : Nat) (ac : List Bool) (ca : Option Nat) (hsz : SizeD zr l za ac) (zw : Nat) (w : List Int) (cw : Option Nat) (hzw : w = [] ∨ zw = 1) (hw : w.length ≤ 9223372036854775807) :
  PC Tryz.prog G0 22 [dA sym zr l c za ac ca, .sl zw (ints w) cw] (accD sym l ac w) := by
 have hck := hsz.check (sym := sym) (c := c) (ca := ca);have hcw := wcJ9 zw w cw sym hzw hw;have hidR : ∀ p, idsE p (rowL l) = true := fun p => vc0 _ _;have hidA : ∀ p, idsE p (qb0 ac) = true := fun p => zd0 _ _;have hidW : ∀ p, idsE p (ints w) = true := fun p => wa0 _ _;unfold accD;by_cases h0 : vd0 sym (kd0 l) ac.length = 0
 ·rw [if_neg (by simp [h0])];rw [h0] at hck;by_cases h1 : kG0 sym w = 0
  ·rw [if_neg (by simp [h1])];rw [h1] at hcw;obtain ⟨A, rfl, hok⟩ := qV0 h0;obtain ⟨_, hw256, _, hwr⟩ := xan9 h1;have hn := hok.n;have hn1 := hok.n1;have hm := hok.m;rw [ve0] at hn hn1 hm;obtain rfl := hsz.zl.resolve_left (by intro h; rw [h] at hn1; simp at hn1);obtain rfl := hsz.zac.resolve_left (by intro h; rw [h] at hm; simp at hm; omega);have hil := xa0 w;have hRl := zb0 l;have hAl := zc0 ac;have hwN : ∀ k, ∀ a ∈ natL (w.take k), a < A := fun k a ha => by
    obtain ⟨x, hx, rfl⟩ := l'B.1 ha;have := hwr x (n'y hx); omega
   have hlow := fun k => zcK9 hok (natL (w.take k)) (hwN k);have hnext : ∀ k, k < w.length → (l.getD (runD (vl0 l) 0 (natL (w.take k))) ([], none)).1.getD (w.getD k 0).toNat 0 = (runD (vl0 l) 0 (natL (w.take (k + 1))) : Nat) := fun k hk => by
    have hx := hwr _ (wc0 (d := 0) hk);have e : natL (w.take (k + 1)) = natL (w.take k) ++ [(w.getD k 0).toNat] := by rw [natL, xm0 Int.toNat w 0 k hk]; rfl
    rw [e, kby9, waa9 l _ _ (hlow k) (by rw [hok.row (hlow k)]; omega)];have := hok.at (hlow k) (a := (w.getD k 0).toNat) (by omega);omega
   have e1 := xc0 w;have e2 := fun k => xg0 l _ (hlow k);have e3 := ql0 ac (runD (vl0 l) 0 (natL w));have hrow := fun k => hok.row (hlow k);have hP0 : runD (vl0 l) 0 (natL (w.take 0)) = 0 := rfl;have hPn : runD (vl0 l) 0 (natL w) = runD (vl0 l) 0 (natL (w.take w.length)) := by rw [l'x]
   rw [hPn] at e3 ⊢;generalize hSt : (fun k => runD (vl0 l) 0 (natL (w.take k))) = S at *;have hS : ∀ k, runD (vl0 l) 0 (natL (w.take k)) = S k := fun k => by rw [← hSt]
   simp only [hS] at hlow hnext e2 e3 hrow hP0 ⊢;unfold dA at *;generalize rowL l = RN at *;generalize qb0 ac = BA at *;refine qc0 0 43 [.tmp 4, .tmp 5] Tryz.func22 rfl rfl rfl (by simp) ?_;intro s ⟨a0, a1, hz⟩;simp only [l'm, Nat.reduceAdd] at a1;clear hz;repeat' (first|refine nv ?_|(with_reducible first|refine gG ?_ ?_|refine ⟨fun h => ?_, fun h => ?_⟩ <;> try omega|refine andG ?_)|refine cp_ hck ?_ (hi := by (simp [idsL, idsE, AV.ids, hidR, hidA, hidW]))|refine cp_ hcw ?_ (hi := by (simp [idsL, idsE, AV.ids, hidR, hidA, hidW]))|simp (disch := try exact qa0) only [push_cast, simprocAttr, a0, a1])
   refine go_loop rfl (fun mz s' H' => ∃ k : Nat, k ≤ w.length ∧ mz = w.length - k ∧ H' = [.row 3 47 [[.int .i64 A, .sl 1 RN c, .sl 1 BA ca]]] ∧ s' 2 = .ptr 0 0 0 1 ∧ s' 8 = .int .i64 (S k) ∧ s' 23 = .sl zw (ints w) cw ∧ s' 24 = .int .i64 w.length ∧ s' 25 = .int .i64 k) (m := w.length) (by first|exact va0|fail) (Weak.refl _ _) ⟨0, by omega, by omega, rfl, ?_⟩ ?_
   ·skip
    simp (disch := try exact qa0) only [push_cast, simprocAttr, a0, a1, hP0]
   ·rintro mz s' H' ⟨k, hk, rfl, rfl, b2, b8, b23, b24, b25⟩;rcases l'i k w.length with hlt|hge
    ·obtain rfl := hzw.resolve_left (by intro h; rw [h] at hlt; simp at hlt);have e1 := e1 k hlt;have e2 := e2 k;have hrow := hrow k;have hlow := hlow k;have hnx := hnext k hlt;have hx := hwr _ (wc0 (d := 0) hlt);obtain ⟨n, hn2⟩ : ∃ n : Nat, w.getD k 0 = n := ⟨(w.getD k 0).toNat, by omega⟩;rw [hn2] at e1 hx hnx;rw [Int.toNat_natCast] at hnx;have e4 := xc0 (l.getD (S k) ([], none)).1 n (by omega);rw [hnx] at e4;generalize l.getD (S k) ([], none) = r at *;have hrl := xa0 r.1;unfold lC at e2;repeat' (first|refine nv ?_|(with_reducible first|refine gG ?_ ?_|refine ⟨fun h => ?_, fun h => ?_⟩ <;> try omega|refine andG ?_)|simp (disch := try exact qa0) only [push_cast, simprocAttr, b2, b8, b23, b24, b25, e1, e2, e4, hil, hRl, hrl, hrow])
     refine za0 (w.length - (k + 1)) (by omega) (by first|exact va0|fail) ⟨k + 1, by omega, rfl, rfl, ?_⟩;simp (disch := try exact qa0) only [push_cast, simprocAttr, b2, b8, b23, b24, b25, e1, e2, e4, hil, hRl, hrl, hrow]
    ·obtain rfl : k = w.length := by omega
     have hlw := hlow w.length;have e3 := e3 (by omega);repeat' (first|refine nv ?_|(with_reducible first|refine gG ?_ ?_|refine ⟨fun h => ?_, fun h => ?_⟩ <;> try omega|refine andG ?_)|simp (disch := try exact qa0) only [push_cast, simprocAttr, b2, b8, b23, b24, b25, e3, hil, hAl])
     all_goals omega
  ·rw [if_pos h1];generalize kG0 sym w = e at *;unfold dA at *;generalize rowL l = RN at *;generalize qb0 ac = BA at *;generalize ints w = IW at *;refine qc0 0 43 [.tmp 4, .tmp 5] Tryz.func22 rfl rfl rfl (by simp) ?_;intro s ⟨a0, a1, hz⟩;simp only [l'm, Nat.reduceAdd] at a1;clear hz;repeat' (first|refine nv ?_|(with_reducible first|refine gG ?_ ?_|refine ⟨fun h => ?_, fun h => ?_⟩ <;> try omega|refine andG ?_)|refine cp_ hck ?_ (hi := by (simp [idsL, idsE, AV.ids, hidR, hidA, hidW]))|refine cp_ hcw ?_ (hi := by (simp [idsL, idsE, AV.ids, hidR, hidA, hidW]))|simp (disch := try exact qa0) only [push_cast, simprocAttr, a0, a1, h1])
 ·rw [if_pos h0];generalize vd0 sym (kd0 l) ac.length = e at *;unfold dA at *;generalize rowL l = RN at *;generalize qb0 ac = BA at *;generalize ints w = IW at *;refine qc0 0 43 [.tmp 4, .tmp 5] Tryz.func22 rfl rfl rfl (by simp) ?_;intro s ⟨a0, a1, hz⟩;simp only [l'm, Nat.reduceAdd] at a1;clear hz;repeat' (first|refine nv ?_|(with_reducible first|refine gG ?_ ?_|refine ⟨fun h => ?_, fun h => ?_⟩ <;> try omega|refine andG ?_)|refine cp_ hck ?_ (hi := by (simp [idsL, idsE, AV.ids, hidR, hidA, hidW]))|simp (disch := try exact qa0) only [push_cast, simprocAttr, a0, a1, h0])
end Go.Proofs

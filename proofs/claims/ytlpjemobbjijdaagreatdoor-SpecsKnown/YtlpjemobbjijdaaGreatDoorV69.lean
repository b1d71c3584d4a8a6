import Derived.Test.YtlpjemobbjijdaaGreatDoorV63
import Derived.Test.YtlpjemobbjijdaaGreatDoorV51
import Derived.Test.YtlpjemobbjijdaaGreatDoorV37
import Derived.Test.YtlpjemobbjijdaaGreatDoorV33
import Derived.Sort.Row
import Derived.Sort.Grow
set_option linter.unusedVariables false
set_option linter.unusedSimpArgs false
set_option autoImplicit false
namespace Go.V
open Go Go.RowKit
theorem qaz9 {P : Program} {F : Fence} {n n0 : Nat} {S0 : St} {H0 H : List Blk} : ∀ (Ds : List Nat) (S : St) (fr : Frame) (cs : List Frame), fr.mode ≠ .run → fr.defers = Ds.map mark → F.fn fr.fn → F.room (cs.length + 1 + n) → S.Ok H → Ext n0 S0 H0 S H → Ds.Pairwise (fun x y => y < x) →
  (∀ g ∈ Ds, S0.w.heap.size ≤ g ∧ S.Free H g ∧ S.w.heap[g]? = some (.deferred (some []))) → ∃ S' : St, StepsIn (Machine.fenced P F) P (lone fr cs S.w) (lone { fr with defers := [] } cs S'.w) ∧ S'.Ok H ∧ Ext n0 S0 H0 S' H
 | [], S, fr, cs, hm, hd, hF, hr, hok, hext, hp, hq => by
  have e : ({ fr with defers := [] } : Frame) = fr := by
   have hd : fr.defers = [] := hd;rw [← hd]
  rw [e];exact ⟨S, StepsIn.refl _, hok, hext⟩
 | g :: Ds, S, fr, cs, hm, hd, hF, hr, hok, hext, hp, hq => by
  obtain ⟨q1, q2, q3⟩ := hq g (by simp);rw [n'K] at hp;have h1 := step_collected (cs := cs) hm hd (rfl : (mark g).target = .collected g) (run_takeDeferred q3 (P := P));have i1 : (lone fr cs S.w).fenced P F := fenced_out hF hr hm hd (fun g' hg' => by simp [mark, Target.leads] at hg');obtain ⟨S', h2, h3, h4⟩ := qaz9 (P := P) (F := F) (n := n) Ds (S.shut g (.deferred none)) { fr with defers := [] ++ Ds.map mark } cs hm rfl hF hr (kag9 hok q2 _) (zaq9 hext q1 _) hp.2 (fun g' hg' => by
   obtain ⟨r1, r2, r3⟩ := hq g' (by simp [hg']);have := hp.1 g' hg';exact ⟨r1, r2, (World.putObj_heap_other (by omega)).trans r3⟩)
  exact ⟨S', StepsIn.trans (.one i1 h1) h2, h3, h4⟩
theorem kdp9 {P : Program} {g : FuncId} {fn : Func} {c : Code} {args : Array Value} {u u' : FrameMode} {S : St} {H Hf : List Blk} (hf : P.funcs[g]? = some fn) (hb : fn.body = some c) (hres : fn.results = #[])
  (h : ∀ (c₀ : Frame) (cs : List Frame), c₀.mode = u → c.wpSIn Fence.wide 0 P (fun e act cs' w' => (e = .normal ∨ e = .ret) ∧ cs' = { c₀ with mode := u' } :: cs ∧ ∃ H' S', S'.w = w' ∧ S'.Ok H' ∧ Ext H.length S H S' H' ∧ Marks S [] S' H' act.defers ∧ (H'.take H.length).all (Blk.below H.length) = true ∧ H'.take H.length = Hf)
   { tmps := args ++ Array.replicate (fn.ntmps - args.size) undef, defers := [] } (c₀ :: cs) S.w) :
  CallsDIn Fence.wide 0 P g args u S.w fun e uu w' => (∃ r, e = .returned r) ∧ uu = u' ∧ ∃ S', S'.w = w' ∧ S'.Ok Hf ∧ Ext H.length S H S' Hf := by
 refine ⟨trivial, fun c₀ cs hu hroom => ?_⟩
 let b : Frame := { (default : Frame) with fn := g, kind := .deferred, roundOf := none }
 have henter : Frame.enter P g args .deferred =
   b.atR { tmps := args ++ Array.replicate (fn.ntmps - args.size) undef, defers := [] } [.code c] := by
  simp [Frame.enter, Frame.atR, hf, hb, b]
 obtain ⟨e, a', cs', w', hl, ⟨he, hcs, H', S', rfl, hok, hext, hmk, hbl, hH⟩, harr⟩ := h c₀ cs hu b [] rfl rfl trivial hroom;rw [← henter] at harr;subst hcs;obtain ⟨Ds, hd, hp, hq⟩ := hmk;rw [l'F] at hd;have fin : ∀ todo : List Item, ∃ T : St, StepsIn (Machine.fenced P Fence.wide) P (lone { b.atR a' todo with mode := .returning } ({ c₀ with mode := u' } :: cs) S'.w) (lone { { b.atR a' todo with mode := .returning } with defers := [] } ({ c₀ with mode := u' } :: cs) T.w) ∧ T.Ok H' ∧ Ext H.length S H T H' := fun todo =>
  qaz9 Ds S' { b.atR a' todo with mode := .returning } ({ c₀ with mode := u' } :: cs) (by simp) hd trivial hroom hok hext hp hq
 have last : ∀ (todo : List Item), StepsIn (Machine.fenced P Fence.wide) P (lone (Frame.enter P g args .deferred) (c₀ :: cs) S.w) (lone { b.atR a' todo with mode := .returning } ({ c₀ with mode := u' } :: cs) S'.w) →
   ∃ e uu w' fr, ((∃ r, e = .returned r) ∧ uu = u' ∧ ∃ S', S'.w = w' ∧ S'.Ok Hf ∧ Ext H.length S H S' Hf) ∧ ComesIn (Machine.fenced P Fence.wide) P (lone (Frame.enter P g args .deferred) (c₀ :: cs) S.w) (lone fr ({ c₀ with mode := uu } :: cs) w') e ∧ fr.kind = .deferred ∧ fr.fn = g ∧ fr.going P w' e := fun todo hs => by
  obtain ⟨T, h1, tok, text⟩ := fin todo;obtain ⟨k1, k2⟩ := kF0 (n0 := H.length) tok (l'd _) (text.len (l'd _)) hbl;rw [hH] at k1 k2;refine ⟨.returned (.tuple #[]), u', T.w, _, ⟨⟨_, rfl⟩, rfl, T, rfl, k1, text.trans k2⟩, StepsIn.trans hs h1, rfl, rfl, rfl, rfl, fn, hf, ?_⟩;simp [results, hres]
 rcases he with rfl|rfl
 ·exact last [] (StepsIn.trans harr (.one (fenced_calm (fr := b.atR a' []) trivial hroom rfl) (stepR_end rfl)))
 ·obtain ⟨todo, hs⟩ := harr.1 rfl;exact last todo hs
section
variable {P : Program} {G : Glob} {n : Nat}
def wbt9 (o : Oper) : Bool := o.guard.isNone && (match o.op with
 | .call _ => false
 | .makeSlice _ _ _ => false
 | .buildSlice _ _ _ => false
 | _ => true)
theorem wcl9 {dr : Operand → Bool} {ops : List Oper} {K : List AV → List Blk → Prop} {o : Oper} {l : List Oper} {a : List AV} {H : List Blk} (hc : wbt9 o = true) (h : tops P G dr ops K (o :: l) a H) :
  if zx0 o.op = true then (zd0 P o.op (ev G a) H).1 = true ∧ tops P G dr ops K l (putA a o.dst (zd0 P o.op (ev G a) H).2.1) (zd0 P o.op (ev G a) H).2.2
  else (xc0 P o.op (ev G a) H).1 = true ∧ tops P G dr ops K l (putA a o.dst (xc0 P o.op (ev G a) H).2) H := by
 unfold tops at h;simp only [wbt9, l'a, l'R] at hc;obtain ⟨hg, hc⟩ := hc;rw [hg] at h;simp only at h;unfold opK at h;split at h
 ·rename_i ho; rw [ho] at hc; cases hc
 ·rename_i ho; rw [ho] at hc; cases hc
 ·rename_i ho; rw [ho] at hc; cases hc
 ·exact h
theorem zaz9 {dr : Operand → Bool} {n0 : Nat} {S0 : St} {H0 : List Blk} {ops ops' : List Oper} {K : List AV → List Blk → Prop} {Q : Exit → Act → List Frame → World → Prop} {ds : List Deferred} {cs : List Frame}
  (hQ : ∀ (act : Act) (a' : List AV) (H' : List Blk) (S' : St), K a' H' → S'.Ok H' → Ext n0 S0 H0 S' H' → Globs G S'.M → n0 ≤ H'.length → RelL (S'.env H') a' act.tmps.toList → act.defers = ds → Q .normal act cs S'.w) :
  ∀ (l : List Oper) (k : Nat) (a : List AV) (H : List Blk) (S : St) (act : Act), (∀ j, l[j]? = ops[k + j]?) → (l.all wbt9) = true → tops P G dr ops' K l a H → S.Ok H → Globs G S.M → n0 ≤ H.length → Ext n0 S0 H0 S H → RelL (S.env H) a act.tmps.toList → act.defers = ds →
   wpOpsSIn Fence.wide 0 P ops.toArray Q (List.range' k l.length) act cs S.w
 | [], k, a, H, S, act, hl, hc, ht, hok, hG, hn, hext, ha, hd => hQ act a H S ht hok hext hG hn ha hd
 | o :: l, k, a, H, S, act, hl, hc, ht, hok, hG, hn, hext, ha, hd => by
  rw [List.all_cons, l'a] at hc;have hT := wcl9 hc.1 ht;have h0 : ops.toArray[k]? = some o := by have := hl 0; simpa using this.symm
  have hρ := fun x => xR0 (act := act) hG ha x;have hg : o.guard = none := by
   have := hc.1;simp only [wbt9, l'a, l'R] at this;exact this.1
  have hw : Region.wanted o (yielded ops.toArray act.tmps) = true := by simp [Region.wanted, hg]
  have hedef : ∀ v, (act.put o.dst v).defers = ds := fun v => by
   have e : (act.put o.dst v).defers = act.defers := by cases o.dst <;> rfl
   rw [e]; exact hd
  have hgo : ∀ (r : AV) (H' : List Blk) (v : Value) (S' : St), tops P G dr ops' K l (putA a o.dst r) H' → S'.Ok H' → Ext H.length S H S' H' → Rel (S'.env H') r v → wpOpsSIn Fence.wide 0 P ops.toArray Q (List.range' (k + 1) l.length) (act.put o.dst v) cs S'.w := fun r H' v S' h2 q2 q3 q4 => by
   have hlen : H.length ≤ H'.length := q3.len (l'd _);exact zaz9 hQ l (k + 1) _ H' S' _ (fun j => by have := hl (j + 1); simpa [l'W, n'C 1 j] using this) hc.2 h2 q2 (hG.mono q3.M) (by omega) (hext.trans (q3.less hn (l'd _))) (vt0 (RelL.mono (q3.le (l'd _)) _ _ ha) _ q4) (hedef v)
  simp only [List.length_cons, List.range'_succ, wpOpsSIn, h0];refine ⟨fun _ _ => trivial, ?_⟩;rw [if_pos hw];split at hT
  ·obtain ⟨h1, h2⟩ := hT;obtain ⟨nx, v, S', q1, hnx, q2, q3, q4⟩ := vbB9 hok hρ o h1;rw [q1];rcases hnx with rfl|⟨rfl, rfl⟩
   ·exact hgo _ _ v S' h2 q2 q3 q4
   ·exact hgo _ _ undef S' h2 q2 q3 q4
  ·obtain ⟨h1, h2⟩ := hT;obtain ⟨v, S', q1, q2, q3, q4⟩ := zbB9 hok hρ (fun v => rfl) o h1;rw [q1];exact hgo _ _ v S' h2 q2 q3 q4
def vcM9 (c : Code) : Code :=
 match c with
 | .region id ops d => .region id (ops.toList.drop 2).toArray d
 | c => c
def RecS (H Hf : List Blk) : zg0 := fun e s H' => (e = .normal ∨ e = .ret) ∧ (H'.take H.length).all (Blk.below H.length) = true ∧ H'.take H.length = Hf
def RecQ (P : Program) (G : Glob) (n0 n : Nat) (body : Code) (H Hf : List Blk) : zg0
 | .normal, s, H' => Go false P G n0 n body [1] (RecS H Hf) True s H'
 | _, _, _ => False
theorem vcl9 {g : FuncId} {fn : Func} {args : List AV} {H Hf : List Blk} {u u' : FrameMode} {v w : Value} {avw : AV} {d d1 : Nat} {ty ty1 : TypeId} {pos pos1 : String} {af af1 : Array Edge} {ts : Array TypeId} {xT T : TypeId} (n : Nat) (hf : P.funcs[g]? = some fn) (hb : fn.body.isSome = true) (hn : fn.ntmps = n) (hl : args.length ≤ n) (hres : fn.results = #[])
  (hsq : zcd9 (wf0 fn) = true) (hr : km0 (atR (wf0 fn) [0]) = true) (hd : qC0 (atR (wf0 fn) [0]) = false) (ho : (qd0 (atR (wf0 fn) [0]))[0]? = some ⟨some d, .call ⟨.builtin .recover, #[], ts⟩, ty, pos, af, none⟩) (ho1 : (qd0 (atR (wf0 fn) [0]))[1]? = some ⟨some d1, .typeAssert (.tmp d) xT T true, ty1, pos1, af1, none⟩) (hdn : d < n)
  (hta : ∀ W : World, (Instr.typeAssert v xT T true).run P W = .ok w W) (hrw : ∀ E : Env, Rel E avw w) (hc : ((qd0 (atR (wf0 fn) [0])).drop 2).all wbt9 = true)
  (hu : ∀ (c₀ : Frame) (cs : List Frame), c₀.mode = u → (recoverD (c₀ :: cs) = some (v, { c₀ with mode := u' } :: cs) ∨ (recoverD (c₀ :: cs) = none ∧ v = .nilIface ∧ u' = u)))
  (h : ∀ s, waR9 s 0 args → Acc false P G H.length n noQ (vcM9 (atR (wf0 fn) [0])) [] (RecQ P G H.length n (wf0 fn) H Hf) 0 True (updS (updS s d (.lit v)) d1 avw) H) :
  ∀ (S : St) (vals : List Value), S.Ok H → Globs G S.M → RelL (S.env H) args vals → CallsDIn Fence.wide 0 P g vals.toArray u S.w fun e uu w' => (∃ r, e = .returned r) ∧ uu = u' ∧ ∃ S', S'.w = w' ∧ S'.Ok Hf ∧ Ext H.length S H S' Hf := by
 intro S vals hok hG ha;obtain ⟨c, hcb⟩ := l'G.1 hb;have hbo : wf0 fn = c := by unfold wf0; rw [hcb]; rfl
 rw [hbo] at hsq hr hd ho ho1 hc h;refine kdp9 hf hcb hres fun c₀ cs hm => ?_;have hlv := ha.length;cases c with
 | seq x y =>
  have hx : atR (.seq x y) [0] = x := rfl;rw [hx] at hr hd ho ho1 hc h;cases x with
  | region id ops dd =>
   cases hd
   simp only [qd0] at ho ho1 hc;have hrel : RelL (S.env H) (args ++ List.replicate (fn.ntmps - args.length) (.tup [])) (vals.toArray ++ Array.replicate (fn.ntmps - vals.toArray.size) undef).toList := by
    simp only [z'b, n'P, n'N, hlv];exact ha.append (RelL.replicate (by simp [Rel, RelL, undef]) _)
   have hlen : (args ++ List.replicate (fn.ntmps - args.length) (AV.tup [])).length = n := by simp [hn]; omega
   have h1 := vv0 [] args (fn.ntmps - args.length);have hA := h (getA (args ++ List.replicate (fn.ntmps - args.length) (AV.tup []))) (xN0 _ 0 args (by simpa using h1));rw [vY0 hlen] at hrel;generalize getA (args ++ List.replicate (fn.ntmps - args.length) (AV.tup [])) = s0 at hA hrel;have hsz : 2 ≤ ops.toList.length := by
    have := (l'c.1 ho1).1;omega
   apply wpSIn_seq;apply wpSIn_region;have e : List.range ops.size = 0 :: 1 :: List.range' 2 (ops.toList.drop 2).length := by
    have : ops.size = (ops.toList.drop 2).length + 1 + 1 := by rw [← Array.length_toList, l'z]; omega
    rw [this, n'r, List.range'_succ, List.range'_succ]
   rw [e];have e0 : ops[0]? = some ⟨some d, .call ⟨.builtin .recover, #[], ts⟩, ty, pos, af, none⟩ := by rw [← n'Q]; exact ho
   have e1 : ops[1]? = some ⟨some d1, .typeAssert (.tmp d) xT T true, ty1, pos1, af1, none⟩ := by rw [← n'Q]; exact ho1
   rw [wpOpsSIn];simp only [e0];refine ⟨fun _ _ => trivial, ?_⟩;rw [if_pos (by simp [Region.wanted])];have hrun : ∀ (w : World) (ρ : Operand → Value), (execOp ρ ⟨some d, .call ⟨.builtin .recover, #[], ts⟩, ty, pos, af, none⟩).run P w = .ok .recover w := fun w ρ => rfl;rw [hrun];simp only;have hdl : d < (vals.toArray ++ Array.replicate (fn.ntmps - vals.toArray.size) undef).size := by
    have := hrel.length;rw [wq0, Array.length_toList] at this;omega
   have hev : (Act.put ({ tmps := vals.toArray ++ Array.replicate (fn.ntmps - vals.toArray.size) undef, defers := [] } : Act) (some d) v).eval (.tmp d) = v := by
    simp [Act.put, Act.eval, Array.getD_eq_getD_getElem?, hdl];intro h;simp at hdl;omega
   have rest : ∀ cs2, cs2 = { c₀ with mode := u' } :: cs → wpOpsSIn Fence.wide 0 P ops (Exit.thenS (y.wpSIn Fence.wide 0 P (fun e act cs' w' => (e = .normal ∨ e = .ret) ∧ cs' = { c₀ with mode := u' } :: cs ∧ ∃ H' S', S'.w = w' ∧ S'.Ok H' ∧ Ext H.length S H S' H' ∧ Marks S [] S' H' act.defers ∧ (H'.take H.length).all (Blk.below H.length) = true ∧ H'.take H.length = Hf)) (fun e act cs' w' => (e = .normal ∨ e = .ret) ∧ cs' = { c₀ with mode := u' } :: cs ∧ ∃ H' S', S'.w = w' ∧ S'.Ok H' ∧ Ext H.length S H S' H' ∧ Marks S [] S' H' act.defers ∧ (H'.take H.length).all (Blk.below H.length) = true ∧ H'.take H.length = Hf)) (1 :: List.range' 2 (ops.toList.drop 2).length) (Act.put ({ tmps := vals.toArray ++ Array.replicate (fn.ntmps - vals.toArray.size) undef, defers := [] } : Act) (some d) v) cs2 S.w := by
    intro cs2 hcs2;subst hcs2;have hT := hA.w;simp only [atR, vcM9, qd0, List.drop_zero] at hT;rw [wpOpsSIn];simp only [e1];refine ⟨fun _ _ => trivial, ?_⟩;rw [if_pos (by simp [Region.wanted])];have hrun1 : (execOp (Act.put ({ tmps := vals.toArray ++ Array.replicate (fn.ntmps - vals.toArray.size) undef, defers := [] } : Act) (some d) v).eval ⟨some d1, .typeAssert (.tmp d) xT T true, ty1, pos1, af1, none⟩).run P S.w = .ok (.value w) S.w := by
     simp only [execOp, hev];simp [hta]
    rw [hrun1];simp only;have key := zaz9 (n0 := H.length) (S0 := S) (H0 := H) (ops := ops.toList) (ops' := ops.toList.drop 2) (dr := noQ) (ds := []) (cs := { c₀ with mode := u' } :: cs) (P := P) (G := G) (K := qG0 n (RecQ P G H.length n (.seq (.region id ops false) y) H Hf) .normal) (Q := (Exit.thenS (y.wpSIn Fence.wide 0 P (fun e act cs' w' => (e = .normal ∨ e = .ret) ∧ cs' = { c₀ with mode := u' } :: cs ∧ ∃ H' S', S'.w = w' ∧ S'.Ok H' ∧ Ext H.length S H S' H' ∧ Marks S [] S' H' act.defers ∧ (H'.take H.length).all (Blk.below H.length) = true ∧ H'.take H.length = Hf)) (fun e act cs' w' => (e = .normal ∨ e = .ret) ∧ cs' = { c₀ with mode := u' } :: cs ∧ ∃ H' S', S'.w = w' ∧ S'.Ok H' ∧ Ext H.length S H S' H' ∧ Marks S [] S' H' act.defers ∧ (H'.take H.length).all (Blk.below H.length) = true ∧ H'.take H.length = Hf))) (fun act a' H' S' hK hok' hext' hG' hn' ha' hd' => by
     obtain ⟨s', rfl, hK⟩ := hK;have hK : Go false P G H.length n (.seq (.region id ops false) y) [1] (RecS H Hf) True s' H' := hK;have hw := hK.2;unfold At at hw;refine wpSIn_of_wpIn rfl (wpIn_mono (hw none S' act rfl hok' hG' hn' ha') fun e act2 w2 hE => ?_);obtain ⟨a2, H2, S2, rfl, ⟨s2, rfl, r1, r2, r3⟩, k1, k2, k3, k4⟩ := hE;refine ⟨r1, rfl, H2, S2, rfl, k1, hext'.trans k2, ?_, r2, r3⟩;rw [hd'] at k4;exact (Marks.refl S S' H' []).trans k4 hext'.size k2)
     (ops.toList.drop 2) 2 (putA (putA (Lst n s0) (some d) (.lit v)) (some d1) avw) H S (Act.put (Act.put ({ tmps := vals.toArray ++ Array.replicate (fn.ntmps - vals.toArray.size) undef, defers := [] } : Act) (some d) v) (some d1) w) (fun j => by rw [l'Q]) hc (by rw [wk0, wk0]; exact hT) hok hG (l'd _) (Ext.refl _ _ _) (vt0 (vt0 hrel _ (by simp [Rel])) _ (hrw _)) rfl
    exact key
   rcases hu c₀ cs hm with q|⟨q, rfl, rfl⟩
   ·rw [q];exact rest _ rfl
   ·rw [q];exact rest _ (by rw [← hm])
  | _ => cases hr
 | _ => cases hsq
theorem kcM9 {g : FuncId} {fn : Func} {args : List AV} {H Hf : List Blk} {v w : Value} {avw : AV} {d d1 : Nat} {ty ty1 : TypeId} {pos pos1 : String} {af af1 : Array Edge} {ts : Array TypeId} {xT T : TypeId} (n : Nat) (hf : P.funcs[g]? = some fn) (hb : fn.body.isSome = true) (hn : fn.ntmps = n) (hl : args.length ≤ n) (hres : fn.results = #[])
  (hsq : zcd9 (wf0 fn) = true) (hr : km0 (atR (wf0 fn) [0]) = true) (hd : qC0 (atR (wf0 fn) [0]) = false) (ho : (qd0 (atR (wf0 fn) [0]))[0]? = some ⟨some d, .call ⟨.builtin .recover, #[], ts⟩, ty, pos, af, none⟩) (ho1 : (qd0 (atR (wf0 fn) [0]))[1]? = some ⟨some d1, .typeAssert (.tmp d) xT T true, ty1, pos1, af1, none⟩) (hdn : d < n)
  (hta : ∀ W : World, (Instr.typeAssert v xT T true).run P W = .ok w W) (hrw : ∀ E : Env, Rel E avw w) (hc : ((qd0 (atR (wf0 fn) [0])).drop 2).all wbt9 = true)
  (h : ∀ s, waR9 s 0 args → Acc false P G H.length n noQ (vcM9 (atR (wf0 fn) [0])) [] (RecQ P G H.length n (wf0 fn) H Hf) 0 True (updS (updS s d (.lit v)) d1 avw) H) : zcM9 P G g args H v Hf :=
 vcl9 (u := .panicking [{ v, recovered := false }]) (u' := .panicking [{ v, recovered := true }]) n hf hb hn hl hres hsq hr hd ho ho1 hdn hta hrw hc (fun c₀ cs hm => .inl (by simp [recoverD, hm])) h
theorem qcN9 {g : FuncId} {fn : Func} {args : List AV} {H Hf : List Blk} {w : Value} {avw : AV} {d d1 : Nat} {ty ty1 : TypeId} {pos pos1 : String} {af af1 : Array Edge} {ts : Array TypeId} {xT T : TypeId} (n : Nat) (hf : P.funcs[g]? = some fn) (hb : fn.body.isSome = true) (hn : fn.ntmps = n) (hl : args.length ≤ n) (hres : fn.results = #[])
  (hsq : zcd9 (wf0 fn) = true) (hr : km0 (atR (wf0 fn) [0]) = true) (hd : qC0 (atR (wf0 fn) [0]) = false) (ho : (qd0 (atR (wf0 fn) [0]))[0]? = some ⟨some d, .call ⟨.builtin .recover, #[], ts⟩, ty, pos, af, none⟩) (ho1 : (qd0 (atR (wf0 fn) [0]))[1]? = some ⟨some d1, .typeAssert (.tmp d) xT T true, ty1, pos1, af1, none⟩) (hdn : d < n)
  (hta : ∀ W : World, (Instr.typeAssert .nilIface xT T true).run P W = .ok w W) (hrw : ∀ E : Env, Rel E avw w) (hc : ((qd0 (atR (wf0 fn) [0])).drop 2).all wbt9 = true)
  (h : ∀ s, waR9 s 0 args → Acc false P G H.length n noQ (vcM9 (atR (wf0 fn) [0])) [] (RecQ P G H.length n (wf0 fn) H Hf) 0 True (updS (updS s d (.lit .nilIface)) d1 avw) H) : xcM9 P G g args H Hf :=
 vcl9 (u := .returning) (u' := .returning) n hf hb hn hl hres hsq hr hd ho ho1 hdn hta hrw hc (fun c₀ cs hm => .inr ⟨by simp [recoverD, hm], rfl, rfl⟩) h
end
section
variable {ρ : Bool} {P : Program} {G : Glob} {n0 n : Nat} {body : Code} {p : List Nat} {Q : zg0} {B : Prop} {s : Nat → AV} {H : List Blk}
def wao9 (P : Program) (G : Glob) (o : Oper) (σ : Operand → AV) (H : List Blk) (K : AV → List Blk → Prop) (X : List PanicEntry → List Blk → Prop) : Prop :=
 match o.op with
 | .call ⟨.value f, args, ts⟩ =>
  match (σ f).strip with
  | .bnd g fst => args.toList = [] ∧ (σ f).ok = true ∧ qa0 P g = true ∧ ((∃ r H', qb0 P G g fst H r H' ∧ K r H') ∨ (∃ ch H', APan P G g fst H ch H' ∧ X ch H'))
  | _ => False
 | _ => False
theorem zcN9 {S : St} {a : List AV} {act : Act} {o : Oper} {K : AV → List Blk → Prop} {X : List PanicEntry → List Blk → Prop} (h : wao9 P G o (ev G a) H K X) (hok : S.Ok H) (hG : Globs G S.M) (ha : RelL (S.env H) a act.tmps.toList)
  {N : Act → World → Prop} {R : Exit → Act → World → Prop} (hN : ∀ r H' v S', K r H' → S'.Ok H' → Ext H.length S H S' H' → Rel (S'.env H') r v → N (act.put o.dst v) S'.w) (hR : ∀ ch H' S', X ch H' → S'.Ok H' → Ext H.length S H S' H' → R (.panic ch) act S'.w) {ro : Option Nat} : o.wpIn (fen ro) 0 P act S.w N R := by
 have hρ := fun x => xR0 (act := act) hG ha x;refine ⟨fun _ _ => trivial, ?_⟩;unfold wao9 at h;split at h
 ·rename_i f args ts ho;split at h
  ·rename_i g fst hf;obtain ⟨harg, hk, hent, hcase⟩ := h;have hfv := (hρ f).strip hk;rw [hf] at hfv;simp only [Rel] at hfv;obtain ⟨vs, hfe, hrel⟩ := hfv;have hae : args = #[] := by apply n'f; simpa using harg
   unfold qa0 at hent;split at hent
   ·rename_i fn hfn;simp only [l'a, bne_iff_ne, ne_eq, l'G] at hent;obtain ⟨hname, body, hbody⟩ := hent;have hrun : (execOp act.eval o).run P S.w = .ok (.enter g vs.toArray) S.w := by
     simp only [execOp, ho, resolve, hfe, Deferred.ofValue, hae];simp [invoke, callFunc, hfn, hbody];exact hname
    rw [Oper.semAt_eq _ _ _ (fun c' hc' => by rw [ho] at hc'; cases hc'), hrun];rcases hcase with ⟨r, H', hc, hK⟩|⟨ch, H', hc, hX⟩
    ·refine ⟨fun q => (by cases q), xz0 ((hc S _ hok hG hrel).mono fun e w' hh => ?_)⟩;obtain ⟨v, S', rfl, rfl, h2, h3, h4⟩ := hh;exact hN r H' v S' hK h2 h3 h4
    ·refine ⟨fun q => (by cases q), xz0 ((hc S _ hok hG hrel).mono fun e w' hh => ?_)⟩;obtain ⟨S', rfl, rfl, h2, h3⟩ := hh;exact hR ch H' S' hX h2 h3
   ·cases hent
  ·exact h.elim
 ·exact h.elim
theorem xbS9 {o : Oper} {σ : Operand → AV} {K K' : AV → List Blk → Prop} {X X' : List PanicEntry → List Blk → Prop} (hK : ∀ r H', K r H' → K' r H') (hX : ∀ ch H', X ch H' → X' ch H') (h : wao9 P G o σ H K X) : wao9 P G o σ H K' X' := by
 unfold wao9 at h ⊢;split at h
 ·split at h
  ·obtain ⟨h1, h2, h3, h4⟩ := h;refine ⟨h1, h2, h3, ?_⟩;rcases h4 with ⟨r, H', q1, q2⟩|⟨ch, H', q1, q2⟩
   ·exact .inl ⟨r, H', q1, hK _ _ q2⟩
   ·exact .inr ⟨ch, H', q1, hX _ _ q2⟩
  ·exact h.elim
 ·exact h.elim
theorem qdq9 {Q : Post} {a : List AV} {id : Nat} {ops : List Oper} {o : Oper} (k : Nat) (hk : ops.length = k + 1) (ho : ops[k]? = some o) (hg : ∀ x ∈ ops.take k, x.guard = none) (hgo : o.guard = none)
  (h : wan9 P G ops (fun a' H' => wao9 P G o (ev G a') H' (fun r H'' => Q .normal (putA a' o.dst r) H'') (fun ch H'' => Q (.panic ch) a' H'')) (ops.take k) a H) : AWp ρ P G n0 (.region id ops.toArray false) Q a H := fun ro S act hr0 h1 h2 h3 h4 => by
 refine wpIn_region ?_;have e : List.range ops.toArray.size = List.range' 0 (ops.take k).length ++ [k] := by
  rw [n'r, l'x, n'q (by omega)];have e2 : ops.toArray.size = k + 1 := by simpa using hk
  rw [e2, List.range'_concat]; simp
 rw [e];refine zw0 (ro := ro) (S0 := S) (n0 := n0) (ds := act.defers) (fun act' w' hE => ?_) (ops.take k) 0 a H S act (fun j hj => by
  have hj' : j < k := by rw [l'x] at hj; omega
  rw [l'u, if_pos hj', l'g]) h h1 h2 h3 (Ext.refl _ _ _) h4 (Marks.refl _ _ _ _)
 obtain ⟨a', H', S', rfl, hP, hok', hext, ha', hd'⟩ := hE;have h0 : ops.toArray[k]? = some o := by simpa using ho
 simp only [wpOpsIn, h0];have hw : Region.wanted o (yielded ops.toArray act'.tmps) = true := by simp [Region.wanted, hgo]
 rw [if_pos hw];have hlen := hext.len h3;refine zcN9 hP hok' (h2.mono hext.M) ha' (fun r H'' v S'' hK hok2 hext2 hrel => ?_) (fun ch H'' S'' hX hok2 hext2 => ?_)
 ·have he2 : Ext n0 S' H' S'' H'' := hext2.less hlen (l'd _);refine ⟨_, H'', S'', rfl, hK, hok2, hext.trans he2, vt0 (RelL.mono (hext2.le (l'd _)) _ _ ha') _ hrel, ?_⟩;have ed : (act'.put o.dst v).defers = act'.defers := by cases o.dst <;> rfl
  rw [ed]; exact hd'.mono hext2
 ·have he2 : Ext n0 S' H' S'' H'' := hext2.less hlen (l'd _);exact ⟨a', H'', S'', rfl, hX, hok2, hext.trans he2, RelL.mono (hext2.le (l'd _)) _ _ ha', hd'.mono hext2⟩
def BndQ (P : Program) (G : Glob) (n : Nat) (o : Oper) (Q : zg0) : zg0
 | .normal, s, H => wao9 P G o (evS G n s) H (fun r H' => Q .normal (put s o.dst r) H') (fun ch H' => Q (.panic ch) s H')
 | _, _, _ => False
theorem kam9 (k : Nat) {o : Oper} (hs : km0 (atR body p) = true) (hd : qC0 (atR body p) = false) (hk : (qd0 (atR body p)).length = k + 1) (ho : (qd0 (atR body p))[k]? = some o) (hg : vaa9 (qd0 (atR body p)) = true)
  (h : Acc ρ P G n0 n noQ (cutB (atR body p) k) [] (BndQ P G n o Q) 0 B s H) : Go ρ P G n0 n body p Q B s H := by
 refine ⟨h.1, ?_⟩;have h2 := h.2;unfold At;generalize atR body p = c at hs hd hk ho hg h2;cases c with
 | region id ops d =>
  cases hd
  simp only [qd0] at ho hg hk;have hga : ∀ x ∈ ops.toList, x.guard = none := fun x hx => by
   have := l'j.1 hg x hx;simpa using this
  have hgk : ∀ x ∈ ops.toList.take k, x.guard = none := fun x hx => hga x (l'P hx);have h3 : tops P G noQ (ops.toList.take k) (qG0 n (BndQ P G n o Q) .normal) (ops.toList.take k) (Lst n s) H := by
   have := h2;simpa only [atR, cutB, qd0, List.drop_zero] using this
  refine qdq9 (ops := ops.toList) k hk ho hgk (hga o (l'l ho)) (zE0 (fun a' H' hq => ?_) _ _ _ (kK0 _ _ _ hgk (xq0 _ _ _ h3)));obtain ⟨s', rfl, hq⟩ := hq;rw [qm0];have hq : wao9 P G o (evS G n s') H' (fun r H' => Q .normal (put s' o.dst r) H') (fun ch H' => Q (.panic ch) s' H') := hq;exact xbS9 (fun r H'' hK => ⟨put s' o.dst r, wk0 _ _ _ _, hK⟩) (fun ch H'' hX => ⟨s', rfl, hX⟩) hq
 | _ => cases hs
end
def litF : AV → Option Value
 | .int k n => some (.int k n)
 | .bool b => some (.bool b)
 | .str s => some (.string ⟨s.toArray⟩)
 | .lit u => some u
 | _ => none
def litL : List AV → Option (List Value)
 | [] => some []
 | a :: as => match litF a, litL as with|some v, some vs => some (v :: vs)|_, _ => none
def litV : AV → Option Value
 | .agg cs => (litL cs).map fun vs => .agg vs.toArray
 | a => litF a
theorem vbD9 {E : Env} {a : AV} {v u : Value} (h : litF a = some u) (hr : Rel E a v) : v = u := by
 cases a <;> simp only [litF] at h <;> first|(injection h with h; subst h; simpa [Rel] using hr)|cases h
theorem kbD9 {E : Env} : ∀ {as : List AV} {vs us : List Value}, litL as = some us → RelL E as vs → vs = us
 | [], vs, us, h, hr => by simp only [litL] at h; injection h with h; subst h; simpa [RelL] using hr
 | a :: as, vs, us, h, hr => by
  simp only [litL] at h;split at h
  ·rename_i v vs' h1 h2;injection h with h; subst h
   simp only [RelL] at hr;obtain ⟨u, us, rfl, r1, r2⟩ := hr;rw [vbD9 h1 r1, kbD9 h2 r2]
  ·cases h
theorem xcN9 {E : Env} {a : AV} {v u : Value} (h : litV a = some u) (hr : Rel E a v) : v = u := by
 unfold litV at h;split at h
 ·rename_i cs;cases hl : litL cs with
  | none => rw [hl] at h; cases h
  | some us =>
   rw [hl] at h;injection h with h; subst h
   simp only [Rel] at hr;obtain ⟨vs, rfl, r, _⟩ := hr;rw [kbD9 hl r]
 ·exact vbD9 h hr
section
variable {ρ : Bool} {P : Program} {G : Glob} {n0 n : Nat} {body : Code} {p : List Nat} {Q : zg0} {B : Prop} {s : Nat → AV} {H : List Blk}
theorem wcN9 {Q : Post} {a : List AV} {id : Nat} {ops : List Oper} {o o1 : Oper} {d : Nat} {T : TypeId} {x : Operand} (k : Nat) (ho : ops[k]? = some o) (ho1 : ops[k + 1]? = some o1) (hop : o.op = .makeInterface T x) (hop1 : o1.op = .panic (.tmp d)) (hdst : o.dst = some d) (hg : ∀ x ∈ ops.take k, x.guard = none) (hgo : o.guard = none) (hgo1 : o1.guard = none)
  (hmk : ∀ (u : Value) (W : World), (Instr.makeInterface T u).run P W = .ok (.iface T u) W) (hdn : d < a.length)
  (h : wan9 P G ops (fun a' H' => a'.length = a.length ∧ (ev G a' x).ok = true ∧ ∃ u, litV (ev G a' x).strip = some u ∧ Q (.panic [{ v := .iface T u, recovered := false }]) (putA a' (some d) (.lit (.iface T u))) H') (ops.take k) a H) : AWp ρ P G n0 (.region id ops.toArray false) Q a H := fun ro S act hr0 h1 h2 h3 h4 => by
 have hk : k + 1 < ops.length := (l'c.1 ho1).1;refine wpIn_region ?_;have e : List.range ops.toArray.size = List.range' 0 (ops.take k).length ++ List.range' k (ops.length - k) := by
  rw [n'r, l'x, n'q (by omega)];have := List.range'_append (s := 0) (m := k) (n := ops.length - k) (step := 1);simp only [l'g, Nat.one_mul] at this;rw [this];congr 1
  simp; omega
 rw [e];refine zw0 (ro := ro) (S0 := S) (n0 := n0) (ds := act.defers) (fun act' w' hE => ?_) (ops.take k) 0 a H S act (fun j hj => by
  have hj' : j < k := by rw [l'x] at hj; omega
  rw [l'u, if_pos hj', l'g]) h h1 h2 h3 (Ext.refl _ _ _) h4 (Marks.refl _ _ _ _)
 obtain ⟨a', H', S', rfl, ⟨hla, hxk, u, hu, hQ⟩, hok', hext, ha', hd'⟩ := hE;have hρ := fun x => xR0 (act := act') (h2.mono hext.M) ha' x;have hxu : act'.eval x = u := xcN9 hu ((hρ x).strip hxk);have h0 : ops.toArray[k]? = some o := by simpa using ho
 have h01 : ops.toArray[k + 1]? = some o1 := by simpa using ho1
 rw [show ops.length - k = (ops.length - k - 2) + 1 + 1 by omega, List.range'_succ, List.range'_succ];rw [wpOpsIn];simp only [h0];rw [if_pos (by simp [Region.wanted, hgo])];refine ⟨fun _ _ => trivial, ?_⟩;have hrun : (execOp act'.eval o).run P S'.w = .ok (.value (.iface T u)) S'.w := by
  simp only [execOp, hop, hxu];simp [hmk]
 rw [Oper.semAt_eq _ _ _ (fun c hc => by rw [hop] at hc; cases hc), hrun];show wpOpsIn _ _ _ _ _ (_ :: _) _ _;rw [wpOpsIn];simp only [h01];rw [if_pos (by simp [Region.wanted, hgo1])];refine ⟨fun _ _ => trivial, ?_⟩;have hsz : d < act'.tmps.size := by
  have h1 := ha'.length;have h2 : act'.tmps.toList.length = act'.tmps.size := Array.length_toList;omega
 have hev : (act'.put o.dst (.iface T u)).eval (.tmp d) = .iface T u := by
  rw [hdst];simp [Act.put, Act.eval, Array.getD_eq_getD_getElem?, hsz]
 have hrun1 : (execOp (act'.put o.dst (.iface T u)).eval o1).run P S'.w = .halt (.panic (.iface T u)) S'.w := by
  simp only [execOp, hop1, hev, Instr.panic];rfl
 rw [Oper.semAt_eq _ _ _ (fun c hc => by rw [hop1] at hc; cases hc), hrun1];show Ends G n0 S H act.defers (Q (.panic [{ v := .iface T u, recovered := false }])) _ S'.w;refine ⟨_, H', S', rfl, hQ, hok', hext, ?_, ?_⟩
 ·rw [hdst]; exact vt0 ha' _ (by simp [Rel])
 ·have ed : (act'.put o.dst (.iface T u)).defers = act'.defers := by rw [hdst]; rfl
  rw [ed]; exact hd'
def qdJ9 (P : Program) (G : Glob) (n d : Nat) (T : TypeId) (x : Operand) (Q : zg0) : zg0
 | .normal, s, H => (evS G n s x).ok = true ∧ ∃ u, litV (evS G n s x).strip = some u ∧ Q (.panic [{ v := .iface T u, recovered := false }]) (put s (some d) (.lit (.iface T u))) H
 | _, _, _ => False
theorem zdq9 (k : Nat) {d : Nat} {T : TypeId} {x : Operand} {dst1 : Option Tmp} {ty ty1 : TypeId} {pos pos1 : String} {af af1 : Array Edge} (hs : km0 (atR body p) = true) (hd : qC0 (atR body p) = false) (ho : (qd0 (atR body p))[k]? = some ⟨some d, .makeInterface T x, ty, pos, af, none⟩) (ho1 : (qd0 (atR body p))[k + 1]? = some ⟨dst1, .panic (.tmp d), ty1, pos1, af1, none⟩) (hg : vaa9 ((qd0 (atR body p)).take k) = true)
  (hmk : ∀ (u : Value) (W : World), (Instr.makeInterface T u).run P W = .ok (.iface T u) W) (hdn : d < n)
  (h : Acc ρ P G n0 n noQ (cutB (atR body p) k) [] (qdJ9 P G n d T x Q) 0 B s H) : Go ρ P G n0 n body p Q B s H := by
 refine ⟨h.1, ?_⟩;have h2 := h.2;unfold At;generalize atR body p = c at hs hd ho ho1 hg h2;cases c with
 | region id ops dd =>
  cases hd
  simp only [qd0] at ho ho1 hg;have hgk : ∀ x ∈ ops.toList.take k, x.guard = none := fun x hx => by
   have := l'j.1 hg x hx;simpa using this
  have h3 : tops P G noQ (ops.toList.take k) (qG0 n (qdJ9 P G n d T x Q) .normal) (ops.toList.take k) (Lst n s) H := by
   have := h2;simpa only [atR, cutB, qd0, List.drop_zero] using this
  refine wcN9 (ops := ops.toList) k ho ho1 rfl rfl rfl hgk rfl rfl hmk (by rw [wq0]; exact hdn) (zE0 (fun a' H' hq => ?_) _ _ _ (kK0 _ _ _ hgk (xq0 _ _ _ h3)));obtain ⟨s', rfl, hq⟩ := hq;obtain ⟨q1, u, q2, q3⟩ := (show (evS G n s' x).ok = true ∧ ∃ u, litV (evS G n s' x).strip = some u ∧ Q (.panic [{ v := .iface T u, recovered := false }]) (put s' (some d) (.lit (.iface T u))) H' from hq);rw [qm0];exact ⟨by rw [wq0, wq0], q1, u, q2, put s' (some d) (.lit (.iface T u)), wk0 _ _ _ _, q3⟩
 | _ => cases hs
end
theorem xdq9 {P : Program} {G : Glob} {f : FuncId} {args : List AV} {H H' : List Blk} {sz n m : Nat} {t : TypeId} {es : List (List AV)} {c : Option Nat} {K : List Blk} (h : qb0 P G f args H (.own H.length n m c) (H' ++ .row sz t es :: K)) (hl : H'.length = H.length) (hr : ∀ b ∈ H', ∃ z t es, b = .row z t es) (hb : H'.all (Blk.below H.length) = true) (hm : m = es.length) (hi : idsE (fun b => decide (b < H.length)) es = true) :
  qb0 P G f args H (.sl sz (es.take n) c) H' := fun S vals hok hG ha => by
 subst hm;refine (h S vals hok hG ha).mono fun e w' ⟨v, S', he, hw, hok', hext, hrel⟩ => ?_;have hg : (H' ++ Blk.row sz t es :: K)[H.length]? = some (.row sz t es) := by rw [← hl, l'q (l'd _), l'N]; rfl
 have hL1 : ∀ x : AV, Lst 1 (fun _ => x) = [x] := fun x => rfl;obtain ⟨S1, q1, q2, q3, q4⟩ := zV0 (n0 := H.length) (n := 1) (s := fun _ => .own H.length n es.length c) hg S' [v] hok' (by simp [hl]) (by rw [hL1]; simp only [RelL]; exact ⟨v, [], rfl, hrel, rfl⟩);rw [hL1] at q4;simp only [RelL, frz, and_self, if_true] at q4;obtain ⟨u, us, e1, q4, e2⟩ := q4;injection e1 with e1
 subst e1;have hz : (frzH H.length sz es (H' ++ Blk.row sz t es :: K)).take H.length = H' := by
  unfold frzH;rw [← List.map_take, ← hl, l'O _ _ (l'd _), n'i rfl];exact wbR9 (l'd _) hr (by rw [hl]; exact hb)
 obtain ⟨h1, h2⟩ := kF0 (n0 := H.length) (m := H.length) q2 (l'd _) (by simp [frzH, hl]) (by rw [hz]; exact hb);have hag := wY0 (m := H.length) S1 (frzH H.length sz es (H' ++ Blk.row sz t es :: K));rw [hz] at h1 h2 hag;refine ⟨v, _, he, q1.trans hw, h1, (hext.trans q3).trans h2, Rel.move hag _ v ?_ q4⟩;rw [AV.ids];rw [zu0] at hi ⊢;exact fun e he => hi e (l'P he)
section
variable {P : Program} {G : Glob} {q : Operand → Bool} {ops : List Oper} {md : Region.Mode} {H : List Blk}
def kcl9 (P : Program) (G : Glob) (ops : List Oper) (md : Region.Mode) (H : List Blk) (K : List AV → Prop) : Nat → Array Bool → List AV → Prop
 | 0, listed, a => Region.ready md ops.toArray listed = [] ∧ K a
 | fuel + 1, listed, a => (Region.ready md ops.toArray listed = [] → K a) ∧
   ∀ i ∈ Region.ready md ops.toArray listed, ∃ o, ops[i]? = some o ∧ ∃ r, xk0 P G ops o a H r H ∧ kcl9 P G ops md H K fuel (listed.setIfInBounds i true) (putA a o.dst r)
theorem zaL9 {K : List AV → Prop} : ∀ (fuel : Nat) (listed : Array Bool) (a : List AV), kcl9 P G ops md H K fuel listed a → AAny P G q ops md (fun a H' => H' = H ∧ K a) fuel listed a H
 | 0, listed, a, h => ⟨h.1, rfl, h.2⟩
 | fuel + 1, listed, a, h => ⟨fun e => ⟨rfl, h.1 e⟩, fun i hi => by
  obtain ⟨o, ho, r, h1, h2⟩ := h.2 i hi;exact ⟨o, ho, r, H, ⟨h1, fun _ => rfl⟩, zaL9 fuel _ _ h2⟩⟩
theorem vbt9 {K : List AV → Prop} {i : Nat} {oi : Oper} {r : AV} {N : Nat} (hT : zK0 md ops N) (hi256 : i < 256) (hi : ops[i]? = some oi) :
  ∀ (fuel : Nat) (listed : Array Bool) (a : List AV), zI0 md ops listed →
   (∀ j oj, ops[j]? = some oj → j ≠ i → listed.getD j true = false → N.testBit (j * 256 + i) = true ∨ oi.apart ops.toArray oj = true) →
   i ∈ Region.ready md ops.toArray listed → xk0 P G ops oi a H r H → kcl9 P G ops md H K fuel (listed.setIfInBounds i true) (putA a oi.dst r) → kcl9 P G ops md H K (fuel + 1) listed a := by
 intro fuel;induction fuel with
 | zero =>
  intro listed a hc hfree hr hs hA;refine ⟨fun h => (by rw [h] at hr; cases hr), fun j hj => ?_⟩;by_cases hji : j = i
  ·subst hji; exact ⟨oi, hi, r, hs, hA⟩
  ·have := ready_mono hj hji;rw [hA.1] at this;cases this
 | succ fuel ih =>
  intro listed a hc hfree hr hs hA;refine ⟨fun h => (by rw [h] at hr; cases hr), fun j hj => ?_⟩;by_cases hji : j = i
  ·subst hji; exact ⟨oi, hi, r, hs, hA⟩
  ·obtain ⟨hjun, oj', hoj', hall⟩ := mem_ready.1 hj;have hoj : ops[j]? = some oj' := by simpa using hoj'
   rcases hfree j oj' hoj hji hjun with hre|hap
   ·exact absurd (kT0 hT hc hi256 hj hre) (vag9 (mem_ready.1 hr).1)
   ·obtain ⟨oj, hoj2, rj, hsj, hAj⟩ := hA.2 j (ready_mono hj hji);rw [hoj] at hoj2; injection hoj2 with hoj2; subst hoj2
    obtain ⟨a1, a2, a3⟩ := Oper.apart_spec hap;refine ⟨oj', hoj, rj, (ka0 a1).1 hsj, ?_⟩;refine ih (listed.setIfInBounds j true) _ (ws0 hc hj) (fun k ok hk hki hun => ?_) (ready_mono hr (n'o hji)) ((ka0 a3).2 hs) ?_
    ·refine hfree k ok hk hki ?_;by_cases hjk : j = k
     ·subst hjk; exact hjun
     ·rw [getD_set_ne true hjk] at hun; exact hun
    ·rw [z'd _ _ hji, ← zav9 a r rj a2];exact hAj
def lexS (md : Region.Mode) (ops : Array Oper) (T : Nat) : Nat → Nat → Array Bool → Bool
 | 0, _, listed => (Region.ready md ops listed).isEmpty
 | n + 1, k, listed => decide (k < 256) && (Region.ready md ops listed).contains k &&
   ((List.range ops.size).all fun j => j == k || listed.getD j true || T.testBit (j * 256 + k) ||
    (match ops[k]?, ops[j]? with|some ok, some oj => ok.apart ops oj|_, _ => false)) &&
   lexS md ops T n (k + 1) (listed.setIfInBounds k true)
def qar9 (ops : List Oper) : Bool :=
 match ancT .any ops 0 0 with
 | 0 => lexS .any ops.toArray 0 ops.length 0 (Array.replicate ops.length false)
 | n + 1 => lexS .any ops.toArray (n + 1) ops.length 0 (Array.replicate ops.length false)
theorem kbh9 (h : qar9 ops = true) : ∃ T, zK0 .any ops T ∧ lexS .any ops.toArray T ops.length 0 (Array.replicate ops.length false) = true := by
 have hT : zK0 .any ops (ancT .any ops 0 0) := vav9 ops 0 0 (fun j => by simp) fun j i _ h => by simp at h
 unfold qar9 at h;split at h
 ·rename_i h0; rw [h0] at hT; exact ⟨0, hT, h⟩
 ·rename_i n hn; rw [hn] at hT; exact ⟨n + 1, hT, h⟩
def qbE9 (P : Program) (G : Glob) (ops : List Oper) (H : List Blk) (K : List AV → Prop) : List Oper → List AV → Prop
 | [], a => K a
 | o :: rest, a => ∃ r, xk0 P G ops o a H r H ∧ qbE9 P G ops H K rest (putA a o.dst r)
theorem xaL9 {K : List AV → Prop} {T : Nat} (hT : zK0 md ops T) : ∀ (l : List Oper) (k : Nat) (listed : Array Bool) (a : List AV), (∀ j, l[j]? = ops[k + j]?) → lexS md ops.toArray T l.length k listed = true → zI0 md ops listed →
  qbE9 P G ops H K l a → kcl9 P G ops md H K l.length listed a
 | [], k, listed, a, hl, hB, hc, h => ⟨by simpa [lexS] using hB, h⟩
 | o :: l, k, listed, a, hl, hB, hc, h => by
  have h0 : ops[k]? = some o := by simpa using (hl 0).symm
  simp only [List.length_cons, lexS, l'a, l'j, l'U, decide_eq_true_eq] at hB;obtain ⟨⟨⟨h256, hr⟩, hf⟩, hB'⟩ := hB;have hr' : k ∈ Region.ready md ops.toArray listed := by simpa using hr
  obtain ⟨r, hs, hK⟩ := h;refine vbt9 hT h256 h0 l.length listed a hc (fun j oj hj hji hun => ?_) hr' hs ?_
  ·have hlt : j < ops.toArray.size := by simpa using (l'c.1 hj).1
   have := hf j hlt;simp only [l's, beq_iff_eq, hji, false_or, hun, l'I, n'n, h0, hj] at this;exact this
  ·exact xaL9 hT l (k + 1) _ _ (fun j => by have := hl (j + 1); simpa [l'W, n'C 1 j] using this) hB' (ws0 hc hr') hK
theorem qcm9 {ρ : Bool} {n0 id : Nat} {Q : Post} {a : List AV} (hm : P.follows .mixedOrders = true) (ho : qar9 ops = true) (h : qbE9 P G ops H (fun a => Q .normal a H) ops a) : AWp ρ P G n0 (.region id ops.toArray true) Q a H := fun ro S act hr0 h1 h2 h3 h4 => by
 refine wpIn_region_any hm ?_;obtain ⟨T, hT, hlex⟩ := kbh9 ho;have hA := zaL9 (q := allQ) _ _ _ (xaL9 (md := .any) hT ops 0 (Array.replicate ops.length false) a (fun j => by simp) hlex (fun k o _ hk => by
  exfalso;rw [Array.getD_eq_getD_getElem?] at hk;rcases l'h k ops.length with q|q
  ·rw [Array.getElem?_replicate, if_pos q] at hk; cases hk
  ·rw [Array.getElem?_replicate, if_neg (by omega)] at hk; cases hk) h)
 let S1 : St := S.with (S.w.drewN 1)
 have hok1 : S1.Ok H := ⟨h1.imm, h1.row, h1.ob, h1.inj⟩;have hext : Ext n0 S H S1 H := ⟨rfl, rfl, rfl, l'd _, fun _ _ _ => rfl, fun _ _ q => q, fun _ q => .inl q, fun _ q => .inl q, fun _ _ _ _ q => ⟨_, l'd _, q, fun _ => rfl⟩, fun _ _ _ q => q, fun q => q⟩;have := vbo9 (ro := ro) (Q := fun e => Ends G n0 S H act.defers (Q e)) (K := fun a' H' => H' = H ∧ Q .normal a' H) (fun act' w q => q.mono fun a' H' e => by rw [e.1]; exact e.2) ops.length (Array.replicate ops.length false) a H S1 act hA hok1 h2 h3 hext h4 (Marks.refl _ _ _ _);have e : ops.toArray.size = ops.length := by simp
 rw [e];exact this
end
section
variable {ρ : Bool} {P : Program} {G : Glob} {n0 n k : Nat} {body : Code} {p : List Nat} {Q : zg0} {B : Prop} {s : Nat → AV} {H : List Blk}
structure AccS (P : Program) (G : Glob) (n : Nat) (body : Code) (p : List Nat) (H : List Blk) (K : (Nat → AV) → Prop) (k : Nat) (s : Nat → AV) : Prop where
 w : qbE9 P G (qd0 (atR body p)) H (fun a => ∃ s', a = Lst n s' ∧ K s') ((qd0 (atR body p)).drop k) (Lst n s)
theorem vcN9 (hs : km0 (atR body p) = true) (hd : qC0 (atR body p) = true) (hm : P.follows .mixedOrders = true) (ho : qar9 (qd0 (atR body p)) = true) (hB : B) (h : AccS P G n body p H (fun s' => Q .normal s' H) 0 s) : Go ρ P G n0 n body p Q B s H := by
 refine ⟨hB, ?_⟩;have h2 := h.1;unfold At;generalize atR body p = c at hs h2 hd ho;cases c with
 | region id ops d =>
  cases hd
  simp only [qd0, List.drop_zero] at h2 ho;exact qcm9 (ops := ops.toList) hm ho h2
 | _ => cases hs
variable {K : (Nat → AV) → Prop} {d : Option Tmp} {op : Op} {ty : TypeId} {pos : String} {af : Array Edge}
theorem kcN9 (h : (qd0 (atR body p))[k]? = none) (hk : K s) : AccS P G n body p H K k s := by
 refine ⟨?_⟩;rw [l'M (n'L.1 h)];exact ⟨_, rfl, hk⟩
theorem qcO9 (h : (qd0 (atR body p))[k]? = none) (hk : Out Q .normal True s H) : AccS P G n body p H (fun s' => Q .normal s' H) k s := kcN9 h hk.2
theorem zcm9 (h : (qd0 (atR body p))[k]? = some ⟨d, op, ty, pos, af, none⟩) (ho : zaF9 op = 0) (h1 : (xc0 P op (evS G n s) H).1 = true ∧ AccS P G n body p H K (k + 1) (put s d (xc0 P op (evS G n s) H).2)) : AccS P G n body p H K k s := by
 refine ⟨?_⟩;rw [wz0 h];refine ⟨_, by unfold xk0; rw [qm0]; exact .pure h1.1, ?_⟩;rw [wk0];exact h1.2.1
theorem zcO9 (h : (qd0 (atR body p))[k]? = some ⟨d, op, ty, pos, af, none⟩) (ho : zx0 op = true) (h1 : (zd0 P op (evS G n s) H).1 = true ∧ (zd0 P op (evS G n s) H).2.2 = H ∧ AccS P G n body p H K (k + 1) (put s d (zd0 P op (evS G n s) H).2.1)) : AccS P G n body p H K k s := by
 refine ⟨?_⟩;rw [wz0 h];refine ⟨(zd0 P op (evS G n s) H).2.1, ?_, ?_⟩
 ·unfold xk0;rw [qm0];have := OpSem.eff (P := P) (G := G) (ρ := evS G n s) (H := H) ho h1.1;rw [h1.2.1] at this;exact this
 ·rw [wk0];exact h1.2.2.1
end
def strV (l : List UInt8) : Value := .string ⟨l.toArray⟩
theorem qbi9 (ys : List (List UInt8)) (cs : Array Value) (i : Nat) (hi : i < ys.length) (hc : i < cs.size) : (Go.Sort.putCells strV 0 ys.toArray cs)[i]? = some (strV (ys.getD i [])) := by
 simp only [Go.Sort.putCells, Array.getElem?_mapIdx];rw [Array.getElem?_eq_getElem hc, Option.map_some, if_pos ⟨n'b _, by simpa using hi⟩];simp [hi]
theorem xcO9 {xs : List (List UInt8)} {i : Nat} {e : List AV} (h : (strs xs)[i]? = some e) : i < xs.length ∧ e = [.str (xs.getD i [])] := by
 have hi := (l'c.1 h).1;have hi' : i < xs.length := by simpa [strs] using hi
 refine ⟨hi', ?_⟩;simp only [strs, l'k] at h;rw [l'e hi'] at h;simp only [Option.map_some, Option.some.injEq] at h;rw [← h, l'b, l'e hi']; rfl
theorem wbS9 {E : Env} {ys : List (List UInt8)} {cs : Array Value} (h : ∀ i, i < ys.length → cs[i]? = some (strV (ys.getD i []))) : RowIn E 1 (strs ys) cs := fun i e he => by
 obtain ⟨hi, rfl⟩ := xcO9 he;refine ⟨rfl, fun j a hj => ?_⟩;cases j with
 | zero =>
  simp only [List.getElem?_cons_zero, Option.some.injEq] at hj;subst hj;exact ⟨_, by simpa using h i hi, rfl, by simp [Rel, strV]⟩
 | succ j => simp at hj
theorem wdq9 {S : St} {H : List Blk} {w : World} (hok : S.Ok H) (hh : ∀ (i : Nat) (o : Obj), S.w.heap[i]? = some o → w.heap[i]? = some o) : ({ S with w := w } : St).Ok H := by
 refine ⟨fun k o hk => hh _ _ (hok.imm k o hk), fun b s t es hb => ?_, fun b x hb => ?_, hok.inj⟩
 ·rcases hok.row b s t es hb with q|⟨g, k, cs, h1, h2, h3, h4⟩
  ·exact .inl q
  ·exact .inr ⟨g, k, cs, h1, h2, hh _ _ h3, h4⟩
 ·obtain ⟨g, o, h1, h2, h3, h4⟩ := hok.ob b x hb;exact ⟨g, o, h1, h2, hh _ _ h3, h4⟩
theorem waL9 {P : Program} {G : Glob} {f : FuncId} {b : Nat} {c : Option Nat} {t : TypeId} {xs ys : List (List UInt8)} {H : List Blk} {r : AV} (hb : H[b]? = some (.row 1 t (strs xs))) (ht : t ≠ wbW9) (hne : 0 < xs.length) (hly : ys.length = xs.length) (v : Nat → Nat → Value)
  (hc : ∀ (g cap : Nat) (w : World), Go.Sort.Holds strV w g 0 xs.toArray → g < w.heap.size → xs.length ≤ cap → Calls P f #[.slice (some ⟨g, 0, none⟩) xs.length cap] w fun e w' => e = .returned (v g cap) ∧ ∃ q os, w' = Go.Sort.grow (Go.Sort.putRow strV (Go.Sort.ahead w q) g 0 ys.toArray) os)
  (hr : ∀ (E : Env) (g k cap : Nat), E.sh b = some (1, xs.length) → E.μ b = some (g, k) → xs.length ≤ cap → cap ≤ k → (c = none → cap = k) → (∀ j, c = some j → cap = j) → Rel E r (v g cap)) :
  qb0 P G f [.own b xs.length xs.length c] H r (H.set b (.row 1 t (strs ys))) := fun S vals hok hG ha => by
 simp only [RelL] at ha;obtain ⟨u, us, rfl, hu, rfl⟩ := ha;have hlx : (strs xs).length = xs.length := by simp [strs]
 have hly' : (strs ys).length = ys.length := by simp [strs]
 have hsh : shOf H b = some (1, xs.length) := by rw [xl0 hb, hlx]
 obtain ⟨s, hs, _, hcase⟩ := kp0 hu (by simp [vg0, hsh]);rw [hsh] at hs; injection hs with hs; injection hs with hs _; subst hs
 rcases hcase with ⟨_, _, h0, _⟩|⟨g, k, cap, hg, rfl, hn, hk, h1, h2⟩
 ·omega
 obtain ⟨g0, k0, cs, q1, q2, q3, q4, q5, q6, q7⟩ := (hok.row b 1 t _ hb).resolve_left (fun h => by rw [h.1] at hg; cases hg);rw [hg] at q1; injection q1 with q1; injection q1 with e1 e2; subst e1; subst e2
 rw [Nat.mul_one] at q4;rw [hlx] at q5;have hcell : ∀ i, i < xs.length → cs[i]? = some (strV (xs.getD i [])) := fun i hi => by
  obtain ⟨_, h⟩ := q7 i [.str (xs.getD i [])] (by simp [strs, hi]);obtain ⟨u, hu1, _, hu2⟩ := h 0 _ rfl;simp only [Rel] at hu2;rw [hu2] at hu1;simpa [strV] using hu1
 have hgs : g < S.w.heap.size := (l'n.1 q3).1;have hH : Go.Sort.Holds strV S.w g 0 xs.toArray := fun j hj => by
  have hj : j < xs.length := by simpa using hj
  refine ⟨?_, ?_⟩
  ·simp only [World.cell?, q3, l'g];have := hcell j hj;simp [this, hj]
  ·simp [World.frozen?, q3]
 refine (hc g cap S.w hH hgs hn).mono fun e w' ⟨he, q, os, hw⟩ => ?_
 let cs' := Go.Sort.putCells strV 0 ys.toArray cs
 have hsz' : cs'.size = cs.size := by simp [cs', Go.Sort.putCells]
 have hput := zba9 (cs' := cs') hok hb hg (es' := strs ys) (by rw [hlx, hly', hly]; exact l'd _) (by rw [hly', hly]; exact q5) (by rw [Nat.mul_one, hsz']; exact q4) (wbS9 fun i hi => qbi9 ys cs i hi (by omega));have hext := qag9 hok cs' hb hg (es' := strs ys) (by rw [hlx, hly', hly]; exact l'd _) (cs := cs);have hpre : ∀ (i : Nat) (o : Obj), (S.put g cs').w.heap[i]? = some o → w'.heap[i]? = some o := fun i o hi => by
  rw [hw];show (_ ++ os)[i]? = some o;rw [Array.getElem?_append_left]
  ·show (S.w.heap.modify g _)[i]? = some o;have hi : (S.w.heap.modify g _)[i]? = some o := hi;rw [Array.getElem?_modify] at hi ⊢;by_cases e : g = i
   ·subst e;rw [if_pos rfl, q3] at hi ⊢;exact hi
   ·rw [if_neg e] at hi ⊢; exact hi
  ·have := (l'n.1 hi).1;simpa [St.put, World.setRow, Go.Sort.putRow, Go.Sort.mapBlock, Go.Sort.ahead] using this
 refine ⟨_, { S.put g cs' with w := w' }, he, rfl, wdq9 hput hpre, ⟨?_, ?_, ?_, ?_, fun i hi hno => ?_, hext.M, hext.dom, fun i hi => hext.own i hi, fun x s' cur hx hs => hext.sh x s' cur hx hs, fun x g' hx hs => hext.ν x g' hx hs, hext.len⟩, hr _ g k cap ?_ hg hn hk h1 h2⟩
 ·rw [hw]; rfl
 ·rw [hw]; rfl
 ·rw [hw]; rfl
 ·rw [hw]; show _ ≤ (_ ++ os).size; simp [Go.Sort.putRow, Go.Sort.mapBlock, Go.Sort.ahead]
 ·have h1 := hext.keep i hi hno;show w'.heap[i]? = _;rw [← h1];obtain ⟨o, ho⟩ : ∃ o, (S.put g cs').w.heap[i]? = some o := by rw [h1]; exact ⟨_, Array.getElem?_eq_getElem hi⟩
  rw [ho]; exact hpre i o ho
 ·show shOf _ b = _;rw [vl0 (l'c.1 hb).1, hly', hly]
end Go.V

import Derived.Test.YtlpjemobbjijdaaGreatDoorV65
import Derived.Test.YtlpjemobbjijdaaGreatDoorV53
import Derived.Test.YtlpjemobbjijdaaGreatDoorV39
import Derived.Test.YtlpjemobbjijdaaGreatDoorV33
import Derived.Sort.Row
import Derived.Sort.Grow
set_option linter.unusedVariables false
set_option linter.unusedSimpArgs false
set_option autoImplicit false
namespace Go.V
open Go Go.RowKit
def litF : AV → Option Value
 | .int k n => some (.int k n)
 | .bool b => some (.bool b)
 | .str s => some (.string ⟨s.toArray⟩)
 | .lit u => some u
 | _ => none
def litL : List AV → Option (List Value)
 | [] => some []
 | a :: as => match litF a, litL as with|some v, some vs => some (v :: vs)|_, _ => none
def litV : AV → Option Value
 | .agg cs => (litL cs).map fun vs => .agg vs.toArray
 | a => litF a
theorem zbq9 {E : Env} {a : AV} {v u : Value} (h : litF a = some u) (hr : Rel E a v) : v = u := by
 cases a <;> simp only [litF] at h <;> first|(injection h with h; subst h; simpa [Rel] using hr)|cases h
theorem xbq9 {E : Env} : ∀ {as : List AV} {vs us : List Value}, litL as = some us → RelL E as vs → vs = us
 | [], vs, us, h, hr => by simp only [litL] at h; injection h with h; subst h; simpa [RelL] using hr
 | a :: as, vs, us, h, hr => by
  simp only [litL] at h
  split at h
  ·rename_i v vs' h1 h2
   injection h with h; subst h
   simp only [RelL] at hr
   obtain ⟨u, us, rfl, r1, r2⟩ := hr
   rw [zbq9 h1 r1, xbq9 h2 r2]
  ·cases h
theorem qct9 {E : Env} {a : AV} {v u : Value} (h : litV a = some u) (hr : Rel E a v) : v = u := by
 unfold litV at h
 split at h
 ·rename_i cs
  cases hl : litL cs with
  | none => rw [hl] at h; cases h
  | some us =>
   rw [hl] at h
   injection h with h; subst h
   simp only [Rel] at hr
   obtain ⟨vs, rfl, r, _⟩ := hr
   rw [xbq9 hl r]
 ·exact zbq9 h hr
section
variable {ρ : Bool} {P : Program} {G : Glob} {n0 n : Nat} {body : Code} {p : List Nat} {Q : ke0} {B : Prop} {s : Nat → AV} {H : List Blk}
theorem zct9 {Q : Post} {a : List AV} {id : Nat} {ops : List Oper} {o o1 : Oper} {d : Nat} {T : TypeId} {x : Operand} (k : Nat) (ho : ops[k]? = some o) (ho1 : ops[k + 1]? = some o1) (hop : o.op = .makeInterface T x) (hop1 : o1.op = .panic (.tmp d)) (hdst : o.dst = some d) (hg : ∀ x ∈ ops.take k, x.guard = none) (hgo : o.guard = none) (hgo1 : o1.guard = none)
  (hmk : ∀ (u : Value) (W : World), (Instr.makeInterface T u).run P W = .ok (.iface T u) W) (hdn : d < a.length)
  (h : wag9 P G ops (fun a' H' => a'.length = a.length ∧ (ev G a' x).ok = true ∧ ∃ u, litV (ev G a' x).strip = some u ∧ Q (.panic [{ v := .iface T u, recovered := false }]) (putA a' (some d) (.lit (.iface T u))) H') (ops.take k) a H) : AWp ρ P G n0 (.region id ops.toArray false) Q a H := fun ro S act hr0 h1 h2 h3 h4 => by
 have hk : k + 1 < ops.length := (List.getElem?_eq_some_iff.1 ho1).1
 refine wpIn_region ?_
 have e : List.range ops.toArray.size = List.range' 0 (ops.take k).length ++ List.range' k (ops.length - k) := by
  rw [List.range_eq_range', List.length_take, Nat.min_eq_left (by omega)]
  have := List.range'_append (s := 0) (m := k) (n := ops.length - k) (step := 1)
  simp only [Nat.zero_add, Nat.one_mul] at this
  rw [this]
  congr 1
  simp; omega
 rw [e]
 refine wt0 (ro := ro) (S0 := S) (n0 := n0) (ds := act.defers) (fun act' w' hE => ?_) (ops.take k) 0 a H S act (fun j hj => by
  have hj' : j < k := by rw [List.length_take] at hj; omega
  rw [List.getElem?_take, if_pos hj', Nat.zero_add]) h h1 h2 h3 (Ext.refl _ _ _) h4 (Marks.refl _ _ _ _)
 obtain ⟨a', H', S', rfl, ⟨hla, hxk, u, hu, hQ⟩, hok', hext, ha', hd'⟩ := hE
 have hρ := fun x => wL0 (act := act') (h2.mono hext.M) ha' x
 have hxu : act'.eval x = u := qct9 hu ((hρ x).strip hxk)
 have h0 : ops.toArray[k]? = some o := by simpa using ho
 have h01 : ops.toArray[k + 1]? = some o1 := by simpa using ho1
 rw [show ops.length - k = (ops.length - k - 2) + 1 + 1 by omega, List.range'_succ, List.range'_succ]
 rw [wpOpsIn]
 simp only [h0]
 rw [if_pos (by simp [Region.wanted, hgo])]
 refine ⟨fun _ _ => trivial, ?_⟩
 have hrun : (execOp act'.eval o).run P S'.w = .ok (.value (.iface T u)) S'.w := by
  simp only [execOp, hop, hxu]
  simp [hmk]
 rw [Oper.semAt_eq _ _ _ (fun c hc => by rw [hop] at hc; cases hc), hrun]
 show wpOpsIn _ _ _ _ _ (_ :: _) _ _
 rw [wpOpsIn]
 simp only [h01]
 rw [if_pos (by simp [Region.wanted, hgo1])]
 refine ⟨fun _ _ => trivial, ?_⟩
 have hsz : d < act'.tmps.size := by
  have h1 := ha'.length
  have h2 : act'.tmps.toList.length = act'.tmps.size := Array.length_toList
  omega
 have hev : (act'.put o.dst (.iface T u)).eval (.tmp d) = .iface T u := by
  rw [hdst]
  simp [Act.put, Act.eval, Array.getD_eq_getD_getElem?, hsz]
 have hrun1 : (execOp (act'.put o.dst (.iface T u)).eval o1).run P S'.w = .halt (.panic (.iface T u)) S'.w := by
  simp only [execOp, hop1, hev, Instr.panic]
  rfl
 rw [Oper.semAt_eq _ _ _ (fun c hc => by rw [hop1] at hc; cases hc), hrun1]
 show Ends G n0 S H act.defers (Q (.panic [{ v := .iface T u, recovered := false }])) _ S'.w
 refine ⟨_, H', S', rfl, hQ, hok', hext, ?_, ?_⟩
 ·rw [hdst]; exact zr0 ha' _ (by simp [Rel])
 ·have ed : (act'.put o.dst (.iface T u)).defers = act'.defers := by rw [hdst]; rfl
  rw [ed]; exact hd'
def wdj9 (P : Program) (G : Glob) (n d : Nat) (T : TypeId) (x : Operand) (Q : ke0) : ke0
 | .normal, s, H => (evS G n s x).ok = true ∧ ∃ u, litV (evS G n s x).strip = some u ∧ Q (.panic [{ v := .iface T u, recovered := false }]) (put s (some d) (.lit (.iface T u))) H
 | _, _, _ => False
theorem zcS9 (k : Nat) {d : Nat} {T : TypeId} {x : Operand} {dst1 : Option Tmp} {ty ty1 : TypeId} {pos pos1 : String} {af af1 : Array Edge} (hs : xm0 (atR body p) = true) (hd : wD0 (atR body p) = false) (ho : (qd0 (atR body p))[k]? = some ⟨some d, .makeInterface T x, ty, pos, af, none⟩) (ho1 : (qd0 (atR body p))[k + 1]? = some ⟨dst1, .panic (.tmp d), ty1, pos1, af1, none⟩) (hg : qV0 ((qd0 (atR body p)).take k) = true)
  (hmk : ∀ (u : Value) (W : World), (Instr.makeInterface T u).run P W = .ok (.iface T u) W) (hdn : d < n)
  (h : Acc ρ P G n0 n noQ (cutB (atR body p) k) [] (wdj9 P G n d T x Q) 0 B s H) : Go ρ P G n0 n body p Q B s H := by
 refine ⟨h.1, ?_⟩
 have h2 := h.2
 unfold At
 generalize atR body p = c at hs hd ho ho1 hg h2
 cases c with
 | region id ops dd =>
  cases hd
  simp only [qd0] at ho ho1 hg
  have hgk : ∀ x ∈ ops.toList.take k, x.guard = none := fun x hx => by
   have := List.all_eq_true.1 hg x hx
   simpa using this
  have h3 : tops P G noQ (ops.toList.take k) (qE0 n (wdj9 P G n d T x Q) .normal) (ops.toList.take k) (Lst n s) H := by
   have := h2
   simpa only [atR, cutB, qd0, List.drop_zero] using this
  refine zct9 (ops := ops.toList) k ho ho1 rfl rfl rfl hgk rfl rfl hmk (by rw [vn0]; exact hdn) (zA0 (fun a' H' hq => ?_) _ _ _ (qG0 _ _ _ hgk (wn0 _ _ _ h3)))
  obtain ⟨s', rfl, hq⟩ := hq
  obtain ⟨q1, u, q2, q3⟩ := (show (evS G n s' x).ok = true ∧ ∃ u, litV (evS G n s' x).strip = some u ∧ Q (.panic [{ v := .iface T u, recovered := false }]) (put s' (some d) (.lit (.iface T u))) H' from hq)
  rw [zk0]
  exact ⟨by rw [vn0, vn0], q1, u, q2, put s' (some d) (.lit (.iface T u)), vj0 _ _ _ _, q3⟩
 | _ => cases hs
end
end Go.V
set_option linter.unusedVariables false
set_option linter.unusedSimpArgs false
namespace Go.V
open Go Go.RowKit
theorem xcS9 {P : Program} {G : Glob} {f : FuncId} {args : List AV} {H H' : List Blk} {sz n m : Nat} {t : TypeId} {es : List (List AV)} {c : Option Nat} {K : List Blk} (h : ka0 P G f args H (.own H.length n m c) (H' ++ .row sz t es :: K)) (hl : H'.length = H.length) (hr : ∀ b ∈ H', ∃ z t es, b = .row z t es) (hb : H'.all (Blk.below H.length) = true) (hm : m = es.length) (hi : idsE (fun b => decide (b < H.length)) es = true) :
  ka0 P G f args H (.sl sz (es.take n) c) H' := fun S vals hok hG ha => by
 subst hm
 refine (h S vals hok hG ha).mono fun e w' ⟨v, S', he, hw, hok', hext, hrel⟩ => ?_
 have hg : (H' ++ Blk.row sz t es :: K)[H.length]? = some (.row sz t es) := by rw [← hl, List.getElem?_append_right (Nat.le_refl _), Nat.sub_self]; rfl
 have hL1 : ∀ x : AV, Lst 1 (fun _ => x) = [x] := fun x => rfl
 obtain ⟨S1, q1, q2, q3, q4⟩ := zbh9 (n0 := H.length) (n := 1) (s := fun _ => .own H.length n es.length c) hg S' [v] hok' (by simp [hl]) (by rw [hL1]; simp only [RelL]; exact ⟨v, [], rfl, hrel, rfl⟩)
 rw [hL1] at q4
 simp only [RelL, frz, and_self, if_true] at q4
 obtain ⟨u, us, e1, q4, e2⟩ := q4
 injection e1 with e1
 subst e1
 have hz : (frzH H.length sz es (H' ++ Blk.row sz t es :: K)).take H.length = H' := by
  unfold frzH
  rw [← List.map_take, ← hl, List.set_append_right _ _ (Nat.le_refl _), List.take_left' rfl]
  exact wbB9 (Nat.le_refl _) hr (by rw [hl]; exact hb)
 obtain ⟨h1, h2⟩ := vB0 (n0 := H.length) (m := H.length) q2 (Nat.le_refl _) (by simp [frzH, hl]) (by rw [hz]; exact hb)
 have hag := vS0 (m := H.length) S1 (frzH H.length sz es (H' ++ Blk.row sz t es :: K))
 rw [hz] at h1 h2 hag
 refine ⟨v, _, he, q1.trans hw, h1, (hext.trans q3).trans h2, Rel.move hag _ v ?_ q4⟩
 rw [AV.ids]
 rw [vr0] at hi ⊢
 exact fun e he => hi e (List.mem_of_mem_take he)
end Go.V
set_option linter.unusedVariables false
set_option linter.unusedSimpArgs false
set_option autoImplicit false
namespace Go.V
open Go Go.RowKit
section
variable {P : Program} {G : Glob} {q : Operand → Bool} {ops : List Oper} {md : Region.Mode} {H : List Blk}
def wbV9 (P : Program) (G : Glob) (ops : List Oper) (md : Region.Mode) (H : List Blk) (K : List AV → Prop) : Nat → Array Bool → List AV → Prop
 | 0, listed, a => Region.ready md ops.toArray listed = [] ∧ K a
 | fuel + 1, listed, a => (Region.ready md ops.toArray listed = [] → K a) ∧
   ∀ i ∈ Region.ready md ops.toArray listed, ∃ o, ops[i]? = some o ∧ ∃ r, wi0 P G ops o a H r H ∧ wbV9 P G ops md H K fuel (listed.setIfInBounds i true) (putA a o.dst r)
theorem waC9 {K : List AV → Prop} : ∀ (fuel : Nat) (listed : Array Bool) (a : List AV), wbV9 P G ops md H K fuel listed a → AAny P G q ops md (fun a H' => H' = H ∧ K a) fuel listed a H
 | 0, listed, a, h => ⟨h.1, rfl, h.2⟩
 | fuel + 1, listed, a, h => ⟨fun e => ⟨rfl, h.1 e⟩, fun i hi => by
  obtain ⟨o, ho, r, h1, h2⟩ := h.2 i hi
  exact ⟨o, ho, r, H, ⟨h1, fun _ => rfl⟩, waC9 fuel _ _ h2⟩⟩
theorem wbi9 {K : List AV → Prop} {i : Nat} {oi : Oper} {r : AV} {N : Nat} (hT : xF0 md ops N) (hi256 : i < 256) (hi : ops[i]? = some oi) :
  ∀ (fuel : Nat) (listed : Array Bool) (a : List AV), xD0 md ops listed →
   (∀ j oj, ops[j]? = some oj → j ≠ i → listed.getD j true = false → N.testBit (j * 256 + i) = true ∨ oi.apart ops.toArray oj = true) →
   i ∈ Region.ready md ops.toArray listed → wi0 P G ops oi a H r H → wbV9 P G ops md H K fuel (listed.setIfInBounds i true) (putA a oi.dst r) → wbV9 P G ops md H K (fuel + 1) listed a := by
 intro fuel
 induction fuel with
 | zero =>
  intro listed a hc hfree hr hs hA
  refine ⟨fun h => (by rw [h] at hr; cases hr), fun j hj => ?_⟩
  by_cases hji : j = i
  ·subst hji; exact ⟨oi, hi, r, hs, hA⟩
  ·have := ready_mono hj hji
   rw [hA.1] at this
   cases this
 | succ fuel ih =>
  intro listed a hc hfree hr hs hA
  refine ⟨fun h => (by rw [h] at hr; cases hr), fun j hj => ?_⟩
  by_cases hji : j = i
  ·subst hji; exact ⟨oi, hi, r, hs, hA⟩
  ·obtain ⟨hjun, oj', hoj', hall⟩ := mem_ready.1 hj
   have hoj : ops[j]? = some oj' := by simpa using hoj'
   rcases hfree j oj' hoj hji hjun with hre|hap
   ·exact absurd (zO0 hT hc hi256 hj hre) (qaa9 (mem_ready.1 hr).1)
   ·obtain ⟨oj, hoj2, rj, hsj, hAj⟩ := hA.2 j (ready_mono hj hji)
    rw [hoj] at hoj2; injection hoj2 with hoj2; subst hoj2
    obtain ⟨a1, a2, a3⟩ := Oper.apart_spec hap
    refine ⟨oj', hoj, rj, (va0 a1).1 hsj, ?_⟩
    refine ih (listed.setIfInBounds j true) _ (qq0 hc hj) (fun k ok hk hki hun => ?_) (ready_mono hr (Ne.symm hji)) ((va0 a3).2 hs) ?_
    ·refine hfree k ok hk hki ?_
     by_cases hjk : j = k
     ·subst hjk; exact hjun
     ·rw [getD_set_ne true hjk] at hun; exact hun
    ·rw [Array.setIfInBounds_comm _ _ hji, ← kan9 a r rj a2]
     exact hAj
def lexS (md : Region.Mode) (ops : Array Oper) (T : Nat) : Nat → Nat → Array Bool → Bool
 | 0, _, listed => (Region.ready md ops listed).isEmpty
 | n + 1, k, listed => decide (k < 256) && (Region.ready md ops listed).contains k &&
   ((List.range ops.size).all fun j => j == k || listed.getD j true || T.testBit (j * 256 + k) ||
    (match ops[k]?, ops[j]? with|some ok, some oj => ok.apart ops oj|_, _ => false)) &&
   lexS md ops T n (k + 1) (listed.setIfInBounds k true)
def kaj9 (ops : List Oper) : Bool :=
 match ancT .any ops 0 0 with
 | 0 => lexS .any ops.toArray 0 ops.length 0 (Array.replicate ops.length false)
 | n + 1 => lexS .any ops.toArray (n + 1) ops.length 0 (Array.replicate ops.length false)
theorem vaX9 (h : kaj9 ops = true) : ∃ T, xF0 .any ops T ∧ lexS .any ops.toArray T ops.length 0 (Array.replicate ops.length false) = true := by
 have hT : xF0 .any ops (ancT .any ops 0 0) := xao9 ops 0 0 (fun j => by simp) fun j i _ h => by simp at h
 unfold kaj9 at h
 split at h
 ·rename_i h0; rw [h0] at hT; exact ⟨0, hT, h⟩
 ·rename_i n hn; rw [hn] at hT; exact ⟨n + 1, hT, h⟩
def wbq9 (P : Program) (G : Glob) (ops : List Oper) (H : List Blk) (K : List AV → Prop) : List Oper → List AV → Prop
 | [], a => K a
 | o :: rest, a => ∃ r, wi0 P G ops o a H r H ∧ wbq9 P G ops H K rest (putA a o.dst r)
theorem vaC9 {K : List AV → Prop} {T : Nat} (hT : xF0 md ops T) : ∀ (l : List Oper) (k : Nat) (listed : Array Bool) (a : List AV), (∀ j, l[j]? = ops[k + j]?) → lexS md ops.toArray T l.length k listed = true → xD0 md ops listed →
  wbq9 P G ops H K l a → wbV9 P G ops md H K l.length listed a
 | [], k, listed, a, hl, hB, hc, h => ⟨by simpa [lexS] using hB, h⟩
 | o :: l, k, listed, a, hl, hB, hc, h => by
  have h0 : ops[k]? = some o := by simpa using (hl 0).symm
  simp only [List.length_cons, lexS, Bool.and_eq_true, List.all_eq_true, List.mem_range, decide_eq_true_eq] at hB
  obtain ⟨⟨⟨h256, hr⟩, hf⟩, hB'⟩ := hB
  have hr' : k ∈ Region.ready md ops.toArray listed := by simpa using hr
  obtain ⟨r, hs, hK⟩ := h
  refine wbi9 hT h256 h0 l.length listed a hc (fun j oj hj hji hun => ?_) hr' hs ?_
  ·have hlt : j < ops.toArray.size := by simpa using (List.getElem?_eq_some_iff.1 hj).1
   have := hf j hlt
   simp only [Bool.or_eq_true, beq_iff_eq, hji, false_or, hun, Bool.false_eq_true, List.getElem?_toArray, h0, hj] at this
   exact this
  ·exact vaC9 hT l (k + 1) _ _ (fun j => by have := hl (j + 1); simpa [Nat.add_assoc, Nat.add_comm 1 j] using this) hB' (qq0 hc hr') hK
theorem vbV9 {ρ : Bool} {n0 id : Nat} {Q : Post} {a : List AV} (hm : P.follows .mixedOrders = true) (ho : kaj9 ops = true) (h : wbq9 P G ops H (fun a => Q .normal a H) ops a) : AWp ρ P G n0 (.region id ops.toArray true) Q a H := fun ro S act hr0 h1 h2 h3 h4 => by
 refine wpIn_region_any hm ?_
 obtain ⟨T, hT, hlex⟩ := vaX9 ho
 have hA := waC9 (q := allQ) _ _ _ (vaC9 (md := .any) hT ops 0 (Array.replicate ops.length false) a (fun j => by simp) hlex (fun k o _ hk => by
  exfalso
  rw [Array.getD_eq_getD_getElem?] at hk
  rcases Nat.lt_or_ge k ops.length with q|q
  ·rw [Array.getElem?_replicate, if_pos q] at hk; cases hk
  ·rw [Array.getElem?_replicate, if_neg (by omega)] at hk; cases hk) h)
 let S1 : St := S.with (S.w.drewN 1)
 have hok1 : S1.Ok H := ⟨h1.imm, h1.row, h1.ob, h1.inj⟩
 have hext : Ext n0 S H S1 H := ⟨rfl, rfl, rfl, Nat.le_refl _, fun _ _ _ => rfl, fun _ _ q => q, fun _ q => .inl q, fun _ q => .inl q, fun _ _ _ _ q => ⟨_, Nat.le_refl _, q, fun _ => rfl⟩, fun _ _ _ q => q, fun q => q⟩
 have := wbd9 (ro := ro) (Q := fun e => Ends G n0 S H act.defers (Q e)) (K := fun a' H' => H' = H ∧ Q .normal a' H) (fun act' w q => q.mono fun a' H' e => by rw [e.1]; exact e.2) ops.length (Array.replicate ops.length false) a H S1 act hA hok1 h2 h3 hext h4 (Marks.refl _ _ _ _)
 have e : ops.toArray.size = ops.length := by simp
 rw [e]
 exact this
end
section
variable {ρ : Bool} {P : Program} {G : Glob} {n0 n k : Nat} {body : Code} {p : List Nat} {Q : ke0} {B : Prop} {s : Nat → AV} {H : List Blk}
structure AccS (P : Program) (G : Glob) (n : Nat) (body : Code) (p : List Nat) (H : List Blk) (K : (Nat → AV) → Prop) (k : Nat) (s : Nat → AV) : Prop where
 w : wbq9 P G (qd0 (atR body p)) H (fun a => ∃ s', a = Lst n s' ∧ K s') ((qd0 (atR body p)).drop k) (Lst n s)
theorem xct9 (hs : xm0 (atR body p) = true) (hd : wD0 (atR body p) = true) (hm : P.follows .mixedOrders = true) (ho : kaj9 (qd0 (atR body p)) = true) (hB : B) (h : AccS P G n body p H (fun s' => Q .normal s' H) 0 s) : Go ρ P G n0 n body p Q B s H := by
 refine ⟨hB, ?_⟩
 have h2 := h.1
 unfold At
 generalize atR body p = c at hs h2 hd ho
 cases c with
 | region id ops d =>
  cases hd
  simp only [qd0, List.drop_zero] at h2 ho
  exact vbV9 (ops := ops.toList) hm ho h2
 | _ => cases hs
variable {K : (Nat → AV) → Prop} {d : Option Tmp} {op : Op} {ty : TypeId} {pos : String} {af : Array Edge}
theorem wct9 (h : (qd0 (atR body p))[k]? = none) (hk : K s) : AccS P G n body p H K k s := by
 refine ⟨?_⟩
 rw [List.drop_eq_nil_of_le (List.getElem?_eq_none_iff.1 h)]
 exact ⟨_, rfl, hk⟩
theorem vct9 (h : (qd0 (atR body p))[k]? = none) (hk : Out Q .normal True s H) : AccS P G n body p H (fun s' => Q .normal s' H) k s := wct9 h hk.2
theorem kbV9 (h : (qd0 (atR body p))[k]? = some ⟨d, op, ty, pos, af, none⟩) (ho : kaw9 op = 0) (h1 : (zc0 P op (evS G n s) H).1 = true ∧ AccS P G n body p H K (k + 1) (put s d (zc0 P op (evS G n s) H).2)) : AccS P G n body p H K k s := by
 refine ⟨?_⟩
 rw [xz0 h]
 refine ⟨_, by unfold wi0; rw [zk0]; exact .pure h1.1, ?_⟩
 rw [vj0]
 exact h1.2.1
theorem kct9 (h : (qd0 (atR body p))[k]? = some ⟨d, op, ty, pos, af, none⟩) (ho : wu0 op = true) (h1 : (kc0 P op (evS G n s) H).1 = true ∧ (kc0 P op (evS G n s) H).2.2 = H ∧ AccS P G n body p H K (k + 1) (put s d (kc0 P op (evS G n s) H).2.1)) : AccS P G n body p H K k s := by
 refine ⟨?_⟩
 rw [xz0 h]
 refine ⟨(kc0 P op (evS G n s) H).2.1, ?_, ?_⟩
 ·unfold wi0
  rw [zk0]
  have := OpSem.eff (P := P) (G := G) (ρ := evS G n s) (H := H) ho h1.1
  rw [h1.2.1] at this
  exact this
 ·rw [vj0]
  exact h1.2.2.1
end
end Go.V
set_option linter.unusedVariables false
set_option linter.unusedSimpArgs false
set_option autoImplicit false
namespace Go.V
open Go Go.RowKit
def strV (l : List UInt8) : Value := .string ⟨l.toArray⟩
theorem kaX9 (ys : List (List UInt8)) (cs : Array Value) (i : Nat) (hi : i < ys.length) (hc : i < cs.size) : (Go.Sort.putCells strV 0 ys.toArray cs)[i]? = some (strV (ys.getD i [])) := by
 simp only [Go.Sort.putCells, Array.getElem?_mapIdx]
 rw [Array.getElem?_eq_getElem hc, Option.map_some, if_pos ⟨Nat.zero_le _, by simpa using hi⟩]
 simp [hi]
theorem qcu9 {xs : List (List UInt8)} {i : Nat} {e : List AV} (h : (strs xs)[i]? = some e) : i < xs.length ∧ e = [.str (xs.getD i [])] := by
 have hi := (List.getElem?_eq_some_iff.1 h).1
 have hi' : i < xs.length := by simpa [strs] using hi
 refine ⟨hi', ?_⟩
 simp only [strs, List.getElem?_map] at h
 rw [List.getElem?_eq_getElem hi'] at h
 simp only [Option.map_some, Option.some.injEq] at h
 rw [← h, List.getD_eq_getElem?_getD, List.getElem?_eq_getElem hi']; rfl
theorem wbC9 {E : Env} {ys : List (List UInt8)} {cs : Array Value} (h : ∀ i, i < ys.length → cs[i]? = some (strV (ys.getD i []))) : RowIn E 1 (strs ys) cs := fun i e he => by
 obtain ⟨hi, rfl⟩ := qcu9 he
 refine ⟨rfl, fun j a hj => ?_⟩
 cases j with
 | zero =>
  simp only [List.getElem?_cons_zero, Option.some.injEq] at hj
  subst hj
  exact ⟨_, by simpa using h i hi, rfl, by simp [Rel, strV]⟩
 | succ j => simp at hj
theorem wcS9 {S : St} {H : List Blk} {w : World} (hok : S.Ok H) (hh : ∀ (i : Nat) (o : Obj), S.w.heap[i]? = some o → w.heap[i]? = some o) : ({ S with w := w } : St).Ok H := by
 refine ⟨fun k o hk => hh _ _ (hok.imm k o hk), fun b s t es hb => ?_, fun b x hb => ?_, hok.inj⟩
 ·rcases hok.row b s t es hb with q|⟨g, k, cs, h1, h2, h3, h4⟩
  ·exact .inl q
  ·exact .inr ⟨g, k, cs, h1, h2, hh _ _ h3, h4⟩
 ·obtain ⟨g, o, h1, h2, h3, h4⟩ := hok.ob b x hb
  exact ⟨g, o, h1, h2, hh _ _ h3, h4⟩
theorem kaC9 {P : Program} {G : Glob} {f : FuncId} {b : Nat} {c : Option Nat} {t : TypeId} {xs ys : List (List UInt8)} {H : List Blk} {r : AV} (hb : H[b]? = some (.row 1 t (strs xs))) (ht : t ≠ qbG9) (hne : 0 < xs.length) (hly : ys.length = xs.length) (v : Nat → Nat → Value)
  (hc : ∀ (g cap : Nat) (w : World), Go.Sort.Holds strV w g 0 xs.toArray → g < w.heap.size → xs.length ≤ cap → Calls P f #[.slice (some ⟨g, 0, none⟩) xs.length cap] w fun e w' => e = .returned (v g cap) ∧ ∃ q os, w' = Go.Sort.grow (Go.Sort.putRow strV (Go.Sort.ahead w q) g 0 ys.toArray) os)
  (hr : ∀ (E : Env) (g k cap : Nat), E.sh b = some (1, xs.length) → E.μ b = some (g, k) → xs.length ≤ cap → cap ≤ k → (c = none → cap = k) → (∀ j, c = some j → cap = j) → Rel E r (v g cap)) :
  ka0 P G f [.own b xs.length xs.length c] H r (H.set b (.row 1 t (strs ys))) := fun S vals hok hG ha => by
 simp only [RelL] at ha
 obtain ⟨u, us, rfl, hu, rfl⟩ := ha
 have hlx : (strs xs).length = xs.length := by simp [strs]
 have hly' : (strs ys).length = ys.length := by simp [strs]
 have hsh : shOf H b = some (1, xs.length) := by rw [qj0 hb, hlx]
 obtain ⟨s, hs, _, hcase⟩ := wm0 hu (by simp [wf0, hsh])
 rw [hsh] at hs; injection hs with hs; injection hs with hs _; subst hs
 rcases hcase with ⟨_, _, h0, _⟩|⟨g, k, cap, hg, rfl, hn, hk, h1, h2⟩
 ·omega
 obtain ⟨g0, k0, cs, q1, q2, q3, q4, q5, q6, q7⟩ := (hok.row b 1 t _ hb).resolve_left (fun h => by rw [h.1] at hg; cases hg)
 rw [hg] at q1; injection q1 with q1; injection q1 with e1 e2; subst e1; subst e2
 rw [Nat.mul_one] at q4
 rw [hlx] at q5
 have hcell : ∀ i, i < xs.length → cs[i]? = some (strV (xs.getD i [])) := fun i hi => by
  obtain ⟨_, h⟩ := q7 i [.str (xs.getD i [])] (by simp [strs, hi])
  obtain ⟨u, hu1, _, hu2⟩ := h 0 _ rfl
  simp only [Rel] at hu2
  rw [hu2] at hu1
  simpa [strV] using hu1
 have hgs : g < S.w.heap.size := (Array.getElem?_eq_some_iff.1 q3).1
 have hH : Go.Sort.Holds strV S.w g 0 xs.toArray := fun j hj => by
  have hj : j < xs.length := by simpa using hj
  refine ⟨?_, ?_⟩
  ·simp only [World.cell?, q3, Nat.zero_add]
   have := hcell j hj
   simp [this, hj]
  ·simp [World.frozen?, q3]
 refine (hc g cap S.w hH hgs hn).mono fun e w' ⟨he, q, os, hw⟩ => ?_
 let cs' := Go.Sort.putCells strV 0 ys.toArray cs
 have hsz' : cs'.size = cs.size := by simp [cs', Go.Sort.putCells]
 have hput := kaP9 (cs' := cs') hok hb hg (es' := strs ys) (by rw [hlx, hly', hly]; exact Nat.le_refl _) (by rw [hly', hly]; exact q5) (by rw [Nat.mul_one, hsz']; exact q4) (wbC9 fun i hi => kaX9 ys cs i hi (by omega))
 have hext := xZ0 hok cs' hb hg (es' := strs ys) (by rw [hlx, hly', hly]; exact Nat.le_refl _) (cs := cs)
 have hpre : ∀ (i : Nat) (o : Obj), (S.put g cs').w.heap[i]? = some o → w'.heap[i]? = some o := fun i o hi => by
  rw [hw]
  show (_ ++ os)[i]? = some o
  rw [Array.getElem?_append_left]
  ·show (S.w.heap.modify g _)[i]? = some o
   have hi : (S.w.heap.modify g _)[i]? = some o := hi
   rw [Array.getElem?_modify] at hi ⊢
   by_cases e : g = i
   ·subst e
    rw [if_pos rfl, q3] at hi ⊢
    exact hi
   ·rw [if_neg e] at hi ⊢; exact hi
  ·have := (Array.getElem?_eq_some_iff.1 hi).1
   simpa [St.put, World.setRow, Go.Sort.putRow, Go.Sort.mapBlock, Go.Sort.ahead] using this
 refine ⟨_, { S.put g cs' with w := w' }, he, rfl, wcS9 hput hpre, ⟨?_, ?_, ?_, ?_, fun i hi hno => ?_, hext.M, hext.dom, fun i hi => hext.own i hi, fun x s' cur hx hs => hext.sh x s' cur hx hs, fun x g' hx hs => hext.ν x g' hx hs, hext.len⟩, hr _ g k cap ?_ hg hn hk h1 h2⟩
 ·rw [hw]; rfl
 ·rw [hw]; rfl
 ·rw [hw]; rfl
 ·rw [hw]; show _ ≤ (_ ++ os).size; simp [Go.Sort.putRow, Go.Sort.mapBlock, Go.Sort.ahead]
 ·have h1 := hext.keep i hi hno
  show w'.heap[i]? = _
  rw [← h1]
  obtain ⟨o, ho⟩ : ∃ o, (S.put g cs').w.heap[i]? = some o := by rw [h1]; exact ⟨_, Array.getElem?_eq_getElem hi⟩
  rw [ho]; exact hpre i o ho
 ·show shOf _ b = _
  rw [xj0 (List.getElem?_eq_some_iff.1 hb).1, hly', hly]
end Go.V

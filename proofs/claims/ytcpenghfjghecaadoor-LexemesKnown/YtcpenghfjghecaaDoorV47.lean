import Derived.Test.YtcpenghfjghecaaDoorV44
import Derived.Scope
/- The library V, part 45: a region that draws, where what is read is immutable, whatever is written beside it. -/
set_option linter.unusedVariables false
set_option linter.unusedSimpArgs false
set_option autoImplicit false
namespace Go.V
open Go Go.RowKit
section
variable {P : Program} {G : Glob} {q : Operand → Bool}
variable {ops : List Oper} {md : Region.Mode} {rs : List (Nat × Nat)} {K : List AV → List Blk → Prop}
def DStepI (P : Program) (G : Glob) (q : Operand → Bool) (ops : List Oper) (rs : List (Nat × Nat)) (o : Oper) (a : List AV) (H : List Blk) (r : AV) (H' : List Blk) : Prop :=
  DStep P G q ops o a H r H' ∧ (rFlag rs o = true → ∀ H2, Step1 P G ops o a H2 r H2)
def AAnyI (P : Program) (G : Glob) (q : Operand → Bool) (ops : List Oper) (rs : List (Nat × Nat)) (md : Region.Mode) (K : List AV → List Blk → Prop) : Nat → Array Bool → List AV → List Blk → Prop
  | 0, listed, a, H => Region.ready md ops.toArray listed = [] ∧ K a H
  | fuel + 1, listed, a, H => (Region.ready md ops.toArray listed = [] → K a H) ∧
      ∀ i ∈ Region.ready md ops.toArray listed, ∃ o, ops[i]? = some o ∧ ∃ r H', DStepI P G q ops rs o a H r H' ∧ AAnyI P G q ops rs md K fuel (listed.setIfInBounds i true) (putA a o.dst r) H'
theorem aAnyI_aAny : ∀ (fuel : Nat) (listed : Array Bool) (a : List AV) (H : List Blk), AAnyI P G q ops rs md K fuel listed a H → AAny P G q ops md K fuel listed a H
  | 0, _, _, _, h => h
  | fuel + 1, _, _, _, h => ⟨h.1, fun i hi => by
    obtain ⟨o, ho, r, H', hs, hA⟩ := h.2 i hi
    exact ⟨o, ho, r, H', hs.1, aAnyI_aAny fuel _ _ _ hA⟩⟩
theorem aAnyI_first {i : Nat} {oi : Oper} {r : AV} {T : Nat} (hT : TabOk md ops T) (hi256 : i < 256) (hi : ops[i]? = some oi) :
    ∀ (fuel : Nat) (listed : Array Bool) (a : List AV) (H H' : List Blk), Closed md ops listed →
      (∀ j oj, ops[j]? = some oj → j ≠ i → listed.getD j true = false → T.testBit (j * 256 + i) = true ∨ ((swaps q oi.op oj.op = true ∨ rFlag rs oi = true ∨ rFlag rs oj = true) ∧ oi.apart ops.toArray oj = true)) →
      i ∈ Region.ready md ops.toArray listed → DStepI P G q ops rs oi a H r H' → AAnyI P G q ops rs md K fuel (listed.setIfInBounds i true) (putA a oi.dst r) H' → AAnyI P G q ops rs md K (fuel + 1) listed a H := by
  intro fuel
  induction fuel with
  | zero =>
    intro listed a H H' hc hfree hr hs hA
    refine ⟨fun h => (by rw [h] at hr; cases hr), fun j hj => ?_⟩
    by_cases hji : j = i
    · subst hji; exact ⟨oi, hi, r, H', hs, hA⟩
    · have := ready_mono hj hji
      rw [hA.1] at this
      cases this
  | succ fuel ih =>
    intro listed a H H' hc hfree hr hs hA
    refine ⟨fun h => (by rw [h] at hr; cases hr), fun j hj => ?_⟩
    by_cases hji : j = i
    · subst hji; exact ⟨oi, hi, r, H', hs, hA⟩
    · obtain ⟨hjun, oj', hoj', hall⟩ := mem_ready.1 hj
      have hoj : ops[j]? = some oj' := by simpa using hoj'
      rcases hfree j oj' hoj hji hjun with hre | ⟨hsw, hap⟩
      · exact absurd (reach_ready hT hc hi256 hj hre) (not_listed (mem_ready.1 hr).1)
      · obtain ⟨oj, hoj2, rj, Hj, hsj, hAj⟩ := hA.2 j (ready_mono hj hji)
        rw [hoj] at hoj2; injection hoj2 with hoj2; subst hoj2
        obtain ⟨a1, a2, a3⟩ := Oper.apart_spec hap
        obtain ⟨⟨s1, s2⟩, s3⟩ := hs
        obtain ⟨⟨t1, t2⟩, t3⟩ := hsj
        have key : ∃ Hm, DStepI P G q ops rs oj' a H rj Hm ∧ DStepI P G q ops rs oi (putA a oj'.dst rj) Hm r Hj := by
          rcases hsw with hsw | hfr | hfr
          · simp only [swaps, Bool.or_eq_true, Bool.and_eq_true, Bool.not_eq_true'] at hsw
            rcases hsw with (⟨p1, p2⟩ | hp) | hp
            · have e1 : H' = H := s2 p1
              subst e1
              have e2 : Hj = H' := t2 p2
              subst e2
              exact ⟨Hj, ⟨⟨(step1_put a1).1 t1, fun _ => rfl⟩, fun h H2 => (step1_put a1).1 (t3 h H2)⟩, ⟨⟨(step1_put a3).2 s1, fun _ => rfl⟩, fun h H2 => (step1_put a3).2 (s3 h H2)⟩⟩
            · obtain ⟨e1, qq⟩ := step1_heapless hp s1
              subst e1
              exact ⟨Hj, ⟨⟨(step1_put a1).1 t1, t2⟩, fun h H2 => (step1_put a1).1 (t3 h H2)⟩, ⟨⟨(step1_put a3).2 (qq Hj), fun _ => rfl⟩, fun h H2 => (step1_put a3).2 (qq H2)⟩⟩
            · obtain ⟨e1, qq⟩ := step1_heapless hp t1
              subst e1
              exact ⟨H, ⟨⟨(step1_put a1).1 (qq H), fun _ => rfl⟩, fun h H2 => (step1_put a1).1 (qq H2)⟩, ⟨⟨(step1_put a3).2 s1, s2⟩, fun h H2 => (step1_put a3).2 (s3 h H2)⟩⟩
          · obtain ⟨d, x, f1, f2, f3, f4⟩ := rFlag_spec hfr
            have e1 : H' = H := s2 (rdOp_pure f3)
            subst e1
            exact ⟨Hj, ⟨⟨(step1_put a1).1 t1, t2⟩, fun h H2 => (step1_put a1).1 (t3 h H2)⟩, ⟨⟨(step1_put a3).2 (s3 hfr Hj), fun _ => rfl⟩, fun h H2 => (step1_put a3).2 (s3 h H2)⟩⟩
          · obtain ⟨d, x, f1, f2, f3, f4⟩ := rFlag_spec hfr
            have e1 : Hj = H' := t2 (rdOp_pure f3)
            subst e1
            exact ⟨H, ⟨⟨(step1_put a1).1 (t3 hfr H), fun _ => rfl⟩, fun h H2 => (step1_put a1).1 (t3 h H2)⟩, ⟨⟨(step1_put a3).2 s1, s2⟩, fun h H2 => (step1_put a3).2 (s3 h H2)⟩⟩
        obtain ⟨Hm, hsj', hsi'⟩ := key
        refine ⟨oj', hoj, rj, Hm, hsj', ?_⟩
        refine ih (listed.setIfInBounds j true) _ _ _ (closed_add hc hj) (fun k ok hk hki hun => ?_) (ready_mono hr (Ne.symm hji)) hsi' ?_
        · refine hfree k ok hk hki ?_
          by_cases hjk : j = k
          · subst hjk; exact hjun
          · rw [getD_set_ne true hjk] at hun; exact hun
        · rw [Array.setIfInBounds_comm _ _ hji, ← putA_comm a r rj a2]
          exact hAj
def lexI (q : Operand → Bool) (rs : List (Nat × Nat)) (md : Region.Mode) (ops : Array Oper) (T : Nat) : Nat → Nat → Array Bool → Bool
  | 0, _, listed => (Region.ready md ops listed).isEmpty
  | n + 1, k, listed => decide (k < 256) && (Region.ready md ops listed).contains k &&
      ((List.range ops.size).all fun j => j == k || listed.getD j true || T.testBit (j * 256 + k) ||
        (match ops[k]?, ops[j]? with | some ok, some oj => (swaps q ok.op oj.op || (rFlag rs ok || rFlag rs oj)) && ok.apart ops oj | _, _ => false)) &&
      lexI q rs md ops T n (k + 1) (listed.setIfInBounds k true)
def orderOkI (q : Operand → Bool) (rs : List (Nat × Nat)) (ops : List Oper) : Bool :=
  match ancT .any ops 0 0 with
  | 0 => lexI q rs .any ops.toArray 0 ops.length 0 (Array.replicate ops.length false)
  | n + 1 => lexI q rs .any ops.toArray (n + 1) ops.length 0 (Array.replicate ops.length false)
theorem orderOkI_lex (h : orderOkI q rs ops = true) : ∃ T, TabOk .any ops T ∧ lexI q rs .any ops.toArray T ops.length 0 (Array.replicate ops.length false) = true := by
  have hT : TabOk .any ops (ancT .any ops 0 0) := ancT_ok ops 0 0 (fun j => by simp) fun j i _ h => by simp at h
  unfold orderOkI at h
  split at h
  · rename_i h0; rw [h0] at hT; exact ⟨0, hT, h⟩
  · rename_i n hn; rw [hn] at hT; exact ⟨n + 1, hT, h⟩
def ChainI (P : Program) (G : Glob) (q : Operand → Bool) (ops : List Oper) (rs : List (Nat × Nat)) (K : List AV → List Blk → Prop) : List Oper → List AV → List Blk → Prop
  | [], a, H => K a H
  | o :: rest, a, H => ∃ r H', DStepI P G q ops rs o a H r H' ∧ ChainI P G q ops rs K rest (putA a o.dst r) H'
theorem chainI_any {T : Nat} (hT : TabOk md ops T) : ∀ (l : List Oper) (k : Nat) (listed : Array Bool) (a : List AV) (H : List Blk), (∀ j, l[j]? = ops[k + j]?) → lexI q rs md ops.toArray T l.length k listed = true → Closed md ops listed →
    ChainI P G q ops rs K l a H → AAnyI P G q ops rs md K l.length listed a H
  | [], k, listed, a, H, _, hB, _, h => ⟨by simpa [lexI] using hB, h⟩
  | o :: l, k, listed, a, H, hl, hB, hc, h => by
    have h0 : ops[k]? = some o := by simpa using (hl 0).symm
    simp only [List.length_cons, lexI, Bool.and_eq_true, List.all_eq_true, List.mem_range, decide_eq_true_eq] at hB
    obtain ⟨⟨⟨h256, hr⟩, hf⟩, hB'⟩ := hB
    have hr' : k ∈ Region.ready md ops.toArray listed := by simpa using hr
    obtain ⟨r, H', hs, hK⟩ := h
    refine aAnyI_first hT h256 h0 l.length listed a H H' hc (fun j oj hj hji hun => ?_) hr' hs ?_
    · have hlt : j < ops.toArray.size := by simpa using (List.getElem?_eq_some_iff.1 hj).1
      have := hf j hlt
      simp only [Bool.or_eq_true, beq_iff_eq, hji, false_or, hun, Bool.false_eq_true, List.getElem?_toArray, h0, hj, Bool.and_eq_true, Bool.not_eq_true'] at this
      rcases this with q | q
      · exact .inl q
      · exact .inr q
    · exact chainI_any hT l (k + 1) _ _ _ (fun j => by have := hl (j + 1); simpa [Nat.add_assoc, Nat.add_comm 1 j] using this) hB' (closed_add hc hr') hK
def immC (rs : List (Nat × Nat)) (a : List AV) : Prop := ∀ x ∈ rs, topB (getA a x.2).strip = none
theorem chainD_I : ∀ (l : List Oper) (a : List AV) (H : List Blk), lateOk rs [] l = true → ChainD P G q ops (fun a H => K a H ∧ immC rs a) l a H →
    ∃ af, immC rs af ∧ (∀ t, (l.all fun o => o.dst != some t) = true → getA af t = getA a t) ∧ ChainI P G q ops rs K l a H
  | [], a, H, _, h => ⟨a, h.2, fun _ _ => rfl, h.1⟩
  | o :: l, a, H, hl, h => by
    obtain ⟨r, H', hs, hc⟩ := h
    simp only [lateOk, Bool.and_eq_true] at hl
    obtain ⟨⟨hl1, _⟩, hl3⟩ := hl
    obtain ⟨af, hf, hu, hN⟩ := chainD_I l _ _ hl3 hc
    have hu' : ∀ t, ((o :: l).all fun o => o.dst != some t) = true → getA af t = getA a t := fun t ht => by
      simp only [List.all_cons, Bool.and_eq_true, bne_iff_ne] at ht
      rw [hu t ht.2, getA_putA_ne' ht.1]
    refine ⟨af, hf, hu', r, H', ⟨hs, fun hfl => ?_⟩, hN⟩
    obtain ⟨d, x, f1, f2, f3, f4⟩ := rFlag_spec hfl
    rw [hfl, f3] at hl1
    simp only [Bool.not_true, Bool.false_or] at hl1
    have hx := hu' x hl1
    intro H2
    have h1 := hs.1
    unfold Step1 at h1 ⊢
    rw [f2] at h1 ⊢
    simp only at h1 ⊢
    cases h1 with
    | pure h1 =>
      have e := pstep_keep (H2 := H2) f3 h1 (fun b B hb hB => by
        have h0 : topB (getA af x).strip = none := hf (d, x) f4
        rw [hx] at h0
        have hb : topB (getA a x).strip = some b := hb
        rw [h0] at hb; cases hb)
      rw [← e] at h1 ⊢
      exact .pure h1
    | eff he h1 => rw [rdOp_eff f3] at he; cases he
    | made he r h1 => rw [rdOp_mk f3] at he; cases he
    | call c f g cap ho => rw [ho] at f3; simp [rdOp] at f3
    | yield c f b ho => rw [ho] at f3; simp [rdOp] at f3
end
section
variable {P : Program} {G : Glob} {ρ : Bool} {n0 : Nat} {Q : Post} {a : List AV} {H : List Blk}
theorem awp_drawI {id : Nat} {ops : List Oper} {dr : Operand → Bool} (rs : List (Nat × Nat)) (hm : P.follows .mixedOrders = true) (ho : orderOkI dr rs ops = true) (hl : lateOk rs [] ops = true) (h : ChainD P G dr ops (fun a H => Q .normal a H ∧ immC rs a) ops a H) : AWp ρ P G n0 (.region id ops.toArray true) Q a H := fun ro S act hr0 h1 h2 h3 h4 => by
  refine wpIn_region_any hm ?_
  obtain ⟨T, hT, hlex⟩ := orderOkI_lex ho
  have hcl : ∀ ops : List Oper, Closed .any ops (Array.replicate ops.length false) := fun ops k o _ hk => by
    exfalso
    rw [Array.getD_eq_getD_getElem?] at hk
    rcases Nat.lt_or_ge k ops.length with q | q
    · rw [Array.getElem?_replicate, if_pos q] at hk; cases hk
    · rw [Array.getElem?_replicate, if_neg (by omega)] at hk; cases hk
  obtain ⟨af, _, _, hN⟩ := chainD_I ops a H hl h
  have hA := aAnyI_aAny _ _ _ _ (chainI_any (md := .any) hT ops 0 (Array.replicate ops.length false) a H (fun j => by simp) hlex (hcl _) hN)
  let S1 : St := S.with (S.w.drewN 1)
  have hok1 : S1.Ok H := ⟨h1.imm, h1.row, h1.ob, h1.inj⟩
  have hext : Ext n0 S H S1 H := ⟨rfl, rfl, rfl, Nat.le_refl _, fun _ _ _ => rfl, fun _ _ q => q, fun _ q => .inl q, fun _ q => .inl q, fun _ _ _ _ q => ⟨_, Nat.le_refl _, q, fun _ => rfl⟩, fun _ _ _ q => q, fun q => q⟩
  have e : ops.toArray.size = ops.length := by simp
  rw [e]
  exact aAny_wp (fun act w q => q) ops.length _ a H S1 act hA hok1 h2 (by assumption) hext h4 (Marks.refl _ _ _ _)
end
/-! ### By paths -/
def immB : List (Nat × Nat) → (Nat → AV) → Bool
  | [], _ => true
  | (_, x) :: rs, s => (topB (s x).strip).isNone && immB rs s
theorem immC_of {rs : List (Nat × Nat)} {n : Nat} {s : Nat → AV} (h : immB rs s = true) : immC rs (Lst n s) := by
  induction rs with
  | nil => intro x hx; cases hx
  | cons r rs ih =>
    simp only [immB, Bool.and_eq_true, Option.isNone_iff_eq_none] at h
    intro x hx
    rcases List.mem_cons.1 hx with rfl | hx
    · rw [getA_Lst]
      split
      · exact h.1
      · rfl
    · exact ih h.2 x hx
def immQ (rs : List (Nat × Nat)) (Q : PostS) : PostS := fun e s H => Q e s H ∧ immB rs s = true
section
variable {ρ : Bool} {P : Program} {G : Glob} {n0 n : Nat} {body : Code} {p : List Nat} {Q : PostS} {B : Prop} {s : Nat → AV} {H : List Blk} {dr : Operand → Bool}
def drawOkI (dr : Operand → Bool) (rs : List (Nat × Nat)) (ops : List Oper) : Bool := orderOkI dr rs ops && lateOk rs [] ops
theorem go_drawI (rs : List (Nat × Nat)) (hs : isRegion (atR body p) = true) (hd : drawOf (atR body p) = true) (hm : P.follows .mixedOrders = true) (ho : drawOkI dr rs (opsOf (atR body p)) = true) (h : Acc ρ P G n0 n dr body p (immQ rs Q) 0 B s H) : Go ρ P G n0 n body p Q B s H := by
  refine ⟨h.1, ?_⟩
  have h2 := h.2
  unfold At
  generalize atR body p = c at hs h2 hd ho
  cases c with
  | region id ops d =>
    cases hd
    simp only [opsOf, List.drop_zero] at h2 ho
    simp only [drawOkI, Bool.and_eq_true] at ho
    refine awp_drawI (ops := ops.toList) rs hm ho.1 ho.2 (chainD_mono (fun a H q => ?_) _ _ _ (tops_chainD _ _ _ h2))
    obtain ⟨s', rfl, q1, q2⟩ := q
    exact ⟨⟨s', rfl, q1⟩, immC_of q2⟩
  | _ => cases hs
theorem out_imm {rs : List (Nat × Nat)} (h : Out Q .normal (B ∧ immB rs s = true) s H) : Out (immQ rs Q) .normal B s H := ⟨h.1.1, h.2, h.1.2⟩
end
attribute [push_cast] immB
end Go.V
/- The library V: more short names for the steps of a walk. -/
namespace Go.V
abbrev oh_ := @out_imm
end Go.V
/- The library V, part 46: what slots come to where all own rows become immutable. -/
set_option linter.unusedVariables false
set_option linter.unusedSimpArgs false
set_option autoImplicit false
namespace Go.V
open Go Go.RowKit
theorem all_idsE {p : Nat → Bool} {es : List (List AV)} (h : idsE p es = true) : (es.all fun e => e.all fun x => AV.ids p x) = true := by
  have hl : ∀ e : List AV, idsL p e = true → (e.all fun x => AV.ids p x) = true := fun e => by
    induction e with
    | nil => intro _; rfl
    | cons x xs ih => intro h; rw [idsL, Bool.and_eq_true] at h; rw [List.all_cons, h.1, ih h.2]; rfl
  induction es with
  | nil => rfl
  | cons e es ih => rw [idsE, Bool.and_eq_true] at h; rw [List.all_cons, hl e h.1, ih h.2]; rfl
/-- An own row of closed values. -/
theorem close_own {H : List Blk} {b n h z : Nat} {t : TypeId} {es : List (List AV)} {c : Option Nat} (hb : H[b]? = some (.row z t es)) (hn : n = es.length) (hh : h = es.length) (hi : idsE none_ es = true) : closeT H 1 (.own b n h c) = .sl z es c := by
  subst hn; subst hh
  unfold closeT
  rw [if_pos (by
    simp only [okA, okC, isLen, shOf, hb, List.take_length]
    simp
    exact fun x hx y hy => (idsL_iff x).1 ((idsE_iff es).1 hi x hx) y hy)]
  simp [closeA, closeC, hb]
/-- A value that names no memory of its own stays. -/
theorem close_closed {H : List Blk} {d : Nat} {v : AV} (h : okA H d v = true) (e : closeA H d v = v) : closeT H d v = v := by
  unfold closeT; rw [if_pos h, e]
theorem close_sl {H : List Blk} {z : Nat} {es : List (List AV)} {c : Option Nat} (hi : idsE none_ es = true) : closeT H 1 (.sl z es c) = .sl z es c := by
  refine close_closed ?_ rfl
  simp only [okA, okC, AV.closed, AV.ids, hi]
theorem close_int {H : List Blk} (k : IntKind) (n : Int) : closeT H 1 (.int k n) = .int k n := rfl
theorem close_str {H : List Blk} (s : List UInt8) : closeT H 1 (.str s) = .str s := rfl
theorem close_bool {H : List Blk} (b : Bool) : closeT H 1 (.bool b) = .bool b := rfl
theorem own_ok {H : List Blk} {b n h z : Nat} {t : TypeId} {es : List (List AV)} {c : Option Nat} (hb : H[b]? = some (.row z t es)) (hn : n = es.length) (hh : h = es.length) (hi : idsE none_ es = true) : okA H 1 (.own b n h c) = true := by
  subst hn; subst hh
  simp only [okA, okC, isLen, shOf, hb, List.take_length]
  simp
  exact fun x hx y hy => (idsL_iff x).1 ((idsE_iff es).1 hi x hx) y hy
theorem own_close {H : List Blk} {b n h z : Nat} {t : TypeId} {es : List (List AV)} {c : Option Nat} (hb : H[b]? = some (.row z t es)) (hn : n = es.length) (hh : h = es.length) : closeA H 1 (.own b n h c) = .sl z es c := by
  subst hn; subst hh
  simp [closeA, closeC, hb]
/-- A reading call on an own row. -/
theorem ac_lend1 {P : Program} {G : Glob} {f : FuncId} {r : AV} {H : List Blk} {b n h z : Nat} {t : TypeId} {es : List (List AV)} {c : Option Nat} (hb : H[b]? = some (.row z t es)) (hn : n = es.length) (hh : h = es.length) (hi : idsE none_ es = true) (hp : PC P G f [.sl z es c] r) (hr : r.flat = true) : ACalls P G f [.own b n h c] H r H := by
  refine ac_lend 1 ?_ ?_ hp hr
  · simp [own_ok hb hn hh hi]
  · simp [own_close hb hn hh]
end Go.V
/- The library V, part 47: scopes of labels, where nothing jumps to a label. -/
set_option linter.unusedVariables false
set_option linter.unusedSimpArgs false
set_option autoImplicit false
namespace Go.V
open Go Go.RowKit
section
variable {P : Program} {b : Frame} {a : Act} {k : List Item} {cs : List Frame} {w : World}
theorem stepR_scope {c : Code} : step P (lone (b.atR a (.code (.scope c) :: k)) cs w) = .next (lone (b.atR a (.code c :: .inScope c :: k)) cs w) :=
  step_lone_go (by simp [stepG, stepG.exec, Frame.atR])
theorem stepR_inScope {c : Code} : step P (lone (b.atR a (.inScope c :: k)) cs w) = .next (lone (b.atR a k) cs w) :=
  step_lone_go (by simp [stepG, stepG.exec, Frame.atR])
end
theorem wpIn_scope {F : Fence} {n : Nat} {P : Program} {Q : Exit → Act → World → Prop} {a : Act} {w : World} {c : Code} (h : c.wpIn F n P (Exit.noGoto Q) a w) : (Code.scope c).wpIn F n P Q a w := by
  intro b k cs hro hb hr
  have h0 : (lone (b.atR a (.code (.scope c) :: k)) cs w).fenced P F := fenced_calm hb hr rfl
  obtain ⟨e, a₁, w₁, hq, harr⟩ := h b (.inScope c :: k) cs hro hb hr
  cases e with
  | normal => exact ⟨.normal, a₁, w₁, hq, .head h0 stepR_scope (StepsIn.trans harr (.one (fenced_calm hb hr rfl) stepR_inScope))⟩
  | exit id =>
    have hx : exitTo id (.inScope c :: k) = exitTo id k := by simp [exitTo]
    exact ⟨_, a₁, w₁, hq, fun k' hk => .head h0 stepR_scope (harr.1 k' (by rw [hx]; exact hk)),
      fun hr' hk => let ⟨k₁, h1, h2⟩ := harr.2 hr' (by rw [hx]; exact hk); ⟨k₁, h1, .head h0 stepR_scope h2⟩⟩
  | goto l => exact hq.elim
  | ret => exact ⟨_, a₁, w₁, hq, .of_steps (.one h0 stepR_scope) harr⟩
  | panic ch => exact ⟨_, a₁, w₁, hq, .of_steps (.one h0 stepR_scope) harr⟩
  | outgrown => exact ⟨_, a₁, w₁, hq, .of_steps (.one h0 stepR_scope) harr⟩
def noGotoA (Q : Post) : Post
  | .goto _, _, _ => False
  | e, a, H => Q e a H
def noGotoS (Q : PostS) : PostS
  | .goto _, _, _ => False
  | e, s, H => Q e s H
section
variable {ρ : Bool} {P : Program} {G : Glob} {n0 n : Nat} {H : List Blk}
theorem awp_scope {Q : Post} {a : List AV} {c : Code} (h : AWp ρ P G n0 c (noGotoA Q) a H) : AWp ρ P G n0 (.scope c) Q a H := fun ro S act hr h1 h2 h3 h4 =>
  wpIn_scope (wpIn_mono (h ro S act hr h1 h2 h3 h4) fun e act' w' he => by
    cases e with
    | goto l =>
      obtain ⟨a', H', S', _, q, _⟩ := he
      exact q.elim
    | _ => exact he)
variable {body : Code} {p : List Nat} {Q : PostS} {B : Prop} {s : Nat → AV}
theorem liftQ_noGoto (n : Nat) (Q : PostS) : liftQ n (noGotoS Q) = noGotoA (liftQ n Q) := by
  funext e a H
  cases e with
  | goto l => simp [liftQ, noGotoS, noGotoA]
  | _ => rfl
def isScope : Code → Bool
  | .scope _ => true
  | _ => false
def isLabel : Code → Bool
  | .label _ => true
  | _ => false
theorem go_scope (hs : isScope (atR body p) = true) (h : Go ρ P G n0 n body (0 :: p) (noGotoS Q) B s H) : Go ρ P G n0 n body p Q B s H := by
  refine ⟨h.1, ?_⟩
  have h2 := h.2
  unfold At at h2 ⊢
  simp only [atR] at h2
  rw [liftQ_noGoto] at h2
  generalize atR body p = c at *
  cases c with
  | scope c => exact awp_scope h2
  | _ => cases hs
theorem go_label (hs : isLabel (atR body p) = true) (h : Out Q .normal B s H) : Go ρ P G n0 n body p Q B s H := by
  refine ⟨h.1, ?_⟩
  unfold At
  generalize atR body p = c at *
  cases c with
  | label l => exact awp_label ⟨_, rfl, h.2⟩
  | _ => cases hs
theorem out_scope (h : Out Q .normal B s H) : Out (noGotoS Q) .normal B s H := ⟨h.1, h.2⟩
theorem out_scope_ret (h : Out Q .ret B s H) : Out (noGotoS Q) .ret B s H := ⟨h.1, h.2⟩
theorem out_scope_exit {id : Nat} (h : Out Q (.exit id) B s H) : Out (noGotoS Q) (.exit id) B s H := ⟨h.1, h.2⟩
end
abbrev ga_ := @go_scope
abbrev gb_ := @go_label
abbrev oi_ := @out_scope
abbrev oj_ := @out_scope_ret
abbrev ok_ := @out_scope_exit
end Go.V

import Derived.Test.YtlpjemobbjijdaaGreatDoorV53
import Derived.Test.YtlpjemobbjijdaaGreatDoorV39
import Derived.Test.YtlpjemobbjijdaaGreatDoorV33
import Derived.Test.YtlpjemobbjijdaaGreatDoorV22
import Derived.Lib.SmallJoins
import Derived.RecoverIn
set_option linter.unusedVariables false
set_option linter.unusedSimpArgs false
namespace Go.V
open Go Go.RowKit Go.Lib
abbrev Kd := List UInt8 × Bool × Bool × Bool
def vdN9 {H : Type} (zs : List Kd) : DataW H := .agg (zs.map fun z => .agg [.lit (.string z.1), .lit (.bool z.2.1), .lit (.bool z.2.2.1), .lit (.bool z.2.2.2)])
def wdr9 (z : Kd) : List Value := [.string ⟨z.1.toArray⟩, .bool z.2.1, .bool z.2.2.1, .bool z.2.2.2]
section
variable {H : Type} {enc : TypeId × Value → H} {P : Program} {w : World} {base : Nat} {sp : Nat → Bool} {held : Bool}
end
end Go.V
set_option linter.unusedVariables false
set_option autoImplicit false
namespace Go.V
open Go Go.RowKit
def pcQ : Operand → Bool
 | .global 5 => false
 | _ => true
def zbU9 (P : Program) (G : Glob) (f : AV) (args : List AV) (K : AV → Prop) : Prop :=
 match f.strip with
 | .fn g cap => f.ok = true ∧ qa0 P g = true ∧ (args.all AV.ok) = true ∧ ∃ r, (idsL kR0 (args.map AV.strip ++ cap) = true ∧ PC P G g (args.map AV.strip ++ cap) r) ∧ K r
 | _ => False
section
variable {ρ : Bool} {P : Program} {G : Glob} {n0 n : Nat} {dr : Operand → Bool} {body : Code} {p : List Nat} {Q : ke0} {k : Nat} {B : Prop} {s : Nat → AV} {H : List Blk} {d : Option Tmp} {ty : TypeId} {pos : String} {af : Array Edge}
theorem xbU9 {f : Operand} {args : Array Operand} {ts : Array TypeId} (h : (qd0 (atR body p))[k]? = some ⟨d, .call ⟨.value f, args, ts⟩, ty, pos, af, none⟩) (hpc : pcF dr = true) (hkp : kpF dr = false) (hdr : dr f = true)
  (hk : B ∧ zbU9 P G (evS G n s f) (args.toList.map (evS G n s)) (fun r => Acc ρ P G n0 n dr body p Q (k + 1) True (put s d r) H)) : Acc ρ P G n0 n dr body p Q k B s H := by
 refine ⟨hk.1, ?_⟩
 have h2 := hk.2
 rw [xz0 h]
 show vag9 P G (dr f) (ev G (Lst n s) f) (args.toList.map (ev G (Lst n s))) H _
 unfold zbU9 at h2
 split at h2
 ·rename_i g cap hf
  obtain ⟨q1, q2, q3, r, ⟨q4, q5⟩, q6⟩ := h2
  have hops : ∀ H2, OpSem P G (.call ⟨.value f, args, ts⟩) (ev G (Lst n s)) H2 r H2 := fun H2 =>
   .call _ f g cap rfl rfl (by rw [zk0]; exact hf) (by rw [zk0]; exact q1) q2 (by rw [zk0]; simpa [List.all_map] using q3) r H2 (by rw [zk0]; have := pc_lift q5 q4 H2; rw [List.map_map] at this; exact this)
  unfold vag9
  rw [zk0, hf]
  simp only
  refine ⟨q1, q2, q3, ?_⟩
  rw [if_pos hdr]
  refine ⟨r, pc_lift q5 q4 H, fun w => (by rw [hkp] at w; cases w), fun _ => by rw [← zk0]; exact hops, ?_⟩
  show tops _ _ _ _ _ _ (putA (Lst n s) d r) _
  rw [vj0]; exact q6.2
 ·exact h2.elim
end
abbrev ap_ := @xbU9
attribute [push_cast] zbU9
end Go.V
set_option linter.unusedVariables false
set_option autoImplicit false
namespace Go.V
open Go Go.RowKit
theorem nav {g s : Prop} (k : s) (h : s → g := by
  refine fun h => ?_
  first
   | (refine a0_ ?_; first|exact a1_ rfl rfl h|exact a2_ rfl h|exact a3_ rfl rfl h|exact a4_ rfl h|exact ak_ rfl rfl h|exact ap_ rfl rfl rfl rfl h|exact a5_ rfl rfl rfl h|exact a6_ rfl rfl h|exact a7_ rfl rfl h|exact a8_ rfl rfl h|exact a9_ rfl rfl rfl h)
   | (refine g0_ ?_; first|exact g1_ rfl h|exact g2_ rfl rfl h|exact g4_ rfl h|exact g5_ rfl h|exact g6_ rfl h|exact g7_ rfl h|exact g8_ rfl h|exact vbp9 rfl h|exact kbp9 rfl h)
   | (refine o0_ ?_; first|exact o1_ h|exact o2_ h|exact o3_ h|exact o4_ h|exact o5_ h|exact o6_ rfl h|exact o7_ rfl h|exact o8_ h|exact o9_ h|exact oa_ h|exact ob_ h|exact oc_ h|exact od_ h|exact oe_ h|exact of_ h|exact og_ h|exact oh_ h|exact waW9 h|exact wU0 h|exact zM0 h)
   | exact vdf9 h) : g := h k
theorem andG {a b : Prop} (k : b) (h : a := by first|omega|(simp only [maxLen]; omega)) : a ∧ b := ⟨h, k⟩
end Go.V
set_option linter.unusedVariables false
set_option linter.unusedSimpArgs false
set_option maxHeartbeats 0
namespace Go.V
open Go
mutual
def nz : AV → AV
 | .sl s es c => .sl (if es.isEmpty then 0 else s) (nzE es) c
 | .agg cs => .agg (nzL cs)
 | .tup cs => .tup (nzL cs)
 | .iptr cs o => .iptr (nzL cs) o
 | .int k n => .int k n
 | .bool b => .bool b
 | .str s => .str s
 | .own b n h c => .own b n h c
 | .ptr b i o h => .ptr b i o h
 | .fn f cap => .fn f cap
 | .bnd f cap => .bnd f cap
 | .mp b => .mp b
 | .sub b i n h => .sub b i n h
 | .opt g w => .opt g w
 | .lit u => .lit u
 | .anyb => .anyb
 | .anyi k => .anyi k
 | .err => .err
 | .top => .top
 | .yld b => .yld b
def nzL : List AV → List AV
 | [] => []
 | a :: as => nz a :: nzL as
def nzE : List (List AV) → List (List AV)
 | [] => []
 | e :: es => nzL e :: nzE es
end
theorem zaC9 : ∀ l : List AV, (nzL l).length = l.length
 | [] => rfl
 | _ :: l => by rw [nzL, List.length_cons, List.length_cons, zaC9 l]
theorem xaC9 : ∀ l : List (List AV), (nzE l).length = l.length
 | [] => rfl
 | _ :: l => by rw [nzE, List.length_cons, List.length_cons, xaC9 l]
theorem wcR9 (l : List (List AV)) : nzE l = [] ↔ l = [] := by
 cases l with
 | nil => simp [nzE]
 | cons _ _ => simp [nzE]
mutual
theorem wcE9 {E : Env} : ∀ (a : AV) (v : Value), Rel E (nz a) v ↔ Rel E a v
 | .sl s es c, v => by
  rw [nz]
  cases es with
  | nil => simp [Rel, nzE]
  | cons e es =>
   have h := fun g off => wbU9 (E := E) s (e :: es) g off
   simp only [Rel, xaC9, wcR9, List.isEmpty_cons, Bool.false_eq_true, if_false, h]
 | .agg cs, v => by
  have h := fun vs => kbh9 (E := E) cs vs
  simp only [nz, Rel, h]
 | .tup cs, v => by
  have h := fun vs => kbh9 (E := E) cs vs
  simp only [nz, Rel, h]
 | .iptr cs o, v => by
  have h := fun g off => qbi9 (E := E) cs g off
  simp only [nz, Rel, h]
 | .int k n, v => by rw [nz]
 | .bool b, v => by rw [nz]
 | .str s, v => by rw [nz]
 | .own b n h c, v => by rw [nz]
 | .ptr b i o h, v => by rw [nz]
 | .fn f cap, v => by rw [nz]
 | .bnd f cap, v => by rw [nz]
 | .mp b, v => by rw [nz]
 | .sub b i n h, v => by rw [nz]
 | .opt g w, v => by rw [nz]
 | .lit u, v => by rw [nz]
 | .anyb, v => by rw [nz]
 | .anyi k, v => by rw [nz]
 | .err, v => by rw [nz]
 | .top, v => by rw [nz]
 | .yld b, v => by rw [nz]
theorem kbh9 {E : Env} : ∀ (l : List AV) (vs : List Value), RelL E (nzL l) vs ↔ RelL E l vs
 | [], vs => by rw [nzL]
 | a :: as, vs => by
  have h1 := fun u => wcE9 (E := E) a u
  have h2 := fun us => kbh9 (E := E) as us
  simp only [nzL, RelL, h1, h2]
theorem qbi9 {E : Env} : ∀ (l : List AV) (g off : Nat), RelC E (nzL l) g off ↔ RelC E l g off
 | [], g, off => by rw [nzL]
 | a :: as, g, off => by
  have h1 := fun u => wcE9 (E := E) a u
  have h2 := fun g off => qbi9 (E := E) as g off
  simp only [nzL, RelC, h1, h2]
theorem wbU9 {E : Env} (s : Nat) : ∀ (l : List (List AV)) (g off : Nat), RelE E s (nzE l) g off ↔ RelE E s l g off
 | [], g, off => by rw [nzE]
 | e :: es, g, off => by
  have h1 := fun g off => qbi9 (E := E) e g off
  have h2 := fun g off => wbU9 (E := E) s es g off
  simp only [nzE, RelE, zaC9, h1, h2]
end
end Go.V
set_option linter.unusedVariables false
namespace Go.V
open Go
def ownQ (fs : List Nat) : Operand → Bool
 | .func f => !fs.contains f
 | .global 3 => false
 | _ => true
section
variable {ρ : Bool} {P : Program} {G : Glob} {n0 n : Nat} {body : Code} {p : List Nat} {Q : ke0} {B : Prop} {s : Nat → AV} {H : List Blk} {dr : Operand → Bool} {k : Nat} {d : Option Nat}
end
attribute [push_cast] vR0 bOwn
end Go.V
set_option linter.unusedVariables false
namespace Go.V
open Go
def atQ : Operand → Bool
 | .global 4 => false
 | _ => true
section
variable {ρ : Bool} {P : Program} {G : Glob} {n0 n : Nat} {body : Code} {p : List Nat} {Q : ke0} {B : Prop} {s : Nat → AV} {H : List Blk} {k : Nat} {d : Option Nat}
end
attribute [push_cast] qF0 qw0 zcJ9 xcJ9 qcj9 wcJ9
end Go.V
set_option linter.unusedVariables false
namespace Go.V
open Go
def vdO9 (p A q : Nat) (s : Nat) : List (List AV) := wdi9 (fun a => if s * A + a < q then .own (s * A + a + p) 0 0 none else .sl 0 [] (some 0)) A
end Go.V
set_option linter.unusedVariables false
set_option autoImplicit false
namespace Go.V
open Go Go.RowKit
def APan (P : Program) (G : Glob) (f : FuncId) (args : List AV) (H : List Blk) (ch : List PanicEntry) (H' : List Blk) : Prop :=
 ∀ (S : St) (vals : List Value), S.Ok H → Globs G S.M → RelL (S.env H) args vals →
  Calls P f vals.toArray S.w fun e w' => ∃ S', e = .panicked ch ∧ S'.w = w' ∧ S'.Ok H' ∧ Ext H.length S H S' H'
theorem kU0 {P : Program} {S0 : St} {n0 : Nat} {H0 H : List Blk} {fn : Func} {ts : Array Value} {R : Ending → World → Prop} {ds : List Deferred} {u : FrameMode} (hu : u ≠ .run) : ∀ (Ds : List Nat) (S : St), S.Ok H → Ext n0 S0 H0 S H → Ds.Pairwise (fun x y => y < x) → (∀ g ∈ Ds, S0.w.heap.size ≤ g ∧ S.Free H g ∧ S.w.heap[g]? = some (.deferred (some []))) →
  (∀ S' : St, S'.Ok H → Ext n0 S0 H0 S' H → S'.M = S.M → S'.μ = S.μ → S'.ν = S.ν → LeavesInM Fence.wide 0 P fn ts R ds u S'.w) → LeavesInM Fence.wide 0 P fn ts R (Ds.map mark ++ ds) u S.w
 | [], S, hok, hext, _, _, hR => hR S hok hext rfl rfl rfl
 | g :: Ds, S, hok, hext, hp, hq, hR => by
  obtain ⟨q1, q2, q3⟩ := hq g (by simp)
  rw [List.pairwise_cons] at hp
  refine ⟨hu, .inl ⟨g, _, rfl, run_takeDeferred q3, ?_⟩⟩
  exact kU0 hu Ds (S.shut g (.deferred none)) (zaa9 hok q2 _) (zaj9 hext q1 _) hp.2 (fun g' hg' => by
   obtain ⟨r1, r2, r3⟩ := hq g' (by simp [hg'])
   have := hp.1 g' hg'
   exact ⟨r1, r2, (World.putObj_heap_other (by omega)).trans r3⟩) hR
def PanS (H : List Blk) (ch : List PanicEntry) (Hf : List Blk) : ke0 := fun e s' H' =>
 e = .panic ch ∧ (H' = Hf ∨ ((H'.take H.length).all (Blk.below H.length) = true ∧ H'.take H.length = Hf))
theorem zbi9 {P : Program} {G : Glob} {f : FuncId} {fn : Func} {c : Code} {args : List AV} {H Hf : List Blk} {ch : List PanicEntry} (hf : P.funcs[f]? = some fn) (hb : fn.body = some c)
  (h : AWp false P G H.length c (fun e a' H' => e = .panic ch ∧ (H' = Hf ∨ ((H'.take H.length).all (Blk.below H.length) = true ∧ H'.take H.length = Hf))) (args ++ List.replicate (fn.ntmps - args.length) (.tup [])) H) : APan P G f args H ch Hf := fun S vals hok hG ha => by
 have hl := ha.length
 have hw := h none S { tmps := vals.toArray ++ Array.replicate (fn.ntmps - vals.toArray.size) undef, defers := [] } rfl hok hG (Nat.le_refl _) (by
  simp only [Array.toList_append, Array.toList_replicate, List.size_toArray, hl]
  exact ha.append (RelL.replicate (by simp [Rel, RelL, undef]) _))
 refine (callsIn_wide (n := 0)).1 (callsIn_of_wp_marks (F := Fence.wide) hf hb trivial (wpIn_mono hw fun e act w hE => ?_))
 obtain ⟨a', H', S', rfl, ⟨rfl, hcase⟩, hok', hext, ha', Ds, hd, hp, hq⟩ := hE
 show LeavesInM Fence.wide 0 P fn act.tmps _ act.defers (.panicking ch) S'.w
 rw [hd]
 refine kU0 (by simp) Ds S' hok' hext hp hq fun T tok text tM tμ tν => ?_
 rcases hcase with rfl|⟨hbl, hH⟩
 ·exact ⟨T, rfl, rfl, tok, text⟩
 obtain ⟨k1, k2⟩ := vB0 (n0 := H.length) tok (Nat.le_refl _) (hext.len (Nat.le_refl _)) hbl
 rw [hH] at k1 k2
 exact ⟨T, rfl, rfl, k1, text.trans k2⟩
theorem zi0 {P : Program} {G : Glob} {f : FuncId} {fn : Func} {args : List AV} {H Hf : List Blk} {ch : List PanicEntry} (n : Nat) (hf : P.funcs[f]? = some fn) (hb : fn.body.isSome = true) (hn : fn.ntmps = n) (hl : args.length ≤ n)
  (h : ∀ s, kaI9 s 0 args → Go false P G H.length n (xe0 fn) [] (PanS H ch Hf) True s H) : APan P G f args H ch Hf := by
 obtain ⟨c, hc⟩ := Option.isSome_iff_exists.1 hb
 refine zbi9 hf hc ?_
 have hlen : (args ++ List.replicate (fn.ntmps - args.length) (AV.tup [])).length = n := by simp [hn]; omega
 have h1 := qt0 [] args (fn.ntmps - args.length)
 have := (h (getA (args ++ List.replicate (fn.ntmps - args.length) (AV.tup []))) (kH0 _ 0 args (by simpa using h1))).2
 unfold At atR xe0 at this
 rw [hc, ← kS0 hlen] at this
 refine wr0 this fun e a H ⟨s, ha, q⟩ => q
section
variable {ρ : Bool} {P : Program} {G : Glob} {n0 n : Nat} {body : Code} {p : List Nat} {Q : ke0} {B : Prop} {s : Nat → AV} {H : List Blk}
def cutB (c : Code) (k : Nat) : Code :=
 match c with
 | .region id ops d => .region id (ops.toList.take k).toArray d
 | c => c
theorem qG0 {K : List AV → List Blk → Prop} {ops ops' : List Oper} : ∀ (l : List Oper) (a : List AV) (H : List Blk), (∀ o ∈ l, o.guard = none) → wag9 P G ops K l a H → wag9 P G ops' K l a H
 | [], a, H, _, h => h
 | o :: l, a, H, hg, h => by
  obtain ⟨r, H', hs, hc⟩ := h
  refine ⟨r, H', hs.imp_left fun q => ?_, qG0 l _ _ (fun o ho => hg o (List.mem_cons_of_mem _ ho)) hc⟩
  unfold wi0 at q ⊢
  rw [hg o (List.mem_cons_self ..)] at q ⊢
  exact q
def vax9 (P : Program) (G : Glob) (o : Oper) (σ : Operand → AV) (H : List Blk) (X : List PanicEntry → List Blk → Prop) : Prop :=
 match o.op with
 | .panic x => (σ x).ok = true ∧ ∃ t v, (σ x).strip = .lit (.iface t v) ∧ X [{ v := .iface t v, recovered := false }] H
 | .call ⟨.value f, args, ts⟩ =>
  match (σ f).strip with
  | .fn g cap => (σ f).ok = true ∧ qa0 P g = true ∧ (args.toList.all fun x => (σ x).ok) = true ∧ ∃ ch H', APan P G g ((args.toList.map fun x => (σ x).strip) ++ cap) H ch H' ∧ X ch H'
  | _ => False
 | _ => False
theorem vcr9 {S : St} {a : List AV} {act : Act} {o : Oper} {X : List PanicEntry → List Blk → Prop} (h : vax9 P G o (ev G a) H X) (hok : S.Ok H) (hG : Globs G S.M) (ha : RelL (S.env H) a act.tmps.toList)
  {K : Act → World → Prop} {R : Exit → Act → World → Prop} (hR : ∀ ch H' S', X ch H' → S'.Ok H' → Ext H.length S H S' H' → R (.panic ch) act S'.w) {ro : Option Nat} : o.wpIn (fen ro) 0 P act S.w K R := by
 have hρ := fun x => wL0 (act := act) hG ha x
 refine ⟨fun _ _ => trivial, ?_⟩
 unfold vax9 at h
 split at h
 ·rename_i x ho
  obtain ⟨hk, t, v, hx, hX⟩ := h
  have hr := (hρ x).strip hk
  rw [hx] at hr
  have hr : act.eval x = .iface t v := by simpa [Rel] using hr
  have hrun : (execOp act.eval o).run P S.w = .halt (.panic (.iface t v)) S.w := by
   simp only [execOp, ho, hr, Instr.panic]
   rfl
  rw [Oper.semAt_eq _ _ _ (fun c hc => by rw [ho] at hc; cases hc), hrun]
  exact hR _ _ S hX hok (Ext.refl _ _ _)
 ·rename_i f args ts ho
  split at h
  ·rename_i g cap hf
   obtain ⟨hk, hent, hargs, ch, H', hc, hX⟩ := h
   have hfv := (hρ f).strip hk
   rw [hf] at hfv
   simp only [Rel] at hfv
   obtain ⟨caps, hfe, hcap⟩ := hfv
   have hrel : RelL (S.env H) ((args.toList.map fun x => (ev G a x).strip) ++ cap) (args.toList.map act.eval ++ caps) := by
    refine RelL.append (RelL.mk (by simp) fun i x v hx hv => ?_) hcap
    rw [List.getElem?_map] at hx hv
    cases hz : args.toList[i]? with
    | none => rw [hz] at hx; cases hx
    | some z =>
     rw [hz] at hx hv
     injection hx with hx; injection hv with hv; subst hx; subst hv
     exact (hρ z).strip (List.all_eq_true.1 hargs z (List.mem_of_getElem? hz))
   have hcall := hc S _ hok hG hrel
   unfold qa0 at hent
   split at hent
   ·rename_i fn hfn
    simp only [Bool.and_eq_true, bne_iff_ne, ne_eq, Option.isSome_iff_exists] at hent
    obtain ⟨hname, body, hbody⟩ := hent
    have hn : (fn.name == "runtime.NumGoroutine") = false := by simpa using hname
    have hrun : (execOp act.eval o).run P S.w = .ok (.enter g (args.toList.map act.eval ++ caps).toArray) S.w := by
     have harr : args.map act.eval ++ caps.toArray = (args.toList.map act.eval ++ caps).toArray := by apply Array.ext'; simp
     simp only [execOp, ho, resolve, hfe, Deferred.ofValue]
     simp [invoke, callFunc, hfn, hbody]
     rw [← harr]
     simp
     exact hname
    rw [Oper.semAt_eq _ _ _ (fun c' hc' => by rw [ho] at hc'; cases hc'), hrun]
    refine ⟨fun q => (by cases q), zw0 (hcall.mono fun e w' hh => ?_)⟩
    obtain ⟨S', rfl, rfl, h2, h3⟩ := hh
    exact hR ch H' S' hX h2 h3
   ·cases hent
  ·exact h.elim
 ·exact h.elim
theorem wt0 {n0 : Nat} {S0 : St} {H0 : List Blk} {ops : List Oper} {K : List AV → List Blk → Prop} {ds : List Deferred} {R : Exit → Act → World → Prop} {ro : Option Nat} {more : List Nat}
  (hQ : ∀ act w, Ends G n0 S0 H0 ds K act w → wpOpsIn (fen ro) 0 P ops.toArray R more act w) :
  ∀ (l : List Oper) (k : Nat) (a : List AV) (H : List Blk) (S : St) (act : Act), (∀ j, j < l.length → l[j]? = ops[k + j]?) → wag9 P G ops K l a H → S.Ok H → Globs G S.M → n0 ≤ H.length → Ext n0 S0 H0 S H → RelL (S.env H) a act.tmps.toList → Marks S0 ds S H act.defers →
   wpOpsIn (fen ro) 0 P ops.toArray R (List.range' k l.length ++ more) act S.w
 | [], k, a, H, S, act, hl, hc, hok, hG, hn, hext, ha, hd => hQ _ _ ⟨a, H, S, rfl, hc, hok, hext, ha, hd⟩
 | o :: l, k, a, H, S, act, hl, hc, hok, hG, hn, hext, ha, hd => by
  obtain ⟨r, H', hs, hc'⟩ := hc
  have h0 : ops.toArray[k]? = some o := by have := hl 0 (by simp); simpa using this.symm
  have hgo : ∀ v S', S'.Ok H' → Ext H.length S H S' H' → Rel (S'.env H') r v → wpOpsIn (fen ro) 0 P ops.toArray R (List.range' (k + 1) l.length ++ more) (act.put o.dst v) S'.w := fun v S' h1 h2 h3 => by
   have hlen : H.length ≤ H'.length := h2.len (Nat.le_refl _)
   exact wt0 hQ l (k + 1) _ H' S' _ (fun j hj => by have := hl (j + 1) (by simpa using hj); simpa [Nat.add_assoc, Nat.add_comm 1 j] using this) hc' h1 (hG.mono h2.M) (by omega) (hext.trans (h2.less hn (Nat.le_refl _))) (zr0 (RelL.mono (h2.le (Nat.le_refl _)) _ _ ha) _ h3) (by
    have e : (act.put o.dst v).defers = act.defers := by cases o.dst <;> rfl
    rw [e]; exact hd.mono h2)
  have hs1 := hs.elim (fun hs => kai9 (Q := R) (ro := ro) (ops := ops) hs hok hG ha hgo) (fun hs => xbI9 (Q := R) (ro := ro) (ops := ops) hs hok hG ha hgo)
  simp only [List.length_cons, List.range'_succ, List.cons_append, wpOpsIn, h0]
  exact hs1
theorem vcR9 {Q : Post} {a : List AV} {id : Nat} {ops : List Oper} {o : Oper} (k : Nat) (ho : ops[k]? = some o) (hg : ∀ x ∈ ops.take k, x.guard = none) (hgo : o.guard = none)
  (h : wag9 P G ops (fun a' H' => vax9 P G o (ev G a') H' (fun ch H'' => Q (.panic ch) a' H'')) (ops.take k) a H) : AWp ρ P G n0 (.region id ops.toArray false) Q a H := fun ro S act hr0 h1 h2 h3 h4 => by
 have hk : k < ops.length := (List.getElem?_eq_some_iff.1 ho).1
 refine wpIn_region ?_
 have e : List.range ops.toArray.size = List.range' 0 (ops.take k).length ++ List.range' k (ops.length - k) := by
  rw [List.range_eq_range', List.length_take, Nat.min_eq_left (by omega)]
  have := List.range'_append (s := 0) (m := k) (n := ops.length - k) (step := 1)
  simp only [Nat.zero_add, Nat.one_mul] at this
  rw [this]
  congr 1
  simp; omega
 rw [e]
 refine wt0 (ro := ro) (S0 := S) (n0 := n0) (ds := act.defers) (fun act' w' hE => ?_) (ops.take k) 0 a H S act (fun j hj => by
  have hj' : j < k := by rw [List.length_take] at hj; omega
  rw [List.getElem?_take, if_pos hj', Nat.zero_add]) h h1 h2 h3 (Ext.refl _ _ _) h4 (Marks.refl _ _ _ _)
 obtain ⟨a', H', S', rfl, hP, hok', hext, ha', hd'⟩ := hE
 have h0 : ops.toArray[k]? = some o := by simpa using ho
 rw [show ops.length - k = (ops.length - k - 1) + 1 by omega, List.range'_succ]
 simp only [wpOpsIn, h0]
 have hw : Region.wanted o (yielded ops.toArray act'.tmps) = true := by simp [Region.wanted, hgo]
 rw [if_pos hw]
 refine vcr9 hP hok' (h2.mono hext.M) ha' fun ch H'' S'' hX hok2 hext2 => ?_
 have hlen := hext.len h3
 have he2 : Ext n0 S' H' S'' H'' := hext2.less hlen (Nat.le_refl _)
 exact ⟨a', H'', S'', rfl, hX, hok2, hext.trans he2, RelL.mono (hext2.le (Nat.le_refl _)) _ _ ha', hd'.mono hext2⟩
theorem kbB9 {o : Oper} {σ : Operand → AV} {X Y : List PanicEntry → List Blk → Prop} (hXY : ∀ ch H', X ch H' → Y ch H') (h : vax9 P G o σ H X) : vax9 P G o σ H Y := by
 unfold vax9 at h ⊢
 split at h
 ·obtain ⟨h1, t, v, h2, h3⟩ := h
  exact ⟨h1, t, v, h2, hXY _ _ h3⟩
 ·split at h
  ·obtain ⟨h1, h2, h3, ch, H', h4, h5⟩ := h
   exact ⟨h1, h2, h3, ch, H', h4, hXY _ _ h5⟩
  ·exact h.elim
 ·exact h.elim
theorem zA0 {ops : List Oper} {K K' : List AV → List Blk → Prop} (hK : ∀ a H, K a H → K' a H) : ∀ (l : List Oper) (a : List AV) (H : List Blk), wag9 P G ops K l a H → wag9 P G ops K' l a H
 | [], a, H, h => hK _ _ h
 | o :: l, a, H, h => let ⟨r, H', hs, hc⟩ := h; ⟨r, H', hs, zA0 hK l _ _ hc⟩
def PanQ (P : Program) (G : Glob) (n : Nat) (o : Oper) (Q : ke0) : ke0
 | .normal, s, H => vax9 P G o (evS G n s) H (fun ch H' => Q (.panic ch) s H')
 | _, _, _ => False
def qV0 (ops : List Oper) : Bool := ops.all fun o => o.guard.isNone
theorem vg0 (k : Nat) {o : Oper} (hs : xm0 (atR body p) = true) (hd : wD0 (atR body p) = false) (ho : (qd0 (atR body p))[k]? = some o) (hg : qV0 ((qd0 (atR body p)).take (k + 1)) = true)
  (h : Acc ρ P G n0 n noQ (cutB (atR body p) k) [] (PanQ P G n o Q) 0 B s H) : Go ρ P G n0 n body p Q B s H := by
 refine ⟨h.1, ?_⟩
 have h2 := h.2
 unfold At
 generalize atR body p = c at hs hd ho hg h2
 cases c with
 | region id ops d =>
  cases hd
  simp only [qd0] at ho hg
  have hga : ∀ x ∈ ops.toList.take (k + 1), x.guard = none := fun x hx => by
   have := List.all_eq_true.1 hg x hx
   simpa using this
  have hgo : o.guard = none := hga o (by
   have : (ops.toList.take (k + 1))[k]? = some o := by rw [List.getElem?_take, if_pos (by omega)]; exact ho
   exact List.mem_of_getElem? this)
  have hgk : ∀ x ∈ ops.toList.take k, x.guard = none := fun x hx => hga x (by
   have : ops.toList.take k = (ops.toList.take (k + 1)).take k := by rw [List.take_take, Nat.min_eq_left (by omega)]
   rw [this] at hx
   exact List.mem_of_mem_take hx)
  have h3 : tops P G noQ (ops.toList.take k) (qE0 n (PanQ P G n o Q) .normal) (ops.toList.take k) (Lst n s) H := by
   have := h2
   simpa only [atR, cutB, qd0, List.drop_zero] using this
  refine vcR9 (ops := ops.toList) k ho hgk hgo (zA0 (fun a' H' hq => ?_) _ _ _ (qG0 _ _ _ hgk (wn0 _ _ _ h3)))
  obtain ⟨s', rfl, hq⟩ := hq
  rw [zk0]
  have hq : vax9 P G o (evS G n s') H' (fun ch H'' => Q (.panic ch) s' H'') := hq
  exact kbB9 (fun ch H'' hX => ⟨s', rfl, hX⟩) hq
 | _ => cases hs
end
end Go.V
set_option linter.unusedVariables false
set_option linter.unusedSimpArgs false
set_option autoImplicit false
namespace Go.V
open Go Go.RowKit
def kcr9 (P : Program) (G : Glob) (g : FuncId) (args : List AV) (H : List Blk) (v : Value) (H' : List Blk) : Prop :=
 ∀ (S : St) (vals : List Value), S.Ok H → Globs G S.M → RelL (S.env H) args vals →
  CallsDIn Fence.wide 0 P g vals.toArray (.panicking [{ v, recovered := false }]) S.w fun e u' w' =>
   (∃ r, e = .returned r) ∧ u' = .panicking [{ v, recovered := true }] ∧ ∃ S', S'.w = w' ∧ S'.Ok H' ∧ Ext H.length S H S' H'
def qcs9 (P : Program) (G : Glob) (g : FuncId) (args : List AV) (H H' : List Blk) : Prop :=
 ∀ (S : St) (vals : List Value), S.Ok H → Globs G S.M → RelL (S.env H) args vals →
  CallsDIn Fence.wide 0 P g vals.toArray .returning S.w fun e u' w' =>
   (∃ r, e = .returned r) ∧ u' = .returning ∧ ∃ S', S'.w = w' ∧ S'.Ok H' ∧ Ext H.length S H S' H'
def MarksOk (m0 : Nat) (S : St) (H : List Blk) (Ds : List Nat) : Prop := Ds.Pairwise (fun x y => y < x) ∧ ∀ g ∈ Ds, m0 ≤ g ∧ S.Free H g ∧ S.w.heap[g]? = some (.deferred (some []))
theorem MarksOk.mono {n0 m0 : Nat} {S S' : St} {H H' : List Blk} {Ds : List Nat} (h : MarksOk m0 S H Ds) (he : Ext n0 S H S' H') : MarksOk m0 S' H' Ds :=
 ⟨h.1, fun g hg => by
  obtain ⟨q1, q2, q3⟩ := h.2 g hg
  obtain ⟨r1, r2⟩ := q2.ext (Array.getElem?_eq_some_iff.1 q3).1 he
  exact ⟨q1, r1, r2.trans q3⟩⟩
theorem MarksOk.add {m0 : Nat} {S S' : St} {H' : List Blk} {ds ds' : List Deferred} {Ds : List Nat} (h : MarksOk m0 S' H' Ds) (hlt : ∀ g ∈ Ds, g < S.w.heap.size) (hm : m0 ≤ S.w.heap.size) (k : Marks S ds S' H' ds') : ∃ D, ds' = D.map mark ++ ds ∧ MarksOk m0 S' H' (D ++ Ds) := by
 obtain ⟨D, e, p, q⟩ := k
 refine ⟨D, e, ?_, fun g hg => ?_⟩
 ·rw [List.pairwise_append]
  exact ⟨p, h.1, fun x hx y hy => Nat.lt_of_lt_of_le (hlt y hy) (q x hx).1⟩
 ·rcases List.mem_append.1 hg with hg|hg
  ·obtain ⟨q1, q2, q3⟩ := q g hg
   exact ⟨by omega, q2, q3⟩
  ·exact h.2 g hg
theorem MarksOk.lt {m0 : Nat} {S : St} {H : List Blk} {Ds : List Nat} (h : MarksOk m0 S H Ds) : ∀ g ∈ Ds, g < S.w.heap.size := fun g hg => (Array.getElem?_eq_some_iff.1 (h.2 g hg).2.2).1
def kdi9 (m0 : Nat) (S : St) (H : List Blk) : Option (FuncId × List AV) → List Deferred → Prop
 | none, ds => ∃ Ds, ds = Ds.map mark ∧ MarksOk m0 S H Ds
 | some (g, args), ds => ∃ (Ds D0 : List Nat) (caps dargs : List Value), ds = Ds.map mark ++ { target := .fn (.func g) caps.toArray, args := dargs.toArray } :: D0.map mark ∧ MarksOk m0 S H (Ds ++ D0) ∧ RelL (S.env H) args (dargs ++ caps)
abbrev xaX9 := Exit → List AV → List Blk → Option (FuncId × List AV) → Prop
def EndD (m0 n0 : Nat) (S : St) (H : List Blk) (K : List AV → List Blk → Option (FuncId × List AV) → Prop) (act : Act) (w : World) : Prop :=
 ∃ a' H' S' dl', S'.w = w ∧ K a' H' dl' ∧ S'.Ok H' ∧ Ext n0 S H S' H' ∧ RelL (S'.env H') a' act.tmps.toList ∧ kdi9 m0 S' H' dl' act.defers
def AWpD (P : Program) (G : Glob) (m0 n0 : Nat) (c : Code) (Q : xaX9) (a : List AV) (H : List Blk) (dl : Option (FuncId × List AV)) : Prop :=
 ∀ (S : St) (act : Act), S.Ok H → Globs G S.M → n0 ≤ H.length → m0 ≤ S.w.heap.size → RelL (S.env H) a act.tmps.toList → kdi9 m0 S H dl act.defers →
  c.wpIn (fen none) 0 P (fun e => EndD m0 n0 S H (Q e)) act S.w
section
variable {P : Program} {G : Glob} {m0 n0 : Nat} {Q : xaX9} {a : List AV} {H : List Blk} {dl : Option (FuncId × List AV)}
theorem EndD.from {S S1 : St} {H1 : List Blk} {K : List AV → List Blk → Option (FuncId × List AV) → Prop} {act : Act} {w : World} (he : Ext n0 S H S1 H1) (h : EndD m0 n0 S1 H1 K act w) : EndD m0 n0 S H K act w :=
 let ⟨a', H', S', dl', h1, h2, h3, h4, h5⟩ := h
 ⟨a', H', S', dl', h1, h2, h3, he.trans h4, h5⟩
def vdr9 (K : List AV → List Blk → Option (FuncId × List AV) → Prop) (Q : xaX9) : xaX9
 | .normal, a, H, dl => K a H dl
 | e, a, H, dl => Q e a H dl
theorem zcs9 {x y : Code} (h : AWpD P G m0 n0 x (vdr9 (AWpD P G m0 n0 y Q) Q) a H dl) : AWpD P G m0 n0 (.seq x y) Q a H dl := fun S act h1 h2 h3 hm h4 h5 =>
 wpIn_seq (wpIn_mono (h S act h1 h2 h3 hm h4 h5) fun e act' w' he => by
  cases e with
  | normal =>
   obtain ⟨a', H', S', dl', rfl, hK, hok, hext, ha, hd⟩ := he
   exact wpIn_mono (hK S' act' hok (h2.mono hext.M) (hext.len h3) (Nat.le_trans hm hext.size) ha hd) fun e _ _ q => q.from hext
  | _ => exact he)
def wdp9 (id : Nat) (Q : xaX9) : xaX9
 | .exit id', a, H, dl => if id' = id then Q .normal a H dl else Q (.exit id') a H dl
 | e, a, H, dl => Q e a H dl
theorem vbU9 {c : Code} (h : AWp false P G n0 c (fun e a H => Q e a H none) a H) : AWpD P G m0 n0 c Q a H none := fun S act h1 h2 h3 hm h4 h5 => by
 obtain ⟨Ds, hds, hmk⟩ := h5
 refine wpIn_mono (h none S act rfl h1 h2 h3 h4) fun e act' w' he => ?_
 obtain ⟨a', H', S', rfl, hK, hok, hext, ha, hd⟩ := he
 obtain ⟨D, e1, e2⟩ := (hmk.mono hext).add hmk.lt hm hd
 exact ⟨a', H', S', none, rfl, hK, hok, hext, ha, D ++ Ds, by rw [e1, hds, List.map_append], e2⟩
theorem qbC9 {c : Code} {g : FuncId} {args : List AV} (h : AWp false P G H.length c (fun e a H => Q e a H (some (g, args))) a H) : AWpD P G m0 n0 c Q a H (some (g, args)) := fun S act h1 h2 h3 hm h4 h5 => by
 obtain ⟨Ds, D0, caps, dargs, hds, hmk, hrel⟩ := h5
 refine wpIn_mono (h none S act rfl h1 h2 (Nat.le_refl _) h4) fun e act' w' he => ?_
 obtain ⟨a', H', S', rfl, hK, hok, hext, ha, hd⟩ := he
 obtain ⟨D, e1, e2⟩ := (hmk.mono hext).add hmk.lt hm hd
 exact ⟨a', H', S', _, rfl, hK, hok, hext.less h3 (Nat.le_refl _), ha, D ++ Ds, D0, caps, dargs, by rw [e1, hds, List.map_append, List.append_assoc], by rw [List.append_assoc]; exact e2, RelL.mono (hext.le (Nat.le_refl _)) _ _ hrel⟩
theorem zbC9 {id : Nat} {ops : List Oper} {o : Oper} {f : Operand} {args : Array Operand} {ts : Array TypeId} (k : Nat) (hk : ops.length = k + 1) (ho : ops[k]? = some o) (hop : o.op = .defer ⟨.value f, args, ts⟩) (hg : ∀ x ∈ ops.take k, x.guard = none) (hgo : o.guard = none) (hdst : o.dst = none)
  (h : wag9 P G ops (fun a' H' => (ev G a' f).ok = true ∧ (args.toList.all fun x => (ev G a' x).ok) = true ∧ ∃ g cap, (ev G a' f).strip = .fn g cap ∧ Q .normal a' H' (some (g, (args.toList.map fun x => (ev G a' x).strip) ++ cap))) (ops.take k) a H) : AWpD P G m0 n0 (.region id ops.toArray false) Q a H none := fun S act h1 h2 h3 hm h4 h5 => by
 obtain ⟨Ds, hds, hmk⟩ := h5
 refine wpIn_region ?_
 have e : List.range ops.toArray.size = List.range' 0 (ops.take k).length ++ [k] := by
  rw [List.range_eq_range', List.length_take, Nat.min_eq_left (by omega)]
  have e2 : ops.toArray.size = k + 1 := by simpa using hk
  rw [e2, List.range'_concat]; simp
 rw [e]
 refine wt0 (ro := none) (S0 := S) (n0 := n0) (ds := act.defers) (fun act' w' hE => ?_) (ops.take k) 0 a H S act (fun j hj => by
  have hj' : j < k := by rw [List.length_take] at hj; omega
  rw [List.getElem?_take, if_pos hj', Nat.zero_add]) h h1 h2 h3 (Ext.refl _ _ _) h4 (Marks.refl _ _ _ _)
 obtain ⟨a', H', S', rfl, ⟨hfk, hargs, g, cap, hf, hQ⟩, hok', hext, ha', hd'⟩ := hE
 have hρ := fun x => wL0 (act := act') (h2.mono hext.M) ha' x
 have h0 : ops.toArray[k]? = some o := by simpa using ho
 simp only [wpOpsIn, h0]
 have hw : Region.wanted o (yielded ops.toArray act'.tmps) = true := by simp [Region.wanted, hgo]
 rw [if_pos hw]
 refine ⟨fun _ _ => trivial, ?_⟩
 have hfv := (hρ f).strip hfk
 rw [hf] at hfv
 simp only [Rel] at hfv
 obtain ⟨caps, hfe, hcap⟩ := hfv
 have hrel : RelL (S'.env H') ((args.toList.map fun x => (ev G a' x).strip) ++ cap) (args.toList.map act'.eval ++ caps) := by
  refine RelL.append (RelL.mk (by simp) fun i x v hx hv => ?_) hcap
  rw [List.getElem?_map] at hx hv
  cases hz : args.toList[i]? with
  | none => rw [hz] at hx; cases hx
  | some z =>
   rw [hz] at hx hv
   injection hx with hx; injection hv with hv; subst hx; subst hv
   exact (hρ z).strip (List.all_eq_true.1 hargs z (List.mem_of_getElem? hz))
 have hrun : (execOp act'.eval o).run P S'.w = .ok (.defer { target := .fn (.func g) caps.toArray, args := (args.toList.map act'.eval).toArray }) S'.w := by
  have harr : args.map act'.eval = (args.toList.map act'.eval).toArray := by apply Array.ext'; simp
  simp only [execOp, hop, resolve, hfe, Deferred.ofValue]
  simp [← harr]
 show Oper.uponIn _ _ _ _ _ _ _ ((o.semAt none act'.eval).run P S'.w)
 rw [Oper.semAt_none, hrun]
 obtain ⟨D, e1, e2⟩ := (hmk.mono hext).add hmk.lt hm hd'
 show EndD m0 n0 S H (Q .normal) (Act.put _ o.dst undef) S'.w
 rw [hdst]
 refine ⟨a', H', S', _, rfl, hQ, hok', hext, ha', [], D ++ Ds, caps, args.toList.map act'.eval, ?_, by simpa using e2, hrel⟩
 show _ :: act'.defers = _
 rw [e1, hds, List.map_append]; rfl
theorem zV0 {S0 : St} {H0 H : List Blk} {fn : Func} {ts : Array Value} {R : Ending → World → Prop} {ds : List Deferred} {u : FrameMode} (hu : u ≠ .run) : ∀ (Ds : List Nat) (S : St), S.Ok H → Ext n0 S0 H0 S H → Ds.Pairwise (fun x y => y < x) → (∀ g ∈ Ds, S0.w.heap.size ≤ g ∧ S.Free H g ∧ S.w.heap[g]? = some (.deferred (some []))) →
  (∀ S' : St, S'.Ok H → Ext n0 S0 H0 S' H → S'.M = S.M → S'.μ = S.μ → S'.ν = S.ν → (∀ k, k ∉ Ds → S'.w.heap[k]? = S.w.heap[k]?) → LeavesInM Fence.wide 0 P fn ts R ds u S'.w) → LeavesInM Fence.wide 0 P fn ts R (Ds.map mark ++ ds) u S.w
 | [], S, hok, hext, _, _, hR => hR S hok hext rfl rfl rfl fun _ _ => rfl
 | g :: Ds, S, hok, hext, hp, hq, hR => by
  obtain ⟨q1, q2, q3⟩ := hq g (by simp)
  rw [List.pairwise_cons] at hp
  refine ⟨hu, .inl ⟨g, _, rfl, run_takeDeferred q3, ?_⟩⟩
  exact zV0 hu Ds (S.shut g (.deferred none)) (zaa9 hok q2 _) (zaj9 hext q1 _) hp.2 (fun g' hg' => by
   obtain ⟨r1, r2, r3⟩ := hq g' (by simp [hg'])
   have := hp.1 g' hg'
   exact ⟨r1, r2, (World.putObj_heap_other (by omega)).trans r3⟩) fun S' h1 h2 h3 h4 h5 h6 => hR S' h1 h2 h3 h4 h5 fun k hk => by
    rw [List.mem_cons, not_or] at hk
    exact (h6 k hk.2).trans (World.putObj_heap_other hk.1)
theorem kax9 {f : FuncId} {fn : Func} {c : Code} {args : List AV} {H Hf : List Blk} {r : AV} (hf : P.funcs[f]? = some fn) (hb : fn.body = some c)
  (h : ∀ m0, AWpD P G m0 H.length c (fun e a' H' dl => match dl with
   | none => Fin P fn H.length r Hf e a' H'
   | some (g, dargs) => qa0 P g = true ∧ ∃ H2, (match e with
     | .normal|.ret => qcs9 P G g dargs H' H2
     | .panic [⟨v, false, false⟩] => kcr9 P G g dargs H' v H2
     | _ => False) ∧ Fin P fn H.length r Hf .ret a' H2) (args ++ List.replicate (fn.ntmps - args.length) (.tup [])) H none) : ka0 P G f args H r Hf := fun S vals hok hG ha => by
 have hl := ha.length
 have hw := h S.w.heap.size S { tmps := vals.toArray ++ Array.replicate (fn.ntmps - vals.toArray.size) undef, defers := [] } hok hG (Nat.le_refl _) (Nat.le_refl _) (by
  simp only [Array.toList_append, Array.toList_replicate, List.size_toArray, hl]
  exact ha.append (RelL.replicate (by simp [Rel, RelL, undef]) _)) ⟨[], rfl, .nil, fun _ hg => by cases hg⟩
 refine (callsIn_wide (n := 0)).1 (callsIn_of_wp_marks (F := Fence.wide) hf hb trivial (wpIn_mono hw fun e act w hE => ?_))
 obtain ⟨a', H', S', dl', rfl, hQ, hok', hext, ha', hd⟩ := hE
 have fin : ∀ (T : St) (Ds : List Nat) (HT : List Blk) (e : Exit), T.Ok HT → Ext H.length S H T HT → RelL (T.env HT) a' act.tmps.toList → MarksOk S.w.heap.size T HT Ds → Fin P fn H.length r Hf e a' HT →
   LeavesInM Fence.wide 0 P fn act.tmps (fun e w' => ∃ v S', e = .returned v ∧ S'.w = w' ∧ S'.Ok Hf ∧ Ext H.length S H S' Hf ∧ Rel (S'.env Hf) r v) (Ds.map mark) .returning T.w := by
  intro T Ds HT e tok text ta tm ⟨he, har, hcl⟩
  refine wF0 Ds T tok text tm.1 tm.2 fun T' tok' text' tM tμ tν => ?_
  have henv : T'.env HT = T.env HT := by simp only [St.env, tM, tμ, tν]
  obtain ⟨v, hv, hr⟩ := wbJ9 tok' (by rw [henv]; exact ta) har
  obtain ⟨S'', e1, e2, e3, e4⟩ := hcl T' v tok' (text.len (Nat.le_refl _)) hr
  exact ⟨v, hv, v, S'', rfl, e1, e2, text'.trans e3, e4⟩
 cases dl' with
 | none =>
  obtain ⟨Ds, e1, e2⟩ := hd
  have hQ : Fin P fn H.length r Hf e a' H' := hQ
  have key := fin S' Ds H' e hok' hext ha' e2 hQ
  rw [← e1] at key
  rcases hQ.1 with rfl|rfl
  ·exact key
  ·exact key
 | some p =>
  obtain ⟨g, dargs⟩ := p
  obtain ⟨Ds, D0, caps, dvals, e1, e2, e3⟩ := hd
  obtain ⟨hent, H2, hc, hfin⟩ := hQ
  have door : ∀ (u : FrameMode), u ≠ .run → (∀ T : St, T.Ok H' → Globs G T.M → RelL (T.env H') dargs (dvals ++ caps) → CallsDIn Fence.wide 0 P g (dvals ++ caps).toArray u T.w fun e u' w' => (∃ r, e = .returned r) ∧ settle u' = .returning ∧ ∃ S', S'.w = w' ∧ S'.Ok H2 ∧ Ext H'.length T H' S' H2) →
    LeavesInM Fence.wide 0 P fn act.tmps (fun e w' => ∃ v S', e = .returned v ∧ S'.w = w' ∧ S'.Ok Hf ∧ Ext H.length S H S' Hf ∧ Rel (S'.env Hf) r v) act.defers u S'.w := by
   intro u hu hcall
   rw [e1]
   have hall := List.pairwise_append.1 e2.1
   refine zV0 hu Ds S' hok' hext hall.1 (fun g hg => e2.2 g (List.mem_append_left _ hg)) fun T tok text tM tμ tν theap => ?_
   have henv : T.env H' = S'.env H' := by simp only [St.env, tM, tμ, tν]
   have hm0 : MarksOk S.w.heap.size T H' D0 := ⟨hall.2.1, fun x hx => by
    obtain ⟨q1, q2, q3⟩ := e2.2 x (List.mem_append_right _ hx)
    refine ⟨q1, ?_, (theap x fun hn => Nat.lt_irrefl _ (hall.2.2 x hn x hx)).trans q3⟩
    refine ⟨fun ⟨b, hb⟩ => q2.1 ⟨b, ?_⟩, by rw [tM]; exact q2.2⟩
    simpa only [St.at, tμ, tν] using hb⟩
   have hc2 := hcall T tok (by rw [tM]; exact hG.mono hext.M) (by rw [henv]; exact e3)
   refine ⟨hu, .inr ⟨(fun q => by cases q), .func g, caps.toArray, g, (dvals ++ caps).toArray, rfl, ?_, fun _ _ => trivial, ?_⟩⟩
   ·unfold qa0 at hent
    split at hent
    ·rename_i fn' hfn
     simp only [Bool.and_eq_true, bne_iff_ne, ne_eq, Option.isSome_iff_exists] at hent
     obtain ⟨hname, body, hbody⟩ := hent
     simp [invoke, callFunc, hfn, hbody]
     exact hname
    ·cases hent
   ·refine hc2.mono fun e' u' w' hh => ?_
    obtain ⟨⟨rv, rfl⟩, hset, T2, rfl, tok2, text2⟩ := hh
    simp only
    rw [hset]
    have hlen := text.len (Nat.le_refl _)
    have hext2 : Ext H.length S H T2 H2 := text.trans (text2.less hlen (Nat.le_refl _))
    exact fin T2 D0 H2 .ret tok2 hext2 (RelL.mono (text2.le (Nat.le_refl _)) _ _ (by rw [henv]; exact ha')) (hm0.mono text2) hfin
  cases e with
  | normal => exact door .returning (by simp) fun T t1 t2 t3 => (hc T _ t1 t2 t3).mono fun e u' w' ⟨q1, q2, q3⟩ => ⟨q1, by rw [q2]; rfl, q3⟩
  | ret => exact door .returning (by simp) fun T t1 t2 t3 => (hc T _ t1 t2 t3).mono fun e u' w' ⟨q1, q2, q3⟩ => ⟨q1, by rw [q2]; rfl, q3⟩
  | panic ch =>
   match ch, hc with
   | [⟨v, false, false⟩], hc => exact door (.panicking [{ v, recovered := false }]) (by simp) fun T t1 t2 t3 => (hc T _ t1 t2 t3).mono fun e u' w' ⟨q1, q2, q3⟩ => ⟨q1, by rw [q2]; rfl, q3⟩
  | _ => exact hc.elim
end
end Go.V
set_option linter.unusedVariables false
set_option linter.unusedSimpArgs false
set_option autoImplicit false
namespace Go.V
open Go Go.RowKit
abbrev xV0 := Exit → (Nat → AV) → List Blk → Option (FuncId × List AV) → Prop
def kdr9 (n : Nat) (Q : xV0) : xaX9 := fun e a H dl => ∃ s, a = Lst n s ∧ Q e s H dl
section
variable {P : Program} {G : Glob} {m0 n0 n : Nat} {body : Code} {p : List Nat} {Q : xV0} {s : Nat → AV} {H : List Blk} {dl : Option (FuncId × List AV)}
structure GoD (P : Program) (G : Glob) (m0 n0 n : Nat) (body : Code) (p : List Nat) (Q : xV0) (s : Nat → AV) (H : List Blk) (dl : Option (FuncId × List AV)) : Prop where
 w : AWpD P G m0 n0 (atR body p) (kdr9 n Q) (Lst n s) H dl
def qdj9 (K : (Nat → AV) → List Blk → Option (FuncId × List AV) → Prop) (Q : xV0) : xV0
 | .normal, s, H, dl => K s H dl
 | e, s, H, dl => Q e s H dl
theorem waX9 {c : Code} {Q Q' : xaX9} {a : List AV} (h : AWpD P G m0 n0 c Q a H dl) (hq : ∀ e a H dl, Q e a H dl → Q' e a H dl) : AWpD P G m0 n0 c Q' a H dl := fun S act h1 h2 h3 hm h4 h5 =>
 wpIn_mono (h S act h1 h2 h3 hm h4 h5) fun e _ _ ⟨a', H', S', dl', q1, q2, q3⟩ => ⟨a', H', S', dl', q1, hq _ _ _ _ q2, q3⟩
theorem zaL9 (hs : kbM9 (atR body p) = true) (h : GoD P G m0 n0 n body (0 :: p) (qdj9 (GoD P G m0 n0 n body (1 :: p) Q) Q) s H dl) : GoD P G m0 n0 n body p Q s H dl := by
 have h2 := h.w
 refine ⟨?_⟩
 simp only [atR] at h2
 generalize hc : atR body p = c at hs h2
 cases c with
 | seq x y =>
  refine zcs9 (waX9 h2 fun e a H dl q => ?_)
  cases e with
  | normal =>
   obtain ⟨s', rfl, q⟩ := q
   have q := (show GoD P G m0 n0 n body (1 :: p) Q s' H dl from q).w
   simp only [atR, hc] at q
   exact q
  | _ => exact q
 | _ => cases hs
def zdj9 (id : Nat) (Q : xV0) : xV0
 | .exit id', s, H, dl => if id' = id then Q .normal s H dl else Q (.exit id') s H dl
 | e, s, H, dl => Q e s H dl
theorem vaj9 (h : Go false P G n0 n body p (fun e s H => Q e s H none) True s H) : GoD P G m0 n0 n body p Q s H none := ⟨vbU9 h.2⟩
theorem kbU9 {g : FuncId} {args : List AV} (h : Go false P G H.length n body p (fun e s H => Q e s H (some (g, args))) True s H) : GoD P G m0 n0 n body p Q s H (some (g, args)) := ⟨qbC9 h.2⟩
def DefQ (G : Glob) (n : Nat) (f : Operand) (args : Array Operand) (Q : xV0) : ke0
 | .normal, s, H => (evS G n s f).ok = true ∧ (args.toList.all fun x => (evS G n s x).ok) = true ∧ ∃ g cap, (evS G n s f).strip = .fn g cap ∧ Q .normal s H (some (g, (args.toList.map fun x => (evS G n s x).strip) ++ cap))
 | _, _, _ => False
theorem qbV9 (k : Nat) {f : Operand} {args : Array Operand} {ts : Array TypeId} {ty : TypeId} {pos : String} {af : Array Edge} (hs : xm0 (atR body p) = true) (hd : wD0 (atR body p) = false) (hk : (qd0 (atR body p)).length = k + 1) (ho : (qd0 (atR body p))[k]? = some ⟨none, .defer ⟨.value f, args, ts⟩, ty, pos, af, none⟩) (hg : qV0 (qd0 (atR body p)) = true)
  (h : Acc false P G n0 n noQ (cutB (atR body p) k) [] (DefQ G n f args Q) 0 True s H) : GoD P G m0 n0 n body p Q s H none := by
 refine ⟨?_⟩
 have h2 := h.2
 generalize atR body p = c at hs hd hk ho hg h2
 cases c with
 | region id ops d =>
  cases hd
  simp only [qd0] at ho hg hk
  have hgk : ∀ x ∈ ops.toList.take k, x.guard = none := fun x hx => by
   have := List.all_eq_true.1 hg x (List.mem_of_mem_take hx)
   simpa using this
  have h3 : tops P G noQ (ops.toList.take k) (qE0 n (DefQ G n f args Q) .normal) (ops.toList.take k) (Lst n s) H := by
   have := h2
   simpa only [atR, cutB, qd0, List.drop_zero] using this
  refine zbC9 (ops := ops.toList) k hk ho rfl hgk rfl rfl (zA0 (fun a' H' hq => ?_) _ _ _ (qG0 _ _ _ hgk (wn0 _ _ _ h3)))
  obtain ⟨s', rfl, hq⟩ := hq
  obtain ⟨q1, q2, g, cap, q3, q4⟩ := (show (evS G n s' f).ok = true ∧ (args.toList.all fun x => (evS G n s' x).ok) = true ∧ ∃ g cap, (evS G n s' f).strip = .fn g cap ∧ Q .normal s' H' (some (g, (args.toList.map fun x => (evS G n s' x).strip) ++ cap)) from hq)
  rw [zk0]
  exact ⟨q1, q2, g, cap, q3, s', rfl, q4⟩
 | _ => cases hs
def vcE9 (P : Program) (G : Glob) (n : Nat) (rs : List ResultVar) (d : Nat) (r : AV) : xV0 := fun e s H dl =>
 match dl with
 | none => zaS9 P n rs d r e s H
 | some (g, dargs) => qa0 P g = true ∧ ∃ H2, (match e with
   | .normal|.ret => qcs9 P G g dargs H H2
   | .panic [⟨v, false, false⟩] => kcr9 P G g dargs H v H2
   | _ => False) ∧ zaS9 P n rs d r .ret s H2
theorem xdj9 {f : FuncId} {fn : Func} {args : List AV} {r : AV} (d n : Nat) (rs : List ResultVar) (hf : P.funcs[f]? = some fn) (hb : fn.body.isSome = true) (hn : fn.ntmps = n) (hrs : fn.results.toList = rs) (hl : args.length ≤ n)
  (h : ∀ m0 s, kaI9 s 0 args → GoD P G m0 0 n (xe0 fn) [] (vcE9 P G n rs d r) s [] none) : PC P G f args r := by
 obtain ⟨c, hc⟩ := Option.isSome_iff_exists.1 hb
 refine kax9 hf hc fun m0 => ?_
 have hlen : (args ++ List.replicate (fn.ntmps - args.length) (AV.tup [])).length = n := by simp [hn]; omega
 have h1 := qt0 [] args (fn.ntmps - args.length)
 have := (h m0 (getA (args ++ List.replicate (fn.ntmps - args.length) (AV.tup []))) (kH0 _ 0 args (by simpa using h1))).w
 unfold atR xe0 at this
 rw [hc, ← kS0 hlen] at this
 have fin : ∀ e s H, zaS9 P n rs d r e s H → Fin P fn 0 r [] e (Lst n s) H := fun e s H ⟨q1, q2, q3, q4⟩ => by
  rw [← qaJ9] at q2 q3 q4
  exact ⟨q1, by rw [hrs]; exact q2, by rw [hrs]; exact (xaA9 d q3).eqv q4⟩
 refine waX9 this fun e a H dl ⟨s, ha, q⟩ => ?_
 subst ha
 cases dl with
 | none => exact fin _ _ _ q
 | some p =>
  obtain ⟨g, dargs⟩ := p
  obtain ⟨q1, H2, q2, q3⟩ := q
  exact ⟨q1, H2, q2, fin _ _ _ q3⟩
end
end Go.V
set_option linter.unusedVariables false
set_option linter.unusedSimpArgs false
set_option autoImplicit false
namespace Go.V
open Go Go.RowKit
theorem var9 {P : Program} {F : Fence} {n n0 : Nat} {S0 : St} {H0 H : List Blk} : ∀ (Ds : List Nat) (S : St) (fr : Frame) (cs : List Frame), fr.mode ≠ .run → fr.defers = Ds.map mark → F.fn fr.fn → F.room (cs.length + 1 + n) → S.Ok H → Ext n0 S0 H0 S H → Ds.Pairwise (fun x y => y < x) →
  (∀ g ∈ Ds, S0.w.heap.size ≤ g ∧ S.Free H g ∧ S.w.heap[g]? = some (.deferred (some []))) → ∃ S' : St, StepsIn (Machine.fenced P F) P (lone fr cs S.w) (lone { fr with defers := [] } cs S'.w) ∧ S'.Ok H ∧ Ext n0 S0 H0 S' H
 | [], S, fr, cs, hm, hd, hF, hr, hok, hext, hp, hq => by
  have e : ({ fr with defers := [] } : Frame) = fr := by
   have hd : fr.defers = [] := hd
   rw [← hd]
  rw [e]
  exact ⟨S, StepsIn.refl _, hok, hext⟩
 | g :: Ds, S, fr, cs, hm, hd, hF, hr, hok, hext, hp, hq => by
  obtain ⟨q1, q2, q3⟩ := hq g (by simp)
  rw [List.pairwise_cons] at hp
  have h1 := step_collected (cs := cs) hm hd (rfl : (mark g).target = .collected g) (run_takeDeferred q3 (P := P))
  have i1 : (lone fr cs S.w).fenced P F := fenced_out hF hr hm hd (fun g' hg' => by simp [mark, Target.leads] at hg')
  obtain ⟨S', h2, h3, h4⟩ := var9 (P := P) (F := F) (n := n) Ds (S.shut g (.deferred none)) { fr with defers := [] ++ Ds.map mark } cs hm rfl hF hr (zaa9 hok q2 _) (zaj9 hext q1 _) hp.2 (fun g' hg' => by
   obtain ⟨r1, r2, r3⟩ := hq g' (by simp [hg'])
   have := hp.1 g' hg'
   exact ⟨r1, r2, (World.putObj_heap_other (by omega)).trans r3⟩)
  exact ⟨S', StepsIn.trans (.one i1 h1) h2, h3, h4⟩
theorem kcR9 {P : Program} {g : FuncId} {fn : Func} {c : Code} {args : Array Value} {u u' : FrameMode} {S : St} {H Hf : List Blk} (hf : P.funcs[g]? = some fn) (hb : fn.body = some c) (hres : fn.results = #[])
  (h : ∀ (c₀ : Frame) (cs : List Frame), c₀.mode = u → c.wpSIn Fence.wide 0 P (fun e act cs' w' => (e = .normal ∨ e = .ret) ∧ cs' = { c₀ with mode := u' } :: cs ∧ ∃ H' S', S'.w = w' ∧ S'.Ok H' ∧ Ext H.length S H S' H' ∧ Marks S [] S' H' act.defers ∧ (H'.take H.length).all (Blk.below H.length) = true ∧ H'.take H.length = Hf)
   { tmps := args ++ Array.replicate (fn.ntmps - args.size) undef, defers := [] } (c₀ :: cs) S.w) :
  CallsDIn Fence.wide 0 P g args u S.w fun e uu w' => (∃ r, e = .returned r) ∧ uu = u' ∧ ∃ S', S'.w = w' ∧ S'.Ok Hf ∧ Ext H.length S H S' Hf := by
 refine ⟨trivial, fun c₀ cs hu hroom => ?_⟩
 let b : Frame := { (default : Frame) with fn := g, kind := .deferred, roundOf := none }
 have henter : Frame.enter P g args .deferred =
   b.atR { tmps := args ++ Array.replicate (fn.ntmps - args.size) undef, defers := [] } [.code c] := by
  simp [Frame.enter, Frame.atR, hf, hb, b]
 obtain ⟨e, a', cs', w', hl, ⟨he, hcs, H', S', rfl, hok, hext, hmk, hbl, hH⟩, harr⟩ := h c₀ cs hu b [] rfl rfl trivial hroom
 rw [← henter] at harr
 subst hcs
 obtain ⟨Ds, hd, hp, hq⟩ := hmk
 rw [List.append_nil] at hd
 have fin : ∀ todo : List Item, ∃ T : St, StepsIn (Machine.fenced P Fence.wide) P (lone { b.atR a' todo with mode := .returning } ({ c₀ with mode := u' } :: cs) S'.w) (lone { { b.atR a' todo with mode := .returning } with defers := [] } ({ c₀ with mode := u' } :: cs) T.w) ∧ T.Ok H' ∧ Ext H.length S H T H' := fun todo =>
  var9 Ds S' { b.atR a' todo with mode := .returning } ({ c₀ with mode := u' } :: cs) (by simp) hd trivial hroom hok hext hp hq
 have last : ∀ (todo : List Item), StepsIn (Machine.fenced P Fence.wide) P (lone (Frame.enter P g args .deferred) (c₀ :: cs) S.w) (lone { b.atR a' todo with mode := .returning } ({ c₀ with mode := u' } :: cs) S'.w) →
   ∃ e uu w' fr, ((∃ r, e = .returned r) ∧ uu = u' ∧ ∃ S', S'.w = w' ∧ S'.Ok Hf ∧ Ext H.length S H S' Hf) ∧ ComesIn (Machine.fenced P Fence.wide) P (lone (Frame.enter P g args .deferred) (c₀ :: cs) S.w) (lone fr ({ c₀ with mode := uu } :: cs) w') e ∧ fr.kind = .deferred ∧ fr.fn = g ∧ fr.going P w' e := fun todo hs => by
  obtain ⟨T, h1, tok, text⟩ := fin todo
  obtain ⟨k1, k2⟩ := vB0 (n0 := H.length) tok (Nat.le_refl _) (text.len (Nat.le_refl _)) hbl
  rw [hH] at k1 k2
  refine ⟨.returned (.tuple #[]), u', T.w, _, ⟨⟨_, rfl⟩, rfl, T, rfl, k1, text.trans k2⟩, StepsIn.trans hs h1, rfl, rfl, rfl, rfl, fn, hf, ?_⟩
  simp [results, hres]
 rcases he with rfl|rfl
 ·exact last [] (StepsIn.trans harr (.one (fenced_calm (fr := b.atR a' []) trivial hroom rfl) (stepR_end rfl)))
 ·obtain ⟨todo, hs⟩ := harr.1 rfl
  exact last todo hs
section
variable {P : Program} {G : Glob} {n : Nat}
def xbi9 (o : Oper) : Bool := o.guard.isNone && (match o.op with
 | .call _ => false
 | .makeSlice _ _ _ => false
 | .buildSlice _ _ _ => false
 | _ => true)
theorem zbV9 {dr : Operand → Bool} {ops : List Oper} {K : List AV → List Blk → Prop} {o : Oper} {l : List Oper} {a : List AV} {H : List Blk} (hc : xbi9 o = true) (h : tops P G dr ops K (o :: l) a H) :
  if wu0 o.op = true then (kc0 P o.op (ev G a) H).1 = true ∧ tops P G dr ops K l (putA a o.dst (kc0 P o.op (ev G a) H).2.1) (kc0 P o.op (ev G a) H).2.2
  else (zc0 P o.op (ev G a) H).1 = true ∧ tops P G dr ops K l (putA a o.dst (zc0 P o.op (ev G a) H).2) H := by
 unfold tops at h
 simp only [xbi9, Bool.and_eq_true, Option.isNone_iff_eq_none] at hc
 obtain ⟨hg, hc⟩ := hc
 rw [hg] at h
 simp only at h
 unfold opK at h
 split at h
 ·rename_i ho; rw [ho] at hc; cases hc
 ·rename_i ho; rw [ho] at hc; cases hc
 ·rename_i ho; rw [ho] at hc; cases hc
 ·exact h
theorem kar9 {dr : Operand → Bool} {n0 : Nat} {S0 : St} {H0 : List Blk} {ops ops' : List Oper} {K : List AV → List Blk → Prop} {Q : Exit → Act → List Frame → World → Prop} {ds : List Deferred} {cs : List Frame}
  (hQ : ∀ (act : Act) (a' : List AV) (H' : List Blk) (S' : St), K a' H' → S'.Ok H' → Ext n0 S0 H0 S' H' → Globs G S'.M → n0 ≤ H'.length → RelL (S'.env H') a' act.tmps.toList → act.defers = ds → Q .normal act cs S'.w) :
  ∀ (l : List Oper) (k : Nat) (a : List AV) (H : List Blk) (S : St) (act : Act), (∀ j, l[j]? = ops[k + j]?) → (l.all xbi9) = true → tops P G dr ops' K l a H → S.Ok H → Globs G S.M → n0 ≤ H.length → Ext n0 S0 H0 S H → RelL (S.env H) a act.tmps.toList → act.defers = ds →
   wpOpsSIn Fence.wide 0 P ops.toArray Q (List.range' k l.length) act cs S.w
 | [], k, a, H, S, act, hl, hc, ht, hok, hG, hn, hext, ha, hd => hQ act a H S ht hok hext hG hn ha hd
 | o :: l, k, a, H, S, act, hl, hc, ht, hok, hG, hn, hext, ha, hd => by
  rw [List.all_cons, Bool.and_eq_true] at hc
  have hT := zbV9 hc.1 ht
  have h0 : ops.toArray[k]? = some o := by have := hl 0; simpa using this.symm
  have hρ := fun x => wL0 (act := act) hG ha x
  have hg : o.guard = none := by
   have := hc.1
   simp only [xbi9, Bool.and_eq_true, Option.isNone_iff_eq_none] at this
   exact this.1
  have hw : Region.wanted o (yielded ops.toArray act.tmps) = true := by simp [Region.wanted, hg]
  have hedef : ∀ v, (act.put o.dst v).defers = ds := fun v => by
   have e : (act.put o.dst v).defers = act.defers := by cases o.dst <;> rfl
   rw [e]; exact hd
  have hgo : ∀ (r : AV) (H' : List Blk) (v : Value) (S' : St), tops P G dr ops' K l (putA a o.dst r) H' → S'.Ok H' → Ext H.length S H S' H' → Rel (S'.env H') r v → wpOpsSIn Fence.wide 0 P ops.toArray Q (List.range' (k + 1) l.length) (act.put o.dst v) cs S'.w := fun r H' v S' h2 q2 q3 q4 => by
   have hlen : H.length ≤ H'.length := q3.len (Nat.le_refl _)
   exact kar9 hQ l (k + 1) _ H' S' _ (fun j => by have := hl (j + 1); simpa [Nat.add_assoc, Nat.add_comm 1 j] using this) hc.2 h2 q2 (hG.mono q3.M) (by omega) (hext.trans (q3.less hn (Nat.le_refl _))) (zr0 (RelL.mono (q3.le (Nat.le_refl _)) _ _ ha) _ q4) (hedef v)
  simp only [List.length_cons, List.range'_succ, wpOpsSIn, h0]
  refine ⟨fun _ _ => trivial, ?_⟩
  rw [if_pos hw]
  split at hT
  ·obtain ⟨h1, h2⟩ := hT
   obtain ⟨nx, v, S', q1, hnx, q2, q3, q4⟩ := kbn9 hok hρ o h1
   rw [q1]
   rcases hnx with rfl|⟨rfl, rfl⟩
   ·exact hgo _ _ v S' h2 q2 q3 q4
   ·exact hgo _ _ undef S' h2 q2 q3 q4
  ·obtain ⟨h1, h2⟩ := hT
   obtain ⟨v, S', q1, q2, q3, q4⟩ := xbn9 hok hρ (fun v => rfl) o h1
   rw [q1]
   exact hgo _ _ v S' h2 q2 q3 q4
def xcs9 (c : Code) : Code :=
 match c with
 | .region id ops d => .region id (ops.toList.drop 2).toArray d
 | c => c
def RecS (H Hf : List Blk) : ke0 := fun e s H' => (e = .normal ∨ e = .ret) ∧ (H'.take H.length).all (Blk.below H.length) = true ∧ H'.take H.length = Hf
def RecQ (P : Program) (G : Glob) (n0 n : Nat) (body : Code) (H Hf : List Blk) : ke0
 | .normal, s, H' => Go false P G n0 n body [1] (RecS H Hf) True s H'
 | _, _, _ => False
theorem xbV9 {g : FuncId} {fn : Func} {args : List AV} {H Hf : List Blk} {u u' : FrameMode} {v w : Value} {avw : AV} {d d1 : Nat} {ty ty1 : TypeId} {pos pos1 : String} {af af1 : Array Edge} {ts : Array TypeId} {xT T : TypeId} (n : Nat) (hf : P.funcs[g]? = some fn) (hb : fn.body.isSome = true) (hn : fn.ntmps = n) (hl : args.length ≤ n) (hres : fn.results = #[])
  (hsq : kbM9 (xe0 fn) = true) (hr : xm0 (atR (xe0 fn) [0]) = true) (hd : wD0 (atR (xe0 fn) [0]) = false) (ho : (qd0 (atR (xe0 fn) [0]))[0]? = some ⟨some d, .call ⟨.builtin .recover, #[], ts⟩, ty, pos, af, none⟩) (ho1 : (qd0 (atR (xe0 fn) [0]))[1]? = some ⟨some d1, .typeAssert (.tmp d) xT T true, ty1, pos1, af1, none⟩) (hdn : d < n)
  (hta : ∀ W : World, (Instr.typeAssert v xT T true).run P W = .ok w W) (hrw : ∀ E : Env, Rel E avw w) (hc : ((qd0 (atR (xe0 fn) [0])).drop 2).all xbi9 = true)
  (hu : ∀ (c₀ : Frame) (cs : List Frame), c₀.mode = u → (recoverD (c₀ :: cs) = some (v, { c₀ with mode := u' } :: cs) ∨ (recoverD (c₀ :: cs) = none ∧ v = .nilIface ∧ u' = u)))
  (h : ∀ s, kaI9 s 0 args → Acc false P G H.length n noQ (xcs9 (atR (xe0 fn) [0])) [] (RecQ P G H.length n (xe0 fn) H Hf) 0 True (updS (updS s d (.lit v)) d1 avw) H) :
  ∀ (S : St) (vals : List Value), S.Ok H → Globs G S.M → RelL (S.env H) args vals → CallsDIn Fence.wide 0 P g vals.toArray u S.w fun e uu w' => (∃ r, e = .returned r) ∧ uu = u' ∧ ∃ S', S'.w = w' ∧ S'.Ok Hf ∧ Ext H.length S H S' Hf := by
 intro S vals hok hG ha
 obtain ⟨c, hcb⟩ := Option.isSome_iff_exists.1 hb
 have hbo : xe0 fn = c := by unfold xe0; rw [hcb]; rfl
 rw [hbo] at hsq hr hd ho ho1 hc h
 refine kcR9 hf hcb hres fun c₀ cs hm => ?_
 have hlv := ha.length
 cases c with
 | seq x y =>
  have hx : atR (.seq x y) [0] = x := rfl
  rw [hx] at hr hd ho ho1 hc h
  cases x with
  | region id ops dd =>
   cases hd
   simp only [qd0] at ho ho1 hc
   have hrel : RelL (S.env H) (args ++ List.replicate (fn.ntmps - args.length) (.tup [])) (vals.toArray ++ Array.replicate (fn.ntmps - vals.toArray.size) undef).toList := by
    simp only [Array.toList_append, Array.toList_replicate, List.size_toArray, hlv]
    exact ha.append (RelL.replicate (by simp [Rel, RelL, undef]) _)
   have hlen : (args ++ List.replicate (fn.ntmps - args.length) (AV.tup [])).length = n := by simp [hn]; omega
   have h1 := qt0 [] args (fn.ntmps - args.length)
   have hA := h (getA (args ++ List.replicate (fn.ntmps - args.length) (AV.tup []))) (kH0 _ 0 args (by simpa using h1))
   rw [kS0 hlen] at hrel
   generalize getA (args ++ List.replicate (fn.ntmps - args.length) (AV.tup [])) = s0 at hA hrel
   have hsz : 2 ≤ ops.toList.length := by
    have := (List.getElem?_eq_some_iff.1 ho1).1
    omega
   apply wpSIn_seq
   apply wpSIn_region
   have e : List.range ops.size = 0 :: 1 :: List.range' 2 (ops.toList.drop 2).length := by
    have : ops.size = (ops.toList.drop 2).length + 1 + 1 := by rw [← Array.length_toList, List.length_drop]; omega
    rw [this, List.range_eq_range', List.range'_succ, List.range'_succ]
   rw [e]
   have e0 : ops[0]? = some ⟨some d, .call ⟨.builtin .recover, #[], ts⟩, ty, pos, af, none⟩ := by rw [← Array.getElem?_toList]; exact ho
   have e1 : ops[1]? = some ⟨some d1, .typeAssert (.tmp d) xT T true, ty1, pos1, af1, none⟩ := by rw [← Array.getElem?_toList]; exact ho1
   rw [wpOpsSIn]
   simp only [e0]
   refine ⟨fun _ _ => trivial, ?_⟩
   rw [if_pos (by simp [Region.wanted])]
   have hrun : ∀ (w : World) (ρ : Operand → Value), (execOp ρ ⟨some d, .call ⟨.builtin .recover, #[], ts⟩, ty, pos, af, none⟩).run P w = .ok .recover w := fun w ρ => rfl
   rw [hrun]
   simp only
   have hdl : d < (vals.toArray ++ Array.replicate (fn.ntmps - vals.toArray.size) undef).size := by
    have := hrel.length
    rw [vn0, Array.length_toList] at this
    omega
   have hev : (Act.put ({ tmps := vals.toArray ++ Array.replicate (fn.ntmps - vals.toArray.size) undef, defers := [] } : Act) (some d) v).eval (.tmp d) = v := by
    simp [Act.put, Act.eval, Array.getD_eq_getD_getElem?, hdl]
    intro h
    simp at hdl
    omega
   have rest : ∀ cs2, cs2 = { c₀ with mode := u' } :: cs → wpOpsSIn Fence.wide 0 P ops (Exit.thenS (y.wpSIn Fence.wide 0 P (fun e act cs' w' => (e = .normal ∨ e = .ret) ∧ cs' = { c₀ with mode := u' } :: cs ∧ ∃ H' S', S'.w = w' ∧ S'.Ok H' ∧ Ext H.length S H S' H' ∧ Marks S [] S' H' act.defers ∧ (H'.take H.length).all (Blk.below H.length) = true ∧ H'.take H.length = Hf)) (fun e act cs' w' => (e = .normal ∨ e = .ret) ∧ cs' = { c₀ with mode := u' } :: cs ∧ ∃ H' S', S'.w = w' ∧ S'.Ok H' ∧ Ext H.length S H S' H' ∧ Marks S [] S' H' act.defers ∧ (H'.take H.length).all (Blk.below H.length) = true ∧ H'.take H.length = Hf)) (1 :: List.range' 2 (ops.toList.drop 2).length) (Act.put ({ tmps := vals.toArray ++ Array.replicate (fn.ntmps - vals.toArray.size) undef, defers := [] } : Act) (some d) v) cs2 S.w := by
    intro cs2 hcs2
    subst hcs2
    have hT := hA.w
    simp only [atR, xcs9, qd0, List.drop_zero] at hT
    rw [wpOpsSIn]
    simp only [e1]
    refine ⟨fun _ _ => trivial, ?_⟩
    rw [if_pos (by simp [Region.wanted])]
    have hrun1 : (execOp (Act.put ({ tmps := vals.toArray ++ Array.replicate (fn.ntmps - vals.toArray.size) undef, defers := [] } : Act) (some d) v).eval ⟨some d1, .typeAssert (.tmp d) xT T true, ty1, pos1, af1, none⟩).run P S.w = .ok (.value w) S.w := by
     simp only [execOp, hev]
     simp [hta]
    rw [hrun1]
    simp only
    have key := kar9 (n0 := H.length) (S0 := S) (H0 := H) (ops := ops.toList) (ops' := ops.toList.drop 2) (dr := noQ) (ds := []) (cs := { c₀ with mode := u' } :: cs) (P := P) (G := G) (K := qE0 n (RecQ P G H.length n (.seq (.region id ops false) y) H Hf) .normal) (Q := (Exit.thenS (y.wpSIn Fence.wide 0 P (fun e act cs' w' => (e = .normal ∨ e = .ret) ∧ cs' = { c₀ with mode := u' } :: cs ∧ ∃ H' S', S'.w = w' ∧ S'.Ok H' ∧ Ext H.length S H S' H' ∧ Marks S [] S' H' act.defers ∧ (H'.take H.length).all (Blk.below H.length) = true ∧ H'.take H.length = Hf)) (fun e act cs' w' => (e = .normal ∨ e = .ret) ∧ cs' = { c₀ with mode := u' } :: cs ∧ ∃ H' S', S'.w = w' ∧ S'.Ok H' ∧ Ext H.length S H S' H' ∧ Marks S [] S' H' act.defers ∧ (H'.take H.length).all (Blk.below H.length) = true ∧ H'.take H.length = Hf))) (fun act a' H' S' hK hok' hext' hG' hn' ha' hd' => by
     obtain ⟨s', rfl, hK⟩ := hK
     have hK : Go false P G H.length n (.seq (.region id ops false) y) [1] (RecS H Hf) True s' H' := hK
     have hw := hK.2
     unfold At at hw
     refine wpSIn_of_wpIn rfl (wpIn_mono (hw none S' act rfl hok' hG' hn' ha') fun e act2 w2 hE => ?_)
     obtain ⟨a2, H2, S2, rfl, ⟨s2, rfl, r1, r2, r3⟩, k1, k2, k3, k4⟩ := hE
     refine ⟨r1, rfl, H2, S2, rfl, k1, hext'.trans k2, ?_, r2, r3⟩
     rw [hd'] at k4
     exact (Marks.refl S S' H' []).trans k4 hext'.size k2)
     (ops.toList.drop 2) 2 (putA (putA (Lst n s0) (some d) (.lit v)) (some d1) avw) H S (Act.put (Act.put ({ tmps := vals.toArray ++ Array.replicate (fn.ntmps - vals.toArray.size) undef, defers := [] } : Act) (some d) v) (some d1) w) (fun j => by rw [List.getElem?_drop]) hc (by rw [vj0, vj0]; exact hT) hok hG (Nat.le_refl _) (Ext.refl _ _ _) (zr0 (zr0 hrel _ (by simp [Rel])) _ (hrw _)) rfl
    exact key
   rcases hu c₀ cs hm with q|⟨q, rfl, rfl⟩
   ·rw [q]
    exact rest _ rfl
   ·rw [q]
    exact rest _ (by rw [← hm])
  | _ => cases hr
 | _ => cases hsq
theorem wcs9 {g : FuncId} {fn : Func} {args : List AV} {H Hf : List Blk} {v w : Value} {avw : AV} {d d1 : Nat} {ty ty1 : TypeId} {pos pos1 : String} {af af1 : Array Edge} {ts : Array TypeId} {xT T : TypeId} (n : Nat) (hf : P.funcs[g]? = some fn) (hb : fn.body.isSome = true) (hn : fn.ntmps = n) (hl : args.length ≤ n) (hres : fn.results = #[])
  (hsq : kbM9 (xe0 fn) = true) (hr : xm0 (atR (xe0 fn) [0]) = true) (hd : wD0 (atR (xe0 fn) [0]) = false) (ho : (qd0 (atR (xe0 fn) [0]))[0]? = some ⟨some d, .call ⟨.builtin .recover, #[], ts⟩, ty, pos, af, none⟩) (ho1 : (qd0 (atR (xe0 fn) [0]))[1]? = some ⟨some d1, .typeAssert (.tmp d) xT T true, ty1, pos1, af1, none⟩) (hdn : d < n)
  (hta : ∀ W : World, (Instr.typeAssert v xT T true).run P W = .ok w W) (hrw : ∀ E : Env, Rel E avw w) (hc : ((qd0 (atR (xe0 fn) [0])).drop 2).all xbi9 = true)
  (h : ∀ s, kaI9 s 0 args → Acc false P G H.length n noQ (xcs9 (atR (xe0 fn) [0])) [] (RecQ P G H.length n (xe0 fn) H Hf) 0 True (updS (updS s d (.lit v)) d1 avw) H) : kcr9 P G g args H v Hf :=
 xbV9 (u := .panicking [{ v, recovered := false }]) (u' := .panicking [{ v, recovered := true }]) n hf hb hn hl hres hsq hr hd ho ho1 hdn hta hrw hc (fun c₀ cs hm => .inl (by simp [recoverD, hm])) h
theorem vcs9 {g : FuncId} {fn : Func} {args : List AV} {H Hf : List Blk} {w : Value} {avw : AV} {d d1 : Nat} {ty ty1 : TypeId} {pos pos1 : String} {af af1 : Array Edge} {ts : Array TypeId} {xT T : TypeId} (n : Nat) (hf : P.funcs[g]? = some fn) (hb : fn.body.isSome = true) (hn : fn.ntmps = n) (hl : args.length ≤ n) (hres : fn.results = #[])
  (hsq : kbM9 (xe0 fn) = true) (hr : xm0 (atR (xe0 fn) [0]) = true) (hd : wD0 (atR (xe0 fn) [0]) = false) (ho : (qd0 (atR (xe0 fn) [0]))[0]? = some ⟨some d, .call ⟨.builtin .recover, #[], ts⟩, ty, pos, af, none⟩) (ho1 : (qd0 (atR (xe0 fn) [0]))[1]? = some ⟨some d1, .typeAssert (.tmp d) xT T true, ty1, pos1, af1, none⟩) (hdn : d < n)
  (hta : ∀ W : World, (Instr.typeAssert .nilIface xT T true).run P W = .ok w W) (hrw : ∀ E : Env, Rel E avw w) (hc : ((qd0 (atR (xe0 fn) [0])).drop 2).all xbi9 = true)
  (h : ∀ s, kaI9 s 0 args → Acc false P G H.length n noQ (xcs9 (atR (xe0 fn) [0])) [] (RecQ P G H.length n (xe0 fn) H Hf) 0 True (updS (updS s d (.lit .nilIface)) d1 avw) H) : qcs9 P G g args H Hf :=
 xbV9 (u := .returning) (u' := .returning) n hf hb hn hl hres hsq hr hd ho ho1 hdn hta hrw hc (fun c₀ cs hm => .inr ⟨by simp [recoverD, hm], rfl, rfl⟩) h
end
end Go.V
set_option linter.unusedVariables false
set_option linter.unusedSimpArgs false
set_option autoImplicit false
namespace Go.V
open Go Go.RowKit
section
variable {ρ : Bool} {P : Program} {G : Glob} {n0 n : Nat} {body : Code} {p : List Nat} {Q : ke0} {B : Prop} {s : Nat → AV} {H : List Blk}
def wah9 (P : Program) (G : Glob) (o : Oper) (σ : Operand → AV) (H : List Blk) (K : AV → List Blk → Prop) (X : List PanicEntry → List Blk → Prop) : Prop :=
 match o.op with
 | .call ⟨.value f, args, ts⟩ =>
  match (σ f).strip with
  | .bnd g fst => args.toList = [] ∧ (σ f).ok = true ∧ qa0 P g = true ∧ ((∃ r H', ka0 P G g fst H r H' ∧ K r H') ∨ (∃ ch H', APan P G g fst H ch H' ∧ X ch H'))
  | _ => False
 | _ => False
theorem kcs9 {S : St} {a : List AV} {act : Act} {o : Oper} {K : AV → List Blk → Prop} {X : List PanicEntry → List Blk → Prop} (h : wah9 P G o (ev G a) H K X) (hok : S.Ok H) (hG : Globs G S.M) (ha : RelL (S.env H) a act.tmps.toList)
  {N : Act → World → Prop} {R : Exit → Act → World → Prop} (hN : ∀ r H' v S', K r H' → S'.Ok H' → Ext H.length S H S' H' → Rel (S'.env H') r v → N (act.put o.dst v) S'.w) (hR : ∀ ch H' S', X ch H' → S'.Ok H' → Ext H.length S H S' H' → R (.panic ch) act S'.w) {ro : Option Nat} : o.wpIn (fen ro) 0 P act S.w N R := by
 have hρ := fun x => wL0 (act := act) hG ha x
 refine ⟨fun _ _ => trivial, ?_⟩
 unfold wah9 at h
 split at h
 ·rename_i f args ts ho
  split at h
  ·rename_i g fst hf
   obtain ⟨harg, hk, hent, hcase⟩ := h
   have hfv := (hρ f).strip hk
   rw [hf] at hfv
   simp only [Rel] at hfv
   obtain ⟨vs, hfe, hrel⟩ := hfv
   have hae : args = #[] := by apply Array.ext'; simpa using harg
   unfold qa0 at hent
   split at hent
   ·rename_i fn hfn
    simp only [Bool.and_eq_true, bne_iff_ne, ne_eq, Option.isSome_iff_exists] at hent
    obtain ⟨hname, body, hbody⟩ := hent
    have hrun : (execOp act.eval o).run P S.w = .ok (.enter g vs.toArray) S.w := by
     simp only [execOp, ho, resolve, hfe, Deferred.ofValue, hae]
     simp [invoke, callFunc, hfn, hbody]
     exact hname
    rw [Oper.semAt_eq _ _ _ (fun c' hc' => by rw [ho] at hc'; cases hc'), hrun]
    rcases hcase with ⟨r, H', hc, hK⟩|⟨ch, H', hc, hX⟩
    ·refine ⟨fun q => (by cases q), zw0 ((hc S _ hok hG hrel).mono fun e w' hh => ?_)⟩
     obtain ⟨v, S', rfl, rfl, h2, h3, h4⟩ := hh
     exact hN r H' v S' hK h2 h3 h4
    ·refine ⟨fun q => (by cases q), zw0 ((hc S _ hok hG hrel).mono fun e w' hh => ?_)⟩
     obtain ⟨S', rfl, rfl, h2, h3⟩ := hh
     exact hR ch H' S' hX h2 h3
   ·cases hent
  ·exact h.elim
 ·exact h.elim
theorem xbC9 {o : Oper} {σ : Operand → AV} {K K' : AV → List Blk → Prop} {X X' : List PanicEntry → List Blk → Prop} (hK : ∀ r H', K r H' → K' r H') (hX : ∀ ch H', X ch H' → X' ch H') (h : wah9 P G o σ H K X) : wah9 P G o σ H K' X' := by
 unfold wah9 at h ⊢
 split at h
 ·split at h
  ·obtain ⟨h1, h2, h3, h4⟩ := h
   refine ⟨h1, h2, h3, ?_⟩
   rcases h4 with ⟨r, H', q1, q2⟩|⟨ch, H', q1, q2⟩
   ·exact .inl ⟨r, H', q1, hK _ _ q2⟩
   ·exact .inr ⟨ch, H', q1, hX _ _ q2⟩
  ·exact h.elim
 ·exact h.elim
theorem qcS9 {Q : Post} {a : List AV} {id : Nat} {ops : List Oper} {o : Oper} (k : Nat) (hk : ops.length = k + 1) (ho : ops[k]? = some o) (hg : ∀ x ∈ ops.take k, x.guard = none) (hgo : o.guard = none)
  (h : wag9 P G ops (fun a' H' => wah9 P G o (ev G a') H' (fun r H'' => Q .normal (putA a' o.dst r) H'') (fun ch H'' => Q (.panic ch) a' H'')) (ops.take k) a H) : AWp ρ P G n0 (.region id ops.toArray false) Q a H := fun ro S act hr0 h1 h2 h3 h4 => by
 refine wpIn_region ?_
 have e : List.range ops.toArray.size = List.range' 0 (ops.take k).length ++ [k] := by
  rw [List.range_eq_range', List.length_take, Nat.min_eq_left (by omega)]
  have e2 : ops.toArray.size = k + 1 := by simpa using hk
  rw [e2, List.range'_concat]; simp
 rw [e]
 refine wt0 (ro := ro) (S0 := S) (n0 := n0) (ds := act.defers) (fun act' w' hE => ?_) (ops.take k) 0 a H S act (fun j hj => by
  have hj' : j < k := by rw [List.length_take] at hj; omega
  rw [List.getElem?_take, if_pos hj', Nat.zero_add]) h h1 h2 h3 (Ext.refl _ _ _) h4 (Marks.refl _ _ _ _)
 obtain ⟨a', H', S', rfl, hP, hok', hext, ha', hd'⟩ := hE
 have h0 : ops.toArray[k]? = some o := by simpa using ho
 simp only [wpOpsIn, h0]
 have hw : Region.wanted o (yielded ops.toArray act'.tmps) = true := by simp [Region.wanted, hgo]
 rw [if_pos hw]
 have hlen := hext.len h3
 refine kcs9 hP hok' (h2.mono hext.M) ha' (fun r H'' v S'' hK hok2 hext2 hrel => ?_) (fun ch H'' S'' hX hok2 hext2 => ?_)
 ·have he2 : Ext n0 S' H' S'' H'' := hext2.less hlen (Nat.le_refl _)
  refine ⟨_, H'', S'', rfl, hK, hok2, hext.trans he2, zr0 (RelL.mono (hext2.le (Nat.le_refl _)) _ _ ha') _ hrel, ?_⟩
  have ed : (act'.put o.dst v).defers = act'.defers := by cases o.dst <;> rfl
  rw [ed]; exact hd'.mono hext2
 ·have he2 : Ext n0 S' H' S'' H'' := hext2.less hlen (Nat.le_refl _)
  exact ⟨a', H'', S'', rfl, hX, hok2, hext.trans he2, RelL.mono (hext2.le (Nat.le_refl _)) _ _ ha', hd'.mono hext2⟩
def BndQ (P : Program) (G : Glob) (n : Nat) (o : Oper) (Q : ke0) : ke0
 | .normal, s, H => wah9 P G o (evS G n s) H (fun r H' => Q .normal (put s o.dst r) H') (fun ch H' => Q (.panic ch) s H')
 | _, _, _ => False
theorem vaf9 (k : Nat) {o : Oper} (hs : xm0 (atR body p) = true) (hd : wD0 (atR body p) = false) (hk : (qd0 (atR body p)).length = k + 1) (ho : (qd0 (atR body p))[k]? = some o) (hg : qV0 (qd0 (atR body p)) = true)
  (h : Acc ρ P G n0 n noQ (cutB (atR body p) k) [] (BndQ P G n o Q) 0 B s H) : Go ρ P G n0 n body p Q B s H := by
 refine ⟨h.1, ?_⟩
 have h2 := h.2
 unfold At
 generalize atR body p = c at hs hd hk ho hg h2
 cases c with
 | region id ops d =>
  cases hd
  simp only [qd0] at ho hg hk
  have hga : ∀ x ∈ ops.toList, x.guard = none := fun x hx => by
   have := List.all_eq_true.1 hg x hx
   simpa using this
  have hgk : ∀ x ∈ ops.toList.take k, x.guard = none := fun x hx => hga x (List.mem_of_mem_take hx)
  have h3 : tops P G noQ (ops.toList.take k) (qE0 n (BndQ P G n o Q) .normal) (ops.toList.take k) (Lst n s) H := by
   have := h2
   simpa only [atR, cutB, qd0, List.drop_zero] using this
  refine qcS9 (ops := ops.toList) k hk ho hgk (hga o (List.mem_of_getElem? ho)) (zA0 (fun a' H' hq => ?_) _ _ _ (qG0 _ _ _ hgk (wn0 _ _ _ h3)))
  obtain ⟨s', rfl, hq⟩ := hq
  rw [zk0]
  have hq : wah9 P G o (evS G n s') H' (fun r H' => Q .normal (put s' o.dst r) H') (fun ch H' => Q (.panic ch) s' H') := hq
  exact xbC9 (fun r H'' hK => ⟨put s' o.dst r, vj0 _ _ _ _, hK⟩) (fun ch H'' hX => ⟨s', rfl, hX⟩) hq
 | _ => cases hs
end
end Go.V

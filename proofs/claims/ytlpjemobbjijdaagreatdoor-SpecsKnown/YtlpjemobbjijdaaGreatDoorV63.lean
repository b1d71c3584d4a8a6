import Derived.Test.YtlpjemobbjijdaaGreatDoorV51
import Derived.Test.YtlpjemobbjijdaaGreatDoorV37
import Derived.Test.YtlpjemobbjijdaaGreatDoorV33
import Derived.Test.YtlpjemobbjijdaaGreatDoorV22
import Derived.Lib.SmallJoins
import Derived.RecoverIn
set_option linter.unusedVariables false
set_option linter.unusedSimpArgs false
namespace Go.V
open Go Go.RowKit
def St.glue (S S' : St) (n : Nat) : St := { S' with μ := fun b => if b < n then S'.μ b else S.μ b, ν := fun b => if b < n then S'.ν b else S.ν b }
section
variable {P : Program} {G : Glob}
theorem take_left (H E : List Blk) : (H ++ E).take H.length = H := by simp
end
theorem wbD9 {P : Program} {G : Glob} {f : FuncId} {args : List AV} {H H' K : List Blk} {r : AV} (h : qb0 P G f args H r (H' ++ K)) (hl : H'.length = H.length) (hb : H'.all (Blk.below H.length) = true) (hr : r.ids (fun b => decide (b < H.length)) = true) : qb0 P G f args H r H' := fun S vals hok hG ha => by
 refine (h S vals hok hG ha).mono fun e w' ⟨v, S', he, hw, hok', hext, hrel⟩ => ?_;have ht : (H' ++ K).take H.length = H' := n'i hl;obtain ⟨h1, h2⟩ := kF0 (n0 := H.length) (m := H.length) hok' (l'd _) (by simp [hl]) (by rw [ht]; exact hb);have hag := wY0 (m := H.length) S' (H' ++ K);rw [ht] at h1 h2 hag;exact ⟨v, S', he, hw, h1, hext.trans h2, Rel.move hag r v hr hrel⟩
end Go.V
namespace Go.V
open Go Go.RowKit Go.Lib
abbrev Kd := List UInt8 × Bool × Bool × Bool
def weo9 {H : Type} (zs : List Kd) : DataW H := .agg (zs.map fun z => .agg [.lit (.string z.1), .lit (.bool z.2.1), .lit (.bool z.2.2.1), .lit (.bool z.2.2.2)])
def wdS9 (z : Kd) : List Value := [.string ⟨z.1.toArray⟩, .bool z.2.1, .bool z.2.2.1, .bool z.2.2.2]
section
variable {H : Type} {enc : TypeId × Value → H} {P : Program} {w : World} {base : Nat} {sp : Nat → Bool} {held : Bool}
end
end Go.V
set_option autoImplicit false
namespace Go.V
open Go Go.RowKit
def pcQ : Operand → Bool
 | .global 5 => false
 | _ => true
def xck9 (P : Program) (G : Glob) (f : AV) (args : List AV) (K : AV → Prop) : Prop :=
 match f.strip with
 | .fn g cap => f.ok = true ∧ qa0 P g = true ∧ (args.all AV.ok) = true ∧ ∃ r, (idsL xU0 (args.map AV.strip ++ cap) = true ∧ PC P G g (args.map AV.strip ++ cap) r) ∧ K r
 | _ => False
section
variable {ρ : Bool} {P : Program} {G : Glob} {n0 n : Nat} {dr : Operand → Bool} {body : Code} {p : List Nat} {Q : zg0} {k : Nat} {B : Prop} {s : Nat → AV} {H : List Blk} {d : Option Tmp} {ty : TypeId} {pos : String} {af : Array Edge}
theorem wck9 {f : Operand} {args : Array Operand} {ts : Array TypeId} (h : (qd0 (atR body p))[k]? = some ⟨d, .call ⟨.value f, args, ts⟩, ty, pos, af, none⟩) (hpc : pcF dr = true) (hkp : kpF dr = false) (hdr : dr f = true)
  (hk : B ∧ xck9 P G (evS G n s f) (args.toList.map (evS G n s)) (fun r => Acc ρ P G n0 n dr body p Q (k + 1) True (put s d r) H)) : Acc ρ P G n0 n dr body p Q k B s H := by
 refine ⟨hk.1, ?_⟩;have h2 := hk.2;rw [wz0 h];show van9 P G (dr f) (ev G (Lst n s) f) (args.toList.map (ev G (Lst n s))) H _;unfold xck9 at h2;split at h2
 ·rename_i g cap hf;obtain ⟨q1, q2, q3, r, ⟨q4, q5⟩, q6⟩ := h2;have hops : ∀ H2, OpSem P G (.call ⟨.value f, args, ts⟩) (ev G (Lst n s)) H2 r H2 := fun H2 =>
   .call _ f g cap rfl rfl (by rw [qm0]; exact hf) (by rw [qm0]; exact q1) q2 (by rw [qm0]; simpa [z'e] using q3) r H2 (by rw [qm0]; have := kh0 q5 q4 H2; rw [z'l] at this; exact this)
  unfold van9;rw [qm0, hf];simp only;refine ⟨q1, q2, q3, ?_⟩;rw [if_pos hdr];refine ⟨r, kh0 q5 q4 H, fun w => (by rw [hkp] at w; cases w), fun _ => by rw [← qm0]; exact hops, ?_⟩;show tops _ _ _ _ _ _ (putA (Lst n s) d r) _;rw [wk0]; exact q6.2
 ·exact h2.elim
end
abbrev ap_ := @wck9
attribute [push_cast] xck9
theorem nav {g s : Prop} (k : s) (h : s → g := by
  refine fun h => ?_;first
   | (refine a0_ ?_; first|exact a1_ rfl rfl h|exact a2_ rfl h|exact a3_ rfl rfl h|exact a4_ rfl h|exact ak_ rfl rfl h|exact ap_ rfl rfl rfl rfl h|exact a5_ rfl rfl rfl h|exact a6_ rfl rfl h|exact a7_ rfl rfl h|exact a8_ rfl rfl h|exact a9_ rfl rfl rfl h)
   | (refine g0_ ?_; first|exact g1_ rfl h|exact g2_ rfl rfl h|exact g4_ rfl h|exact g5_ rfl h|exact g6_ rfl h|exact g7_ rfl h|exact g8_ rfl h|exact waT9 rfl h|exact vaT9 rfl h)
   | (refine o0_ ?_; first|exact o1_ h|exact o2_ h|exact o3_ h|exact o4_ h|exact o5_ h|exact o6_ rfl h|exact o7_ rfl h|exact o8_ h|exact o9_ h|exact oa_ h|exact ob_ h|exact oc_ h|exact od_ h|exact oe_ h|exact of_ h|exact og_ h|exact oh_ h|exact vay9 h|exact xG0 h|exact qD0 h)
   | exact at_go h) : g := h k
theorem andG {a b : Prop} (k : b) (h : a := by first|omega|(simp only [maxLen]; omega)) : a ∧ b := ⟨h, k⟩
section
variable {ρ ρ' : Bool} {P P' : Program} {G G' : Glob} {n0 n0' n n' : Nat} {body body' : Code} {p p' : List Nat} {Q Q' : zg0} {B : Prop} {s s' : Nat → AV} {H H' : List Blk}
theorem vck9 {j sz k : Nat} {t : TypeId} {es : List (List AV)} (hb : H[j]? = some (.row sz t es)) (hn : n0 ≤ k) (hk : k ≤ H.length) (hbl : ((frzH j sz es H).take k).all (Blk.below k) = true) : Weak n0 (Lst n s) H (Lst n fun t => xi0 k (frz j sz es (s t))) ((frzH j sz es H).take k) :=
 (zV0 hb).trans (xai9 hn (by simpa [frzH] using hk) hbl)
theorem goD (h : Acc ρ P G n0 n allQ body p Q 0 B s H) (hs : km0 (atR body p) = true := by rfl) (hd : qC0 (atR body p) = true := by rfl) (hm : P.follows .mixedOrders = true := by exact mixed) (ho : kav9 allQ (qd0 (atR body p)) = true := by first|assumption|kernel_rfl) : Go ρ P G n0 n body p Q B s H := vk0 (dr := allQ) hs hd hm ho h
theorem dN (rs : List (Nat × Nat)) (es : List (Nat × Option Nat)) (dl : List (Nat × Nat)) (h : Acc ρ P G n0 n allQ body p (wdo9 rs es Q) 0 B s H) (hs : km0 (atR body p) = true := by rfl) (hd : qC0 (atR body p) = true := by rfl) (hm : P.follows .mixedOrders = true := by exact mixed) (ho : zbs9 P allQ rs es dl (qd0 (atR body p)) = true := by kernel_rfl) (hlen : (es.all fun y => decide (y.1 < n)) = true := by rfl) : Go ρ P G n0 n body p Q B s H := vaq9 (dr := allQ) rs es dl hs hd hm ho h rfl hlen
theorem gG (h1 : Go ρ P G n0 n body p Q True s H) (h2 : Go ρ' P' G' n0' n' body' p' Q' True s' H') : At ρ P G n0 n body p Q s H ∧ At ρ' P' G' n0' n' body' p' Q' s' H' := ⟨h1.2, h2.2⟩
theorem nv {g t : Prop} (k : t) (h : t → g := by
  refine fun h => ?_;first
   | (refine a0_ ?_; first|exact a1_ rfl rfl h|exact a2_ rfl h|exact a3_ rfl rfl h|exact a4_ rfl h|exact ak_ rfl rfl h|exact a5_ rfl rfl rfl h|exact a6_ rfl rfl h|exact a7_ rfl rfl h|exact a8_ rfl rfl h|exact a9_ rfl rfl rfl h)
   | (refine g0_ ?_; first|exact g1_ rfl h|exact g2_ rfl rfl h|exact g4_ rfl h|exact g5_ rfl h|exact g6_ rfl h|exact g7_ rfl h|exact g8_ rfl h|exact waT9 rfl h|exact vaT9 rfl h|exact goD h)
   | (refine o0_ ?_; first|exact o1_ h|exact o2_ h|exact o3_ h|exact o4_ h|exact o5_ h|exact o6_ rfl h|exact o7_ rfl h|exact o8_ h|exact o9_ h|exact oa_ h|exact ob_ h|exact oc_ h|exact od_ h|exact oe_ h|exact of_ h|exact og_ h|exact oh_ h|exact vay9 h|exact xG0 h|exact qD0 h)
   | exact at_go h) : g := h k
theorem cl {A g t : Prop} (c : A) (k : t) (h : A → t → g := by
  refine fun c h => ?_;first|exact ⟨_, _, c, h⟩|exact ⟨_, c, h⟩|exact ⟨_, fun _ => c, h⟩) : g := h c k
theorem cp {f : FuncId} {as : List AV} {r : AV} {g t : Prop} (c : PC P G f as r) (k : t) (h : (∀ H, qb0 P G f as H r H) → t → g := by
  refine fun c h => ?_;first|exact ⟨_, _, c _, h⟩|exact ⟨_, c _, h⟩|exact ⟨_, fun _ => c _, h⟩) (hi : idsL xU0 as = true := by simp [idsL, idsE, AV.ids]) : g := h (kh0 c hi) k
end
end Go.V
set_option maxHeartbeats 0
namespace Go.V
open Go
mutual
def nz : AV → AV
 | .sl s es c => .sl (if es.isEmpty then 0 else s) (nzE es) c
 | .agg cs => .agg (nzL cs)
 | .tup cs => .tup (nzL cs)
 | .iptr cs o => .iptr (nzL cs) o
 | .int k n => .int k n
 | .bool b => .bool b
 | .str s => .str s
 | .own b n h c => .own b n h c
 | .ptr b i o h => .ptr b i o h
 | .fn f cap => .fn f cap
 | .bnd f cap => .bnd f cap
 | .mp b => .mp b
 | .sub b i n h => .sub b i n h
 | .opt g w => .opt g w
 | .lit u => .lit u
 | .anyb => .anyb
 | .anyi k => .anyi k
 | .err => .err
 | .top => .top
 | .yld b => .yld b
def nzL : List AV → List AV
 | [] => []
 | a :: as => nz a :: nzL as
def nzE : List (List AV) → List (List AV)
 | [] => []
 | e :: es => nzL e :: nzE es
end
theorem kaK9 : ∀ l : List AV, (nzL l).length = l.length
 | [] => rfl
 | _ :: l => by rw [nzL, List.length_cons, List.length_cons, kaK9 l]
theorem qaL9 : ∀ l : List (List AV), (nzE l).length = l.length
 | [] => rfl
 | _ :: l => by rw [nzE, List.length_cons, List.length_cons, qaL9 l]
theorem xdp9 (l : List (List AV)) : nzE l = [] ↔ l = [] := by
 cases l with
 | nil => simp [nzE]
 | cons _ _ => simp [nzE]
mutual
theorem vdb9 {E : Env} : ∀ (a : AV) (v : Value), Rel E (nz a) v ↔ Rel E a v
 | .sl s es c, v => by
  rw [nz];cases es with
  | nil => simp [Rel, nzE]
  | cons e es =>
   have h := fun g off => kck9 (E := E) s (e :: es) g off;simp only [Rel, qaL9, xdp9, List.isEmpty_cons, l'I, if_false, h]
 | .agg cs, v => by
  have h := fun vs => qbt9 (E := E) cs vs;simp only [nz, Rel, h]
 | .tup cs, v => by
  have h := fun vs => qbt9 (E := E) cs vs;simp only [nz, Rel, h]
 | .iptr cs o, v => by
  have h := fun g off => zbt9 (E := E) cs g off;simp only [nz, Rel, h]
 | .int k n, v => by rw [nz]
 | .bool b, v => by rw [nz]
 | .str s, v => by rw [nz]
 | .own b n h c, v => by rw [nz]
 | .ptr b i o h, v => by rw [nz]
 | .fn f cap, v => by rw [nz]
 | .bnd f cap, v => by rw [nz]
 | .mp b, v => by rw [nz]
 | .sub b i n h, v => by rw [nz]
 | .opt g w, v => by rw [nz]
 | .lit u, v => by rw [nz]
 | .anyb, v => by rw [nz]
 | .anyi k, v => by rw [nz]
 | .err, v => by rw [nz]
 | .top, v => by rw [nz]
 | .yld b, v => by rw [nz]
theorem qbt9 {E : Env} : ∀ (l : List AV) (vs : List Value), RelL E (nzL l) vs ↔ RelL E l vs
 | [], vs => by rw [nzL]
 | a :: as, vs => by
  have h1 := fun u => vdb9 (E := E) a u;have h2 := fun us => qbt9 (E := E) as us;simp only [nzL, RelL, h1, h2]
theorem zbt9 {E : Env} : ∀ (l : List AV) (g off : Nat), RelC E (nzL l) g off ↔ RelC E l g off
 | [], g, off => by rw [nzL]
 | a :: as, g, off => by
  have h1 := fun u => vdb9 (E := E) a u;have h2 := fun g off => zbt9 (E := E) as g off;simp only [nzL, RelC, h1, h2]
theorem kck9 {E : Env} (s : Nat) : ∀ (l : List (List AV)) (g off : Nat), RelE E s (nzE l) g off ↔ RelE E s l g off
 | [], g, off => by rw [nzE]
 | e :: es, g, off => by
  have h1 := fun g off => zbt9 (E := E) e g off;have h2 := fun g off => kck9 (E := E) s es g off;simp only [nzE, RelE, kaK9, h1, h2]
end
def ownQ (fs : List Nat) : Operand → Bool
 | .func f => !fs.contains f
 | .global 3 => false
 | _ => true
section
variable {ρ : Bool} {P : Program} {G : Glob} {n0 n : Nat} {body : Code} {p : List Nat} {Q : zg0} {B : Prop} {s : Nat → AV} {H : List Blk} {dr : Operand → Bool} {k : Nat} {d : Option Nat}
theorem zdI9 (fs : List Nat) (hs : km0 (atR body p) = true) (hd : qC0 (atR body p) = false) (h : Acc ρ P G n0 n (ownQ fs) body p Q 0 B s H) : Go ρ P G n0 n body p Q B s H := by
 refine ⟨h.1, ?_⟩;have h2 := h.2;unfold At;generalize atR body p = c at hs h2 hd;cases c with
 | region id ops d =>
  cases hd
  simp only [qd0, List.drop_zero] at h2;exact vaI9 (ops := ops.toList) h2
 | _ => cases hs
theorem wdp9 {t : TypeId} {len : Nat} {ps : Array (Nat × Operand)} {ty pos af} {fs : List Nat} (h : (qd0 (atR body p))[k]? = some ⟨d, .buildSlice t len ps, ty, pos, af, none⟩)
  (hk : Acc ρ P G n0 n (ownQ fs) body p Q (k + 1) (B ∧ (qK0 P (.buildSlice t len ps) (evS G n s) H).1 = true) (put s d (qK0 P (.buildSlice t len ps) (evS G n s) H).2.1) (qK0 P (.buildSlice t len ps) (evS G n s) H).2.2) : Acc ρ P G n0 n (ownQ fs) body p Q k B s H := by
 obtain ⟨⟨h1, h2⟩, h3⟩ := hk;refine ⟨h1, ?_⟩;rw [wz0 h];have e : ev G (Lst n s) = evS G n s := qm0 G n s;have key : opK P G (ownQ fs) (.buildSlice t len ps) (ev G (Lst n s)) H (fun r H' => tops P G (ownQ fs) (qd0 (atR body p)) (qG0 n Q .normal) ((qd0 (atR body p)).drop (k + 1)) (putA (Lst n s) d r) H') := by
  rw [e];refine .inr ⟨rfl, h2, ?_⟩;have h4 := h3;rw [← wk0] at h4;exact h4
 exact key
end
attribute [push_cast] qK0 bOwn
def atQ : Operand → Bool
 | .global 4 => false
 | _ => true
section
variable {ρ : Bool} {P : Program} {G : Glob} {n0 n : Nat} {body : Code} {p : List Nat} {Q : zg0} {B : Prop} {s : Nat → AV} {H : List Blk} {k : Nat} {d : Option Nat}
end
attribute [push_cast] vJ0 zz0 qdh9 zdh9 xcD9 xdh9
def vep9 (p A q : Nat) (s : Nat) : List (List AV) := kdH9 (fun a => if s * A + a < q then .own (s * A + a + p) 0 0 none else .sl 0 [] (some 0)) A
end Go.V
namespace Go.V
open Go Go.RowKit
def APan (P : Program) (G : Glob) (f : FuncId) (args : List AV) (H : List Blk) (ch : List PanicEntry) (H' : List Blk) : Prop :=
 ∀ (S : St) (vals : List Value), S.Ok H → Globs G S.M → RelL (S.env H) args vals →
  Calls P f vals.toArray S.w fun e w' => ∃ S', e = .panicked ch ∧ S'.w = w' ∧ S'.Ok H' ∧ Ext H.length S H S' H'
theorem waa9 {P : Program} {S0 : St} {n0 : Nat} {H0 H : List Blk} {fn : Func} {ts : Array Value} {R : Ending → World → Prop} {ds : List Deferred} {u : FrameMode} (hu : u ≠ .run) : ∀ (Ds : List Nat) (S : St), S.Ok H → Ext n0 S0 H0 S H → Ds.Pairwise (fun x y => y < x) → (∀ g ∈ Ds, S0.w.heap.size ≤ g ∧ S.Free H g ∧ S.w.heap[g]? = some (.deferred (some []))) →
  (∀ S' : St, S'.Ok H → Ext n0 S0 H0 S' H → S'.M = S.M → S'.μ = S.μ → S'.ν = S.ν → LeavesInM Fence.wide 0 P fn ts R ds u S'.w) → LeavesInM Fence.wide 0 P fn ts R (Ds.map mark ++ ds) u S.w
 | [], S, hok, hext, _, _, hR => hR S hok hext rfl rfl rfl
 | g :: Ds, S, hok, hext, hp, hq, hR => by
  obtain ⟨q1, q2, q3⟩ := hq g (by simp);rw [n'K] at hp;refine ⟨hu, .inl ⟨g, _, rfl, run_takeDeferred q3, ?_⟩⟩;exact waa9 hu Ds (S.shut g (.deferred none)) (kag9 hok q2 _) (zaq9 hext q1 _) hp.2 (fun g' hg' => by
   obtain ⟨r1, r2, r3⟩ := hq g' (by simp [hg']);have := hp.1 g' hg';exact ⟨r1, r2, (World.putObj_heap_other (by omega)).trans r3⟩) hR
def PanS (H : List Blk) (ch : List PanicEntry) (Hf : List Blk) : zg0 := fun e s' H' =>
 e = .panic ch ∧ (H' = Hf ∨ ((H'.take H.length).all (Blk.below H.length) = true ∧ H'.take H.length = Hf))
theorem xbt9 {P : Program} {G : Glob} {f : FuncId} {fn : Func} {c : Code} {args : List AV} {H Hf : List Blk} {ch : List PanicEntry} (hf : P.funcs[f]? = some fn) (hb : fn.body = some c)
  (h : AWp false P G H.length c (fun e a' H' => e = .panic ch ∧ (H' = Hf ∨ ((H'.take H.length).all (Blk.below H.length) = true ∧ H'.take H.length = Hf))) (args ++ List.replicate (fn.ntmps - args.length) (.tup [])) H) : APan P G f args H ch Hf := fun S vals hok hG ha => by
 have hl := ha.length;have hw := h none S { tmps := vals.toArray ++ Array.replicate (fn.ntmps - vals.toArray.size) undef, defers := [] } rfl hok hG (l'd _) (by
  simp only [z'b, n'P, n'N, hl];exact ha.append (RelL.replicate (by simp [Rel, RelL, undef]) _))
 refine (callsIn_wide (n := 0)).1 (callsIn_of_wp_marks (F := Fence.wide) hf hb trivial (wpIn_mono hw fun e act w hE => ?_));obtain ⟨a', H', S', rfl, ⟨rfl, hcase⟩, hok', hext, ha', Ds, hd, hp, hq⟩ := hE;show LeavesInM Fence.wide 0 P fn act.tmps _ act.defers (.panicking ch) S'.w;rw [hd];refine waa9 (by simp) Ds S' hok' hext hp hq fun T tok text tM tμ tν => ?_;rcases hcase with rfl|⟨hbl, hH⟩
 ·exact ⟨T, rfl, rfl, tok, text⟩
 obtain ⟨k1, k2⟩ := kF0 (n0 := H.length) tok (l'd _) (hext.len (l'd _)) hbl;rw [hH] at k1 k2;exact ⟨T, rfl, rfl, k1, text.trans k2⟩
theorem vj0 {P : Program} {G : Glob} {f : FuncId} {fn : Func} {args : List AV} {H Hf : List Blk} {ch : List PanicEntry} (n : Nat) (hf : P.funcs[f]? = some fn) (hb : fn.body.isSome = true) (hn : fn.ntmps = n) (hl : args.length ≤ n)
  (h : ∀ s, waR9 s 0 args → Go false P G H.length n (wf0 fn) [] (PanS H ch Hf) True s H) : APan P G f args H ch Hf := by
 obtain ⟨c, hc⟩ := l'G.1 hb;refine xbt9 hf hc ?_;have hlen : (args ++ List.replicate (fn.ntmps - args.length) (AV.tup [])).length = n := by simp [hn]; omega
 have h1 := vv0 [] args (fn.ntmps - args.length);have := (h (getA (args ++ List.replicate (fn.ntmps - args.length) (AV.tup []))) (xN0 _ 0 args (by simpa using h1))).2;unfold At atR wf0 at this;rw [hc, ← vY0 hlen] at this;refine qu0 this fun e a H ⟨s, ha, q⟩ => q
section
variable {ρ : Bool} {P : Program} {G : Glob} {n0 n : Nat} {body : Code} {p : List Nat} {Q : zg0} {B : Prop} {s : Nat → AV} {H : List Blk}
def cutB (c : Code) (k : Nat) : Code :=
 match c with
 | .region id ops d => .region id (ops.toList.take k).toArray d
 | c => c
theorem kK0 {K : List AV → List Blk → Prop} {ops ops' : List Oper} : ∀ (l : List Oper) (a : List AV) (H : List Blk), (∀ o ∈ l, o.guard = none) → wan9 P G ops K l a H → wan9 P G ops' K l a H
 | [], a, H, _, h => h
 | o :: l, a, H, hg, h => by
  obtain ⟨r, H', hs, hc⟩ := h;refine ⟨r, H', hs.imp_left fun q => ?_, kK0 l _ _ (fun o ho => hg o (l'v _ ho)) hc⟩;unfold xk0 at q ⊢;rw [hg o (l'm ..)] at q ⊢;exact q
def qaG9 (P : Program) (G : Glob) (o : Oper) (σ : Operand → AV) (H : List Blk) (X : List PanicEntry → List Blk → Prop) : Prop :=
 match o.op with
 | .panic x => (σ x).ok = true ∧ ∃ t v, (σ x).strip = .lit (.iface t v) ∧ X [{ v := .iface t v, recovered := false }] H
 | .call ⟨.value f, args, ts⟩ =>
  match (σ f).strip with
  | .fn g cap => (σ f).ok = true ∧ qa0 P g = true ∧ (args.toList.all fun x => (σ x).ok) = true ∧ ∃ ch H', APan P G g ((args.toList.map fun x => (σ x).strip) ++ cap) H ch H' ∧ X ch H'
  | _ => False
 | _ => False
theorem qcM9 {S : St} {a : List AV} {act : Act} {o : Oper} {X : List PanicEntry → List Blk → Prop} (h : qaG9 P G o (ev G a) H X) (hok : S.Ok H) (hG : Globs G S.M) (ha : RelL (S.env H) a act.tmps.toList)
  {K : Act → World → Prop} {R : Exit → Act → World → Prop} (hR : ∀ ch H' S', X ch H' → S'.Ok H' → Ext H.length S H S' H' → R (.panic ch) act S'.w) {ro : Option Nat} : o.wpIn (fen ro) 0 P act S.w K R := by
 have hρ := fun x => xR0 (act := act) hG ha x;refine ⟨fun _ _ => trivial, ?_⟩;unfold qaG9 at h;split at h
 ·rename_i x ho;obtain ⟨hk, t, v, hx, hX⟩ := h;have hr := (hρ x).strip hk;rw [hx] at hr;have hr : act.eval x = .iface t v := by simpa [Rel] using hr
  have hrun : (execOp act.eval o).run P S.w = .halt (.panic (.iface t v)) S.w := by
   simp only [execOp, ho, hr, Instr.panic];rfl
  rw [Oper.semAt_eq _ _ _ (fun c hc => by rw [ho] at hc; cases hc), hrun];exact hR _ _ S hX hok (Ext.refl _ _ _)
 ·rename_i f args ts ho;split at h
  ·rename_i g cap hf;obtain ⟨hk, hent, hargs, ch, H', hc, hX⟩ := h;have hfv := (hρ f).strip hk;rw [hf] at hfv;simp only [Rel] at hfv;obtain ⟨caps, hfe, hcap⟩ := hfv;have hrel : RelL (S.env H) ((args.toList.map fun x => (ev G a x).strip) ++ cap) (args.toList.map act.eval ++ caps) := by
    refine RelL.append (RelL.mk (by simp) fun i x v hx hv => ?_) hcap;rw [l'k] at hx hv;cases hz : args.toList[i]? with
    | none => rw [hz] at hx; cases hx
    | some z =>
     rw [hz] at hx hv;injection hx with hx; injection hv with hv; subst hx; subst hv
     exact (hρ z).strip (l'j.1 hargs z (l'l hz))
   have hcall := hc S _ hok hG hrel;unfold qa0 at hent;split at hent
   ·rename_i fn hfn;simp only [l'a, bne_iff_ne, ne_eq, l'G] at hent;obtain ⟨hname, body, hbody⟩ := hent;have hn : (fn.name == "runtime.NumGoroutine") = false := by simpa using hname
    have hrun : (execOp act.eval o).run P S.w = .ok (.enter g (args.toList.map act.eval ++ caps).toArray) S.w := by
     have harr : args.map act.eval ++ caps.toArray = (args.toList.map act.eval ++ caps).toArray := by apply n'f; simp
     simp only [execOp, ho, resolve, hfe, Deferred.ofValue];simp [invoke, callFunc, hfn, hbody];rw [← harr];simp;exact hname
    rw [Oper.semAt_eq _ _ _ (fun c' hc' => by rw [ho] at hc'; cases hc'), hrun];refine ⟨fun q => (by cases q), xz0 (hcall.mono fun e w' hh => ?_)⟩;obtain ⟨S', rfl, rfl, h2, h3⟩ := hh;exact hR ch H' S' hX h2 h3
   ·cases hent
  ·exact h.elim
 ·exact h.elim
theorem zw0 {n0 : Nat} {S0 : St} {H0 : List Blk} {ops : List Oper} {K : List AV → List Blk → Prop} {ds : List Deferred} {R : Exit → Act → World → Prop} {ro : Option Nat} {more : List Nat}
  (hQ : ∀ act w, Ends G n0 S0 H0 ds K act w → wpOpsIn (fen ro) 0 P ops.toArray R more act w) :
  ∀ (l : List Oper) (k : Nat) (a : List AV) (H : List Blk) (S : St) (act : Act), (∀ j, j < l.length → l[j]? = ops[k + j]?) → wan9 P G ops K l a H → S.Ok H → Globs G S.M → n0 ≤ H.length → Ext n0 S0 H0 S H → RelL (S.env H) a act.tmps.toList → Marks S0 ds S H act.defers →
   wpOpsIn (fen ro) 0 P ops.toArray R (List.range' k l.length ++ more) act S.w
 | [], k, a, H, S, act, hl, hc, hok, hG, hn, hext, ha, hd => hQ _ _ ⟨a, H, S, rfl, hc, hok, hext, ha, hd⟩
 | o :: l, k, a, H, S, act, hl, hc, hok, hG, hn, hext, ha, hd => by
  obtain ⟨r, H', hs, hc'⟩ := hc;have h0 : ops.toArray[k]? = some o := by have := hl 0 (by simp); simpa using this.symm
  have hgo : ∀ v S', S'.Ok H' → Ext H.length S H S' H' → Rel (S'.env H') r v → wpOpsIn (fen ro) 0 P ops.toArray R (List.range' (k + 1) l.length ++ more) (act.put o.dst v) S'.w := fun v S' h1 h2 h3 => by
   have hlen : H.length ≤ H'.length := h2.len (l'd _);exact zw0 hQ l (k + 1) _ H' S' _ (fun j hj => by have := hl (j + 1) (by simpa using hj); simpa [l'W, n'C 1 j] using this) hc' h1 (hG.mono h2.M) (by omega) (hext.trans (h2.less hn (l'd _))) (vt0 (RelL.mono (h2.le (l'd _)) _ _ ha) _ h3) (by
    have e : (act.put o.dst v).defers = act.defers := by cases o.dst <;> rfl
    rw [e]; exact hd.mono h2)
  have hs1 := hs.elim (fun hs => kap9 (Q := R) (ro := ro) (ops := ops) hs hok hG ha hgo) (fun hs => kbY9 (Q := R) (ro := ro) (ops := ops) hs hok hG ha hgo);simp only [List.length_cons, List.range'_succ, List.cons_append, wpOpsIn, h0];exact hs1
theorem vdp9 {Q : Post} {a : List AV} {id : Nat} {ops : List Oper} {o : Oper} (k : Nat) (ho : ops[k]? = some o) (hg : ∀ x ∈ ops.take k, x.guard = none) (hgo : o.guard = none)
  (h : wan9 P G ops (fun a' H' => qaG9 P G o (ev G a') H' (fun ch H'' => Q (.panic ch) a' H'')) (ops.take k) a H) : AWp ρ P G n0 (.region id ops.toArray false) Q a H := fun ro S act hr0 h1 h2 h3 h4 => by
 have hk : k < ops.length := (l'c.1 ho).1;refine wpIn_region ?_;have e : List.range ops.toArray.size = List.range' 0 (ops.take k).length ++ List.range' k (ops.length - k) := by
  rw [n'r, l'x, n'q (by omega)];have := List.range'_append (s := 0) (m := k) (n := ops.length - k) (step := 1);simp only [l'g, Nat.one_mul] at this;rw [this];congr 1
  simp; omega
 rw [e];refine zw0 (ro := ro) (S0 := S) (n0 := n0) (ds := act.defers) (fun act' w' hE => ?_) (ops.take k) 0 a H S act (fun j hj => by
  have hj' : j < k := by rw [l'x] at hj; omega
  rw [l'u, if_pos hj', l'g]) h h1 h2 h3 (Ext.refl _ _ _) h4 (Marks.refl _ _ _ _)
 obtain ⟨a', H', S', rfl, hP, hok', hext, ha', hd'⟩ := hE;have h0 : ops.toArray[k]? = some o := by simpa using ho
 rw [show ops.length - k = (ops.length - k - 1) + 1 by omega, List.range'_succ];simp only [wpOpsIn, h0];have hw : Region.wanted o (yielded ops.toArray act'.tmps) = true := by simp [Region.wanted, hgo]
 rw [if_pos hw];refine qcM9 hP hok' (h2.mono hext.M) ha' fun ch H'' S'' hX hok2 hext2 => ?_;have hlen := hext.len h3;have he2 : Ext n0 S' H' S'' H'' := hext2.less hlen (l'd _);exact ⟨a', H'', S'', rfl, hX, hok2, hext.trans he2, RelL.mono (hext2.le (l'd _)) _ _ ha', hd'.mono hext2⟩
theorem kbR9 {o : Oper} {σ : Operand → AV} {X Y : List PanicEntry → List Blk → Prop} (hXY : ∀ ch H', X ch H' → Y ch H') (h : qaG9 P G o σ H X) : qaG9 P G o σ H Y := by
 unfold qaG9 at h ⊢;split at h
 ·obtain ⟨h1, t, v, h2, h3⟩ := h;exact ⟨h1, t, v, h2, hXY _ _ h3⟩
 ·split at h
  ·obtain ⟨h1, h2, h3, ch, H', h4, h5⟩ := h;exact ⟨h1, h2, h3, ch, H', h4, hXY _ _ h5⟩
  ·exact h.elim
 ·exact h.elim
theorem zE0 {ops : List Oper} {K K' : List AV → List Blk → Prop} (hK : ∀ a H, K a H → K' a H) : ∀ (l : List Oper) (a : List AV) (H : List Blk), wan9 P G ops K l a H → wan9 P G ops K' l a H
 | [], a, H, h => hK _ _ h
 | o :: l, a, H, h => let ⟨r, H', hs, hc⟩ := h; ⟨r, H', hs, zE0 hK l _ _ hc⟩
def PanQ (P : Program) (G : Glob) (n : Nat) (o : Oper) (Q : zg0) : zg0
 | .normal, s, H => qaG9 P G o (evS G n s) H (fun ch H' => Q (.panic ch) s H')
 | _, _, _ => False
def vaa9 (ops : List Oper) : Bool := ops.all fun o => o.guard.isNone
theorem vh0 (k : Nat) {o : Oper} (hs : km0 (atR body p) = true) (hd : qC0 (atR body p) = false) (ho : (qd0 (atR body p))[k]? = some o) (hg : vaa9 ((qd0 (atR body p)).take (k + 1)) = true)
  (h : Acc ρ P G n0 n noQ (cutB (atR body p) k) [] (PanQ P G n o Q) 0 B s H) : Go ρ P G n0 n body p Q B s H := by
 refine ⟨h.1, ?_⟩;have h2 := h.2;unfold At;generalize atR body p = c at hs hd ho hg h2;cases c with
 | region id ops d =>
  cases hd
  simp only [qd0] at ho hg;have hga : ∀ x ∈ ops.toList.take (k + 1), x.guard = none := fun x hx => by
   have := l'j.1 hg x hx;simpa using this
  have hgo : o.guard = none := hga o (by
   have : (ops.toList.take (k + 1))[k]? = some o := by rw [l'u, if_pos (by omega)]; exact ho
   exact l'l this)
  have hgk : ∀ x ∈ ops.toList.take k, x.guard = none := fun x hx => hga x (by
   have : ops.toList.take k = (ops.toList.take (k + 1)).take k := by rw [List.take_take, n'q (by omega)]
   rw [this] at hx;exact l'P hx)
  have h3 : tops P G noQ (ops.toList.take k) (qG0 n (PanQ P G n o Q) .normal) (ops.toList.take k) (Lst n s) H := by
   have := h2;simpa only [atR, cutB, qd0, List.drop_zero] using this
  refine vdp9 (ops := ops.toList) k ho hgk hgo (zE0 (fun a' H' hq => ?_) _ _ _ (kK0 _ _ _ hgk (xq0 _ _ _ h3)));obtain ⟨s', rfl, hq⟩ := hq;rw [qm0];have hq : qaG9 P G o (evS G n s') H' (fun ch H'' => Q (.panic ch) s' H'') := hq;exact kbR9 (fun ch H'' hX => ⟨s', rfl, hX⟩) hq
 | _ => cases hs
end
def zcM9 (P : Program) (G : Glob) (g : FuncId) (args : List AV) (H : List Blk) (v : Value) (H' : List Blk) : Prop :=
 ∀ (S : St) (vals : List Value), S.Ok H → Globs G S.M → RelL (S.env H) args vals →
  CallsDIn Fence.wide 0 P g vals.toArray (.panicking [{ v, recovered := false }]) S.w fun e u' w' =>
   (∃ r, e = .returned r) ∧ u' = .panicking [{ v, recovered := true }] ∧ ∃ S', S'.w = w' ∧ S'.Ok H' ∧ Ext H.length S H S' H'
def xcM9 (P : Program) (G : Glob) (g : FuncId) (args : List AV) (H H' : List Blk) : Prop :=
 ∀ (S : St) (vals : List Value), S.Ok H → Globs G S.M → RelL (S.env H) args vals →
  CallsDIn Fence.wide 0 P g vals.toArray .returning S.w fun e u' w' =>
   (∃ r, e = .returned r) ∧ u' = .returning ∧ ∃ S', S'.w = w' ∧ S'.Ok H' ∧ Ext H.length S H S' H'
def MarksOk (m0 : Nat) (S : St) (H : List Blk) (Ds : List Nat) : Prop := Ds.Pairwise (fun x y => y < x) ∧ ∀ g ∈ Ds, m0 ≤ g ∧ S.Free H g ∧ S.w.heap[g]? = some (.deferred (some []))
theorem MarksOk.mono {n0 m0 : Nat} {S S' : St} {H H' : List Blk} {Ds : List Nat} (h : MarksOk m0 S H Ds) (he : Ext n0 S H S' H') : MarksOk m0 S' H' Ds :=
 ⟨h.1, fun g hg => by
  obtain ⟨q1, q2, q3⟩ := h.2 g hg;obtain ⟨r1, r2⟩ := q2.ext (l'n.1 q3).1 he;exact ⟨q1, r1, r2.trans q3⟩⟩
theorem MarksOk.add {m0 : Nat} {S S' : St} {H' : List Blk} {ds ds' : List Deferred} {Ds : List Nat} (h : MarksOk m0 S' H' Ds) (hlt : ∀ g ∈ Ds, g < S.w.heap.size) (hm : m0 ≤ S.w.heap.size) (k : Marks S ds S' H' ds') : ∃ D, ds' = D.map mark ++ ds ∧ MarksOk m0 S' H' (D ++ Ds) := by
 obtain ⟨D, e, p, q⟩ := k;refine ⟨D, e, ?_, fun g hg => ?_⟩
 ·rw [n'T];exact ⟨p, h.1, fun x hx y hy => Nat.lt_of_lt_of_le (hlt y hy) (q x hx).1⟩
 ·rcases n'w.1 hg with hg|hg
  ·obtain ⟨q1, q2, q3⟩ := q g hg;exact ⟨by omega, q2, q3⟩
  ·exact h.2 g hg
theorem MarksOk.lt {m0 : Nat} {S : St} {H : List Blk} {Ds : List Nat} (h : MarksOk m0 S H Ds) : ∀ g ∈ Ds, g < S.w.heap.size := fun g hg => (l'n.1 (h.2 g hg).2.2).1
def xdI9 (m0 : Nat) (S : St) (H : List Blk) : Option (FuncId × List AV) → List Deferred → Prop
 | none, ds => ∃ Ds, ds = Ds.map mark ∧ MarksOk m0 S H Ds
 | some (g, args), ds => ∃ (Ds D0 : List Nat) (caps dargs : List Value), ds = Ds.map mark ++ { target := .fn (.func g) caps.toArray, args := dargs.toArray } :: D0.map mark ∧ MarksOk m0 S H (Ds ++ D0) ∧ RelL (S.env H) args (dargs ++ caps)
abbrev wbh9 := Exit → List AV → List Blk → Option (FuncId × List AV) → Prop
def EndD (m0 n0 : Nat) (S : St) (H : List Blk) (K : List AV → List Blk → Option (FuncId × List AV) → Prop) (act : Act) (w : World) : Prop :=
 ∃ a' H' S' dl', S'.w = w ∧ K a' H' dl' ∧ S'.Ok H' ∧ Ext n0 S H S' H' ∧ RelL (S'.env H') a' act.tmps.toList ∧ xdI9 m0 S' H' dl' act.defers
def AWpD (P : Program) (G : Glob) (m0 n0 : Nat) (c : Code) (Q : wbh9) (a : List AV) (H : List Blk) (dl : Option (FuncId × List AV)) : Prop :=
 ∀ (S : St) (act : Act), S.Ok H → Globs G S.M → n0 ≤ H.length → m0 ≤ S.w.heap.size → RelL (S.env H) a act.tmps.toList → xdI9 m0 S H dl act.defers →
  c.wpIn (fen none) 0 P (fun e => EndD m0 n0 S H (Q e)) act S.w
section
variable {P : Program} {G : Glob} {m0 n0 : Nat} {Q : wbh9} {a : List AV} {H : List Blk} {dl : Option (FuncId × List AV)}
theorem EndD.from {S S1 : St} {H1 : List Blk} {K : List AV → List Blk → Option (FuncId × List AV) → Prop} {act : Act} {w : World} (he : Ext n0 S H S1 H1) (h : EndD m0 n0 S1 H1 K act w) : EndD m0 n0 S H K act w :=
 let ⟨a', H', S', dl', h1, h2, h3, h4, h5⟩ := h
 ⟨a', H', S', dl', h1, h2, h3, he.trans h4, h5⟩
def vdS9 (K : List AV → List Blk → Option (FuncId × List AV) → Prop) (Q : wbh9) : wbh9
 | .normal, a, H, dl => K a H dl
 | e, a, H, dl => Q e a H dl
theorem wcM9 {x y : Code} (h : AWpD P G m0 n0 x (vdS9 (AWpD P G m0 n0 y Q) Q) a H dl) : AWpD P G m0 n0 (.seq x y) Q a H dl := fun S act h1 h2 h3 hm h4 h5 =>
 wpIn_seq (wpIn_mono (h S act h1 h2 h3 hm h4 h5) fun e act' w' he => by
  cases e with
  | normal =>
   obtain ⟨a', H', S', dl', rfl, hK, hok, hext, ha, hd⟩ := he;exact wpIn_mono (hK S' act' hok (h2.mono hext.M) (hext.len h3) (n'a hm hext.size) ha hd) fun e _ _ q => q.from hext
  | _ => exact he)
def wdQ9 (id : Nat) (Q : wbh9) : wbh9
 | .exit id', a, H, dl => if id' = id then Q .normal a H dl else Q (.exit id') a H dl
 | e, a, H, dl => Q e a H dl
theorem qcl9 {c : Code} (h : AWp false P G n0 c (fun e a H => Q e a H none) a H) : AWpD P G m0 n0 c Q a H none := fun S act h1 h2 h3 hm h4 h5 => by
 obtain ⟨Ds, hds, hmk⟩ := h5;refine wpIn_mono (h none S act rfl h1 h2 h3 h4) fun e act' w' he => ?_;obtain ⟨a', H', S', rfl, hK, hok, hext, ha, hd⟩ := he;obtain ⟨D, e1, e2⟩ := (hmk.mono hext).add hmk.lt hm hd;exact ⟨a', H', S', none, rfl, hK, hok, hext, ha, D ++ Ds, by rw [e1, hds, n'c], e2⟩
theorem qbS9 {c : Code} {g : FuncId} {args : List AV} (h : AWp false P G H.length c (fun e a H => Q e a H (some (g, args))) a H) : AWpD P G m0 n0 c Q a H (some (g, args)) := fun S act h1 h2 h3 hm h4 h5 => by
 obtain ⟨Ds, D0, caps, dargs, hds, hmk, hrel⟩ := h5;refine wpIn_mono (h none S act rfl h1 h2 (l'd _) h4) fun e act' w' he => ?_;obtain ⟨a', H', S', rfl, hK, hok, hext, ha, hd⟩ := he;obtain ⟨D, e1, e2⟩ := (hmk.mono hext).add hmk.lt hm hd;exact ⟨a', H', S', _, rfl, hK, hok, hext.less h3 (l'd _), ha, D ++ Ds, D0, caps, dargs, by rw [e1, hds, n'c, l't], by rw [l't]; exact e2, RelL.mono (hext.le (l'd _)) _ _ hrel⟩
theorem zbS9 {id : Nat} {ops : List Oper} {o : Oper} {f : Operand} {args : Array Operand} {ts : Array TypeId} (k : Nat) (hk : ops.length = k + 1) (ho : ops[k]? = some o) (hop : o.op = .defer ⟨.value f, args, ts⟩) (hg : ∀ x ∈ ops.take k, x.guard = none) (hgo : o.guard = none) (hdst : o.dst = none)
  (h : wan9 P G ops (fun a' H' => (ev G a' f).ok = true ∧ (args.toList.all fun x => (ev G a' x).ok) = true ∧ ∃ g cap, (ev G a' f).strip = .fn g cap ∧ Q .normal a' H' (some (g, (args.toList.map fun x => (ev G a' x).strip) ++ cap))) (ops.take k) a H) : AWpD P G m0 n0 (.region id ops.toArray false) Q a H none := fun S act h1 h2 h3 hm h4 h5 => by
 obtain ⟨Ds, hds, hmk⟩ := h5;refine wpIn_region ?_;have e : List.range ops.toArray.size = List.range' 0 (ops.take k).length ++ [k] := by
  rw [n'r, l'x, n'q (by omega)];have e2 : ops.toArray.size = k + 1 := by simpa using hk
  rw [e2, List.range'_concat]; simp
 rw [e];refine zw0 (ro := none) (S0 := S) (n0 := n0) (ds := act.defers) (fun act' w' hE => ?_) (ops.take k) 0 a H S act (fun j hj => by
  have hj' : j < k := by rw [l'x] at hj; omega
  rw [l'u, if_pos hj', l'g]) h h1 h2 h3 (Ext.refl _ _ _) h4 (Marks.refl _ _ _ _)
 obtain ⟨a', H', S', rfl, ⟨hfk, hargs, g, cap, hf, hQ⟩, hok', hext, ha', hd'⟩ := hE;have hρ := fun x => xR0 (act := act') (h2.mono hext.M) ha' x;have h0 : ops.toArray[k]? = some o := by simpa using ho
 simp only [wpOpsIn, h0];have hw : Region.wanted o (yielded ops.toArray act'.tmps) = true := by simp [Region.wanted, hgo]
 rw [if_pos hw];refine ⟨fun _ _ => trivial, ?_⟩;have hfv := (hρ f).strip hfk;rw [hf] at hfv;simp only [Rel] at hfv;obtain ⟨caps, hfe, hcap⟩ := hfv;have hrel : RelL (S'.env H') ((args.toList.map fun x => (ev G a' x).strip) ++ cap) (args.toList.map act'.eval ++ caps) := by
  refine RelL.append (RelL.mk (by simp) fun i x v hx hv => ?_) hcap;rw [l'k] at hx hv;cases hz : args.toList[i]? with
  | none => rw [hz] at hx; cases hx
  | some z =>
   rw [hz] at hx hv;injection hx with hx; injection hv with hv; subst hx; subst hv
   exact (hρ z).strip (l'j.1 hargs z (l'l hz))
 have hrun : (execOp act'.eval o).run P S'.w = .ok (.defer { target := .fn (.func g) caps.toArray, args := (args.toList.map act'.eval).toArray }) S'.w := by
  have harr : args.map act'.eval = (args.toList.map act'.eval).toArray := by apply n'f; simp
  simp only [execOp, hop, resolve, hfe, Deferred.ofValue];simp [← harr]
 show Oper.uponIn _ _ _ _ _ _ _ ((o.semAt none act'.eval).run P S'.w);rw [Oper.semAt_none, hrun];obtain ⟨D, e1, e2⟩ := (hmk.mono hext).add hmk.lt hm hd';show EndD m0 n0 S H (Q .normal) (Act.put _ o.dst undef) S'.w;rw [hdst];refine ⟨a', H', S', _, rfl, hQ, hok', hext, ha', [], D ++ Ds, caps, args.toList.map act'.eval, ?_, by simpa using e2, hrel⟩;show _ :: act'.defers = _;rw [e1, hds, n'c]; rfl
theorem kaa9 {S0 : St} {H0 H : List Blk} {fn : Func} {ts : Array Value} {R : Ending → World → Prop} {ds : List Deferred} {u : FrameMode} (hu : u ≠ .run) : ∀ (Ds : List Nat) (S : St), S.Ok H → Ext n0 S0 H0 S H → Ds.Pairwise (fun x y => y < x) → (∀ g ∈ Ds, S0.w.heap.size ≤ g ∧ S.Free H g ∧ S.w.heap[g]? = some (.deferred (some []))) →
  (∀ S' : St, S'.Ok H → Ext n0 S0 H0 S' H → S'.M = S.M → S'.μ = S.μ → S'.ν = S.ν → (∀ k, k ∉ Ds → S'.w.heap[k]? = S.w.heap[k]?) → LeavesInM Fence.wide 0 P fn ts R ds u S'.w) → LeavesInM Fence.wide 0 P fn ts R (Ds.map mark ++ ds) u S.w
 | [], S, hok, hext, _, _, hR => hR S hok hext rfl rfl rfl fun _ _ => rfl
 | g :: Ds, S, hok, hext, hp, hq, hR => by
  obtain ⟨q1, q2, q3⟩ := hq g (by simp);rw [n'K] at hp;refine ⟨hu, .inl ⟨g, _, rfl, run_takeDeferred q3, ?_⟩⟩;exact kaa9 hu Ds (S.shut g (.deferred none)) (kag9 hok q2 _) (zaq9 hext q1 _) hp.2 (fun g' hg' => by
   obtain ⟨r1, r2, r3⟩ := hq g' (by simp [hg']);have := hp.1 g' hg';exact ⟨r1, r2, (World.putObj_heap_other (by omega)).trans r3⟩) fun S' h1 h2 h3 h4 h5 h6 => hR S' h1 h2 h3 h4 h5 fun k hk => by
    rw [l'w, not_or] at hk;exact (h6 k hk.2).trans (World.putObj_heap_other hk.1)
theorem zaG9 {f : FuncId} {fn : Func} {c : Code} {args : List AV} {H Hf : List Blk} {r : AV} (hf : P.funcs[f]? = some fn) (hb : fn.body = some c)
  (h : ∀ m0, AWpD P G m0 H.length c (fun e a' H' dl => match dl with
   | none => Fin P fn H.length r Hf e a' H'
   | some (g, dargs) => qa0 P g = true ∧ ∃ H2, (match e with
     | .normal|.ret => xcM9 P G g dargs H' H2
     | .panic [⟨v, false, false⟩] => zcM9 P G g dargs H' v H2
     | _ => False) ∧ Fin P fn H.length r Hf .ret a' H2) (args ++ List.replicate (fn.ntmps - args.length) (.tup [])) H none) : qb0 P G f args H r Hf := fun S vals hok hG ha => by
 have hl := ha.length;have hw := h S.w.heap.size S { tmps := vals.toArray ++ Array.replicate (fn.ntmps - vals.toArray.size) undef, defers := [] } hok hG (l'd _) (l'd _) (by
  simp only [z'b, n'P, n'N, hl];exact ha.append (RelL.replicate (by simp [Rel, RelL, undef]) _)) ⟨[], rfl, .nil, fun _ hg => by cases hg⟩
 refine (callsIn_wide (n := 0)).1 (callsIn_of_wp_marks (F := Fence.wide) hf hb trivial (wpIn_mono hw fun e act w hE => ?_));obtain ⟨a', H', S', dl', rfl, hQ, hok', hext, ha', hd⟩ := hE;have fin : ∀ (T : St) (Ds : List Nat) (HT : List Blk) (e : Exit), T.Ok HT → Ext H.length S H T HT → RelL (T.env HT) a' act.tmps.toList → MarksOk S.w.heap.size T HT Ds → Fin P fn H.length r Hf e a' HT →
   LeavesInM Fence.wide 0 P fn act.tmps (fun e w' => ∃ v S', e = .returned v ∧ S'.w = w' ∧ S'.Ok Hf ∧ Ext H.length S H S' Hf ∧ Rel (S'.env Hf) r v) (Ds.map mark) .returning T.w := by
  intro T Ds HT e tok text ta tm ⟨he, har, hcl⟩;refine xK0 Ds T tok text tm.1 tm.2 fun T' tok' text' tM tμ tν => ?_;have henv : T'.env HT = T.env HT := by simp only [St.env, tM, tμ, tν]
  obtain ⟨v, hv, hr⟩ := qca9 tok' (by rw [henv]; exact ta) har;obtain ⟨S'', e1, e2, e3, e4⟩ := hcl T' v tok' (text.len (l'd _)) hr;exact ⟨v, hv, v, S'', rfl, e1, e2, text'.trans e3, e4⟩
 cases dl' with
 | none =>
  obtain ⟨Ds, e1, e2⟩ := hd;have hQ : Fin P fn H.length r Hf e a' H' := hQ;have key := fin S' Ds H' e hok' hext ha' e2 hQ;rw [← e1] at key;rcases hQ.1 with rfl|rfl
  ·exact key
  ·exact key
 | some p =>
  obtain ⟨g, dargs⟩ := p;obtain ⟨Ds, D0, caps, dvals, e1, e2, e3⟩ := hd;obtain ⟨hent, H2, hc, hfin⟩ := hQ;have door : ∀ (u : FrameMode), u ≠ .run → (∀ T : St, T.Ok H' → Globs G T.M → RelL (T.env H') dargs (dvals ++ caps) → CallsDIn Fence.wide 0 P g (dvals ++ caps).toArray u T.w fun e u' w' => (∃ r, e = .returned r) ∧ settle u' = .returning ∧ ∃ S', S'.w = w' ∧ S'.Ok H2 ∧ Ext H'.length T H' S' H2) →
    LeavesInM Fence.wide 0 P fn act.tmps (fun e w' => ∃ v S', e = .returned v ∧ S'.w = w' ∧ S'.Ok Hf ∧ Ext H.length S H S' Hf ∧ Rel (S'.env Hf) r v) act.defers u S'.w := by
   intro u hu hcall;rw [e1];have hall := n'T.1 e2.1;refine kaa9 hu Ds S' hok' hext hall.1 (fun g hg => e2.2 g (n's _ hg)) fun T tok text tM tμ tν theap => ?_;have henv : T.env H' = S'.env H' := by simp only [St.env, tM, tμ, tν]
   have hm0 : MarksOk S.w.heap.size T H' D0 := ⟨hall.2.1, fun x hx => by
    obtain ⟨q1, q2, q3⟩ := e2.2 x (n'J _ hx);refine ⟨q1, ?_, (theap x fun hn => Nat.lt_irrefl _ (hall.2.2 x hn x hx)).trans q3⟩;refine ⟨fun ⟨b, hb⟩ => q2.1 ⟨b, ?_⟩, by rw [tM]; exact q2.2⟩;simpa only [St.at, tμ, tν] using hb⟩
   have hc2 := hcall T tok (by rw [tM]; exact hG.mono hext.M) (by rw [henv]; exact e3);refine ⟨hu, .inr ⟨(fun q => by cases q), .func g, caps.toArray, g, (dvals ++ caps).toArray, rfl, ?_, fun _ _ => trivial, ?_⟩⟩
   ·unfold qa0 at hent;split at hent
    ·rename_i fn' hfn;simp only [l'a, bne_iff_ne, ne_eq, l'G] at hent;obtain ⟨hname, body, hbody⟩ := hent;simp [invoke, callFunc, hfn, hbody];exact hname
    ·cases hent
   ·refine hc2.mono fun e' u' w' hh => ?_;obtain ⟨⟨rv, rfl⟩, hset, T2, rfl, tok2, text2⟩ := hh;simp only;rw [hset];have hlen := text.len (l'd _);have hext2 : Ext H.length S H T2 H2 := text.trans (text2.less hlen (l'd _));exact fin T2 D0 H2 .ret tok2 hext2 (RelL.mono (text2.le (l'd _)) _ _ (by rw [henv]; exact ha')) (hm0.mono text2) hfin
  cases e with
  | normal => exact door .returning (by simp) fun T t1 t2 t3 => (hc T _ t1 t2 t3).mono fun e u' w' ⟨q1, q2, q3⟩ => ⟨q1, by rw [q2]; rfl, q3⟩
  | ret => exact door .returning (by simp) fun T t1 t2 t3 => (hc T _ t1 t2 t3).mono fun e u' w' ⟨q1, q2, q3⟩ => ⟨q1, by rw [q2]; rfl, q3⟩
  | panic ch =>
   match ch, hc with
   | [⟨v, false, false⟩], hc => exact door (.panicking [{ v, recovered := false }]) (by simp) fun T t1 t2 t3 => (hc T _ t1 t2 t3).mono fun e u' w' ⟨q1, q2, q3⟩ => ⟨q1, by rw [q2]; rfl, q3⟩
  | _ => exact hc.elim
end
abbrev qab9 := Exit → (Nat → AV) → List Blk → Option (FuncId × List AV) → Prop
def kdS9 (n : Nat) (Q : qab9) : wbh9 := fun e a H dl => ∃ s, a = Lst n s ∧ Q e s H dl
section
variable {P : Program} {G : Glob} {m0 n0 n : Nat} {body : Code} {p : List Nat} {Q : qab9} {s : Nat → AV} {H : List Blk} {dl : Option (FuncId × List AV)}
structure GoD (P : Program) (G : Glob) (m0 n0 n : Nat) (body : Code) (p : List Nat) (Q : qab9) (s : Nat → AV) (H : List Blk) (dl : Option (FuncId × List AV)) : Prop where
 w : AWpD P G m0 n0 (atR body p) (kdS9 n Q) (Lst n s) H dl
def wdI9 (K : (Nat → AV) → List Blk → Option (FuncId × List AV) → Prop) (Q : qab9) : qab9
 | .normal, s, H, dl => K s H dl
 | e, s, H, dl => Q e s H dl
theorem vbh9 {c : Code} {Q Q' : wbh9} {a : List AV} (h : AWpD P G m0 n0 c Q a H dl) (hq : ∀ e a H dl, Q e a H dl → Q' e a H dl) : AWpD P G m0 n0 c Q' a H dl := fun S act h1 h2 h3 hm h4 h5 =>
 wpIn_mono (h S act h1 h2 h3 hm h4 h5) fun e _ _ ⟨a', H', S', dl', q1, q2, q3⟩ => ⟨a', H', S', dl', q1, hq _ _ _ _ q2, q3⟩
theorem zaU9 (hs : zcd9 (atR body p) = true) (h : GoD P G m0 n0 n body (0 :: p) (wdI9 (GoD P G m0 n0 n body (1 :: p) Q) Q) s H dl) : GoD P G m0 n0 n body p Q s H dl := by
 have h2 := h.w;refine ⟨?_⟩;simp only [atR] at h2;generalize hc : atR body p = c at hs h2;cases c with
 | seq x y =>
  refine wcM9 (vbh9 h2 fun e a H dl q => ?_);cases e with
  | normal =>
   obtain ⟨s', rfl, q⟩ := q;have q := (show GoD P G m0 n0 n body (1 :: p) Q s' H dl from q).w;simp only [atR, hc] at q;exact q
  | _ => exact q
 | _ => cases hs
def vdI9 (id : Nat) (Q : qab9) : qab9
 | .exit id', s, H, dl => if id' = id then Q .normal s H dl else Q (.exit id') s H dl
 | e, s, H, dl => Q e s H dl
theorem kaq9 (h : Go false P G n0 n body p (fun e s H => Q e s H none) True s H) : GoD P G m0 n0 n body p Q s H none := ⟨qcl9 h.2⟩
theorem zcl9 {g : FuncId} {args : List AV} (h : Go false P G H.length n body p (fun e s H => Q e s H (some (g, args))) True s H) : GoD P G m0 n0 n body p Q s H (some (g, args)) := ⟨qbS9 h.2⟩
def DefQ (G : Glob) (n : Nat) (f : Operand) (args : Array Operand) (Q : qab9) : zg0
 | .normal, s, H => (evS G n s f).ok = true ∧ (args.toList.all fun x => (evS G n s x).ok) = true ∧ ∃ g cap, (evS G n s f).strip = .fn g cap ∧ Q .normal s H (some (g, (args.toList.map fun x => (evS G n s x).strip) ++ cap))
 | _, _, _ => False
theorem xcl9 (k : Nat) {f : Operand} {args : Array Operand} {ts : Array TypeId} {ty : TypeId} {pos : String} {af : Array Edge} (hs : km0 (atR body p) = true) (hd : qC0 (atR body p) = false) (hk : (qd0 (atR body p)).length = k + 1) (ho : (qd0 (atR body p))[k]? = some ⟨none, .defer ⟨.value f, args, ts⟩, ty, pos, af, none⟩) (hg : vaa9 (qd0 (atR body p)) = true)
  (h : Acc false P G n0 n noQ (cutB (atR body p) k) [] (DefQ G n f args Q) 0 True s H) : GoD P G m0 n0 n body p Q s H none := by
 refine ⟨?_⟩;have h2 := h.2;generalize atR body p = c at hs hd hk ho hg h2;cases c with
 | region id ops d =>
  cases hd
  simp only [qd0] at ho hg hk;have hgk : ∀ x ∈ ops.toList.take k, x.guard = none := fun x hx => by
   have := l'j.1 hg x (l'P hx);simpa using this
  have h3 : tops P G noQ (ops.toList.take k) (qG0 n (DefQ G n f args Q) .normal) (ops.toList.take k) (Lst n s) H := by
   have := h2;simpa only [atR, cutB, qd0, List.drop_zero] using this
  refine zbS9 (ops := ops.toList) k hk ho rfl hgk rfl rfl (zE0 (fun a' H' hq => ?_) _ _ _ (kK0 _ _ _ hgk (xq0 _ _ _ h3)));obtain ⟨s', rfl, hq⟩ := hq;obtain ⟨q1, q2, g, cap, q3, q4⟩ := (show (evS G n s' f).ok = true ∧ (args.toList.all fun x => (evS G n s' x).ok) = true ∧ ∃ g cap, (evS G n s' f).strip = .fn g cap ∧ Q .normal s' H' (some (g, (args.toList.map fun x => (evS G n s' x).strip) ++ cap)) from hq);rw [qm0];exact ⟨q1, q2, g, cap, q3, s', rfl, q4⟩
 | _ => cases hs
def kdb9 (P : Program) (G : Glob) (n : Nat) (rs : List ResultVar) (d : Nat) (r : AV) : qab9 := fun e s H dl =>
 match dl with
 | none => vbc9 P n rs d r e s H
 | some (g, dargs) => qa0 P g = true ∧ ∃ H2, (match e with
   | .normal|.ret => xcM9 P G g dargs H H2
   | .panic [⟨v, false, false⟩] => zcM9 P G g dargs H v H2
   | _ => False) ∧ vbc9 P n rs d r .ret s H2
theorem kdI9 {f : FuncId} {fn : Func} {args : List AV} {r : AV} (d n : Nat) (rs : List ResultVar) (hf : P.funcs[f]? = some fn) (hb : fn.body.isSome = true) (hn : fn.ntmps = n) (hrs : fn.results.toList = rs) (hl : args.length ≤ n)
  (h : ∀ m0 s, waR9 s 0 args → GoD P G m0 0 n (wf0 fn) [] (kdb9 P G n rs d r) s [] none) : PC P G f args r := by
 obtain ⟨c, hc⟩ := l'G.1 hb;refine zaG9 hf hc fun m0 => ?_;have hlen : (args ++ List.replicate (fn.ntmps - args.length) (AV.tup [])).length = n := by simp [hn]; omega
 have h1 := vv0 [] args (fn.ntmps - args.length);have := (h m0 (getA (args ++ List.replicate (fn.ntmps - args.length) (AV.tup []))) (xN0 _ 0 args (by simpa using h1))).w;unfold atR wf0 at this;rw [hc, ← vY0 hlen] at this;have fin : ∀ e s H, vbc9 P n rs d r e s H → Fin P fn 0 r [] e (Lst n s) H := fun e s H ⟨q1, q2, q3, q4⟩ => by
  rw [← vaR9] at q2 q3 q4;exact ⟨q1, by rw [hrs]; exact q2, by rw [hrs]; exact (kaI9 d q3).eqv q4⟩
 refine vbh9 this fun e a H dl ⟨s, ha, q⟩ => ?_;subst ha;cases dl with
 | none => exact fin _ _ _ q
 | some p =>
  obtain ⟨g, dargs⟩ := p;obtain ⟨q1, H2, q2, q3⟩ := q;exact ⟨q1, H2, q2, fin _ _ _ q3⟩
end
end Go.V

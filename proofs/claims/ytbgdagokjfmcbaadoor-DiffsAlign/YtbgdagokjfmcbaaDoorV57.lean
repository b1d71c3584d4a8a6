import Derived.Test.YtbgdagokjfmcbaaDoorV50
import Derived.Test.YtbgdagokjfmcbaaDoorV37
import Derived.Test.YtbgdagokjfmcbaaDoorV33
import Derived.Lib.SmallJoins
set_option linter.unusedVariables false
set_option linter.unusedSimpArgs false
namespace Go.V
open Go Go.RowKit Go.Lib
abbrev Kd := List UInt8 × Bool × Bool × Bool
def xdG9 {H : Type} (zs : List Kd) : DataW H := .agg (zs.map fun z => .agg [.lit (.string z.1), .lit (.bool z.2.1), .lit (.bool z.2.2.1), .lit (.bool z.2.2.2)])
def zdx9 (z : Kd) : List Value := [.string ⟨z.1.toArray⟩, .bool z.2.1, .bool z.2.2.1, .bool z.2.2.2]
section
variable {H : Type} {enc : TypeId × Value → H} {P : Program} {w : World} {base : Nat} {sp : Nat → Bool} {held : Bool}
end
end Go.V
set_option autoImplicit false
namespace Go.V
open Go Go.RowKit
def pcQ : Operand → Bool
 | .global 5 => false
 | _ => true
def vca9 (P : Program) (G : Glob) (f : AV) (args : List AV) (K : AV → Prop) : Prop :=
 match f.strip with
 | .fn g cap => f.ok = true ∧ zc0 P g = true ∧ (args.all AV.ok) = true ∧ ∃ r, (idsL kX0 (args.map AV.strip ++ cap) = true ∧ PC P G g (args.map AV.strip ++ cap) r) ∧ K r
 | _ => False
section
variable {ρ : Bool} {P : Program} {G : Glob} {n0 n : Nat} {dr : Operand → Bool} {body : Code} {p : List Nat} {Q : xn0} {k : Nat} {B : Prop} {s : Nat → AV} {H : List Blk} {d : Option Tmp} {ty : TypeId} {pos : String} {af : Array Edge}
theorem kca9 {f : Operand} {args : Array Operand} {ts : Array TypeId} (h : (zm0 (atR body p))[k]? = some ⟨d, .call ⟨.value f, args, ts⟩, ty, pos, af, none⟩) (hpc : pcF dr = true) (hkp : kpF dr = false) (hdr : dr f = true)
  (hk : B ∧ vca9 P G (evS G n s f) (args.toList.map (evS G n s)) (fun r => Acc ρ P G n0 n dr body p Q (k + 1) True (put s d r) H)) : Acc ρ P G n0 n dr body p Q k B s H := by
 refine ⟨hk.1, ?_⟩;have h2 := hk.2;rw [wF0 h];show qal9 P G (dr f) (ev G (Lst n s) f) (args.toList.map (ev G (Lst n s))) H _;unfold vca9 at h2;split at h2
 ·rename_i g cap hf;obtain ⟨q1, q2, q3, r, ⟨q4, q5⟩, q6⟩ := h2;have hops : ∀ H2, xx0 P G (.call ⟨.value f, args, ts⟩) (ev G (Lst n s)) H2 r H2 := fun H2 =>
   .call _ f g cap rfl rfl (by rw [qr0]; exact hf) (by rw [qr0]; exact q1) q2 (by rw [qr0]; simpa [List.all_map] using q3) r H2 (by rw [qr0]; have := kf0 q5 q4 H2; rw [List.map_map] at this; exact this)
  unfold qal9;rw [qr0, hf];simp only;refine ⟨q1, q2, q3, ?_⟩;rw [if_pos hdr];refine ⟨r, kf0 q5 q4 H, fun w => (by rw [hkp] at w; cases w), fun _ => by rw [← qr0]; exact hops, ?_⟩;show tops _ _ _ _ _ _ (putA (Lst n s) d r) _;rw [vv0]; exact q6.2
 ·exact h2.elim
end
abbrev ap_ := @kca9
attribute [push_cast] vca9
theorem nav {g s : Prop} (k : s) (h : s → g := by
  refine fun h => ?_;first
   | (refine a0_ ?_; first|exact a1_ rfl rfl h|exact a2_ rfl h|exact a3_ rfl rfl h|exact a4_ rfl h|exact ak_ rfl rfl h|exact ap_ rfl rfl rfl rfl h|exact a5_ rfl rfl rfl h|exact a6_ rfl rfl h|exact a7_ rfl rfl h|exact a8_ rfl rfl h|exact a9_ rfl rfl rfl h)
   | (refine g0_ ?_; first|exact g1_ rfl h|exact g2_ rfl rfl h|exact g4_ rfl h|exact g5_ rfl h|exact g6_ rfl h|exact g7_ rfl h|exact g8_ rfl h|exact kaM9 rfl h|exact qaN9 rfl h)
   | (refine o0_ ?_; first|exact o1_ h|exact o2_ h|exact o3_ h|exact o4_ h|exact o5_ h|exact o6_ rfl h|exact o7_ rfl h|exact o8_ h|exact o9_ h|exact oa_ h|exact ob_ h|exact oc_ h|exact od_ h|exact oe_ h|exact of_ h|exact og_ h|exact oh_ h|exact vau9 h|exact kF0 h|exact wC0 h)
   | exact at_go h) : g := h k
theorem andG {a b : Prop} (k : b) (h : a := by first|omega|(simp only [maxLen]; omega)) : a ∧ b := ⟨h, k⟩
section
variable {ρ ρ' : Bool} {P P' : Program} {G G' : Glob} {n0 n0' n n' : Nat} {body body' : Code} {p p' : List Nat} {Q Q' : xn0} {B : Prop} {s s' : Nat → AV} {H H' : List Blk}
theorem goD (h : Acc ρ P G n0 n allQ body p Q 0 B s H) (hs : vN0 (atR body p) = true := by rfl) (hd : kaD9 (atR body p) = true := by rfl) (hm : P.follows .mixedOrders = true := by exact mixed) (ho : qaf9 allQ (zm0 (atR body p)) = true := by first|assumption|kernel_rfl) : Go ρ P G n0 n body p Q B s H := wg0 (dr := allQ) hs hd hm ho h
theorem dN (rs : List (Nat × Nat)) (es : List (Nat × Option Nat)) (dl : List (Nat × Nat)) (h : Acc ρ P G n0 n allQ body p (kcX9 rs es Q) 0 B s H) (hs : vN0 (atR body p) = true := by rfl) (hd : kaD9 (atR body p) = true := by rfl) (hm : P.follows .mixedOrders = true := by exact mixed) (ho : wbm9 P allQ rs es dl (zm0 (atR body p)) = true := by kernel_rfl) (hlen : (es.all fun y => decide (y.1 < n)) = true := by rfl) : Go ρ P G n0 n body p Q B s H := wd0 (dr := allQ) rs es dl hs hd hm ho h rfl hlen
theorem gG (h1 : Go ρ P G n0 n body p Q True s H) (h2 : Go ρ' P' G' n0' n' body' p' Q' True s' H') : At ρ P G n0 n body p Q s H ∧ At ρ' P' G' n0' n' body' p' Q' s' H' := ⟨h1.2, h2.2⟩
theorem nv {g t : Prop} (k : t) (h : t → g := by
  refine fun h => ?_;first
   | (refine a0_ ?_; first|exact a1_ rfl rfl h|exact a2_ rfl h|exact a3_ rfl rfl h|exact a4_ rfl h|exact ak_ rfl rfl h|exact a5_ rfl rfl rfl h|exact a6_ rfl rfl h|exact a7_ rfl rfl h|exact a8_ rfl rfl h|exact a9_ rfl rfl rfl h)
   | (refine g0_ ?_; first|exact g1_ rfl h|exact g2_ rfl rfl h|exact g4_ rfl h|exact g5_ rfl h|exact g6_ rfl h|exact g7_ rfl h|exact g8_ rfl h|exact kaM9 rfl h|exact qaN9 rfl h|exact goD h)
   | (refine o0_ ?_; first|exact o1_ h|exact o2_ h|exact o3_ h|exact o4_ h|exact o5_ h|exact o6_ rfl h|exact o7_ rfl h|exact o8_ h|exact o9_ h|exact oa_ h|exact ob_ h|exact oc_ h|exact od_ h|exact oe_ h|exact of_ h|exact og_ h|exact oh_ h|exact vau9 h|exact kF0 h|exact wC0 h)
   | exact at_go h) : g := h k
theorem cl_ {A g t : Prop} (c : A) (k : t) (h : A → t → g := by
  refine fun c h => ?_;first|exact ⟨_, _, c, h⟩|exact ⟨_, c, h⟩|exact ⟨_, fun _ => c, h⟩) : g := h c k
theorem cp_ {f : FuncId} {as : List AV} {r : AV} {g t : Prop} (c : PC P G f as r) (k : t) (h : (∀ H, qg0 P G f as H r H) → t → g := by
  refine fun c h => ?_;first|exact ⟨_, _, c _, h⟩|exact ⟨_, c _, h⟩|exact ⟨_, fun _ => c _, h⟩) (hi : idsL kX0 as = true := by simp [idsL, idsE, AV.ids]) : g := h (kf0 c hi) k
end
end Go.V
set_option maxHeartbeats 0
namespace Go.V
open Go
mutual
def nz : AV → AV
 | .sl s es c => .sl (if es.isEmpty then 0 else s) (nzE es) c
 | .agg cs => .agg (nzL cs)
 | .tup cs => .tup (nzL cs)
 | .iptr cs o => .iptr (nzL cs) o
 | .int k n => .int k n
 | .bool b => .bool b
 | .str s => .str s
 | .own b n h c => .own b n h c
 | .ptr b i o h => .ptr b i o h
 | .fn f cap => .fn f cap
 | .bnd f cap => .bnd f cap
 | .mp b => .mp b
 | .sub b i n h => .sub b i n h
 | .opt g w => .opt g w
 | .lit u => .lit u
 | .anyb => .anyb
 | .anyi k => .anyi k
 | .err => .err
 | .top => .top
 | .yld b => .yld b
def nzL : List AV → List AV
 | [] => []
 | a :: as => nz a :: nzL as
def nzE : List (List AV) → List (List AV)
 | [] => []
 | e :: es => nzL e :: nzE es
end
theorem vaF9 : ∀ l : List AV, (nzL l).length = l.length
 | [] => rfl
 | _ :: l => by rw [nzL, List.length_cons, List.length_cons, vaF9 l]
theorem kaF9 : ∀ l : List (List AV), (nzE l).length = l.length
 | [] => rfl
 | _ :: l => by rw [nzE, List.length_cons, List.length_cons, kaF9 l]
theorem zcZ9 (l : List (List AV)) : nzE l = [] ↔ l = [] := by
 cases l with
 | nil => simp [nzE]
 | cons _ _ => simp [nzE]
mutual
theorem vcL9 {E : Env} : ∀ (a : AV) (v : Value), Rel E (nz a) v ↔ Rel E a v
 | .sl s es c, v => by
  rw [nz];cases es with
  | nil => simp [Rel, nzE]
  | cons e es =>
   have h := fun g off => qcb9 (E := E) s (e :: es) g off;simp only [Rel, kaF9, zcZ9, List.isEmpty_cons, Bool.false_eq_true, if_false, h]
 | .agg cs, v => by
  have h := fun vs => kbm9 (E := E) cs vs;simp only [nz, Rel, h]
 | .tup cs, v => by
  have h := fun vs => kbm9 (E := E) cs vs;simp only [nz, Rel, h]
 | .iptr cs o, v => by
  have h := fun g off => qbn9 (E := E) cs g off;simp only [nz, Rel, h]
 | .int k n, v => by rw [nz]
 | .bool b, v => by rw [nz]
 | .str s, v => by rw [nz]
 | .own b n h c, v => by rw [nz]
 | .ptr b i o h, v => by rw [nz]
 | .fn f cap, v => by rw [nz]
 | .bnd f cap, v => by rw [nz]
 | .mp b, v => by rw [nz]
 | .sub b i n h, v => by rw [nz]
 | .opt g w, v => by rw [nz]
 | .lit u, v => by rw [nz]
 | .anyb, v => by rw [nz]
 | .anyi k, v => by rw [nz]
 | .err, v => by rw [nz]
 | .top, v => by rw [nz]
 | .yld b, v => by rw [nz]
theorem kbm9 {E : Env} : ∀ (l : List AV) (vs : List Value), RelL E (nzL l) vs ↔ RelL E l vs
 | [], vs => by rw [nzL]
 | a :: as, vs => by
  have h1 := fun u => vcL9 (E := E) a u;have h2 := fun us => kbm9 (E := E) as us;simp only [nzL, RelL, h1, h2]
theorem qbn9 {E : Env} : ∀ (l : List AV) (g off : Nat), RelC E (nzL l) g off ↔ RelC E l g off
 | [], g, off => by rw [nzL]
 | a :: as, g, off => by
  have h1 := fun u => vcL9 (E := E) a u;have h2 := fun g off => qbn9 (E := E) as g off;simp only [nzL, RelC, h1, h2]
theorem qcb9 {E : Env} (s : Nat) : ∀ (l : List (List AV)) (g off : Nat), RelE E s (nzE l) g off ↔ RelE E s l g off
 | [], g, off => by rw [nzE]
 | e :: es, g, off => by
  have h1 := fun g off => qbn9 (E := E) e g off;have h2 := fun g off => qcb9 (E := E) s es g off;simp only [nzE, RelE, vaF9, h1, h2]
end
def ownQ (fs : List Nat) : Operand → Bool
 | .func f => !fs.contains f
 | .global 3 => false
 | _ => true
section
variable {ρ : Bool} {P : Program} {G : Glob} {n0 n : Nat} {body : Code} {p : List Nat} {Q : xn0} {B : Prop} {s : Nat → AV} {H : List Blk} {dr : Operand → Bool} {k : Nat} {d : Option Nat}
theorem zcb9 (fs : List Nat) (hs : vN0 (atR body p) = true) (hd : kaD9 (atR body p) = false) (h : Acc ρ P G n0 n (ownQ fs) body p Q 0 B s H) : Go ρ P G n0 n body p Q B s H := by
 refine ⟨h.1, ?_⟩;have h2 := h.2;unfold At;generalize atR body p = c at hs h2 hd;cases c with
 | region id ops d =>
  cases hd
  simp only [zm0, List.drop_zero] at h2;exact waD9 (ops := ops.toList) h2
 | _ => cases hs
theorem zbn9 {t : TypeId} {len : Nat} {ps : Array (Nat × Operand)} {ty pos af} {fs : List Nat} (h : (zm0 (atR body p))[k]? = some ⟨d, .buildSlice t len ps, ty, pos, af, none⟩)
  (hk : Acc ρ P G n0 n (ownQ fs) body p Q (k + 1) (B ∧ (zJ0 P (.buildSlice t len ps) (evS G n s) H).1 = true) (put s d (zJ0 P (.buildSlice t len ps) (evS G n s) H).2.1) (zJ0 P (.buildSlice t len ps) (evS G n s) H).2.2) : Acc ρ P G n0 n (ownQ fs) body p Q k B s H := by
 obtain ⟨⟨h1, h2⟩, h3⟩ := hk;refine ⟨h1, ?_⟩;rw [wF0 h];have e : ev G (Lst n s) = evS G n s := qr0 G n s;have key : opK P G (ownQ fs) (.buildSlice t len ps) (ev G (Lst n s)) H (fun r H' => tops P G (ownQ fs) (zm0 (atR body p)) (vY0 n Q .normal) ((zm0 (atR body p)).drop (k + 1)) (putA (Lst n s) d r) H') := by
  rw [e];refine .inr ⟨rfl, h2, ?_⟩;have h4 := h3;rw [← vv0] at h4;exact h4
 exact key
end
attribute [push_cast] zJ0 bOwn
end Go.V

/- The library V, part 1: abstract values, what a value of the model has to do with them, and what keeps that. -/
import Derived.Calls
import Derived.Orders
import Derived.Laws.Entries
import Derived.Laws.AppendOwn
import Derived.Laws.MakeOwn
import Derived.Laws.Rows
import Derived.Below
namespace Go.V
open Go Go.RowKit

/-- Immutable memory: block number, block. -/
abbrev Mem := Nat → Option Obj

/-- Abstract values. -/
inductive AV where
  | int (k : IntKind) (n : Int)
  | bool (b : Bool)
  | str (s : List UInt8)
  | agg (cs : List AV)
  | tup (cs : List AV)
  | sl (s : Nat) (es : List (List AV)) (c : Option Nat)
  | own (b n h : Nat) (c : Option Nat)
  | ptr (b i o h : Nat)
  | iptr (cs : List AV) (o : Nat)
  | fn (f : FuncId) (cap : List AV)
  | mp (b : Nat)
  | opt (g : Bool) (v : AV)
  | lit (v : Value)
  | anyb
  | anyi (k : IntKind)
  | err
  | top
  deriving Inhabited

/-- A block of the activation's own: a row of elements of s cells, or a map. -/
inductive Blk where
  | row (s : Nat) (t : TypeId) (es : List (List AV))
  | map (kt vt : TypeId) (es : List (AV × AV))
  deriving Inhabited

/-- What the relation asks: the immutable memory, where the own blocks lie (block number, elements that it has room for), their sizes (cells an element, elements). -/
structure Env where
  M : Mem
  μ : Nat → Option (Nat × Nat)
  sh : Nat → Option (Nat × Nat)
  ν : Nat → Option Nat

def mcell (M : Mem) (g off : Nat) : Option Value :=
  match M g with
  | some (.cells c _ _) => c[off]?
  | _ => none

mutual
def Rel (E : Env) : AV → Value → Prop
  | .int k n, v => v = .int k n
  | .bool b, v => v = .bool b
  | .str s, v => v = .string ⟨s.toArray⟩
  | .agg cs, v => ∃ vs : List Value, v = .agg vs.toArray ∧ RelL E cs vs ∧ ∀ u ∈ vs, u.oneCell' = true
  | .tup cs, v => ∃ vs : List Value, v = .tuple vs.toArray ∧ RelL E cs vs
  | .sl s es c, v => ∃ (a : Option Addr) (cap : Nat), v = .slice a es.length cap ∧ es.length ≤ cap ∧ cap ≤ maxLen ∧ (∀ k, c = some k → cap = k) ∧
      (es = [] ∨ ∃ g off, a = some ⟨g, off, none⟩ ∧ RelE E s es g off)
  | .own b n h c, v => ∃ s cur, E.sh b = some (s, cur) ∧ h ≤ cur ∧ (h = cur → n ≤ h ∧
      ((E.μ b = none ∧ (∃ a, v = .slice a 0 0) ∧ n = 0 ∧ (c = none ∨ c = some 0)) ∨
       ∃ g k cap, E.μ b = some (g, k) ∧ v = .slice (some ⟨g, 0, none⟩) n cap ∧ n ≤ cap ∧ cap ≤ k ∧ (c = none → cap = k) ∧ (∀ j, c = some j → cap = j)))
  | .ptr b i o h, v => ∃ s cur, E.sh b = some (s, cur) ∧ h ≤ cur ∧ (h = cur → ∃ g k, E.μ b = some (g, k) ∧ v = .pointer (some ⟨g, i * s + o, none⟩))
  | .iptr cs o, v => ∃ g off, v = .pointer (some ⟨g, off + o, none⟩) ∧ RelC E cs g off
  | .fn f cap, v => ∃ vs : List Value, v = .func (.func f) #[] vs.toArray ∧ RelL E cap vs
  | .mp b, v => ∃ g, E.ν b = some g ∧ v = .map (some g)
  | .opt g w, v => (g = true → Rel E w v) ∧ (g = false → v = undef)
  | .lit u, v => v = u
  | .anyb, v => ∃ b : Bool, v = .bool b
  | .anyi k, v => ∃ n : Int, v = .int k n
  | .err, v => ∃ (t : TypeId) (u : Value), v = .iface t u
  | .top, _ => True
def RelL (E : Env) : List AV → List Value → Prop
  | [], vs => vs = []
  | a :: as, vs => ∃ u us, vs = u :: us ∧ Rel E a u ∧ RelL E as us
def RelC (E : Env) : List AV → Nat → Nat → Prop
  | [], _, _ => True
  | a :: as, g, off => (∃ u, mcell E.M g off = some u ∧ u.oneCell' = true ∧ Rel E a u) ∧ RelC E as g (off + 1)
def RelE (E : Env) (s : Nat) : List (List AV) → Nat → Nat → Prop
  | [], _, _ => True
  | e :: es, g, off => e.length = s ∧ RelC E e g off ∧ RelE E s es g (off + s)
end

/-- The relation lasts from E to E'. -/
structure Env.le (E E' : Env) : Prop where
  M : ∀ k o, E.M k = some o → E'.M k = some o
  sh : ∀ b s cur, E.sh b = some (s, cur) → ∃ cur', cur ≤ cur' ∧ E'.sh b = some (s, cur') ∧ (cur' = cur → E'.μ b = E.μ b)
  ν : ∀ b g, E.ν b = some g → E'.ν b = some g

theorem Env.le.refl (E : Env) : E.le E := ⟨fun _ _ h => h, fun _ _ _ h => ⟨_, Nat.le_refl _, h, fun _ => rfl⟩, fun _ _ h => h⟩
theorem Env.le.trans {A B C : Env} (h : A.le B) (k : B.le C) : A.le C :=
  ⟨fun i o hi => k.M i o (h.M i o hi), fun b s cur hb => by
    obtain ⟨c1, l1, s1, m1⟩ := h.sh b s cur hb
    obtain ⟨c2, l2, s2, m2⟩ := k.sh b s c1 s1
    exact ⟨c2, Nat.le_trans l1 l2, s2, fun e => by
      have : c1 = cur := by omega
      subst this
      rw [m2 e, m1 rfl]⟩, fun b g hb => k.ν b g (h.ν b g hb)⟩

theorem mcell_mono {M M' : Mem} (h : ∀ k o, M k = some o → M' k = some o) {g off : Nat} {v : Value} (hv : mcell M g off = some v) : mcell M' g off = some v := by
  unfold mcell at *
  cases ho : M g with
  | none => simp [ho] at hv
  | some o => rw [h g o ho]; simpa [ho] using hv

mutual
theorem Rel.mono {E E' : Env} (h : E.le E') : ∀ (a : AV) (v : Value), Rel E a v → Rel E' a v
  | .int k n, v, hr => by simpa [Rel] using hr
  | .bool b, v, hr => by simpa [Rel] using hr
  | .str s, v, hr => by simpa [Rel] using hr
  | .agg cs, v, hr => by
    simp only [Rel] at hr ⊢
    obtain ⟨vs, hv, hl, h1⟩ := hr
    exact ⟨vs, hv, RelL.mono h cs vs hl, h1⟩
  | .tup cs, v, hr => by
    simp only [Rel] at hr ⊢
    obtain ⟨vs, hv, hl⟩ := hr
    exact ⟨vs, hv, RelL.mono h cs vs hl⟩
  | .sl s es c, v, hr => by
    simp only [Rel] at hr ⊢
    obtain ⟨a, cap, hv, h1, h2, h3, h4⟩ := hr
    refine ⟨a, cap, hv, h1, h2, h3, ?_⟩
    rcases h4 with h4 | ⟨g, off, ha, he⟩
    · exact .inl h4
    · exact .inr ⟨g, off, ha, RelE.mono h s es g off he⟩
  | .own b n hh c, v, hr => by
    simp only [Rel] at hr ⊢
    obtain ⟨s, cur, h1, h2, h3⟩ := hr
    obtain ⟨cur', l, s', m⟩ := h.sh b s cur h1
    refine ⟨s, cur', s', by omega, fun e => ?_⟩
    have : cur' = cur := by omega
    rw [m this]
    exact h3 (by omega)
  | .ptr b i o hh, v, hr => by
    simp only [Rel] at hr ⊢
    obtain ⟨s, cur, h1, h2, h3⟩ := hr
    obtain ⟨cur', l, s', m⟩ := h.sh b s cur h1
    refine ⟨s, cur', s', by omega, fun e => ?_⟩
    have : cur' = cur := by omega
    rw [m this]
    exact h3 (by omega)
  | .iptr cs o, v, hr => by
    simp only [Rel] at hr ⊢
    obtain ⟨g, off, hv, hc⟩ := hr
    exact ⟨g, off, hv, RelC.mono h cs g off hc⟩
  | .fn f cap, v, hr => by
    simp only [Rel] at hr ⊢
    obtain ⟨vs, hv, hl⟩ := hr
    exact ⟨vs, hv, RelL.mono h cap vs hl⟩
  | .mp b, v, hr => by
    simp only [Rel] at hr ⊢
    obtain ⟨g, h1, h2⟩ := hr
    exact ⟨g, h.ν b g h1, h2⟩
  | .opt g w, v, hr => by
    simp only [Rel] at hr ⊢
    exact ⟨fun hg => Rel.mono h w v (hr.1 hg), hr.2⟩
  | .lit u, v, hr => by simpa [Rel] using hr
  | .anyb, v, hr => by simpa [Rel] using hr
  | .anyi k, v, hr => by simpa [Rel] using hr
  | .err, v, hr => by simpa [Rel] using hr
  | .top, v, hr => by simp [Rel]
theorem RelL.mono {E E' : Env} (h : E.le E') : ∀ (as : List AV) (vs : List Value), RelL E as vs → RelL E' as vs
  | [], vs, hr => by simpa [RelL] using hr
  | a :: as, vs, hr => by
    simp only [RelL] at hr ⊢
    obtain ⟨u, us, hv, h1, h2⟩ := hr
    exact ⟨u, us, hv, Rel.mono h a u h1, RelL.mono h as us h2⟩
theorem RelC.mono {E E' : Env} (h : E.le E') : ∀ (as : List AV) (g off : Nat), RelC E as g off → RelC E' as g off
  | [], g, off, hr => by simp [RelC]
  | a :: as, g, off, hr => by
    simp only [RelC] at hr ⊢
    obtain ⟨⟨u, hu, h1, hr1⟩, hr2⟩ := hr
    exact ⟨⟨u, mcell_mono h.M hu, h1, Rel.mono h a u hr1⟩, RelC.mono h as g (off + 1) hr2⟩
theorem RelE.mono {E E' : Env} (h : E.le E') (s : Nat) : ∀ (es : List (List AV)) (g off : Nat), RelE E s es g off → RelE E' s es g off
  | [], g, off, hr => by simp [RelE]
  | e :: es, g, off, hr => by
    simp only [RelE] at hr ⊢
    exact ⟨hr.1, RelC.mono h e g off hr.2.1, RelE.mono h s es g (off + s) hr.2.2⟩
end
end Go.V

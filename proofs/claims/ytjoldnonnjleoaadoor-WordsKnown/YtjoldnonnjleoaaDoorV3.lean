/- The library V, part 3: operations that leave the own blocks as they are. -/
import Derived.Calls
import Derived.Orders
import Derived.Laws.Entries
import Derived.Laws.AppendOwn
import Derived.Laws.MakeOwn
import Derived.Laws.Rows
import Derived.Below
import Derived.Laws.StructEq
/- The library V, part 1: abstract values, what a value of the model has to do with them, and what keeps that. -/
namespace Go.V
open Go Go.RowKit

/-- Immutable memory: block number, block. -/
abbrev Mem := Nat → Option Obj

/-- Abstract values. -/
inductive AV where
  | int (k : IntKind) (n : Int)
  | bool (b : Bool)
  | str (s : List UInt8)
  | agg (cs : List AV)
  | tup (cs : List AV)
  | sl (s : Nat) (es : List (List AV)) (c : Option Nat)
  | own (b n h : Nat) (c : Option Nat)
  | ptr (b i o h : Nat)
  | iptr (cs : List AV) (o : Nat)
  | fn (f : FuncId) (cap : List AV)
  | mp (b : Nat)
  | opt (g : Bool) (v : AV)
  | lit (v : Value)
  | anyb
  | anyi (k : IntKind)
  | err
  | top
  | yld (b : Nat)
  deriving Inhabited

/-- A block of the activation's own that is no row: a map; whatever object, with values that are related. -/
inductive OB where
  | map (kt vt : TypeId) (es : List (AV × AV))
  | loop (o : Obj) (as : List AV) (vs : List Value)
  deriving Inhabited

/-- A block of the activation's own: a row of elements of s cells, or another object. -/
inductive Blk where
  | row (s : Nat) (t : TypeId) (es : List (List AV))
  | ob (o : OB)
  deriving Inhabited

/-- What the relation asks: the immutable memory, where the own blocks lie (block number, elements that it has room for), their sizes (cells an element, elements). -/
structure Env where
  M : Mem
  μ : Nat → Option (Nat × Nat)
  sh : Nat → Option (Nat × Nat)
  ν : Nat → Option Nat

def mcell (M : Mem) (g off : Nat) : Option Value :=
  match M g with
  | some (.cells c _ _) => c[off]?
  | _ => none

mutual
def Rel (E : Env) : AV → Value → Prop
  | .int k n, v => v = .int k n
  | .bool b, v => v = .bool b
  | .str s, v => v = .string ⟨s.toArray⟩
  | .agg cs, v => ∃ vs : List Value, v = .agg vs.toArray ∧ RelL E cs vs ∧ ∀ u ∈ vs, u.oneCell' = true
  | .tup cs, v => ∃ vs : List Value, v = .tuple vs.toArray ∧ RelL E cs vs
  | .sl s es c, v => ∃ (a : Option Addr) (cap : Nat), v = .slice a es.length cap ∧ es.length ≤ cap ∧ cap ≤ maxLen ∧ (∀ k, c = some k → cap = k) ∧
      (es = [] ∨ ∃ g off, a = some ⟨g, off, none⟩ ∧ RelE E s es g off)
  | .own b n h c, v => ∃ s cur, E.sh b = some (s, cur) ∧ h ≤ cur ∧ (h = cur → n ≤ h ∧
      ((E.μ b = none ∧ (∃ a, v = .slice a 0 0) ∧ n = 0 ∧ (c = none ∨ c = some 0)) ∨
       ∃ g k cap, E.μ b = some (g, k) ∧ v = .slice (some ⟨g, 0, none⟩) n cap ∧ n ≤ cap ∧ cap ≤ k ∧ (c = none → cap = k) ∧ (∀ j, c = some j → cap = j)))
  | .ptr b i o h, v => ∃ s cur, E.sh b = some (s, cur) ∧ h ≤ cur ∧ (h = cur → ∃ g k, E.μ b = some (g, k) ∧ v = .pointer (some ⟨g, i * s + o, none⟩))
  | .iptr cs o, v => ∃ g off, v = .pointer (some ⟨g, off + o, none⟩) ∧ RelC E cs g off
  | .fn f cap, v => ∃ vs : List Value, v = .func (.func f) #[] vs.toArray ∧ RelL E cap vs
  | .mp b, v => ∃ g, E.ν b = some g ∧ v = .map (some g)
  | .opt g w, v => (g = true → Rel E w v) ∧ (g = false → v = undef)
  | .lit u, v => v = u
  | .anyb, v => ∃ b : Bool, v = .bool b
  | .anyi k, v => ∃ n : Int, v = .int k n
  | .err, v => ∃ (t : TypeId) (u : Value), v = .iface t u
  | .top, _ => True
  | .yld b, v => ∃ g, E.ν b = some g ∧ v = .func (.yield g) #[] #[]
def RelL (E : Env) : List AV → List Value → Prop
  | [], vs => vs = []
  | a :: as, vs => ∃ u us, vs = u :: us ∧ Rel E a u ∧ RelL E as us
def RelC (E : Env) : List AV → Nat → Nat → Prop
  | [], _, _ => True
  | a :: as, g, off => (∃ u, mcell E.M g off = some u ∧ u.oneCell' = true ∧ Rel E a u) ∧ RelC E as g (off + 1)
def RelE (E : Env) (s : Nat) : List (List AV) → Nat → Nat → Prop
  | [], _, _ => True
  | e :: es, g, off => e.length = s ∧ RelC E e g off ∧ RelE E s es g (off + s)
end

/-- The relation lasts from E to E'. -/
structure Env.le (E E' : Env) : Prop where
  M : ∀ k o, E.M k = some o → E'.M k = some o
  sh : ∀ b s cur, E.sh b = some (s, cur) → ∃ cur', cur ≤ cur' ∧ E'.sh b = some (s, cur') ∧ (cur' = cur → E'.μ b = E.μ b)
  ν : ∀ b g, E.ν b = some g → E'.ν b = some g

theorem Env.le.refl (E : Env) : E.le E := ⟨fun _ _ h => h, fun _ _ _ h => ⟨_, Nat.le_refl _, h, fun _ => rfl⟩, fun _ _ h => h⟩
theorem Env.le.trans {A B C : Env} (h : A.le B) (k : B.le C) : A.le C :=
  ⟨fun i o hi => k.M i o (h.M i o hi), fun b s cur hb => by
    obtain ⟨c1, l1, s1, m1⟩ := h.sh b s cur hb
    obtain ⟨c2, l2, s2, m2⟩ := k.sh b s c1 s1
    exact ⟨c2, Nat.le_trans l1 l2, s2, fun e => by
      have : c1 = cur := by omega
      subst this
      rw [m2 e, m1 rfl]⟩, fun b g hb => k.ν b g (h.ν b g hb)⟩

theorem mcell_mono {M M' : Mem} (h : ∀ k o, M k = some o → M' k = some o) {g off : Nat} {v : Value} (hv : mcell M g off = some v) : mcell M' g off = some v := by
  unfold mcell at *
  cases ho : M g with
  | none => simp [ho] at hv
  | some o => rw [h g o ho]; simpa [ho] using hv

mutual
theorem Rel.mono {E E' : Env} (h : E.le E') : ∀ (a : AV) (v : Value), Rel E a v → Rel E' a v
  | .int k n, v, hr => by simpa [Rel] using hr
  | .bool b, v, hr => by simpa [Rel] using hr
  | .str s, v, hr => by simpa [Rel] using hr
  | .agg cs, v, hr => by
    simp only [Rel] at hr ⊢
    obtain ⟨vs, hv, hl, h1⟩ := hr
    exact ⟨vs, hv, RelL.mono h cs vs hl, h1⟩
  | .tup cs, v, hr => by
    simp only [Rel] at hr ⊢
    obtain ⟨vs, hv, hl⟩ := hr
    exact ⟨vs, hv, RelL.mono h cs vs hl⟩
  | .sl s es c, v, hr => by
    simp only [Rel] at hr ⊢
    obtain ⟨a, cap, hv, h1, h2, h3, h4⟩ := hr
    refine ⟨a, cap, hv, h1, h2, h3, ?_⟩
    rcases h4 with h4 | ⟨g, off, ha, he⟩
    · exact .inl h4
    · exact .inr ⟨g, off, ha, RelE.mono h s es g off he⟩
  | .own b n hh c, v, hr => by
    simp only [Rel] at hr ⊢
    obtain ⟨s, cur, h1, h2, h3⟩ := hr
    obtain ⟨cur', l, s', m⟩ := h.sh b s cur h1
    refine ⟨s, cur', s', by omega, fun e => ?_⟩
    have : cur' = cur := by omega
    rw [m this]
    exact h3 (by omega)
  | .ptr b i o hh, v, hr => by
    simp only [Rel] at hr ⊢
    obtain ⟨s, cur, h1, h2, h3⟩ := hr
    obtain ⟨cur', l, s', m⟩ := h.sh b s cur h1
    refine ⟨s, cur', s', by omega, fun e => ?_⟩
    have : cur' = cur := by omega
    rw [m this]
    exact h3 (by omega)
  | .iptr cs o, v, hr => by
    simp only [Rel] at hr ⊢
    obtain ⟨g, off, hv, hc⟩ := hr
    exact ⟨g, off, hv, RelC.mono h cs g off hc⟩
  | .fn f cap, v, hr => by
    simp only [Rel] at hr ⊢
    obtain ⟨vs, hv, hl⟩ := hr
    exact ⟨vs, hv, RelL.mono h cap vs hl⟩
  | .mp b, v, hr => by
    simp only [Rel] at hr ⊢
    obtain ⟨g, h1, h2⟩ := hr
    exact ⟨g, h.ν b g h1, h2⟩
  | .opt g w, v, hr => by
    simp only [Rel] at hr ⊢
    exact ⟨fun hg => Rel.mono h w v (hr.1 hg), hr.2⟩
  | .lit u, v, hr => by simpa [Rel] using hr
  | .anyb, v, hr => by simpa [Rel] using hr
  | .anyi k, v, hr => by simpa [Rel] using hr
  | .err, v, hr => by simpa [Rel] using hr
  | .top, v, hr => by simp [Rel]
  | .yld b, v, hr => by
    simp only [Rel] at hr ⊢
    obtain ⟨g, h1, h2⟩ := hr
    exact ⟨g, h.ν b g h1, h2⟩
theorem RelL.mono {E E' : Env} (h : E.le E') : ∀ (as : List AV) (vs : List Value), RelL E as vs → RelL E' as vs
  | [], vs, hr => by simpa [RelL] using hr
  | a :: as, vs, hr => by
    simp only [RelL] at hr ⊢
    obtain ⟨u, us, hv, h1, h2⟩ := hr
    exact ⟨u, us, hv, Rel.mono h a u h1, RelL.mono h as us h2⟩
theorem RelC.mono {E E' : Env} (h : E.le E') : ∀ (as : List AV) (g off : Nat), RelC E as g off → RelC E' as g off
  | [], g, off, hr => by simp [RelC]
  | a :: as, g, off, hr => by
    simp only [RelC] at hr ⊢
    obtain ⟨⟨u, hu, h1, hr1⟩, hr2⟩ := hr
    exact ⟨⟨u, mcell_mono h.M hu, h1, Rel.mono h a u hr1⟩, RelC.mono h as g (off + 1) hr2⟩
theorem RelE.mono {E E' : Env} (h : E.le E') (s : Nat) : ∀ (es : List (List AV)) (g off : Nat), RelE E s es g off → RelE E' s es g off
  | [], g, off, hr => by simp [RelE]
  | e :: es, g, off, hr => by
    simp only [RelE] at hr ⊢
    exact ⟨hr.1, RelC.mono h e g off hr.2.1, RelE.mono h s es g (off + s) hr.2.2⟩
end
end Go.V
/- The library V, part 2: lists of related values, what the program's tables say, states and their growth. -/
namespace Go.V
open Go Go.RowKit

section lists
variable {E : Env}
theorem RelL.length : ∀ {as : List AV} {vs : List Value}, RelL E as vs → as.length = vs.length
  | [], vs, h => by simp only [RelL] at h; subst h; rfl
  | a :: as, vs, h => by
    simp only [RelL] at h
    obtain ⟨u, us, rfl, _, h2⟩ := h
    simp [RelL.length h2]
theorem RelL.get : ∀ {as : List AV} {vs : List Value}, RelL E as vs → ∀ {i : Nat} {a : AV}, as[i]? = some a → ∃ v, vs[i]? = some v ∧ Rel E a v
  | [], vs, _, i, a, hi => by simp at hi
  | x :: as, vs, h, i, a, hi => by
    simp only [RelL] at h
    obtain ⟨u, us, rfl, h1, h2⟩ := h
    cases i with
    | zero => simp at hi; subst hi; exact ⟨u, rfl, h1⟩
    | succ i => simpa using RelL.get h2 (by simpa using hi)
theorem RelL.mk : ∀ {as : List AV} {vs : List Value}, as.length = vs.length → (∀ (i : Nat) (a : AV) (v : Value), as[i]? = some a → vs[i]? = some v → Rel E a v) → RelL E as vs
  | [], vs, hl, _ => by
    have : vs = [] := List.eq_nil_of_length_eq_zero (by simpa using hl.symm)
    simp [RelL, this]
  | a :: as, [], hl, _ => by simp at hl
  | a :: as, v :: vs, hl, h => by
    simp only [RelL]
    exact ⟨v, vs, rfl, h 0 a v rfl rfl, RelL.mk (by simpa using hl) fun i a v h1 h2 => h (i + 1) a v (by simpa using h1) (by simpa using h2)⟩
theorem RelL.set {as : List AV} {vs : List Value} (h : RelL E as vs) (i : Nat) {a : AV} {v : Value} (hr : Rel E a v) : RelL E (as.set i a) (vs.set i v) := by
  refine RelL.mk (by simpa using h.length) fun j b u hb hu => ?_
  rw [List.getElem?_set] at hb hu
  by_cases hij : i = j
  · subst hij
    have hl := h.length
    simp only [if_true] at hb hu
    split at hb
    · split at hu
      · injection hb with hb; injection hu with hu; subst hb; subst hu; exact hr
      · cases hu
    · cases hb
  · simp only [if_neg hij] at hb hu
    obtain ⟨v', hv', hr'⟩ := h.get hb
    rw [hu] at hv'; injection hv' with hv'; subst hv'; exact hr'
theorem RelL.append {as bs : List AV} {us vs : List Value} (h : RelL E as us) (k : RelL E bs vs) : RelL E (as ++ bs) (us ++ vs) := by
  have h1 := h.length
  have h2 := k.length
  refine RelL.mk (by simp [h1, h2]) fun i a v ha hv => ?_
  by_cases hi : i < as.length
  · rw [List.getElem?_append_left hi] at ha
    rw [List.getElem?_append_left (by omega)] at hv
    obtain ⟨v', hv', hr'⟩ := h.get ha
    rw [hv] at hv'; injection hv' with hv'; subst hv'; exact hr'
  · rw [List.getElem?_append_right (by omega)] at ha
    rw [List.getElem?_append_right (by omega)] at hv
    obtain ⟨v', hv', hr'⟩ := k.get ha
    rw [h1, hv] at hv'; injection hv' with hv'; subst hv'; exact hr'
theorem RelL.take {as : List AV} {vs : List Value} (h : RelL E as vs) (n : Nat) : RelL E (as.take n) (vs.take n) := by
  refine RelL.mk (by simp [h.length]) fun i a v ha hv => ?_
  rw [List.getElem?_take] at ha hv
  split at ha
  · rename_i hlt
    rw [if_pos hlt] at hv
    obtain ⟨v', hv', hr'⟩ := h.get ha
    rw [hv] at hv'; injection hv' with hv'; subst hv'; exact hr'
  · cases ha
theorem RelL.drop {as : List AV} {vs : List Value} (h : RelL E as vs) (n : Nat) : RelL E (as.drop n) (vs.drop n) := by
  refine RelL.mk (by simp [h.length]) fun i a v ha hv => ?_
  rw [List.getElem?_drop] at ha hv
  obtain ⟨v', hv', hr'⟩ := h.get ha
  rw [hv] at hv'; injection hv' with hv'; subst hv'; exact hr'
theorem RelL.replicate {a : AV} {v : Value} (h : Rel E a v) (n : Nat) : RelL E (List.replicate n a) (List.replicate n v) := by
  refine RelL.mk (by simp) fun i b u hb hu => ?_
  rw [List.getElem?_replicate] at hb hu
  split at hb
  · rename_i hlt
    rw [if_pos hlt] at hu
    injection hb with hb; injection hu with hu; subst hb; subst hu; exact h
  · cases hb

theorem RelC.get : ∀ {as : List AV} {g off : Nat}, RelC E as g off → ∀ {j : Nat} {a : AV}, as[j]? = some a → ∃ v, mcell E.M g (off + j) = some v ∧ v.oneCell' = true ∧ Rel E a v
  | [], _, _, _, j, a, hj => by simp at hj
  | x :: as, g, off, h, j, a, hj => by
    simp only [RelC] at h
    obtain ⟨⟨u, hu, h1, hr⟩, h2⟩ := h
    cases j with
    | zero => simp at hj; subst hj; exact ⟨u, hu, h1, hr⟩
    | succ j =>
      have := RelC.get h2 (j := j) (by simpa using hj)
      rwa [show off + 1 + j = off + (j + 1) from by omega] at this
theorem RelC.mk : ∀ {as : List AV} {g off : Nat}, (∀ (j : Nat) (a : AV), as[j]? = some a → ∃ v, mcell E.M g (off + j) = some v ∧ v.oneCell' = true ∧ Rel E a v) → RelC E as g off
  | [], _, _, _ => by simp [RelC]
  | x :: as, g, off, h => by
    simp only [RelC]
    refine ⟨by simpa using h 0 x rfl, RelC.mk fun j a hj => ?_⟩
    have := h (j + 1) a (by simpa using hj)
    rwa [show off + (j + 1) = off + 1 + j from by omega] at this
theorem RelE.get {s : Nat} : ∀ {es : List (List AV)} {g off : Nat}, RelE E s es g off → ∀ {i : Nat} {e : List AV}, es[i]? = some e → e.length = s ∧ RelC E e g (off + i * s)
  | [], _, _, _, i, e, hi => by simp at hi
  | x :: es, g, off, h, i, e, hi => by
    simp only [RelE] at h
    obtain ⟨h1, h2, h3⟩ := h
    cases i with
    | zero => simp at hi; subst hi; exact ⟨h1, by simpa using h2⟩
    | succ i =>
      have := RelE.get h3 (i := i) (by simpa using hi)
      rwa [show off + s + i * s = off + (i + 1) * s from by rw [Nat.add_mul]; omega] at this
theorem RelE.mk {s : Nat} : ∀ {es : List (List AV)} {g off : Nat}, (∀ (i : Nat) (e : List AV), es[i]? = some e → e.length = s ∧ RelC E e g (off + i * s)) → RelE E s es g off
  | [], _, _, _ => by simp [RelE]
  | x :: es, g, off, h => by
    simp only [RelE]
    refine ⟨(h 0 x rfl).1, by simpa using (h 0 x rfl).2, RelE.mk fun i e hi => ?_⟩
    have := h (i + 1) e (by simpa using hi)
    rwa [show off + (i + 1) * s = off + s + i * s from by rw [Nat.add_mul]; omega] at this
end lists

/-! ### What the program's tables say of a type -/
inductive Shape where
  | int (k : IntKind) | bool | str | slice (e : TypeId) | array (n : Nat) (e : TypeId) | struct (fs : List (Nat × TypeId)) | map (k v : TypeId) | ptr (e : TypeId) | func | iface | other
  deriving Inhabited

structure TI where
  agg : Bool
  sz : Nat
  bytes : Nat
  zero : List AV
  shape : Shape
  deriving Inhabited

/-- A constant's cell. -/
def ofCell : Value → AV
  | .int k n => .int k n
  | .bool b => .bool b
  | .string s => .str s.data.toList
  | .slice none 0 0 => .sl 0 [] (some 0)
  | v => .lit v
def ofVal : Value → AV
  | .agg cs => if cs.toList.all Value.oneCell' = true then .agg (cs.toList.map ofCell) else .top
  | .tuple cs => .tup (cs.toList.map ofCell)
  | v => ofCell v

theorem rel_ofCell (E : Env) (v : Value) : Rel E (ofCell v) v := by
  unfold ofCell
  split <;> simp [Rel, maxLen]
theorem relL_ofCell (E : Env) (vs : List Value) : RelL E (vs.map ofCell) vs :=
  RelL.mk (by simp) fun i a v ha hv => by
    rw [List.getElem?_map, hv] at ha
    injection ha with ha; subst ha; exact rel_ofCell E v
theorem rel_ofVal (E : Env) (v : Value) : Rel E (ofVal v) v := by
  unfold ofVal
  split
  · split
    · rename_i h1
      simp only [Rel]; exact ⟨_, by simp, relL_ofCell E _, List.all_eq_true.1 h1⟩
    · simp [Rel]
  · simp only [Rel]; exact ⟨_, by simp, relL_ofCell E _⟩
  · exact rel_ofCell E v

def shapeOf : TypeDesc → Shape
  | .int k => .int k
  | .bool => .bool
  | .string => .str
  | .slice e => .slice e
  | .array n e => .array n e
  | .struct fs => .struct (fs.toList.map fun f => (f.offset, f.type))
  | .map k v => .map k v
  | .pointer e => .ptr e
  | .func _ _ _ => .func
  | .interface _ => .iface
  | _ => .other

def tinfo (P : Program) (t : TypeId) : Option TI :=
  match P.info? t, P.underlying t with
  | some i, some d =>
    match i.zero with
    | some z => if z.cells.toList.all Value.oneCell' = true then some { agg := (match d with | .struct _ | .array _ _ => true | _ => false), sz := i.size, bytes := i.bytes, zero := z.cells.toList.map ofCell, shape := shapeOf d } else none
    | none => none
  | _, _ => none

theorem tinfo_some {P : Program} {t : TypeId} {T : TI} (h : tinfo P t = some T) : ∃ i d z, P.info? t = some i ∧ P.underlying t = some d ∧ i.zero = some z ∧ (∀ u ∈ z.cells.toList, u.oneCell' = true) ∧
    T = { agg := (match d with | .struct _ | .array _ _ => true | _ => false), sz := i.size, bytes := i.bytes, zero := z.cells.toList.map ofCell, shape := shapeOf d } := by
  unfold tinfo at h
  split at h
  · rename_i i d hi hd
    split at h
    · rename_i z hz
      split at h
      · rename_i h1
        injection h with h
        exact ⟨i, d, z, hi, hd, hz, List.all_eq_true.1 h1, h.symm⟩
      · cases h
    · cases h
  · cases h

/-! ### States -/
structure St where
  M : Mem
  μ : Nat → Option (Nat × Nat)
  ν : Nat → Option Nat
  w : World

def shOf (H : List Blk) (b : Nat) : Option (Nat × Nat) :=
  match H[b]? with
  | some (.row s _ es) => some (s, es.length)
  | _ => none
def mpOf (ν : Nat → Option Nat) (H : List Blk) (b : Nat) : Option Nat :=
  match H[b]? with
  | some (.ob _) => ν b
  | _ => none
def St.env (S : St) (H : List Blk) : Env := ⟨S.M, S.μ, shOf H, mpOf S.ν H⟩
/-- The block of the model's heap in which own block b lies. -/
def St.at (S : St) (H : List Blk) (b : Nat) : Option Nat :=
  match H[b]? with
  | some (.row _ _ _) => (S.μ b).map (·.1)
  | some (.ob _) => S.ν b
  | none => none
def St.Owns (S : St) (H : List Blk) (k : Nat) : Prop := ∃ b, S.at H b = some k

def RowIn (E : Env) (s : Nat) (es : List (List AV)) (cs : Array Value) : Prop :=
  ∀ (i : Nat) (e : List AV), es[i]? = some e → e.length = s ∧ ∀ (j : Nat) (a : AV), e[j]? = some a → ∃ v, cs[i * s + j]? = some v ∧ v.oneCell' = true ∧ Rel E a v

/-- The keys of maps: what a key's values are. -/
def MapIn (E : Env) (es : List (AV × AV)) (ents : Array MapEntry) : Prop :=
  es.length = ents.size ∧ ∀ (i : Nat) (p : AV × AV), es[i]? = some p → ∃ e, ents[i]? = some e ∧ Rel E p.1 e.key ∧ Rel E p.2 e.val

/-- What an own object that is no row has to do with the heap's. -/
def ObIn (E : Env) : OB → Obj → Prop
  | .map _ _ es, o => ∃ ents clock, o = .map ents clock ∧ MapIn E es ents
  | .loop o as vs, o' => o' = o ∧ RelL E as vs

structure St.Ok (S : St) (H : List Blk) : Prop where
  imm : ∀ k o, S.M k = some o → S.w.heap[k]? = some o
  row : ∀ b s t es, H[b]? = some (.row s t es) → (S.μ b = none ∧ es = []) ∨
    ∃ g k cs, S.μ b = some (g, k) ∧ S.M g = none ∧ S.w.heap[g]? = some (.cells cs t (0, 0)) ∧ cs.size = k * s ∧ es.length ≤ k ∧ k ≤ maxLen ∧ RowIn (S.env H) s es cs
  ob : ∀ b x, H[b]? = some (.ob x) → ∃ g o, S.ν b = some g ∧ S.M g = none ∧ S.w.heap[g]? = some o ∧ ObIn (S.env H) x o
  inj : ∀ b b' g, S.at H b = some g → S.at H b' = some g → b = b'

/-- What lasts from one state of a call to a later one: n0: the first blocks, which were there when the activation began. -/
structure Ext (n0 : Nat) (S : St) (H : List Blk) (S' : St) (H' : List Blk) : Prop where
  os : S'.w.os = S.w.os
  tape : S'.w.tape = S.w.tape
  output : S'.w.output = S.w.output
  size : S.w.heap.size ≤ S'.w.heap.size
  keep : ∀ k, k < S.w.heap.size → ¬ S.Owns H k → S'.w.heap[k]? = S.w.heap[k]?
  M : ∀ k o, S.M k = some o → S'.M k = some o
  dom : ∀ k, S'.M k ≠ none → S.M k ≠ none ∨ S.Owns H k ∨ S.w.heap.size ≤ k
  own : ∀ k, S'.Owns H' k → S.Owns H k ∨ S.w.heap.size ≤ k
  sh : ∀ b s cur, b < n0 → shOf H b = some (s, cur) → ∃ cur', cur ≤ cur' ∧ shOf H' b = some (s, cur') ∧ (cur' = cur → S'.μ b = S.μ b)
  ν : ∀ b g, b < n0 → mpOf S.ν H b = some g → mpOf S'.ν H' b = some g
  len : n0 ≤ H.length → n0 ≤ H'.length

theorem Ext.refl (n0 : Nat) (S : St) (H : List Blk) : Ext n0 S H S H :=
  ⟨rfl, rfl, rfl, Nat.le_refl _, fun _ _ _ => rfl, fun _ _ h => h, fun _ h => .inl h, fun _ h => .inl h, fun _ _ _ _ h => ⟨_, Nat.le_refl _, h, fun _ => rfl⟩, fun _ _ _ h => h, id⟩
theorem Ext.trans {n0 : Nat} {S S1 S2 : St} {H H1 H2 : List Blk} (h : Ext n0 S H S1 H1) (k : Ext n0 S1 H1 S2 H2) : Ext n0 S H S2 H2 where
  os := k.os.trans h.os
  tape := k.tape.trans h.tape
  output := k.output.trans h.output
  size := Nat.le_trans h.size k.size
  keep i hi hno := (k.keep i (Nat.lt_of_lt_of_le hi h.size) fun ho => by
    rcases h.own i ho with h' | h'
    · exact hno h'
    · omega).trans (h.keep i hi hno)
  M i o hi := k.M i o (h.M i o hi)
  dom i hi := by
    rcases k.dom i hi with h' | h' | h'
    · exact h.dom i h'
    · rcases h.own i h' with h'' | h''
      · exact .inr (.inl h'')
      · exact .inr (.inr h'')
    · exact .inr (.inr (Nat.le_trans h.size h'))
  own i hi := by
    rcases k.own i hi with h' | h'
    · exact h.own i h'
    · exact .inr (Nat.le_trans h.size h')
  sh b s cur hb hs := by
    obtain ⟨c1, l1, s1, m1⟩ := h.sh b s cur hb hs
    obtain ⟨c2, l2, s2, m2⟩ := k.sh b s c1 hb s1
    exact ⟨c2, Nat.le_trans l1 l2, s2, fun e => by
      have : c1 = cur := by omega
      subst this
      rw [m2 e, m1 rfl]⟩
  ν b g hb hg := k.ν b g hb (h.ν b g hb hg)
  len hn := k.len (h.len hn)
theorem Ext.less {n0 m0 : Nat} {S S' : St} {H H' : List Blk} (h : Ext n0 S H S' H') (hm : m0 ≤ n0) (hn : n0 ≤ H.length) : Ext m0 S H S' H' :=
  { h with
    len := fun _ => Nat.le_trans hm (h.len hn)
    sh := fun b s cur hb hs => h.sh b s cur (by omega) hs
    ν := fun b g hb hg => h.ν b g (by omega) hg }
theorem shOf_lt {H : List Blk} {b : Nat} {p : Nat × Nat} (h : shOf H b = some p) : b < H.length := by
  unfold shOf at h
  split at h
  · rename_i hb; exact (List.getElem?_eq_some_iff.1 hb).1
  · cases h
theorem mpOf_lt {ν : Nat → Option Nat} {H : List Blk} {b g : Nat} (h : mpOf ν H b = some g) : b < H.length := by
  unfold mpOf at h
  split at h
  · rename_i hb; exact (List.getElem?_eq_some_iff.1 hb).1
  · cases h
/-- The relation lasts where all blocks were there. -/
theorem Ext.le {n0 : Nat} {S S' : St} {H H' : List Blk} (h : Ext n0 S H S' H') (hn : H.length ≤ n0) : (S.env H).le (S'.env H') :=
  ⟨h.M, fun b s cur hb => h.sh b s cur (by have := shOf_lt hb; omega) hb, fun b g hb => h.ν b g (by have := mpOf_lt hb; omega) hb⟩
/-- The world alone has turned, outside of what is known. -/
def St.with (S : St) (w : World) : St := { S with w := w }
theorem St.at_with (S : St) (w : World) (H : List Blk) (b : Nat) : (S.with w).at H b = S.at H b := rfl
theorem St.env_with (S : St) (w : World) (H : List Blk) : (S.with w).env H = S.env H := rfl
theorem St.owns_with (S : St) (w : World) (H : List Blk) (k : Nat) : (S.with w).Owns H k ↔ S.Owns H k := Iff.rfl
end Go.V
namespace Go.V
open Go Go.RowKit

def AV.strip : AV → AV
  | .opt _ v => v
  | v => v
def AV.ok : AV → Bool
  | .opt g _ => g
  | _ => true
def isLen (H : List Blk) (b h : Nat) : Bool :=
  match shOf H b with
  | some (_, cur) => h == cur
  | none => false
def AV.live (H : List Blk) : AV → Bool
  | .own b _ h _ => isLen H b h
  | .ptr b _ _ h => isLen H b h
  | _ => true
def AV.cells? (H : List Blk) : AV → Option (List AV)
  | .agg cs => some cs
  | .top | .opt _ _ | .tup _ => none
  | .lit (.agg _) | .lit (.tuple _) => none
  | v => if v.live H = true then some [v] else none
def AV.ite (b : Bool) (x y : AV) : AV :=
  match x, y with
  | .bool p, .bool q => .bool (bif b then p else q)
  | _, _ => if b = true then x else y

theorem Rel.strip {E : Env} {x : AV} {v : Value} (h : Rel E x v) (hk : x.ok = true) : Rel E x.strip v := by
  cases x with
  | opt g w => simp only [Rel] at h; exact h.1 hk
  | _ => exact h
theorem Rel.ite {E : Env} {x y : AV} {u v : Value} {b : Bool} (hx : b = true → Rel E x u) (hy : b = false → Rel E y v) : Rel E (AV.ite b x y) (if b = true then u else v) := by
  unfold AV.ite
  split
  · cases b
    · have := hy rfl; simpa [Rel] using this
    · have := hx rfl; simpa [Rel] using this
  · cases b
    · simpa using hy rfl
    · simpa using hx rfl

theorem isLen_some {H : List Blk} {b h : Nat} (hl : isLen H b h = true) : ∃ s, shOf H b = some (s, h) := by
  unfold isLen at hl
  split at hl
  · rename_i s cur hs
    have : h = cur := by simpa using hl
    subst this
    exact ⟨s, hs⟩
  · cases hl
theorem rel_own {S : St} {H : List Blk} {b n h : Nat} {c : Option Nat} {v : Value} (hr : Rel (S.env H) (.own b n h c) v) (hl : isLen H b h = true) :
    ∃ s, shOf H b = some (s, h) ∧ n ≤ h ∧ ((S.μ b = none ∧ (∃ a, v = .slice a 0 0) ∧ n = 0 ∧ (c = none ∨ c = some 0)) ∨
       ∃ g k cap, S.μ b = some (g, k) ∧ v = .slice (some ⟨g, 0, none⟩) n cap ∧ n ≤ cap ∧ cap ≤ k ∧ (c = none → cap = k) ∧ (∀ j, c = some j → cap = j)) := by
  obtain ⟨s, hs⟩ := isLen_some hl
  simp only [Rel] at hr
  obtain ⟨s', cur, h1, h2, h3⟩ := hr
  have h1 : shOf H b = some (s', cur) := h1
  rw [hs] at h1; injection h1 with h1; injection h1 with e1 e2; subst e1; subst e2
  exact ⟨s, hs, h3 rfl⟩
theorem rel_ptr {S : St} {H : List Blk} {b i o h : Nat} {v : Value} (hr : Rel (S.env H) (.ptr b i o h) v) (hl : isLen H b h = true) :
    ∃ s g k, shOf H b = some (s, h) ∧ S.μ b = some (g, k) ∧ v = .pointer (some ⟨g, i * s + o, none⟩) := by
  obtain ⟨s, hs⟩ := isLen_some hl
  simp only [Rel] at hr
  obtain ⟨s', cur, h1, h2, h3⟩ := hr
  have h1 : shOf H b = some (s', cur) := h1
  rw [hs] at h1; injection h1 with h1; injection h1 with e1 e2; subst e1; subst e2
  obtain ⟨g, k, hg, hv⟩ := h3 rfl
  exact ⟨s, g, k, hs, hg, hv⟩
theorem rel_own_mk {S : St} {H : List Blk} {b n h s : Nat} {c : Option Nat} {v : Value} (hs : shOf H b = some (s, h)) (hn : n ≤ h)
    (hc : (S.μ b = none ∧ (∃ a, v = .slice a 0 0) ∧ n = 0 ∧ (c = none ∨ c = some 0)) ∨
       ∃ g k cap, S.μ b = some (g, k) ∧ v = .slice (some ⟨g, 0, none⟩) n cap ∧ n ≤ cap ∧ cap ≤ k ∧ (c = none → cap = k) ∧ (∀ j, c = some j → cap = j)) : Rel (S.env H) (.own b n h c) v := by
  simp only [Rel]
  exact ⟨s, h, hs, Nat.le_refl _, fun _ => ⟨hn, hc⟩⟩
theorem rel_ptr_mk {S : St} {H : List Blk} {b i o h s g k : Nat} {v : Value} (hs : shOf H b = some (s, h)) (hg : S.μ b = some (g, k)) (hv : v = .pointer (some ⟨g, i * s + o, none⟩)) : Rel (S.env H) (.ptr b i o h) v := by
  simp only [Rel]
  exact ⟨s, h, hs, Nat.le_refl _, fun _ => ⟨g, k, hg, hv⟩⟩
theorem shOf_row {H : List Blk} {b s n : Nat} (h : shOf H b = some (s, n)) : ∃ t es, H[b]? = some (.row s t es) ∧ es.length = n := by
  unfold shOf at h
  split at h
  · rename_i s' t es hb
    injection h with h; injection h with h1 h2; subst h1; exact ⟨t, es, hb, h2⟩
  · cases h
theorem shOf_of {H : List Blk} {b s : Nat} {t : TypeId} {es : List (List AV)} (h : H[b]? = some (.row s t es)) : shOf H b = some (s, es.length) := by simp [shOf, h]

theorem oneCell_of_rel {S : St} {H : List Blk} {x : AV} {v : Value} {cs : List AV} (h : Rel (S.env H) x v) (hc : x.cells? H = some cs) : RelL (S.env H) cs v.cells.toList ∧ ∀ u ∈ v.cells.toList, u.oneCell' = true := by
  have one : ∀ (w : Value), w.cells = #[w] → w.oneCell' = true → v = w → x.cells? H = some [x] → RelL (S.env H) cs v.cells.toList ∧ ∀ u ∈ v.cells.toList, u.oneCell' = true := by
    intro w h1 h2 hv hx
    subst hv
    rw [hx] at hc; injection hc with hc; subst hc
    rw [h1]
    refine ⟨?_, fun u hu => by simp at hu; subst hu; exact h2⟩
    simp only [RelL]
    exact ⟨v, [], rfl, h, rfl⟩
  cases x with
  | agg as =>
    simp only [AV.cells?] at hc
    injection hc with hc; subst hc
    simp only [Rel] at h
    obtain ⟨vs, rfl, hl, h1⟩ := h
    exact ⟨by simpa [Value.cells] using hl, by simpa [Value.cells] using h1⟩
  | anyb =>
    simp only [Rel] at h
    obtain ⟨b, rfl⟩ := h
    exact one _ rfl rfl rfl rfl
  | anyi k =>
    simp only [Rel] at h
    obtain ⟨n, rfl⟩ := h
    exact one _ rfl rfl rfl rfl
  | err =>
    simp only [Rel] at h
    obtain ⟨t, u, rfl⟩ := h
    exact one _ rfl rfl rfl rfl
  | top => simp [AV.cells?] at hc
  | opt g w => simp [AV.cells?] at hc
  | tup as => simp [AV.cells?] at hc
  | int k n => exact one _ rfl rfl (by simpa [Rel] using h) rfl
  | bool b => exact one _ rfl rfl (by simpa [Rel] using h) rfl
  | str s => exact one _ rfl rfl (by simpa [Rel] using h) rfl
  | sl s es c =>
    have hx := h
    simp only [Rel] at hx
    obtain ⟨a, cap, hv, _⟩ := hx
    exact one _ rfl rfl hv rfl
  | own b n hh c =>
    by_cases hl : isLen H b hh = true
    · have hx : (AV.own b n hh c).cells? H = some [AV.own b n hh c] := by simp [AV.cells?, AV.live, hl]
      obtain ⟨s, hs, _, h3⟩ := rel_own h hl
      rcases h3 with ⟨_, hv, _⟩ | ⟨g, k, cap, _, hv, _⟩
      · obtain ⟨a0, hv⟩ := hv; exact one _ rfl rfl hv hx
      · exact one _ rfl rfl hv hx
    · simp [AV.cells?, AV.live, hl] at hc
  | ptr b i o hh =>
    by_cases hl : isLen H b hh = true
    · have hx : (AV.ptr b i o hh).cells? H = some [AV.ptr b i o hh] := by simp [AV.cells?, AV.live, hl]
      obtain ⟨s, g, k, _, _, hv⟩ := rel_ptr h hl
      exact one _ rfl rfl hv hx
    · simp [AV.cells?, AV.live, hl] at hc
  | iptr cs o =>
    have hx := h
    simp only [Rel] at hx
    obtain ⟨g, off, hv, _⟩ := hx
    exact one _ rfl rfl hv rfl
  | fn f cap =>
    have hx := h
    simp only [Rel] at hx
    obtain ⟨vs, hv, _⟩ := hx
    exact one _ rfl rfl hv rfl
  | mp b =>
    have hx := h
    simp only [Rel] at hx
    obtain ⟨g, _, hv⟩ := hx
    exact one _ rfl rfl hv rfl
  | yld b =>
    have hx := h
    simp only [Rel] at hx
    obtain ⟨g, _, hv⟩ := hx
    exact one _ rfl rfl hv rfl
  | lit u =>
    have hv : v = u := by simpa [Rel] using h
    cases u with
    | agg _ => simp [AV.cells?] at hc
    | tuple _ => simp [AV.cells?] at hc
    | _ => exact one _ rfl rfl hv rfl
end Go.V

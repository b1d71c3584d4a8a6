/- The library V, part 6: the pure operations yield what V4 says (arithmetic, comparison, slices, composite values). -/
import Derived.Calls
import Derived.Orders
import Derived.Laws.Entries
import Derived.Laws.AppendOwn
import Derived.Laws.MakeOwn
import Derived.Laws.Rows
import Derived.Below
import Derived.Laws.StructEq
import Derived.ChangeKeysEq
import Derived.Laws.Slices
import Derived.Laws.Unary
namespace Go.V
open Go Go.RowKit
abbrev Mem := Nat → Option Obj
inductive AV where
 | int (k : IntKind) (n : Int)
 | bool (b : Bool)
 | str (s : List UInt8)
 | agg (cs : List AV)
 | tup (cs : List AV)
 | sl (s : Nat) (es : List (List AV)) (c : Option Nat)
 | own (b n h : Nat) (c : Option Nat)
 | ptr (b i o h : Nat)
 | iptr (cs : List AV) (o : Nat)
 | fn (f : FuncId) (cap : List AV)
 | mp (b : Nat)
 | opt (g : Bool) (v : AV)
 | lit (v : Value)
 | anyb
 | anyi (k : IntKind)
 | err
 | top
 | yld (b : Nat)
 | bnd (f : FuncId) (fst : List AV)
 | sub (b i n h : Nat)
 deriving Inhabited
inductive OB where
 | map (kt vt : TypeId) (es : List (AV × AV))
 | loop (o : Obj) (as : List AV) (vs : List Value)
 deriving Inhabited
inductive Blk where
 | row (s : Nat) (t : TypeId) (es : List (List AV))
 | ob (o : OB)
 deriving Inhabited
structure Env where
 M : Mem
 μ : Nat → Option (Nat × Nat)
 sh : Nat → Option (Nat × Nat)
 ν : Nat → Option Nat
def qx0 (M : Mem) (g off : Nat) : Option Value :=
 match M g with
 | some (.cells c _ _) => c[off]?
 | _ => none
mutual
def Rel (E : Env) : AV → Value → Prop
 | .int k n, v => v = .int k n
 | .bool b, v => v = .bool b
 | .str s, v => v = .string ⟨s.toArray⟩
 | .agg cs, v => ∃ vs : List Value, v = .agg vs.toArray ∧ RelL E cs vs ∧ ∀ u ∈ vs, u.oneCell' = true
 | .tup cs, v => ∃ vs : List Value, v = .tuple vs.toArray ∧ RelL E cs vs
 | .sl s es c, v => ∃ (a : Option Addr) (cap : Nat), v = .slice a es.length cap ∧ es.length ≤ cap ∧ cap ≤ maxLen ∧ (∀ k, c = some k → cap = k) ∧
   (es = [] ∨ ∃ g off, a = some ⟨g, off, none⟩ ∧ RelE E s es g off)
 | .own b n h c, v => ∃ s cur, E.sh b = some (s, cur) ∧ h ≤ cur ∧ (h = cur → n ≤ h ∧
   ((E.μ b = none ∧ (∃ a, v = .slice a 0 0) ∧ n = 0 ∧ (c = none ∨ c = some 0)) ∨
    ∃ g k cap, E.μ b = some (g, k) ∧ v = .slice (some ⟨g, 0, none⟩) n cap ∧ n ≤ cap ∧ cap ≤ k ∧ (c = none → cap = k) ∧ (∀ j, c = some j → cap = j)))
 | .ptr b i o h, v => ∃ s cur, E.sh b = some (s, cur) ∧ h ≤ cur ∧ (h = cur → ∃ g k, E.μ b = some (g, k) ∧ v = .pointer (some ⟨g, i * s + o, none⟩))
 | .iptr cs o, v => ∃ g off, v = .pointer (some ⟨g, off + o, none⟩) ∧ RelC E cs g off
 | .fn f cap, v => ∃ vs : List Value, v = .func (.func f) #[] vs.toArray ∧ RelL E cap vs
 | .bnd f fst, v => ∃ vs : List Value, v = .func (.func f) vs.toArray #[] ∧ RelL E fst vs
 | .sub b i n h, v => ∃ s cur, E.sh b = some (s, cur) ∧ h ≤ cur ∧ (h = cur → i + n ≤ h ∧ ∃ g k cap, E.μ b = some (g, k) ∧ v = .slice (some ⟨g, i * s, none⟩) n cap)
 | .mp b, v => ∃ g, E.ν b = some g ∧ v = .map (some g)
 | .opt g w, v => (g = true → Rel E w v) ∧ (g = false → v = undef)
 | .lit u, v => v = u
 | .anyb, v => ∃ b : Bool, v = .bool b
 | .anyi k, v => ∃ n : Int, v = .int k n
 | .err, v => ∃ (t : TypeId) (u : Value), v = .iface t u
 | .top, _ => True
 | .yld b, v => ∃ g, E.ν b = some g ∧ v = .func (.yield g) #[] #[]
def RelL (E : Env) : List AV → List Value → Prop
 | [], vs => vs = []
 | a :: as, vs => ∃ u us, vs = u :: us ∧ Rel E a u ∧ RelL E as us
def RelC (E : Env) : List AV → Nat → Nat → Prop
 | [], _, _ => True
 | a :: as, g, off => (∃ u, qx0 E.M g off = some u ∧ u.oneCell' = true ∧ Rel E a u) ∧ RelC E as g (off + 1)
def RelE (E : Env) (s : Nat) : List (List AV) → Nat → Nat → Prop
 | [], _, _ => True
 | e :: es, g, off => e.length = s ∧ RelC E e g off ∧ RelE E s es g (off + s)
end
structure Env.le (E E' : Env) : Prop where
 M : ∀ k o, E.M k = some o → E'.M k = some o
 sh : ∀ b s cur, E.sh b = some (s, cur) → ∃ cur', cur ≤ cur' ∧ E'.sh b = some (s, cur') ∧ (cur' = cur → E'.μ b = E.μ b)
 ν : ∀ b g, E.ν b = some g → E'.ν b = some g
theorem Env.le.refl (E : Env) : E.le E := ⟨fun _ _ h => h, fun _ _ _ h => ⟨_, Nat.le_refl _, h, fun _ => rfl⟩, fun _ _ h => h⟩
theorem Env.le.trans {A B C : Env} (h : A.le B) (k : B.le C) : A.le C :=
 ⟨fun i o hi => k.M i o (h.M i o hi), fun b s cur hb => by
  obtain ⟨c1, l1, s1, m1⟩ := h.sh b s cur hb;obtain ⟨c2, l2, s2, m2⟩ := k.sh b s c1 s1;exact ⟨c2, Nat.le_trans l1 l2, s2, fun e => by
   have : c1 = cur := by omega
   subst this;rw [m2 e, m1 rfl]⟩, fun b g hb => k.ν b g (h.ν b g hb)⟩
theorem xaB9 {M M' : Mem} (h : ∀ k o, M k = some o → M' k = some o) {g off : Nat} {v : Value} (hv : qx0 M g off = some v) : qx0 M' g off = some v := by
 unfold qx0 at *;cases ho : M g with
 | none => simp [ho] at hv
 | some o => rw [h g o ho]; simpa [ho] using hv
mutual
theorem Rel.mono {E E' : Env} (h : E.le E') : ∀ (a : AV) (v : Value), Rel E a v → Rel E' a v
 | .int k n, v, hr => by simpa [Rel] using hr
 | .bool b, v, hr => by simpa [Rel] using hr
 | .str s, v, hr => by simpa [Rel] using hr
 | .agg cs, v, hr => by
  simp only [Rel] at hr ⊢;obtain ⟨vs, hv, hl, h1⟩ := hr;exact ⟨vs, hv, RelL.mono h cs vs hl, h1⟩
 | .tup cs, v, hr => by
  simp only [Rel] at hr ⊢;obtain ⟨vs, hv, hl⟩ := hr;exact ⟨vs, hv, RelL.mono h cs vs hl⟩
 | .sl s es c, v, hr => by
  simp only [Rel] at hr ⊢;obtain ⟨a, cap, hv, h1, h2, h3, h4⟩ := hr;refine ⟨a, cap, hv, h1, h2, h3, ?_⟩;rcases h4 with h4|⟨g, off, ha, he⟩
  ·exact .inl h4
  ·exact .inr ⟨g, off, ha, RelE.mono h s es g off he⟩
 | .own b n hh c, v, hr => by
  simp only [Rel] at hr ⊢;obtain ⟨s, cur, h1, h2, h3⟩ := hr;obtain ⟨cur', l, s', m⟩ := h.sh b s cur h1;refine ⟨s, cur', s', by omega, fun e => ?_⟩;have : cur' = cur := by omega
  rw [m this];exact h3 (by omega)
 | .ptr b i o hh, v, hr => by
  simp only [Rel] at hr ⊢;obtain ⟨s, cur, h1, h2, h3⟩ := hr;obtain ⟨cur', l, s', m⟩ := h.sh b s cur h1;refine ⟨s, cur', s', by omega, fun e => ?_⟩;have : cur' = cur := by omega
  rw [m this];exact h3 (by omega)
 | .iptr cs o, v, hr => by
  simp only [Rel] at hr ⊢;obtain ⟨g, off, hv, hc⟩ := hr;exact ⟨g, off, hv, RelC.mono h cs g off hc⟩
 | .fn f cap, v, hr => by
  simp only [Rel] at hr ⊢;obtain ⟨vs, hv, hl⟩ := hr;exact ⟨vs, hv, RelL.mono h cap vs hl⟩
 | .bnd f cap, v, hr => by
  simp only [Rel] at hr ⊢;obtain ⟨vs, hv, hl⟩ := hr;exact ⟨vs, hv, RelL.mono h cap vs hl⟩
 | .sub b i n hh, v, hr => by
  simp only [Rel] at hr ⊢;obtain ⟨s, cur, h1, h2, h3⟩ := hr;obtain ⟨cur', l, s', m⟩ := h.sh b s cur h1;refine ⟨s, cur', s', by omega, fun e => ?_⟩;have : cur' = cur := by omega
  rw [m this];exact h3 (by omega)
 | .mp b, v, hr => by
  simp only [Rel] at hr ⊢;obtain ⟨g, h1, h2⟩ := hr;exact ⟨g, h.ν b g h1, h2⟩
 | .opt g w, v, hr => by
  simp only [Rel] at hr ⊢;exact ⟨fun hg => Rel.mono h w v (hr.1 hg), hr.2⟩
 | .lit u, v, hr => by simpa [Rel] using hr
 | .anyb, v, hr => by simpa [Rel] using hr
 | .anyi k, v, hr => by simpa [Rel] using hr
 | .err, v, hr => by simpa [Rel] using hr
 | .top, v, hr => by simp [Rel]
 | .yld b, v, hr => by
  simp only [Rel] at hr ⊢;obtain ⟨g, h1, h2⟩ := hr;exact ⟨g, h.ν b g h1, h2⟩
theorem RelL.mono {E E' : Env} (h : E.le E') : ∀ (as : List AV) (vs : List Value), RelL E as vs → RelL E' as vs
 | [], vs, hr => by simpa [RelL] using hr
 | a :: as, vs, hr => by
  simp only [RelL] at hr ⊢;obtain ⟨u, us, hv, h1, h2⟩ := hr;exact ⟨u, us, hv, Rel.mono h a u h1, RelL.mono h as us h2⟩
theorem RelC.mono {E E' : Env} (h : E.le E') : ∀ (as : List AV) (g off : Nat), RelC E as g off → RelC E' as g off
 | [], g, off, hr => by simp [RelC]
 | a :: as, g, off, hr => by
  simp only [RelC] at hr ⊢;obtain ⟨⟨u, hu, h1, hr1⟩, hr2⟩ := hr;exact ⟨⟨u, xaB9 h.M hu, h1, Rel.mono h a u hr1⟩, RelC.mono h as g (off + 1) hr2⟩
theorem RelE.mono {E E' : Env} (h : E.le E') (s : Nat) : ∀ (es : List (List AV)) (g off : Nat), RelE E s es g off → RelE E' s es g off
 | [], g, off, hr => by simp [RelE]
 | e :: es, g, off, hr => by
  simp only [RelE] at hr ⊢;exact ⟨hr.1, RelC.mono h e g off hr.2.1, RelE.mono h s es g (off + s) hr.2.2⟩
end
section lists
variable {E : Env}
theorem RelL.length : ∀ {as : List AV} {vs : List Value}, RelL E as vs → as.length = vs.length
 | [], vs, h => by simp only [RelL] at h; subst h; rfl
 | a :: as, vs, h => by
  simp only [RelL] at h;obtain ⟨u, us, rfl, _, h2⟩ := h;simp [RelL.length h2]
theorem RelL.get : ∀ {as : List AV} {vs : List Value}, RelL E as vs → ∀ {i : Nat} {a : AV}, as[i]? = some a → ∃ v, vs[i]? = some v ∧ Rel E a v
 | [], vs, _, i, a, hi => by simp at hi
 | x :: as, vs, h, i, a, hi => by
  simp only [RelL] at h;obtain ⟨u, us, rfl, h1, h2⟩ := h;cases i with
  | zero => simp at hi; subst hi; exact ⟨u, rfl, h1⟩
  | succ i => simpa using RelL.get h2 (by simpa using hi)
theorem RelL.mk : ∀ {as : List AV} {vs : List Value}, as.length = vs.length → (∀ (i : Nat) (a : AV) (v : Value), as[i]? = some a → vs[i]? = some v → Rel E a v) → RelL E as vs
 | [], vs, hl, _ => by
  have : vs = [] := List.eq_nil_of_length_eq_zero (by simpa using hl.symm);simp [RelL, this]
 | a :: as, [], hl, _ => by simp at hl
 | a :: as, v :: vs, hl, h => by
  simp only [RelL];exact ⟨v, vs, rfl, h 0 a v rfl rfl, RelL.mk (by simpa using hl) fun i a v h1 h2 => h (i + 1) a v (by simpa using h1) (by simpa using h2)⟩
theorem RelL.set {as : List AV} {vs : List Value} (h : RelL E as vs) (i : Nat) {a : AV} {v : Value} (hr : Rel E a v) : RelL E (as.set i a) (vs.set i v) := by
 refine RelL.mk (by simpa using h.length) fun j b u hb hu => ?_;rw [List.getElem?_set] at hb hu;by_cases hij : i = j
 ·subst hij;have hl := h.length;simp only [if_true] at hb hu;split at hb
  ·split at hu
   ·injection hb with hb; injection hu with hu; subst hb; subst hu; exact hr
   ·cases hu
  ·cases hb
 ·simp only [if_neg hij] at hb hu;obtain ⟨v', hv', hr'⟩ := h.get hb;rw [hu] at hv'; injection hv' with hv'; subst hv'; exact hr'
theorem RelL.append {as bs : List AV} {us vs : List Value} (h : RelL E as us) (k : RelL E bs vs) : RelL E (as ++ bs) (us ++ vs) := by
 have h1 := h.length;have h2 := k.length;refine RelL.mk (by simp [h1, h2]) fun i a v ha hv => ?_;by_cases hi : i < as.length
 ·rw [List.getElem?_append_left hi] at ha;rw [List.getElem?_append_left (by omega)] at hv;obtain ⟨v', hv', hr'⟩ := h.get ha;rw [hv] at hv'; injection hv' with hv'; subst hv'; exact hr'
 ·rw [List.getElem?_append_right (by omega)] at ha;rw [List.getElem?_append_right (by omega)] at hv;obtain ⟨v', hv', hr'⟩ := k.get ha;rw [h1, hv] at hv'; injection hv' with hv'; subst hv'; exact hr'
theorem RelL.take {as : List AV} {vs : List Value} (h : RelL E as vs) (n : Nat) : RelL E (as.take n) (vs.take n) := by
 refine RelL.mk (by simp [h.length]) fun i a v ha hv => ?_;rw [List.getElem?_take] at ha hv;split at ha
 ·rename_i hlt;rw [if_pos hlt] at hv;obtain ⟨v', hv', hr'⟩ := h.get ha;rw [hv] at hv'; injection hv' with hv'; subst hv'; exact hr'
 ·cases ha
theorem RelL.drop {as : List AV} {vs : List Value} (h : RelL E as vs) (n : Nat) : RelL E (as.drop n) (vs.drop n) := by
 refine RelL.mk (by simp [h.length]) fun i a v ha hv => ?_;rw [List.getElem?_drop] at ha hv;obtain ⟨v', hv', hr'⟩ := h.get ha;rw [hv] at hv'; injection hv' with hv'; subst hv'; exact hr'
theorem RelL.replicate {a : AV} {v : Value} (h : Rel E a v) (n : Nat) : RelL E (List.replicate n a) (List.replicate n v) := by
 refine RelL.mk (by simp) fun i b u hb hu => ?_;rw [List.getElem?_replicate] at hb hu;split at hb
 ·rename_i hlt;rw [if_pos hlt] at hu;injection hb with hb; injection hu with hu; subst hb; subst hu; exact h
 ·cases hb
theorem RelC.get : ∀ {as : List AV} {g off : Nat}, RelC E as g off → ∀ {j : Nat} {a : AV}, as[j]? = some a → ∃ v, qx0 E.M g (off + j) = some v ∧ v.oneCell' = true ∧ Rel E a v
 | [], _, _, _, j, a, hj => by simp at hj
 | x :: as, g, off, h, j, a, hj => by
  simp only [RelC] at h;obtain ⟨⟨u, hu, h1, hr⟩, h2⟩ := h;cases j with
  | zero => simp at hj; subst hj; exact ⟨u, hu, h1, hr⟩
  | succ j =>
   have := RelC.get h2 (j := j) (by simpa using hj)
   rwa [show off + 1 + j = off + (j + 1) from by omega] at this
theorem RelC.mk : ∀ {as : List AV} {g off : Nat}, (∀ (j : Nat) (a : AV), as[j]? = some a → ∃ v, qx0 E.M g (off + j) = some v ∧ v.oneCell' = true ∧ Rel E a v) → RelC E as g off
 | [], _, _, _ => by simp [RelC]
 | x :: as, g, off, h => by
  simp only [RelC];refine ⟨by simpa using h 0 x rfl, RelC.mk fun j a hj => ?_⟩;have := h (j + 1) a (by simpa using hj)
  rwa [show off + (j + 1) = off + 1 + j from by omega] at this
theorem RelE.get {s : Nat} : ∀ {es : List (List AV)} {g off : Nat}, RelE E s es g off → ∀ {i : Nat} {e : List AV}, es[i]? = some e → e.length = s ∧ RelC E e g (off + i * s)
 | [], _, _, _, i, e, hi => by simp at hi
 | x :: es, g, off, h, i, e, hi => by
  simp only [RelE] at h;obtain ⟨h1, h2, h3⟩ := h;cases i with
  | zero => simp at hi; subst hi; exact ⟨h1, by simpa using h2⟩
  | succ i =>
   have := RelE.get h3 (i := i) (by simpa using hi)
   rwa [show off + s + i * s = off + (i + 1) * s from by rw [Nat.add_mul]; omega] at this
theorem RelE.mk {s : Nat} : ∀ {es : List (List AV)} {g off : Nat}, (∀ (i : Nat) (e : List AV), es[i]? = some e → e.length = s ∧ RelC E e g (off + i * s)) → RelE E s es g off
 | [], _, _, _ => by simp [RelE]
 | x :: es, g, off, h => by
  simp only [RelE];refine ⟨(h 0 x rfl).1, by simpa using (h 0 x rfl).2, RelE.mk fun i e hi => ?_⟩;have := h (i + 1) e (by simpa using hi)
  rwa [show off + (i + 1) * s = off + s + i * s from by rw [Nat.add_mul]; omega] at this
end lists
inductive qco9 where
 | int (k : IntKind)|bool|str|slice (e : TypeId)|array (n : Nat) (e : TypeId)|struct (fs : List (Nat × TypeId))|map (k v : TypeId)|ptr (e : TypeId)|func|iface|other
 deriving Inhabited
structure TI where
 agg : Bool
 sz : Nat
 bytes : Nat
 zero : List AV
 shape : qco9
 deriving Inhabited
def vA0 : Value → AV
 | .int k n => .int k n
 | .bool b => .bool b
 | .string s => .str s.data.toList
 | .slice none 0 0 => .sl 0 [] (some 0)
 | v => .lit v
def qT0 : Value → AV
 | .agg cs => if cs.toList.all Value.oneCell' = true then .agg (cs.toList.map vA0) else .top
 | .tuple cs => .tup (cs.toList.map vA0)
 | v => vA0 v
theorem wad9 (E : Env) (v : Value) : Rel E (vA0 v) v := by
 unfold vA0;split <;> simp [Rel, maxLen]
theorem kl0 (E : Env) (vs : List Value) : RelL E (vs.map vA0) vs :=
 RelL.mk (by simp) fun i a v ha hv => by
  rw [List.getElem?_map, hv] at ha;injection ha with ha; subst ha; exact wad9 E v
theorem kaR9 (E : Env) (v : Value) : Rel E (qT0 v) v := by
 unfold qT0;split
 ·split
  ·rename_i h1;simp only [Rel]; exact ⟨_, by simp, kl0 E _, List.all_eq_true.1 h1⟩
  ·simp [Rel]
 ·simp only [Rel]; exact ⟨_, by simp, kl0 E _⟩
 ·exact wad9 E v
def zx0 : TypeDesc → qco9
 | .int k => .int k
 | .bool => .bool
 | .string => .str
 | .slice e => .slice e
 | .array n e => .array n e
 | .struct fs => .struct (fs.toList.map fun f => (f.offset, f.type))
 | .map k v => .map k v
 | .pointer e => .ptr e
 | .func _ _ _ => .func
 | .interface _ => .iface
 | _ => .other
def kc0 (P : Program) (t : TypeId) : Option TI :=
 match P.info? t, P.underlying t with
 | some i, some d =>
  match i.zero with
  | some z => if z.cells.toList.all Value.oneCell' = true then some { agg := (match d with|.struct _|.array _ _ => true|_ => false), sz := i.size, bytes := i.bytes, zero := z.cells.toList.map vA0, shape := zx0 d } else none
  | none => none
 | _, _ => none
theorem ve0 {P : Program} {t : TypeId} {T : TI} (h : kc0 P t = some T) : ∃ i d z, P.info? t = some i ∧ P.underlying t = some d ∧ i.zero = some z ∧ (∀ u ∈ z.cells.toList, u.oneCell' = true) ∧
  T = { agg := (match d with|.struct _|.array _ _ => true|_ => false), sz := i.size, bytes := i.bytes, zero := z.cells.toList.map vA0, shape := zx0 d } := by
 unfold kc0 at h;split at h
 ·rename_i i d hi hd;split at h
  ·rename_i z hz;split at h
   ·rename_i h1;injection h with h
    exact ⟨i, d, z, hi, hd, hz, List.all_eq_true.1 h1, h.symm⟩
   ·cases h
  ·cases h
 ·cases h
structure St where
 M : Mem
 μ : Nat → Option (Nat × Nat)
 ν : Nat → Option Nat
 w : World
def shOf (H : List Blk) (b : Nat) : Option (Nat × Nat) :=
 match H[b]? with
 | some (.row s _ es) => some (s, es.length)
 | _ => none
def mpOf (ν : Nat → Option Nat) (H : List Blk) (b : Nat) : Option Nat :=
 match H[b]? with
 | some (.ob _) => ν b
 | _ => none
def St.env (S : St) (H : List Blk) : Env := ⟨S.M, S.μ, shOf H, mpOf S.ν H⟩
def St.at (S : St) (H : List Blk) (b : Nat) : Option Nat :=
 match H[b]? with
 | some (.row _ _ _) => (S.μ b).map (·.1)
 | some (.ob _) => S.ν b
 | none => none
def St.Owns (S : St) (H : List Blk) (k : Nat) : Prop := ∃ b, S.at H b = some k
def RowIn (E : Env) (s : Nat) (es : List (List AV)) (cs : Array Value) : Prop :=
 ∀ (i : Nat) (e : List AV), es[i]? = some e → e.length = s ∧ ∀ (j : Nat) (a : AV), e[j]? = some a → ∃ v, cs[i * s + j]? = some v ∧ v.oneCell' = true ∧ Rel E a v
def MapIn (E : Env) (es : List (AV × AV)) (ents : Array MapEntry) : Prop :=
 es.length = ents.size ∧ ∀ (i : Nat) (p : AV × AV), es[i]? = some p → ∃ e, ents[i]? = some e ∧ Rel E p.1 e.key ∧ Rel E p.2 e.val
def ObIn (E : Env) : OB → Obj → Prop
 | .map _ _ es, o => ∃ ents clock, o = .map ents clock ∧ MapIn E es ents
 | .loop o as vs, o' => o' = o ∧ RelL E as vs
def zco9 : TypeId := 0
structure St.Ok (S : St) (H : List Blk) : Prop where
 imm : ∀ k o, S.M k = some o → S.w.heap[k]? = some o
 row : ∀ b s t es, H[b]? = some (.row s t es) → (S.μ b = none ∧ (es = [] ∨ t = zco9)) ∨
  ∃ g k cs, S.μ b = some (g, k) ∧ S.M g = none ∧ S.w.heap[g]? = some (.cells cs t (0, 0)) ∧ cs.size = k * s ∧ es.length ≤ k ∧ k ≤ maxLen ∧ RowIn (S.env H) s es cs
 ob : ∀ b x, H[b]? = some (.ob x) → ∃ g o, S.ν b = some g ∧ S.M g = none ∧ S.w.heap[g]? = some o ∧ ObIn (S.env H) x o
 inj : ∀ b b' g, S.at H b = some g → S.at H b' = some g → b = b'
structure Ext (n0 : Nat) (S : St) (H : List Blk) (S' : St) (H' : List Blk) : Prop where
 os : S'.w.os = S.w.os
 tape : S'.w.tape = S.w.tape
 output : S'.w.output = S.w.output
 size : S.w.heap.size ≤ S'.w.heap.size
 keep : ∀ k, k < S.w.heap.size → ¬ S.Owns H k → S'.w.heap[k]? = S.w.heap[k]?
 M : ∀ k o, S.M k = some o → S'.M k = some o
 dom : ∀ k, S'.M k ≠ none → S.M k ≠ none ∨ S.Owns H k ∨ S.w.heap.size ≤ k
 own : ∀ k, S'.Owns H' k → S.Owns H k ∨ S.w.heap.size ≤ k
 sh : ∀ b s cur, b < n0 → shOf H b = some (s, cur) → ∃ cur', cur ≤ cur' ∧ shOf H' b = some (s, cur') ∧ (cur' = cur → S'.μ b = S.μ b)
 ν : ∀ b g, b < n0 → mpOf S.ν H b = some g → mpOf S'.ν H' b = some g
 len : n0 ≤ H.length → n0 ≤ H'.length
theorem Ext.refl (n0 : Nat) (S : St) (H : List Blk) : Ext n0 S H S H :=
 ⟨rfl, rfl, rfl, Nat.le_refl _, fun _ _ _ => rfl, fun _ _ h => h, fun _ h => .inl h, fun _ h => .inl h, fun _ _ _ _ h => ⟨_, Nat.le_refl _, h, fun _ => rfl⟩, fun _ _ _ h => h, id⟩
theorem Ext.trans {n0 : Nat} {S S1 S2 : St} {H H1 H2 : List Blk} (h : Ext n0 S H S1 H1) (k : Ext n0 S1 H1 S2 H2) : Ext n0 S H S2 H2 where
 os := k.os.trans h.os
 tape := k.tape.trans h.tape
 output := k.output.trans h.output
 size := Nat.le_trans h.size k.size
 keep i hi hno := (k.keep i (Nat.lt_of_lt_of_le hi h.size) fun ho => by
  rcases h.own i ho with h'|h'
  ·exact hno h'
  ·omega).trans (h.keep i hi hno)
 M i o hi := k.M i o (h.M i o hi)
 dom i hi := by
  rcases k.dom i hi with h'|h'|h'
  ·exact h.dom i h'
  ·rcases h.own i h' with h''|h''
   ·exact .inr (.inl h'')
   ·exact .inr (.inr h'')
  ·exact .inr (.inr (Nat.le_trans h.size h'))
 own i hi := by
  rcases k.own i hi with h'|h'
  ·exact h.own i h'
  ·exact .inr (Nat.le_trans h.size h')
 sh b s cur hb hs := by
  obtain ⟨c1, l1, s1, m1⟩ := h.sh b s cur hb hs;obtain ⟨c2, l2, s2, m2⟩ := k.sh b s c1 hb s1;exact ⟨c2, Nat.le_trans l1 l2, s2, fun e => by
   have : c1 = cur := by omega
   subst this;rw [m2 e, m1 rfl]⟩
 ν b g hb hg := k.ν b g hb (h.ν b g hb hg)
 len hn := k.len (h.len hn)
theorem Ext.less {n0 m0 : Nat} {S S' : St} {H H' : List Blk} (h : Ext n0 S H S' H') (hm : m0 ≤ n0) (hn : n0 ≤ H.length) : Ext m0 S H S' H' :=
 { h with
  len := fun _ => Nat.le_trans hm (h.len hn)
  sh := fun b s cur hb hs => h.sh b s cur (by omega) hs
  ν := fun b g hb hg => h.ν b g (by omega) hg }
theorem qbh9 {H : List Blk} {b : Nat} {p : Nat × Nat} (h : shOf H b = some p) : b < H.length := by
 unfold shOf at h;split at h
 ·rename_i hb; exact (List.getElem?_eq_some_iff.1 hb).1
 ·cases h
theorem zbh9 {ν : Nat → Option Nat} {H : List Blk} {b g : Nat} (h : mpOf ν H b = some g) : b < H.length := by
 unfold mpOf at h;split at h
 ·rename_i hb; exact (List.getElem?_eq_some_iff.1 hb).1
 ·cases h
theorem Ext.le {n0 : Nat} {S S' : St} {H H' : List Blk} (h : Ext n0 S H S' H') (hn : H.length ≤ n0) : (S.env H).le (S'.env H') :=
 ⟨h.M, fun b s cur hb => h.sh b s cur (by have := qbh9 hb; omega) hb, fun b g hb => h.ν b g (by have := zbh9 hb; omega) hb⟩
def St.with (S : St) (w : World) : St := { S with w := w }
def AV.strip : AV → AV
 | .opt _ v => v
 | v => v
def AV.ok : AV → Bool
 | .opt g _ => g
 | _ => true
def zj0 (H : List Blk) (b h : Nat) : Bool :=
 match shOf H b with
 | some (_, cur) => h == cur
 | none => false
def AV.live (H : List Blk) : AV → Bool
 | .own b _ h _ => zj0 H b h
 | .ptr b _ _ h => zj0 H b h
 | .sub .. => false
 | _ => true
def AV.cells? (H : List Blk) : AV → Option (List AV)
 | .agg cs => some cs
 | .top|.opt _ _|.tup _ => none
 | .lit (.agg _)|.lit (.tuple _) => none
 | v => if v.live H = true then some [v] else none
def AV.ite (b : Bool) (x y : AV) : AV :=
 match x, y with
 | .bool p, .bool q => .bool (bif b then p else q)
 | _, _ => if b = true then x else y
theorem Rel.strip {E : Env} {x : AV} {v : Value} (h : Rel E x v) (hk : x.ok = true) : Rel E x.strip v := by
 cases x with
 | opt g w => simp only [Rel] at h; exact h.1 hk
 | _ => exact h
theorem Rel.ite {E : Env} {x y : AV} {u v : Value} {b : Bool} (hx : b = true → Rel E x u) (hy : b = false → Rel E y v) : Rel E (AV.ite b x y) (if b = true then u else v) := by
 unfold AV.ite;split
 ·cases b
  ·have := hy rfl; simpa [Rel] using this
  ·have := hx rfl; simpa [Rel] using this
 ·cases b
  ·simpa using hy rfl
  ·simpa using hx rfl
theorem waB9 {H : List Blk} {b h : Nat} (hl : zj0 H b h = true) : ∃ s, shOf H b = some (s, h) := by
 unfold zj0 at hl;split at hl
 ·rename_i s cur hs;have : h = cur := by simpa using hl
  subst this;exact ⟨s, hs⟩
 ·cases hl
theorem qu0 {S : St} {H : List Blk} {b n h : Nat} {c : Option Nat} {v : Value} (hr : Rel (S.env H) (.own b n h c) v) (hl : zj0 H b h = true) :
  ∃ s, shOf H b = some (s, h) ∧ n ≤ h ∧ ((S.μ b = none ∧ (∃ a, v = .slice a 0 0) ∧ n = 0 ∧ (c = none ∨ c = some 0)) ∨
    ∃ g k cap, S.μ b = some (g, k) ∧ v = .slice (some ⟨g, 0, none⟩) n cap ∧ n ≤ cap ∧ cap ≤ k ∧ (c = none → cap = k) ∧ (∀ j, c = some j → cap = j)) := by
 obtain ⟨s, hs⟩ := waB9 hl;simp only [Rel] at hr;obtain ⟨s', cur, h1, h2, h3⟩ := hr;have h1 : shOf H b = some (s', cur) := h1;rw [hs] at h1; injection h1 with h1; injection h1 with e1 e2; subst e1; subst e2
 exact ⟨s, hs, h3 rfl⟩
theorem kB0 {S : St} {H : List Blk} {b i o h : Nat} {v : Value} (hr : Rel (S.env H) (.ptr b i o h) v) (hl : zj0 H b h = true) :
  ∃ s g k, shOf H b = some (s, h) ∧ S.μ b = some (g, k) ∧ v = .pointer (some ⟨g, i * s + o, none⟩) := by
 obtain ⟨s, hs⟩ := waB9 hl;simp only [Rel] at hr;obtain ⟨s', cur, h1, h2, h3⟩ := hr;have h1 : shOf H b = some (s', cur) := h1;rw [hs] at h1; injection h1 with h1; injection h1 with e1 e2; subst e1; subst e2
 obtain ⟨g, k, hg, hv⟩ := h3 rfl;exact ⟨s, g, k, hs, hg, hv⟩
theorem vh0 {S : St} {H : List Blk} {b n h s : Nat} {c : Option Nat} {v : Value} (hs : shOf H b = some (s, h)) (hn : n ≤ h)
  (hc : (S.μ b = none ∧ (∃ a, v = .slice a 0 0) ∧ n = 0 ∧ (c = none ∨ c = some 0)) ∨
    ∃ g k cap, S.μ b = some (g, k) ∧ v = .slice (some ⟨g, 0, none⟩) n cap ∧ n ≤ cap ∧ cap ≤ k ∧ (c = none → cap = k) ∧ (∀ j, c = some j → cap = j)) : Rel (S.env H) (.own b n h c) v := by
 simp only [Rel];exact ⟨s, h, hs, Nat.le_refl _, fun _ => ⟨hn, hc⟩⟩
theorem vad9 {S : St} {H : List Blk} {b i o h s g k : Nat} {v : Value} (hs : shOf H b = some (s, h)) (hg : S.μ b = some (g, k)) (hv : v = .pointer (some ⟨g, i * s + o, none⟩)) : Rel (S.env H) (.ptr b i o h) v := by
 simp only [Rel];exact ⟨s, h, hs, Nat.le_refl _, fun _ => ⟨g, k, hg, hv⟩⟩
theorem xbs9 {H : List Blk} {b s n : Nat} (h : shOf H b = some (s, n)) : ∃ t es, H[b]? = some (.row s t es) ∧ es.length = n := by
 unfold shOf at h;split at h
 ·rename_i s' t es hb;injection h with h; injection h with h1 h2; subst h1; exact ⟨t, es, hb, h2⟩
 ·cases h
theorem qo0 {H : List Blk} {b s : Nat} {t : TypeId} {es : List (List AV)} (h : H[b]? = some (.row s t es)) : shOf H b = some (s, es.length) := by simp [shOf, h]
theorem qC0 {S : St} {H : List Blk} {x : AV} {v : Value} {cs : List AV} (h : Rel (S.env H) x v) (hc : x.cells? H = some cs) : RelL (S.env H) cs v.cells.toList ∧ ∀ u ∈ v.cells.toList, u.oneCell' = true := by
 have one : ∀ (w : Value), w.cells = #[w] → w.oneCell' = true → v = w → x.cells? H = some [x] → RelL (S.env H) cs v.cells.toList ∧ ∀ u ∈ v.cells.toList, u.oneCell' = true := by
  intro w h1 h2 hv hx;subst hv;rw [hx] at hc; injection hc with hc; subst hc
  rw [h1];refine ⟨?_, fun u hu => by simp at hu; subst hu; exact h2⟩;simp only [RelL];exact ⟨v, [], rfl, h, rfl⟩
 cases x with
 | agg as =>
  simp only [AV.cells?] at hc;injection hc with hc; subst hc
  simp only [Rel] at h;obtain ⟨vs, rfl, hl, h1⟩ := h;exact ⟨by simpa [Value.cells] using hl, by simpa [Value.cells] using h1⟩
 | anyb =>
  simp only [Rel] at h;obtain ⟨b, rfl⟩ := h;exact one _ rfl rfl rfl rfl
 | anyi k =>
  simp only [Rel] at h;obtain ⟨n, rfl⟩ := h;exact one _ rfl rfl rfl rfl
 | err =>
  simp only [Rel] at h;obtain ⟨t, u, rfl⟩ := h;exact one _ rfl rfl rfl rfl
 | top => simp [AV.cells?] at hc
 | opt g w => simp [AV.cells?] at hc
 | tup as => simp [AV.cells?] at hc
 | int k n => exact one _ rfl rfl (by simpa [Rel] using h) rfl
 | bool b => exact one _ rfl rfl (by simpa [Rel] using h) rfl
 | str s => exact one _ rfl rfl (by simpa [Rel] using h) rfl
 | sl s es c =>
  have hx := h;simp only [Rel] at hx;obtain ⟨a, cap, hv, _⟩ := hx;exact one _ rfl rfl hv rfl
 | own b n hh c =>
  by_cases hl : zj0 H b hh = true
  ·have hx : (AV.own b n hh c).cells? H = some [AV.own b n hh c] := by simp [AV.cells?, AV.live, hl]
   obtain ⟨s, hs, _, h3⟩ := qu0 h hl;rcases h3 with ⟨_, hv, _⟩|⟨g, k, cap, _, hv, _⟩
   ·obtain ⟨a0, hv⟩ := hv; exact one _ rfl rfl hv hx
   ·exact one _ rfl rfl hv hx
  ·simp [AV.cells?, AV.live, hl] at hc
 | ptr b i o hh =>
  by_cases hl : zj0 H b hh = true
  ·have hx : (AV.ptr b i o hh).cells? H = some [AV.ptr b i o hh] := by simp [AV.cells?, AV.live, hl]
   obtain ⟨s, g, k, _, _, hv⟩ := kB0 h hl;exact one _ rfl rfl hv hx
  ·simp [AV.cells?, AV.live, hl] at hc
 | sub b i n hh => simp [AV.cells?, AV.live] at hc
 | iptr cs o =>
  have hx := h;simp only [Rel] at hx;obtain ⟨g, off, hv, _⟩ := hx;exact one _ rfl rfl hv rfl
 | fn f cap =>
  have hx := h;simp only [Rel] at hx;obtain ⟨vs, hv, _⟩ := hx;exact one _ rfl rfl hv rfl
 | bnd f cap =>
  have hx := h;simp only [Rel] at hx;obtain ⟨vs, hv, _⟩ := hx;exact one _ rfl rfl hv rfl
 | mp b =>
  have hx := h;simp only [Rel] at hx;obtain ⟨g, _, hv⟩ := hx;exact one _ rfl rfl hv rfl
 | yld b =>
  have hx := h;simp only [Rel] at hx;obtain ⟨g, _, hv⟩ := hx;exact one _ rfl rfl hv rfl
 | lit u =>
  have hv : v = u := by simpa [Rel] using h
  cases u with
  | agg _ => simp [AV.cells?] at hc
  | tuple _ => simp [AV.cells?] at hc
  | _ => exact one _ rfl rfl hv rfl
def bad : Bool × AV := (false, .top)
def cut (T : TI) (cs : List AV) (o : Nat) : AV := if T.agg = true then .agg ((cs.drop o).take T.sz) else cs.getD o .top
def kq0 (T : TI) (len o : Nat) : Bool := decide (o + T.sz ≤ len) && (T.agg || T.sz == 1)
def zQ0 (P : Program) (H : List Blk) (t : TypeId) (p : AV) : Bool × AV :=
 match kc0 P t with
 | some T =>
  match p with
  | .ptr b i o h =>
   match H[b]? with
   | some (.row s _ es) => (decide (h = es.length) && decide (i < es.length) && kq0 T s o, cut T (es.getD i []) o)
   | _ => bad
  | .iptr cs o => (kq0 T cs.length o, cut T cs o)
  | _ => bad
 | none => bad
def xI0 (P : Program) (s : TypeId) (f : Nat) : Option (Nat × TI) :=
 match kc0 P s with
 | some T =>
  match T.shape with
  | .struct fs =>
   match fs[f]? with
   | some (off, ft) => (kc0 P ft).map fun F => (off, F)
   | none => none
  | _ => none
 | none => none
def wo0 (P : Program) (H : List Blk) (s : TypeId) (p : AV) (f : Nat) : Bool × AV :=
 match xI0 P s f with
 | some (off, F) =>
  match p with
  | .ptr b i o h => (zj0 H b h && F.sz != 0, .ptr b i (o + off) h)
  | .iptr cs o => (F.sz != 0, .iptr cs (o + off))
  | _ => bad
 | none => bad
def qaS9 (P : Program) (s : TypeId) (p : AV) (f : Nat) : Bool × AV :=
 match xI0 P s f with
 | some (off, F) =>
  match p with
  | .agg cs => (kq0 F cs.length off, cut F cs off)
  | _ => bad
 | none => bad
def shp (P : Program) (t : TypeId) : qco9 := ((kc0 P t).map (·.shape)).getD .other
def vo0 (P : Program) (H : List Blk) (t : TypeId) (x i : AV) : Bool × AV :=
 match i with
 | .int _ n =>
  match shp P t with
  | .slice e =>
   match kc0 P e with
   | some T =>
    match x with
    | .sl s es _ => (decide (0 ≤ n) && decide (n < es.length) && s == T.sz, .iptr (es.getD n.toNat []) 0)
    | .own b m h _ =>
     match shOf H b with
     | some (s, cur) => (decide (h = cur) && decide (0 ≤ n) && decide (n < m) && s == T.sz, .ptr b n.toNat 0 h)
     | none => bad
    | _ => bad
   | none => bad
  | .array len e =>
   match kc0 P e with
   | some T =>
    match x with
    | .ptr b i o h => (zj0 H b h && decide (0 ≤ n) && decide (n < len), .ptr b i (o + n.toNat * T.sz) h)
    | .iptr cs o => (decide (0 ≤ n) && decide (n < len), .iptr cs (o + n.toNat * T.sz))
    | _ => bad
   | none => bad
  | _ => bad
 | _ => bad
def zaS9 (P : Program) (t : TypeId) (x i : AV) : Bool × AV :=
 match i with
 | .int _ n =>
  match shp P t, x with
  | .array len e, .agg cs =>
   match kc0 P e with
   | some T => (decide (0 ≤ n) && decide (n < len) && kq0 T cs.length (n.toNat * T.sz), cut T cs (n.toNat * T.sz))
   | none => bad
  | .str, .str l => (decide (0 ≤ n) && decide (n < l.length), .int .u8 (l.getD n.toNat 0).toNat)
  | _, _ => bad
 | _ => bad
def eqTy (P : Program) : Nat → TypeId → Bool
 | 0, _ => false
 | d + 1, t =>
  match P.underlying t with
  | some (.int _)|some .bool|some .string => true
  | some (.struct fs) => !P.stoodInHeld t && fs.toList.all fun f => f.name != "_" && eqTy P d f.type
  | some (.array _ e) => eqTy P d e
  | _ => false
def zD0 (P : Program) (t : TypeId) : Bool := eqTy P 8 t && !P.eqGuardType P.depth t
def wW0 (F : Option TI) (cs ds : List AV) (off : Nat) (eq : TI → Bool × Bool) (r : Bool × Bool) : Bool × Bool :=
 match F with
 | some F => (kq0 F cs.length off && kq0 F ds.length off && (eq F).1 && r.1, (eq F).2 && r.2)
 | none => (false, false)
def eqA (P : Program) : Nat → TypeId → AV → AV → Bool × Bool
 | 0, _, _, _ => (false, false)
 | d + 1, t, x, y =>
  match shp P t, x, y with
  | .int _, .int k a, .int k' b => (k == k', decide (a = b))
  | .bool, .bool a, .bool b => (true, a == b)
  | .str, .str a, .str b => (true, decide (a = b))
  | .struct fs, .agg cs, .agg ds => fs.foldr (fun f r => wW0 (kc0 P f.2) cs ds f.1 (fun F => eqA P d f.2 (cut F cs f.1) (cut F ds f.1)) r) (true, true)
  | .array n e, .agg cs, .agg ds =>
   match kc0 P e with
   | some F => (List.range n).foldr (fun i r => wW0 (some F) cs ds (i * F.sz) (fun F => eqA P d e (cut F cs (i * F.sz)) (cut F ds (i * F.sz))) r) (true, true)
   | none => (false, false)
  | _, _, _ => (false, false)
def pInt (op : BinOp) (k k' : IntKind) (a b : Int) : Bool × AV :=
 match op with
 | .add => (k == k', .int k (k.wrap (a + b)))
 | .sub => (k == k', .int k (k.wrap (a - b)))
 | .mul => (k == k', .int k (k.wrap (a * b)))
 | .quo => (k == k' && b != 0, .int k (k.wrap (a.tdiv b)))
 | .rem => (k == k' && b != 0, .int k (a.tmod b))
 | .and|.or|.xor|.andNot => (k == k', .int k (bits op k a b))
 | .shl => (decide (0 ≤ b), .int k (k.wrap (a * 2 ^ (min b.toNat k.bits))))
 | .shr => (decide (0 ≤ b), .int k (a.fdiv (2 ^ (min b.toNat k.bits))))
 | .eql => (k == k', .bool (decide (a = b)))
 | .neq => (k == k', .bool (!decide (a = b)))
 | .lss => (k == k', .bool (decide (a < b)))
 | .leq => (k == k', .bool (decide (a ≤ b)))
 | .gtr => (k == k', .bool (decide (b < a)))
 | .geq => (k == k', .bool (decide (b ≤ a)))
def pStr (op : BinOp) (a b : List UInt8) : Bool × AV :=
 match op with
 | .add => (decide (a.length + b.length ≤ maxLen), .str (a ++ b))
 | .eql => (true, .bool (decide (a = b)))
 | .neq => (true, .bool (!decide (a = b)))
 | .lss => (true, .bool (Op.bytesLess a b))
 | .leq => (true, .bool (Op.bytesLess a b || decide (a = b)))
 | .gtr => (true, .bool (!(Op.bytesLess a b || decide (a = b))))
 | .geq => (true, .bool (!Op.bytesLess a b))
 | _ => bad
def pBin (P : Program) (op : BinOp) (t : TypeId) (x y : AV) : Bool × AV :=
 match x, y with
 | .int k a, .int k' b => pInt op k k' a b
 | .str a, .str b => pStr op a b
 | .bool a, .bool b =>
  match op with
  | .eql => ((match shp P t with|.bool => true|_ => false), .bool (a == b))
  | .neq => ((match shp P t with|.bool => true|_ => false), .bool (!(a == b)))
  | _ => bad
 | .agg xs, .agg ys =>
  match op with
  | .eql => (zD0 P t && (eqA P 8 t (.agg xs) (.agg ys)).1, .bool (eqA P 8 t (.agg xs) (.agg ys)).2)
  | .neq => (zD0 P t && (eqA P 8 t (.agg xs) (.agg ys)).1, .bool (!(eqA P 8 t (.agg xs) (.agg ys)).2))
  | _ => bad
 | _, _ => bad
def pUn (op : UnOp) (x : AV) : Bool × AV :=
 match op, x with
 | .not, .bool b => (true, .bool (!b))
 | .neg, .int k n => (true, .int k (k.wrap (0 - n)))
 | .xor, .int k n => (true, .int k (bits .xor k (if k.signed then -1 else k.max) n))
 | _, _ => bad
def vaB9 : List (List AV) → Option (List UInt8)
 | [] => some []
 | [.int .u8 n] :: r => (vaB9 r).map (UInt8.ofNat n.toNat :: ·)
 | _ => none
def xaS9 (P : Program) (src : TypeId) (s : Nat) (es : List (List AV)) : Bool × AV :=
 match shp P src with
 | .slice e =>
  match shp P e, vaB9 es with
  | .int .u8, some bs => (es.isEmpty || s == 1, .str bs)
  | _, _ => bad
 | _ => bad
def vW0 (P : Program) (src dst : TypeId) (x : AV) : Bool × AV :=
 match shp P dst, x with
 | .int k, .int _ n => ((kc0 P src).isSome, .int k (k.wrap n))
 | .str, .str s => ((kc0 P src).isSome, .str s)
 | .str, .sl s es _ => xaS9 P src s es
 | _, _ => bad
def waS9 (x : Option AV) : Option Int :=
 match x with
 | none => some 0
 | some (.int _ n) => some n
 | _ => none
def zR0 (x : Option AV) (d : Nat) : Option Int :=
 match x with
 | none => some d
 | some (.int _ n) => some n
 | _ => none
def vx0 (s : Nat) : Nat → List AV → List (List AV)
 | 0, _ => []
 | n + 1, cs => cs.take s :: vx0 s n (cs.drop s)
def wH0 (P : Program) (H : List Blk) (t : TypeId) (x : AV) (lo hi mx : Option AV) : Bool × AV :=
 match waS9 lo with
 | none => bad
 | some l =>
  match shp P t, x with
  | .slice e, .sl s es c =>
   match kc0 P e with
   | some T =>
    match zR0 hi es.length with
    | none => bad
    | some h =>
     match mx with
     | none => ((es.isEmpty || s == T.sz) && decide (0 ≤ l) && decide (l ≤ h) && decide (h ≤ es.length), .sl s ((es.take h.toNat).drop l.toNat) (c.map (· - l.toNat)))
     | some (.int _ m) => (hi.isSome && (es.isEmpty || s == T.sz) && decide (0 ≤ l) && decide (l ≤ h) && decide (h ≤ es.length) && decide (h ≤ m) && decide (m ≤ es.length), .sl s ((es.take h.toNat).drop l.toNat) (some (m.toNat - l.toNat)))
     | _ => bad
   | none => bad
  | .slice e, .own b n h0 c =>
   match kc0 P e with
   | some E0 =>
    match zR0 hi n with
    | none => bad
    | some h =>
     match mx with
     | none => if l = 0 then (zj0 H b h0 && decide (l = 0) && decide (0 ≤ h) && decide (h ≤ n), .own b h.toNat h0 c) else (zj0 H b h0 && ((shOf H b).map Prod.fst == some E0.sz) && decide (0 ≤ l) && decide (l < h) && decide (h ≤ n), .sub b l.toNat (h.toNat - l.toNat) h0)
     | some (.int _ m) => (hi.isSome && zj0 H b h0 && decide (l = 0) && decide (0 ≤ h) && decide (h ≤ m) && decide (m ≤ n), .own b h.toNat h0 (some m.toNat))
     | _ => bad
   | none => bad
  | .str, .str s =>
   match mx with
   | none =>
    match zR0 hi s.length with
    | none => bad
    | some h => (decide (0 ≤ l) && decide (l ≤ h) && decide (h ≤ s.length), .str ((s.take h.toNat).drop l.toNat))
   | _ => bad
  | .array n e, .iptr cs 0 =>
   match kc0 P e with
   | some T => (lo.isNone && hi.isNone && mx.isNone && decide (cs.length = n * T.sz) && decide (n ≤ maxLen), .sl T.sz (vx0 T.sz n cs) (some n))
   | none => bad
  | _, _ => bad
def zT0 (H : List Blk) (place : Nat → Option (Nat × Nat)) (cells : List AV) : List (Nat × AV) → Option (List AV)
 | [] => some cells
 | (i, v) :: rest =>
  match place i, v.cells? H with
  | some (off, size), some cs =>
   if cs.length = size ∧ off + cs.length ≤ cells.length then zT0 H place (cells.take off ++ cs ++ cells.drop (off + cs.length)) rest else none
  | _, _ => none
def zl0 (P : Program) (fs : List (Nat × TypeId)) : Option (List (Nat × Nat)) := fs.mapM fun f => (kc0 P f.2).map fun T => (f.1, T.sz)
def kaB9 (P : Program) (H : List Blk) (t : TypeId) (parts : List (Nat × AV)) : Bool × AV :=
 match kc0 P t with
 | some T =>
  match T.shape with
  | .struct fs =>
   match zl0 P fs with
   | some ps =>
    match zT0 H (fun i => ps[i]?) T.zero parts with
    | some cs => (true, .agg cs)
    | none => bad
   | none => bad
  | .array _ e =>
   match kc0 P e with
   | some E =>
    match zT0 H (fun i => some (i * E.sz, E.sz)) T.zero parts with
    | some cs => (true, .agg cs)
    | none => bad
   | none => bad
  | _ => bad
 | none => bad
def qm0 (P : Program) (H : List Blk) (t : TypeId) (len : Nat) (parts : List (Nat × AV)) : Bool × AV :=
 match shp P t with
 | .slice e =>
  match kc0 P e with
  | some E =>
   match zT0 H (fun i => some (i * E.sz, E.sz)) ((List.replicate len E.zero).flatten) parts with
   | some cs => (decide (len ≤ 16777216) && decide (len * E.sz ≤ 16777216) && E.zero.length == E.sz, .sl (match len with|0 => 0|_ + 1 => E.sz) (vx0 E.sz len cs) (some len))
   | none => bad
  | none => bad
 | _ => bad
def qz0 (H : List Blk) (x : AV) : Option (List (AV × AV)) :=
 match x with
 | .mp b => match H[b]? with|some (.ob (.map _ _ es)) => some es|_ => none
 | .lit (.map none) => some []
 | _ => none
def pLen (P : Program) (H : List Blk) (t : TypeId) (x : AV) : Bool × AV :=
 match shp P t, x with
 | .str, .str s => (true, .int .i64 s.length)
 | .slice _, .sl _ es _ => (true, .int .i64 es.length)
 | .slice _, .own b n h _ => (zj0 H b h, .int .i64 n)
 | .array n _, _ => (true, .int .i64 n)
 | .map _ _, x => match qz0 H x with|some es => (true, .int .i64 es.length)|none => bad
 | _, _ => bad
def pCap (P : Program) (H : List Blk) (t : TypeId) (x : AV) : Bool × AV :=
 match shp P t, x with
 | .slice _, .sl _ _ (some c) => (true, .int .i64 c)
 | .slice _, .own b _ h (some c) => (zj0 H b h, .int .i64 c)
 | _, _ => bad
def kE0 (mx : Bool) (x y : AV) : Bool × AV :=
 match x, y with
 | .int k a, .int _ b => (true, .int k (if mx = true then (if b > a then b else a) else (if b < a then b else a)))
 | _, _ => bad
def AV.all (l : List AV) : Bool := l.all AV.ok
def xbN9 : AV → AV → Bool
 | .int k a, .int k' b => k == k' && a == b
 | .bool a, .bool b => a == b
 | .str a, .str b => a == b
 | _, _ => false
def wbN9 : List AV → List AV → Bool
 | [], [] => true
 | a :: as, b :: bs => xbN9 a b && wbN9 as bs
 | _, _ => false
def xQ0 : AV → AV → Bool
 | .agg cs, .agg ds => wbN9 cs ds
 | a, b => xbN9 a b
def xao9 (z : AV) (es : List (AV × AV)) (k : AV) : AV :=
 match es.find? (fun p => xQ0 k p.1) with
 | some p => p.2
 | none => z
def hasA (es : List (AV × AV)) (k : AV) : Bool := es.any fun p => xQ0 k p.1
def updA : List (AV × AV) → AV → AV → List (AV × AV)
 | [], k, x => [(k, x)]
 | p :: r, k, x => if xQ0 k p.1 = true then (k, x) :: r else p :: updA r k x
def keyA (P : Program) : Nat → TypeId → AV → Bool
 | 0, _, _ => false
 | d + 1, t, x =>
  match shp P t, x with
  | .int _, .int _ _ => true
  | .bool, .bool _ => true
  | .str, .str _ => true
  | .array n e, .agg cs =>
   match kc0 P e with
   | some F => (List.range n).all fun i => kq0 F cs.length (i * F.sz) && keyA P d e (cut F cs (i * F.sz))
   | none => false
  | .struct fs, .agg cs => fs.all fun f => match kc0 P f.2 with|some F => kq0 F cs.length f.1 && keyA P d f.2 (cut F cs f.1)|none => false
  | _, _ => false
def vaS9 (P : Program) (kT : TypeId) (es : List (AV × AV)) (k : AV) : Bool :=
 eqTy P 8 kT && keyA P 8 kT k && es.all fun p => (eqA P 8 kT k p.1).1 && ((eqA P 8 kT k p.1).2 == xQ0 k p.1)
def zbC9 (P : Program) (t : TypeId) : AV :=
 match P.info? t with
 | some i => match i.zero with|some z => qT0 z|none => .top
 | none => .top
def wao9 (P : Program) (H : List Blk) (t : TypeId) (x ix : AV) (ok : Bool) : Bool × AV :=
 match shp P t with
 | .map kT eT =>
  match kc0 P eT, qz0 H x with
  | some _, some es => (vaS9 P kT es ix, bif ok then .tup [xao9 (zbC9 P eT) es ix, .bool (hasA es ix)] else xao9 (zbC9 P eT) es ix)
  | _, _ => bad
 | _ => bad
def kad9 (op : BinOp) (y : Operand) : Option (Bool × Value) :=
 match y with
 | .const (.slice none 0 0) => match op with|.eql => some (false, .slice none 0 0)|.neq => some (true, .slice none 0 0)|_ => none
 | .const .nilIface => match op with|.eql => some (false, .nilIface)|.neq => some (true, .nilIface)|_ => none
 | .const (.pointer none) => match op with|.eql => some (false, .pointer none)|.neq => some (true, .pointer none)|_ => none
 | .const (.map none) => match op with|.eql => some (false, .map none)|.neq => some (true, .map none)|_ => none
 | .const .nilFunc => match op with|.eql => some (false, .nilFunc)|.neq => some (true, .nilFunc)|_ => none
 | _ => none
def pNil (P : Program) (H : List Blk) (neg : Bool) (t : TypeId) (x : AV) (v : Value) : Bool × AV :=
 match shp P t, x, v with
 | .slice _, .sl _ es _, .slice none 0 0 => (true, match es with|[] => .anyb|_ :: _ => .bool neg)
 | .slice _, .own b n h _, .slice none 0 0 => (zj0 H b h, match n with|0 => .anyb|_ + 1 => .bool neg)
 | .slice _, .lit (.slice none 0 0), .slice none 0 0 => (true, .bool (!neg))
 | .iface, .err, .nilIface => (true, .bool neg)
 | .iface, .lit .nilIface, .nilIface => (true, .bool (!neg))
 | .ptr _, .ptr b _ _ h, .pointer none => (zj0 H b h, .bool neg)
 | .ptr _, .iptr _ _, .pointer none => (true, .bool neg)
 | .ptr _, .lit (.pointer none), .pointer none => (true, .bool (!neg))
 | .map _ _, .mp _, .map none => (true, .bool neg)
 | .map _ _, .lit (.map none), .map none => (true, .bool (!neg))
 | .func, .fn _ _, .nilFunc => (true, .bool neg)
 | .func, .lit .nilFunc, .nilFunc => (true, .bool (!neg))
 | _, _, _ => bad
def zf0 (P : Program) (o : Op) (ρ : Operand → AV) (H : List Blk) : Bool × AV :=
 let on (x : Operand) (r : Bool × AV) : Bool × AV := ((ρ x).ok && r.1, r.2)
 match o with
 | .move x|.assign x => ((ρ x).ok, (ρ x).strip)
 | .pick c x y =>
  match (ρ c).strip with
  | .bool b => ((ρ c).ok && (bif b then (ρ x).ok else (ρ y).ok), AV.ite b (ρ x).strip (ρ y).strip)
  | _ => bad
 | .load t p => on p (zQ0 P H t (ρ p).strip)
 | .nilCheck x =>
  match (ρ x).strip with
  | .ptr b i o h => ((ρ x).ok && zj0 H b h, .ptr b i o h)
  | .iptr cs o => ((ρ x).ok, .iptr cs o)
  | .fn f c => ((ρ x).ok, .fn f c)
  | _ => bad
 | .fieldAddr s x f => on x (wo0 P H s (ρ x).strip f)
 | .field s x f => on x (qaS9 P s (ρ x).strip f)
 | .indexAddr t x i => on x (on i (vo0 P H t (ρ x).strip (ρ i).strip))
 | .index t x i => on x (on i (zaS9 P t (ρ x).strip (ρ i).strip))
 | .lookup t x i ok => on x (on i (wao9 P H t (ρ x).strip (ρ i).strip ok))
 | .binOp op t x y _ =>
  match kad9 op y with
  | some (neg, v) => on x (pNil P H neg t (ρ x).strip v)
  | none => on x (on y (pBin P op t (ρ x).strip (ρ y).strip))
 | .unOp op _ x => on x (pUn op (ρ x).strip)
 | .convert src dst x => on x (vW0 P src dst (ρ x).strip)
 | .extract x i =>
  match (ρ x).strip with
  | .tup vs => match vs[i]? with|some v => ((ρ x).ok, v)|none => bad
  | _ => bad
 | .slice t x lo hi mx =>
  ((ρ x).ok && (lo.all fun y => (ρ y).ok) && (hi.all fun y => (ρ y).ok) && (mx.all fun y => (ρ y).ok) && (wH0 P H t (ρ x).strip (lo.map fun y => (ρ y).strip) (hi.map fun y => (ρ y).strip) (mx.map fun y => (ρ y).strip)).1,
   (wH0 P H t (ρ x).strip (lo.map fun y => (ρ y).strip) (hi.map fun y => (ρ y).strip) (mx.map fun y => (ρ y).strip)).2)
 | .build t parts =>
  ((parts.toList.all fun p => (ρ p.2).ok) && (kaB9 P H t (parts.toList.map fun p => (p.1, (ρ p.2).strip))).1, (kaB9 P H t (parts.toList.map fun p => (p.1, (ρ p.2).strip))).2)
 | .buildSlice t len parts =>
  ((parts.toList.all fun p => (ρ p.2).ok) && (qm0 P H t len (parts.toList.map fun p => (p.1, (ρ p.2).strip))).1, (qm0 P H t len (parts.toList.map fun p => (p.1, (ρ p.2).strip))).2)
 | .makeFunc (.func f) first captured =>
  match first.toList with
  | [] => ((captured.toList.all fun x => (ρ x).ok), .fn f (captured.toList.map fun x => (ρ x).strip))
  | x0 :: xs => (captured.toList.isEmpty && ((x0 :: xs).all fun x => (ρ x).ok), .bnd f ((x0 :: xs).map fun x => (ρ x).strip))
 | .call { callee := .builtin .len, args, argTypes } =>
  match args.toList, argTypes.toList with
  | [x], t :: _ => on x (pLen P H t (ρ x).strip)
  | _, _ => bad
 | .call { callee := .builtin .cap, args, argTypes } =>
  match args.toList, argTypes.toList with
  | [x], t :: _ => on x (pCap P H t (ρ x).strip)
  | _, _ => bad
 | .call { callee := .builtin .max, args, .. } =>
  match args.toList with
  | [x, y] => on x (on y (kE0 true (ρ x).strip (ρ y).strip))
  | _ => bad
 | .call { callee := .builtin .min, args, .. } =>
  match args.toList with
  | [x, y] => on x (on y (kE0 false (ρ x).strip (ρ y).strip))
  | _ => bad
 | _ => bad
set_option linter.unusedVariables false
set_option linter.unusedSimpArgs false
theorem xl0 (g off n : Nat) : (⟨g, off, none⟩ : Addr).add n = ⟨g, off + n, none⟩ := by
 unfold Addr.add; split <;> simp_all
section
variable {P : Program} {S : St} {H : List Blk}
theorem qam9 (hok : S.Ok H) {g off : Nat} {u : Value} (h : qx0 S.M g off = some u) : S.w.cell? ⟨g, off, none⟩ = some u := by
 unfold qx0 at h;split at h
 ·rename_i c t fr ho;have := hok.imm g _ ho;simp [World.cell?, this, h]
 ·cases h
theorem xco9 (hok : S.Ok H) {b s i : Nat} {t : TypeId} {es : List (List AV)} {e : List AV} (hb : H[b]? = some (.row s t es)) (hμ : S.μ b ≠ none) (he : es[i]? = some e) :
  ∃ g k, S.μ b = some (g, k) ∧ e.length = s ∧ ∀ (j : Nat) (a : AV), e[j]? = some a → ∃ u, S.w.cell? ⟨g, i * s + j, none⟩ = some u ∧ u.oneCell' = true ∧ Rel (S.env H) a u := by
 rcases hok.row b s t es hb with ⟨h, _⟩|⟨g, k, cs, h1, h2, h3, h4, h5, h6, h7⟩
 ·exact absurd h hμ
 ·obtain ⟨hl, hc⟩ := h7 i e he;refine ⟨g, k, h1, hl, fun j a hj => ?_⟩;obtain ⟨u, hu, ho, hr⟩ := hc j a hj;exact ⟨u, by simp [World.cell?, h3, hu], ho, hr⟩
theorem vao9 {E : Env} {w : World} {g : Nat} : ∀ (as : List AV) (off : Nat), (∀ (j : Nat) (a : AV), as[j]? = some a → ∃ u, w.cell? ⟨g, off + j, none⟩ = some u ∧ u.oneCell' = true ∧ Rel E a u) →
  ∃ vs : List Value, RelL E as vs ∧ (∀ u ∈ vs, u.oneCell' = true) ∧ ∀ (j : Nat) (v : Value), vs[j]? = some v → w.cell? ⟨g, off + j, none⟩ = some v
 | [], off, _ => ⟨[], by simp [RelL], by simp, by simp⟩
 | a :: as, off, h => by
  obtain ⟨u, hu, ho, hr⟩ := h 0 a rfl;obtain ⟨vs, h1, h2, h3⟩ := vao9 as (off + 1) fun j x hj => by
   have := h (j + 1) x (by simpa using hj)
   rwa [show off + (j + 1) = off + 1 + j from by omega] at this
  refine ⟨u :: vs, ?_, ?_, ?_⟩
  ·simp only [RelL]; exact ⟨u, vs, rfl, hr, h1⟩
  ·intro x hx;rcases List.mem_cons.1 hx with rfl|hx
   ·exact ho
   ·exact h2 x hx
  ·intro j v hj;cases j with
   | zero => simp at hj; subst hj; simpa using hu
   | succ j =>
    have := h3 j v (by simpa using hj)
    rwa [show off + 1 + j = off + (j + 1) from by omega] at this
theorem kaS9 {t : TypeId} {T : TI} (h : kc0 P t = some T) (w : World) : (isAgg t).run P w = .ok T.agg w := by
 obtain ⟨i, d, z, hi, hd, hz, _, rfl⟩ := ve0 h;unfold isAgg;simp only [Sem.run_bind, run_underlying hd, Result.andThen_ok];cases d <;> simp
theorem vf0 {t : TypeId} {T : TI} (h : kc0 P t = some T) (w : World) : (sizeOf t).run P w = .ok T.sz w := by
 obtain ⟨i, d, z, hi, hd, hz, _, rfl⟩ := ve0 h;simp [Go.sizeOf, typeInfo, hi]
theorem xc0 {t : TypeId} {s : qco9} (h : shp P t = s) (hs : s ≠ .other) : ∃ T, kc0 P t = some T ∧ T.shape = s := by
 unfold shp at h;cases hT : kc0 P t with
 | none => rw [hT] at h; exact absurd h.symm hs
 | some T => rw [hT] at h; exact ⟨T, rfl, h⟩
theorem zi0 {t : TypeId} {T : TI} {e : TypeId} (h : kc0 P t = some T) (hs : T.shape = .slice e) : P.underlying t = some (.slice e) := by
 obtain ⟨i, d, z, hi, hd, hz, _, rfl⟩ := ve0 h;simp only at hs;cases d <;> simp only [zx0] at hs <;> first|cases hs|skip
 exact hd
theorem zz0 {t : TypeId} {T : TI} {n : Nat} {e : TypeId} (h : kc0 P t = some T) (hs : T.shape = .array n e) : P.underlying t = some (.array n e) := by
 obtain ⟨i, d, z, hi, hd, hz, _, rfl⟩ := ve0 h;simp only at hs;cases d <;> simp only [zx0] at hs <;> first|cases hs|skip
 exact hd
theorem wI0 {t : TypeId} {T : TI} (h : kc0 P t = some T) (hs : T.shape = .str) : P.underlying t = some .string := by
 obtain ⟨i, d, z, hi, hd, hz, _, rfl⟩ := ve0 h;simp only at hs;cases d <;> simp only [zx0] at hs <;> first|cases hs|skip
 exact hd
theorem qaI9 {t : TypeId} {T : TI} (h : kc0 P t = some T) (hs : T.shape = .bool) : P.underlying t = some .bool := by
 obtain ⟨i, d, z, hi, hd, hz, _, rfl⟩ := ve0 h;simp only at hs;cases d <;> simp only [zx0] at hs <;> first|cases hs|skip
 exact hd
theorem zaI9 {t : TypeId} {T : TI} {k : IntKind} (h : kc0 P t = some T) (hs : T.shape = .int k) : P.underlying t = some (.int k) := by
 obtain ⟨i, d, z, hi, hd, hz, _, rfl⟩ := ve0 h;simp only at hs;cases d <;> simp only [zx0] at hs <;> first|cases hs|skip
 exact hd
theorem qN0 {t : TypeId} {T : TI} {fs : List (Nat × TypeId)} (h : kc0 P t = some T) (hs : T.shape = .struct fs) : ∃ F, P.underlying t = some (.struct F) ∧ fs = F.toList.map fun f => (f.offset, f.type) := by
 obtain ⟨i, d, z, hi, hd, hz, _, rfl⟩ := ve0 h;simp only at hs;cases d <;> simp only [zx0] at hs <;> first|cases hs|skip
 exact ⟨_, hd, rfl⟩
theorem qaT9 {t : TypeId} {T : TI} (h : kc0 P t = some T) (hs : T.shape = .iface) : ∃ ms, P.underlying t = some (.interface ms) := by
 obtain ⟨i, d, z, hi, hd, hz, _, rfl⟩ := ve0 h;simp only at hs;cases d <;> simp only [zx0] at hs <;> first|cases hs|skip
 exact ⟨_, hd⟩
theorem xbh9 {t e : TypeId} {T : TI} (h : kc0 P t = some T) (hs : T.shape = .ptr e) : P.underlying t = some (.pointer e) := by
 obtain ⟨i, d, z, hi, hd, hz, _, rfl⟩ := ve0 h;simp only at hs;cases d <;> simp only [zx0] at hs <;> first|cases hs|skip
 exact hd
theorem qae9 {t k e : TypeId} {T : TI} (h : kc0 P t = some T) (hs : T.shape = .map k e) : P.underlying t = some (.map k e) := by
 obtain ⟨i, d, z, hi, hd, hz, _, rfl⟩ := ve0 h;simp only at hs;cases d <;> simp only [zx0] at hs <;> first|cases hs|skip
 exact hd
theorem wbs9 {t : TypeId} {T : TI} (h : kc0 P t = some T) (hs : T.shape = .func) : ∃ a b c, P.underlying t = some (.func a b c) := by
 obtain ⟨i, d, z, hi, hd, hz, _, rfl⟩ := ve0 h;simp only at hs;cases d <;> simp only [zx0] at hs <;> first|cases hs|skip
 exact ⟨_, _, _, hd⟩
theorem vbs9 {t : TypeId} (h : (kc0 P t).isSome = true) : ∃ d, P.underlying t = some d := by
 cases hT : kc0 P t with
 | none => rw [hT] at h; cases h
 | some T => obtain ⟨i, d, z, hi, hd, hz, _, rfl⟩ := ve0 hT; exact ⟨d, hd⟩
theorem vI0 {E : Env} {w : World} {t : TypeId} {T : TI} (hT : kc0 P t = some T) {cs : List AV} {g off o : Nat} (hf : kq0 T cs.length o = true)
  (h : ∀ (j : Nat) (a : AV), cs[j]? = some a → ∃ u, w.cell? ⟨g, off + j, none⟩ = some u ∧ u.oneCell' = true ∧ Rel E a u) :
  ∃ v, (loadVar t ⟨g, off + o, none⟩).run P w = .ok v w ∧ Rel E (cut T cs o) v := by
 simp only [kq0, Bool.and_eq_true, decide_eq_true_eq, Bool.or_eq_true, beq_iff_eq] at hf;obtain ⟨hlen, hone⟩ := hf;unfold loadVar cut;simp only [Sem.run_bind, kaS9 hT, Result.andThen_ok];by_cases ha : T.agg = true
 ·simp only [ha, if_true, Sem.run_bind, vf0 hT, Result.andThen_ok];obtain ⟨vs, h1, h2, h3⟩ := vao9 (E := E) (w := w) (g := g) ((cs.drop o).take T.sz) (off + o) fun j a hj => by
   rw [List.getElem?_take] at hj;split at hj
   ·rw [List.getElem?_drop] at hj;have := h (o + j) a hj
    rwa [← Nat.add_assoc] at this
   ·cases hj
  have hl : vs.length = T.sz := by
   rw [← h1.length];simp;omega
  have hr := run_loadCells_list (P := P) w ⟨g, off + o, none⟩ vs fun j v hj => by rw [xl0]; exact h3 j v hj
  rw [hl] at hr;rw [hr];exact ⟨_, rfl, by simp only [Rel]; exact ⟨vs, rfl, h1, h2⟩⟩
 ·have hs : T.sz = 1 := hone.resolve_left ha;simp only [ha, if_false, Bool.false_eq_true];have hlt : o < cs.length := by omega
  obtain ⟨u, hu, _, hr⟩ := h o cs[o] (List.getElem?_eq_getElem hlt);refine ⟨u, ?_, ?_⟩
  ·simp [run_load, hu]
  ·rw [List.getD_eq_getElem?_getD, List.getElem?_eq_getElem hlt]; exact hr
theorem kbs9 (hok : S.Ok H) {t : TypeId} {p : AV} {v : Value} (hr : Rel (S.env H) p v) (h : (zQ0 P H t p).1 = true) :
  ∃ u, (Instr.loadAt t v).run P S.w = .ok u S.w ∧ Rel (S.env H) (zQ0 P H t p).2 u := by
 unfold zQ0 at *;cases hT : kc0 P t with
 | none => rw [hT] at h; cases h
 | some T =>
  simp only [hT] at h ⊢;cases p with
  | ptr b i o hh =>
   simp only at h ⊢;cases hb : H[b]? with
   | none => rw [hb] at h; cases h
   | some B =>
    cases B with
    | ob _ => rw [hb] at h; cases h
    | row s bt es =>
     simp only [hb, Bool.and_eq_true, decide_eq_true_eq] at h ⊢;obtain ⟨⟨h1, h2⟩, h3⟩ := h;have hl : zj0 H b hh = true := by simp [zj0, qo0 hb, h1]
     obtain ⟨s', g, k, hs, hg, hv⟩ := kB0 hr hl;rw [qo0 hb] at hs; injection hs with hs; injection hs with hs _; subst hs
     have he : es[i]? = some es[i] := List.getElem?_eq_getElem h2;obtain ⟨g', k', hg', hlen, hc⟩ := xco9 hok hb (by rw [hg]; simp) he;rw [hg] at hg'; injection hg' with hg'; injection hg' with e1 e2; subst e1
     have hd : es.getD i [] = es[i] := by rw [List.getD_eq_getElem?_getD, he]; rfl
     rw [hd];rw [← hlen] at h3;obtain ⟨u, hu, hru⟩ := vI0 (P := P) hT h3 hc;refine ⟨u, ?_, hru⟩;subst hv;simpa [Instr.loadAt, Instr.sureAddr] using hu
  | iptr cs o =>
   simp only at h ⊢;simp only [Rel] at hr;obtain ⟨g, off, hv, hc⟩ := hr;obtain ⟨u, hu, hru⟩ := vI0 (P := P) (E := S.env H) (w := S.w) (g := g) (off := off) hT h fun j a hj => by
    obtain ⟨x, hx, ho, hrx⟩ := hc.get hj;exact ⟨x, qam9 hok hx, ho, hrx⟩
   refine ⟨u, ?_, hru⟩;subst hv;simpa [Instr.loadAt, Instr.sureAddr] using hu
  | _ => simp only at h; cases h
theorem kai9 {s : TypeId} {f off : Nat} {F : TI} (h : xI0 P s f = some (off, F)) :
  ∃ fs fd, P.underlying s = some (.struct fs) ∧ fs[f]? = some fd ∧ fd.offset = off ∧ kc0 P fd.type = some F := by
 unfold xI0 at h;split at h
 ·rename_i T hT;split at h
  ·rename_i l hl;obtain ⟨fs, hd, rfl⟩ := qN0 hT hl;split at h
   ·rename_i off' ft hf;rw [List.getElem?_map] at hf;cases hq : fs.toList[f]? with
    | none => rw [hq] at hf; cases hf
    | some fd =>
     rw [hq] at hf;simp only [Option.map_some, Option.some.injEq, Prod.mk.injEq] at hf;obtain ⟨h1, h2⟩ := hf;cases hF : kc0 P ft with
     | none => rw [hF] at h; cases h
     | some F' =>
      rw [hF] at h;simp only [Option.map_some, Option.some.injEq, Prod.mk.injEq] at h;exact ⟨fs, fd, hd, by simpa using hq, by rw [h1]; exact h.1, by rw [h2, hF, h.2]⟩
   ·cases h
  ·cases h
 ·cases h
theorem xaI9 (hok : S.Ok H) {s : TypeId} {p : AV} {f : Nat} {v : Value} (hr : Rel (S.env H) p v) (h : (wo0 P H s p f).1 = true) :
  ∃ u, (Instr.fieldAt s v f).run P S.w = .ok u S.w ∧ Rel (S.env H) (wo0 P H s p f).2 u := by
 unfold wo0 at *;cases hf : xI0 P s f with
 | none => rw [hf] at h; cases h
 | some q =>
  obtain ⟨off, F⟩ := q;obtain ⟨fs, fd, hd, hfd, hoff, hF⟩ := kai9 hf;simp only [hf] at h ⊢;cases p with
  | ptr b i o hh =>
   simp only [Bool.and_eq_true, bne_iff_ne, ne_eq] at h ⊢;obtain ⟨s', g, k, hs, hg, hv⟩ := kB0 hr h.1;subst hv;refine ⟨.pointer (some ⟨g, i * s' + (o + off), none⟩), ?_, ?_⟩
   ·simp [Instr.fieldAt, run_underlying hd, hfd, Instr.sureAddr, fieldPlace, vf0 hF, h.2, xl0, hoff, Nat.add_assoc]
   ·simp only [Rel];exact ⟨s', hh, hs, Nat.le_refl _, fun _ => ⟨g, k, hg, rfl⟩⟩
  | iptr cs o =>
   simp only [bne_iff_ne, ne_eq] at h ⊢;simp only [Rel] at hr;obtain ⟨g, b, hv, hc⟩ := hr;subst hv;refine ⟨.pointer (some ⟨g, b + (o + off), none⟩), ?_, ?_⟩
   ·simp [Instr.fieldAt, run_underlying hd, hfd, Instr.sureAddr, fieldPlace, vf0 hF, h, xl0, hoff, Nat.add_assoc]
   ·simp only [Rel];exact ⟨g, b, rfl, hc⟩
  | _ => simp only at h; cases h
theorem wm0 {E : Env} {w : World} {t : TypeId} {T : TI} (hT : kc0 P t = some T) {cs : List AV} {vs : List Value} (h : RelL E cs vs) (h1 : ∀ u ∈ vs, u.oneCell' = true) {o : Nat} (hf : kq0 T cs.length o = true) :
  ∃ v, (part t vs.toArray o).run P w = .ok v w ∧ Rel E (cut T cs o) v := by
 simp only [kq0, Bool.and_eq_true, decide_eq_true_eq, Bool.or_eq_true, beq_iff_eq] at hf;obtain ⟨hlen, hone⟩ := hf;unfold part cut;simp only [Sem.run_bind, kaS9 hT, Result.andThen_ok];by_cases ha : T.agg = true
 ·simp only [ha, if_true, Sem.run_bind, vf0 hT, Result.andThen_ok, Sem.run_pure];refine ⟨_, rfl, ?_⟩;simp only [Rel];refine ⟨(vs.drop o).take T.sz, ?_, (h.drop o).take T.sz, fun u hu => h1 u (List.mem_of_mem_drop (List.mem_of_mem_take hu))⟩;congr 1
  apply Array.ext';simp [List.extract]
 ·have hs : T.sz = 1 := hone.resolve_left ha;simp only [ha, if_false, Bool.false_eq_true];have hlt : o < cs.length := by omega
  obtain ⟨u, hu, hr⟩ := h.get (List.getElem?_eq_getElem hlt);refine ⟨u, ?_, ?_⟩
  ·simp [hu]
  ·rw [List.getD_eq_getElem?_getD, List.getElem?_eq_getElem hlt]; exact hr
theorem vbN9 {s : TypeId} {p : AV} {f : Nat} {v : Value} (hr : Rel (S.env H) p v) (h : (qaS9 P s p f).1 = true) :
  ∃ u, (Instr.field s v f).run P S.w = .ok u S.w ∧ Rel (S.env H) (qaS9 P s p f).2 u := by
 unfold qaS9 at *;cases hf : xI0 P s f with
 | none => rw [hf] at h; cases h
 | some q =>
  obtain ⟨off, F⟩ := q;obtain ⟨fs, fd, hd, hfd, hoff, hF⟩ := kai9 hf;simp only [hf] at h ⊢;cases p with
  | agg cs =>
   simp only at h ⊢;simp only [Rel] at hr;obtain ⟨vs, rfl, hl, h1⟩ := hr;obtain ⟨u, hu, hru⟩ := wm0 (P := P) (w := S.w) hF hl h1 h;refine ⟨u, ?_, hru⟩;simpa [Instr.field, run_underlying hd, hfd, asAgg, hoff] using hu
  | _ => simp only at h; cases h
theorem waI9 (hok : S.Ok H) {t : TypeId} {x i : AV} {vx vi : Value} (hx : Rel (S.env H) x vx) (hi : Rel (S.env H) i vi) (h : (vo0 P H t x i).1 = true) :
  ∃ u, (Instr.indexAt t vx vi).run P S.w = .ok u S.w ∧ Rel (S.env H) (vo0 P H t x i).2 u := by
 unfold vo0 at *;cases i with
 | int k n =>
  have hvi : vi = .int k n := by simpa [Rel] using hi
  subst hvi;simp only at h ⊢;cases hs : shp P t with
  | slice e =>
   obtain ⟨TT, hTT, hsh⟩ := xc0 hs (by simp);have hu := zi0 hTT hsh;simp only [hs] at h ⊢;cases hT : kc0 P e with
   | none => rw [hT] at h; cases h
   | some T =>
    simp only [hT] at h ⊢;cases x with
    | sl s es c =>
     simp only [Bool.and_eq_true, decide_eq_true_eq, beq_iff_eq] at h ⊢;obtain ⟨⟨h0, h1⟩, h2⟩ := h;simp only [Rel] at hx;obtain ⟨a, cap, hv, _, _, _, h4⟩ := hx;have hn : n.toNat < es.length := by omega
     have hne : es ≠ [] := by intro e; simp [e] at hn
     obtain ⟨g, off, ha, he⟩ := h4.resolve_left hne;subst hv; subst ha;refine ⟨.pointer (some ⟨g, off + n.toNat * T.sz, none⟩), ?_, ?_⟩
     ·simp [Instr.indexAt, run_underlying hu, asIntOf, h0, h1, vf0 hT, xl0]
     ·simp only [Rel];have hg := he.get (List.getElem?_eq_getElem hn);refine ⟨g, off + n.toNat * T.sz, by simp, ?_⟩;rw [List.getD_eq_getElem?_getD, List.getElem?_eq_getElem hn, ← h2];exact hg.2
    | own b m hh c =>
     simp only at h ⊢;cases hsb : shOf H b with
     | none => rw [hsb] at h; cases h
     | some q =>
      obtain ⟨s, cur⟩ := q;simp only [hsb, Bool.and_eq_true, decide_eq_true_eq, beq_iff_eq] at h ⊢;obtain ⟨⟨⟨h0, h1⟩, h2⟩, h3⟩ := h;have hl : zj0 H b hh = true := by simp [zj0, hsb, h0]
      obtain ⟨s', hs', hmn, hcase⟩ := qu0 hx hl;rw [hsb] at hs'; injection hs' with hs'; injection hs' with e1 e2; subst e1
      rcases hcase with ⟨_, _, hz, _⟩|⟨g, k', cap, hg, hv, _⟩
      ·omega
      ·subst hv;refine ⟨.pointer (some ⟨g, n.toNat * s + 0, none⟩), ?_, ?_⟩
       ·simp [Instr.indexAt, run_underlying hu, asIntOf, h1, h2, vf0 hT, xl0, h3]
       ·simp only [Rel];exact ⟨s, cur, hsb, by omega, fun _ => ⟨g, k', hg, rfl⟩⟩
    | _ => simp only at h; cases h
  | array len e =>
   obtain ⟨TT, hTT, hsh⟩ := xc0 hs (by simp);have hu := zz0 hTT hsh;simp only [hs] at h ⊢;cases hT : kc0 P e with
   | none => rw [hT] at h; cases h
   | some T =>
    simp only [hT] at h ⊢;cases x with
    | ptr b i o hh =>
     simp only [Bool.and_eq_true, decide_eq_true_eq] at h ⊢;obtain ⟨⟨hl, h0⟩, h1⟩ := h;obtain ⟨s', g, k', hs', hg, hv⟩ := kB0 hx hl;subst hv;refine ⟨.pointer (some ⟨g, i * s' + (o + n.toNat * T.sz), none⟩), ?_, ?_⟩
     ·simp [Instr.indexAt, run_underlying hu, asIntOf, Instr.sureAddr, h0, h1, vf0 hT, xl0, Nat.add_assoc]
     ·simp only [Rel];exact ⟨s', hh, hs', Nat.le_refl _, fun _ => ⟨g, k', hg, rfl⟩⟩
    | iptr cs o =>
     simp only [Bool.and_eq_true, decide_eq_true_eq] at h ⊢;simp only [Rel] at hx;obtain ⟨g, b, hv, hc⟩ := hx;subst hv;refine ⟨.pointer (some ⟨g, b + (o + n.toNat * T.sz), none⟩), ?_, ?_⟩
     ·simp [Instr.indexAt, run_underlying hu, asIntOf, Instr.sureAddr, h.1, h.2, vf0 hT, xl0, Nat.add_assoc]
     ·simp only [Rel];exact ⟨g, b, rfl, hc⟩
    | _ => simp only at h; cases h
  | _ => simp only [hs] at h; cases h
 | _ => simp only at h; cases h
theorem kbN9 {t : TypeId} {x i : AV} {vx vi : Value} (hx : Rel (S.env H) x vx) (hi : Rel (S.env H) i vi) (h : (zaS9 P t x i).1 = true) :
  ∃ u, (Instr.index t vx vi).run P S.w = .ok u S.w ∧ Rel (S.env H) (zaS9 P t x i).2 u := by
 unfold zaS9 at *;cases i with
 | int k n =>
  have hvi : vi = .int k n := by simpa [Rel] using hi
  subst hvi;simp only at h ⊢;cases hs : shp P t with
  | array len e =>
   obtain ⟨TT, hTT, hsh⟩ := xc0 hs (by simp);have hu := zz0 hTT hsh;cases x with
   | agg cs =>
    simp only [hs] at h ⊢;cases hT : kc0 P e with
    | none => rw [hT] at h; cases h
    | some T =>
     simp only [hT, Bool.and_eq_true, decide_eq_true_eq] at h ⊢;simp only [Rel] at hx;obtain ⟨vs, rfl, hl, h1⟩ := hx;obtain ⟨u, hru, hrr⟩ := wm0 (P := P) (w := S.w) hT hl h1 h.2;refine ⟨u, ?_, hrr⟩;simpa [Instr.index, run_underlying hu, asIntOf, h.1.1, h.1.2, vf0 hT] using hru
   | _ => simp only [hs] at h; cases h
  | str =>
   obtain ⟨TT, hTT, hsh⟩ := xc0 hs (by simp);have hu := wI0 hTT hsh;cases x with
   | str l =>
    simp only [hs, Bool.and_eq_true, decide_eq_true_eq] at h ⊢;have hv : vx = .string ⟨l.toArray⟩ := by simpa [Rel] using hx
    subst hv;have hn : n.toNat < l.length := by omega
    refine ⟨.int .u8 (l.getD n.toNat 0).toNat, ?_, by simp [Rel]⟩;have hg : (ByteArray.mk l.toArray)[n.toNat]? = some (l.getD n.toNat 0) := by
     have hsz : n.toNat < (ByteArray.mk l.toArray).size := hn;rw [ByteArray.getElem?_lt' _ _ hsz];rw [List.getD_eq_getElem?_getD, List.getElem?_eq_getElem hn];rfl
    simp [Instr.index, run_underlying hu, asIntOf, h.1, hg]
   | _ => simp only [hs] at h; cases h
  | _ => simp only [hs] at h; cases h
 | _ => simp only at h; cases h
end
section
variable {P : Program} {S : St} {H : List Blk}
theorem vcO9 {op : BinOp} {k k' : IntKind} {a b : Int} (t : TypeId) (w : World) (h : (pInt op k k' a b).1 = true) :
  ∃ u, (binOp op t (.int k a) (.int k' b)).run P w = .ok u w ∧ ∀ E, Rel E (pInt op k k' a b).2 u := by
 cases op <;> simp only [pInt, beq_iff_eq, Bool.and_eq_true, bne_iff_ne, ne_eq, decide_eq_true_eq] at h ⊢
 case quo => obtain ⟨rfl, hb⟩ := h; exact ⟨.int k (k.wrap (a.tdiv b)), by simp [binOp, Op.intDiv, hb], fun E => by simp [Rel]⟩
 case rem => obtain ⟨rfl, hb⟩ := h; exact ⟨.int k (a.tmod b), by simp [binOp, Op.intDiv, hb], fun E => by simp [Rel]⟩
 case shl =>
  refine ⟨.int k (k.wrap (a * 2 ^ (min b.toNat k.bits))), ?_, fun E => by simp [Rel]⟩;have : ¬ b < 0 := by omega
  simp [binOp, Op.shift, this]
 case shr =>
  refine ⟨.int k (a.fdiv (2 ^ (min b.toNat k.bits))), ?_, fun E => by simp [Rel]⟩;have : ¬ b < 0 := by omega
  simp [binOp, Op.shift, this]
 case and => subst h; exact ⟨_, by rw [binOp_and, intBits_and]; rfl, fun E => by simp [Rel]⟩
 case or => subst h; exact ⟨_, by rw [binOp_or, intBits_or]; rfl, fun E => by simp [Rel]⟩
 case xor => subst h; exact ⟨_, by rw [binOp_xor, intBits_xor]; rfl, fun E => by simp [Rel]⟩
 case andNot => subst h; exact ⟨_, by rw [binOp_andNot, intBits_andNot]; rfl, fun E => by simp [Rel]⟩
 all_goals (subst h; refine ⟨_, by simp [binOp, Op.intArith, Op.intCmp]; rfl, fun E => ?_⟩)
 all_goals simp [Rel]
 all_goals rfl
theorem kcO9 {op : BinOp} {a b : List UInt8} (t : TypeId) (w : World) (h : (pStr op a b).1 = true) :
  ∃ u, (binOp op t (.string ⟨a.toArray⟩) (.string ⟨b.toArray⟩)).run P w = .ok u w ∧ ∀ E, Rel E (pStr op a b).2 u := by
 have hl : ∀ l : List UInt8, (ByteArray.mk l.toArray).toList = l := fun l => by simp
 have hbeq : (a == b) = decide (a = b) := by rw [Bool.eq_iff_iff]; simp
 cases op <;> simp only [pStr, bad, decide_eq_true_eq] at h ⊢ <;> first|cases h|skip
 case add =>
  refine ⟨.string ⟨(a ++ b).toArray⟩, ?_, fun E => by simp [Rel]⟩;have h1 : ¬ ((a.length : Int) + b.length > IntKind.i64.max) := by rw [IntKind.max_i64]; simp only [maxLen] at h; omega
  have hs : ∀ l : List UInt8, (ByteArray.mk l.toArray).size = l.length := fun l => rfl;have happ : ByteArray.mk a.toArray ++ ByteArray.mk b.toArray = ByteArray.mk (a ++ b).toArray := by
   apply ByteArray.ext;simp
  simp only [binOp, Op.stringOp, hs, happ];rw [if_neg (by push_cast; exact h1)];rfl
 all_goals (refine ⟨_, by simp [binOp, Op.stringOp, hl]; rfl, fun E => ?_⟩)
 all_goals simp [Rel, hbeq]
theorem kao9 {F : TI} {cs ds : List AV} {off : Nat} {eq : TI → Bool × Bool} {r : Bool × Bool} (h : (wW0 (some F) cs ds off eq r).1 = true) :
  kq0 F cs.length off = true ∧ kq0 F ds.length off = true ∧ (eq F).1 = true ∧ r.1 = true ∧ (wW0 (some F) cs ds off eq r).2 = ((eq F).2 && r.2) := by
 simp only [wW0, Bool.and_eq_true] at h;exact ⟨h.1.1.1, h.1.1.2, h.1.2, h.2, rfl⟩
theorem zaT9 {E : Env} (w : World) : ∀ (d : Nat) (t : TypeId) (x y : AV) (u v : Value), Rel E x u → Rel E y v → eqTy P d t = true → (eqA P d t x y).1 = true → ∀ D, d ≤ D → (Op.equalIn D t u v).run P w = .ok (eqA P d t x y).2 w
 | 0, t, x, y, u, v, _, _, h, _, _, _ => by simp [eqTy] at h
 | d + 1, t, x, y, u, v, hx, hy, ht, h, D, hD => by
  obtain ⟨D, rfl⟩ : ∃ D', D = D' + 1 := ⟨D - 1, by omega⟩;unfold eqA at h ⊢;split at h
  ·rename_i kk k a k' b hs;obtain ⟨T, hT, hsh⟩ := xc0 hs (by simp);have hu := zaI9 hT hsh;have e1 : u = .int k a := by simpa [Rel] using hx
   have e2 : v = .int k' b := by simpa [Rel] using hy
   have hk : k = k' := by simpa using h
   subst e1; subst e2; subst hk;rw [run_equalIn_int w D t k kk a b hu, show (a == b) = decide (a = b) from by rw [Bool.eq_iff_iff]; simp]
  ·rename_i a b hs;obtain ⟨T, hT, hsh⟩ := xc0 hs (by simp);have hu := qaI9 hT hsh;have e1 : u = .bool a := by simpa [Rel] using hx
   have e2 : v = .bool b := by simpa [Rel] using hy
   subst e1; subst e2;rw [run_equalIn_bool' w D t a b hu]
  ·rename_i a b hs;obtain ⟨T, hT, hsh⟩ := xc0 hs (by simp);have hu := wI0 hT hsh;have e1 : u = .string ⟨a.toArray⟩ := by simpa [Rel] using hx
   have e2 : v = .string ⟨b.toArray⟩ := by simpa [Rel] using hy
   subst e1; subst e2;rw [run_equalIn_string w D t _ _ hu];simp only [ByteArray.toList_mk];rw [show (a == b) = decide (a = b) from by rw [Bool.eq_iff_iff]; simp]
  ·rename_i fs cs ds hs;obtain ⟨T, hT, hsh⟩ := xc0 hs (by simp);obtain ⟨F, hu, hfs⟩ := qN0 hT hsh;simp only [Rel] at hx hy;obtain ⟨xs, rfl, hxl, hx1⟩ := hx;obtain ⟨ys, rfl, hyl, hy1⟩ := hy;have hfo : P.fieldsOf t = F := by simp [Program.fieldsOf, hu]
   unfold eqTy at ht;simp only [hu, Bool.and_eq_true, Bool.not_eq_true', List.all_eq_true] at ht;rw [run_equalIn_struct w D t xs.toArray ys.toArray (by rw [hfo]; exact hu) ht.1, hfo];have hall := ht.2;clear ht hfo hu hsh hT hs;subst hfs;generalize F.toList = fs at *;induction fs with
   | nil => simp [Op.eqFields]
   | cons f fs ih =>
    simp only [List.map_cons, List.foldr_cons] at h ⊢;obtain ⟨hn, hty⟩ := hall f (List.mem_cons_self);have hn' : f.name ≠ "_" := by simpa using hn
    cases hF : kc0 P f.type with
    | none => simp [hF, wW0] at h
    | some G =>
     simp only [hF] at h ⊢;obtain ⟨f1, f2, f3, f4, f5⟩ := kao9 h;rw [f5];obtain ⟨p, hp, hrp⟩ := wm0 (P := P) (w := w) hF hxl hx1 f1;obtain ⟨q, hq, hrq⟩ := wm0 (P := P) (w := w) hF hyl hy1 f2;have he := zaT9 w d f.type _ _ p q hrp hrq hty f3 D (by omega);have hih := ih (fun g hg => hall g (List.mem_cons_of_mem _ hg)) f4;simp only [Op.eqFields, hn', ne_eq, not_false_eq_true, if_true, Sem.run_bind, hp, hq, he, Result.andThen_ok];cases (eqA P d f.type (cut G cs f.offset) (cut G ds f.offset)).2
     ·simp
     ·simpa using hih
  ·rename_i n e cs ds hs;obtain ⟨T, hT, hsh⟩ := xc0 hs (by simp);have hu := zz0 hT hsh;simp only [Rel] at hx hy;obtain ⟨xs, rfl, hxl, hx1⟩ := hx;obtain ⟨ys, rfl, hyl, hy1⟩ := hy;unfold eqTy at ht;simp only [hu] at ht;cases hF : kc0 P e with
   | none => simp [hF] at h
   | some G =>
    obtain ⟨ii, dd, z, hi, hd, hz, _, hG⟩ := ve0 hF;rw [run_equalIn_array w D xs.toArray ys.toArray hu hi];have hc : P.cellsOf e = G.sz := by subst hG; simp [Program.cellsOf, hi]
    rw [hc];simp only [hF] at h ⊢;generalize List.range n = is at *;clear hG;induction is with
    | nil => simp [Op.eqItems]
    | cons i is ih =>
     simp only [List.foldr_cons] at h ⊢;obtain ⟨f1, f2, f3, f4, f5⟩ := kao9 h;rw [f5];obtain ⟨p, hp, hrp⟩ := wm0 (P := P) (w := w) hF hxl hx1 f1;obtain ⟨q, hq, hrq⟩ := wm0 (P := P) (w := w) hF hyl hy1 f2;have he := zaT9 w d e _ _ p q hrp hrq ht f3 D (by omega);have hih := ih f4;simp only [Op.eqItems, Sem.run_bind, hp, hq, he, Result.andThen_ok];cases (eqA P d e (cut G cs (i * G.sz)) (cut G ds (i * G.sz))).2
     ·simp
     ·simpa using hih
  ·cases h
end
end Go.V

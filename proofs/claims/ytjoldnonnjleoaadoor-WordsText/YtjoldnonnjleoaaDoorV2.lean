/- The library V, part 2: lists of related values, what the program's tables say, states and their growth. -/
import Derived.Test.YtjoldnonnjleoaaDoorV1
namespace Go.V
open Go Go.RowKit

section lists
variable {E : Env}
theorem RelL.length : ∀ {as : List AV} {vs : List Value}, RelL E as vs → as.length = vs.length
  | [], vs, h => by simp only [RelL] at h; subst h; rfl
  | a :: as, vs, h => by
    simp only [RelL] at h
    obtain ⟨u, us, rfl, _, h2⟩ := h
    simp [RelL.length h2]
theorem RelL.get : ∀ {as : List AV} {vs : List Value}, RelL E as vs → ∀ {i : Nat} {a : AV}, as[i]? = some a → ∃ v, vs[i]? = some v ∧ Rel E a v
  | [], vs, _, i, a, hi => by simp at hi
  | x :: as, vs, h, i, a, hi => by
    simp only [RelL] at h
    obtain ⟨u, us, rfl, h1, h2⟩ := h
    cases i with
    | zero => simp at hi; subst hi; exact ⟨u, rfl, h1⟩
    | succ i => simpa using RelL.get h2 (by simpa using hi)
theorem RelL.mk : ∀ {as : List AV} {vs : List Value}, as.length = vs.length → (∀ (i : Nat) (a : AV) (v : Value), as[i]? = some a → vs[i]? = some v → Rel E a v) → RelL E as vs
  | [], vs, hl, _ => by
    have : vs = [] := List.eq_nil_of_length_eq_zero (by simpa using hl.symm)
    simp [RelL, this]
  | a :: as, [], hl, _ => by simp at hl
  | a :: as, v :: vs, hl, h => by
    simp only [RelL]
    exact ⟨v, vs, rfl, h 0 a v rfl rfl, RelL.mk (by simpa using hl) fun i a v h1 h2 => h (i + 1) a v (by simpa using h1) (by simpa using h2)⟩
theorem RelL.set {as : List AV} {vs : List Value} (h : RelL E as vs) (i : Nat) {a : AV} {v : Value} (hr : Rel E a v) : RelL E (as.set i a) (vs.set i v) := by
  refine RelL.mk (by simpa using h.length) fun j b u hb hu => ?_
  rw [List.getElem?_set] at hb hu
  by_cases hij : i = j
  · subst hij
    have hl := h.length
    simp only [if_true] at hb hu
    split at hb
    · split at hu
      · injection hb with hb; injection hu with hu; subst hb; subst hu; exact hr
      · cases hu
    · cases hb
  · simp only [if_neg hij] at hb hu
    obtain ⟨v', hv', hr'⟩ := h.get hb
    rw [hu] at hv'; injection hv' with hv'; subst hv'; exact hr'
theorem RelL.append {as bs : List AV} {us vs : List Value} (h : RelL E as us) (k : RelL E bs vs) : RelL E (as ++ bs) (us ++ vs) := by
  have h1 := h.length
  have h2 := k.length
  refine RelL.mk (by simp [h1, h2]) fun i a v ha hv => ?_
  by_cases hi : i < as.length
  · rw [List.getElem?_append_left hi] at ha
    rw [List.getElem?_append_left (by omega)] at hv
    obtain ⟨v', hv', hr'⟩ := h.get ha
    rw [hv] at hv'; injection hv' with hv'; subst hv'; exact hr'
  · rw [List.getElem?_append_right (by omega)] at ha
    rw [List.getElem?_append_right (by omega)] at hv
    obtain ⟨v', hv', hr'⟩ := k.get ha
    rw [h1, hv] at hv'; injection hv' with hv'; subst hv'; exact hr'
theorem RelL.take {as : List AV} {vs : List Value} (h : RelL E as vs) (n : Nat) : RelL E (as.take n) (vs.take n) := by
  refine RelL.mk (by simp [h.length]) fun i a v ha hv => ?_
  rw [List.getElem?_take] at ha hv
  split at ha
  · rename_i hlt
    rw [if_pos hlt] at hv
    obtain ⟨v', hv', hr'⟩ := h.get ha
    rw [hv] at hv'; injection hv' with hv'; subst hv'; exact hr'
  · cases ha
theorem RelL.drop {as : List AV} {vs : List Value} (h : RelL E as vs) (n : Nat) : RelL E (as.drop n) (vs.drop n) := by
  refine RelL.mk (by simp [h.length]) fun i a v ha hv => ?_
  rw [List.getElem?_drop] at ha hv
  obtain ⟨v', hv', hr'⟩ := h.get ha
  rw [hv] at hv'; injection hv' with hv'; subst hv'; exact hr'
theorem RelL.replicate {a : AV} {v : Value} (h : Rel E a v) (n : Nat) : RelL E (List.replicate n a) (List.replicate n v) := by
  refine RelL.mk (by simp) fun i b u hb hu => ?_
  rw [List.getElem?_replicate] at hb hu
  split at hb
  · rename_i hlt
    rw [if_pos hlt] at hu
    injection hb with hb; injection hu with hu; subst hb; subst hu; exact h
  · cases hb

theorem RelC.get : ∀ {as : List AV} {g off : Nat}, RelC E as g off → ∀ {j : Nat} {a : AV}, as[j]? = some a → ∃ v, mcell E.M g (off + j) = some v ∧ v.oneCell' = true ∧ Rel E a v
  | [], _, _, _, j, a, hj => by simp at hj
  | x :: as, g, off, h, j, a, hj => by
    simp only [RelC] at h
    obtain ⟨⟨u, hu, h1, hr⟩, h2⟩ := h
    cases j with
    | zero => simp at hj; subst hj; exact ⟨u, hu, h1, hr⟩
    | succ j =>
      have := RelC.get h2 (j := j) (by simpa using hj)
      rwa [show off + 1 + j = off + (j + 1) from by omega] at this
theorem RelC.mk : ∀ {as : List AV} {g off : Nat}, (∀ (j : Nat) (a : AV), as[j]? = some a → ∃ v, mcell E.M g (off + j) = some v ∧ v.oneCell' = true ∧ Rel E a v) → RelC E as g off
  | [], _, _, _ => by simp [RelC]
  | x :: as, g, off, h => by
    simp only [RelC]
    refine ⟨by simpa using h 0 x rfl, RelC.mk fun j a hj => ?_⟩
    have := h (j + 1) a (by simpa using hj)
    rwa [show off + (j + 1) = off + 1 + j from by omega] at this
theorem RelE.get {s : Nat} : ∀ {es : List (List AV)} {g off : Nat}, RelE E s es g off → ∀ {i : Nat} {e : List AV}, es[i]? = some e → e.length = s ∧ RelC E e g (off + i * s)
  | [], _, _, _, i, e, hi => by simp at hi
  | x :: es, g, off, h, i, e, hi => by
    simp only [RelE] at h
    obtain ⟨h1, h2, h3⟩ := h
    cases i with
    | zero => simp at hi; subst hi; exact ⟨h1, by simpa using h2⟩
    | succ i =>
      have := RelE.get h3 (i := i) (by simpa using hi)
      rwa [show off + s + i * s = off + (i + 1) * s from by rw [Nat.add_mul]; omega] at this
theorem RelE.mk {s : Nat} : ∀ {es : List (List AV)} {g off : Nat}, (∀ (i : Nat) (e : List AV), es[i]? = some e → e.length = s ∧ RelC E e g (off + i * s)) → RelE E s es g off
  | [], _, _, _ => by simp [RelE]
  | x :: es, g, off, h => by
    simp only [RelE]
    refine ⟨(h 0 x rfl).1, by simpa using (h 0 x rfl).2, RelE.mk fun i e hi => ?_⟩
    have := h (i + 1) e (by simpa using hi)
    rwa [show off + (i + 1) * s = off + s + i * s from by rw [Nat.add_mul]; omega] at this
end lists

/-! ### What the program's tables say of a type -/
inductive Shape where
  | int (k : IntKind) | bool | str | slice (e : TypeId) | array (n : Nat) (e : TypeId) | struct (fs : List (Nat × TypeId)) | map (k v : TypeId) | ptr (e : TypeId) | func | iface | other
  deriving Inhabited

structure TI where
  agg : Bool
  sz : Nat
  bytes : Nat
  zero : List AV
  shape : Shape
  deriving Inhabited

/-- A constant's cell. -/
def ofCell : Value → AV
  | .int k n => .int k n
  | .bool b => .bool b
  | .string s => .str s.data.toList
  | .slice none 0 0 => .sl 0 [] (some 0)
  | v => .lit v
def ofVal : Value → AV
  | .agg cs => if cs.toList.all Value.oneCell' = true then .agg (cs.toList.map ofCell) else .top
  | .tuple cs => .tup (cs.toList.map ofCell)
  | v => ofCell v

theorem rel_ofCell (E : Env) (v : Value) : Rel E (ofCell v) v := by
  unfold ofCell
  split <;> simp [Rel, maxLen]
theorem relL_ofCell (E : Env) (vs : List Value) : RelL E (vs.map ofCell) vs :=
  RelL.mk (by simp) fun i a v ha hv => by
    rw [List.getElem?_map, hv] at ha
    injection ha with ha; subst ha; exact rel_ofCell E v
theorem rel_ofVal (E : Env) (v : Value) : Rel E (ofVal v) v := by
  unfold ofVal
  split
  · split
    · rename_i h1
      simp only [Rel]; exact ⟨_, by simp, relL_ofCell E _, List.all_eq_true.1 h1⟩
    · simp [Rel]
  · simp only [Rel]; exact ⟨_, by simp, relL_ofCell E _⟩
  · exact rel_ofCell E v

def shapeOf : TypeDesc → Shape
  | .int k => .int k
  | .bool => .bool
  | .string => .str
  | .slice e => .slice e
  | .array n e => .array n e
  | .struct fs => .struct (fs.toList.map fun f => (f.offset, f.type))
  | .map k v => .map k v
  | .pointer e => .ptr e
  | .func _ _ _ => .func
  | .interface _ => .iface
  | _ => .other

def tinfo (P : Program) (t : TypeId) : Option TI :=
  match P.info? t, P.underlying t with
  | some i, some d =>
    match i.zero with
    | some z => if z.cells.toList.all Value.oneCell' = true then some { agg := (match d with | .struct _ | .array _ _ => true | _ => false), sz := i.size, bytes := i.bytes, zero := z.cells.toList.map ofCell, shape := shapeOf d } else none
    | none => none
  | _, _ => none

theorem tinfo_some {P : Program} {t : TypeId} {T : TI} (h : tinfo P t = some T) : ∃ i d z, P.info? t = some i ∧ P.underlying t = some d ∧ i.zero = some z ∧ (∀ u ∈ z.cells.toList, u.oneCell' = true) ∧
    T = { agg := (match d with | .struct _ | .array _ _ => true | _ => false), sz := i.size, bytes := i.bytes, zero := z.cells.toList.map ofCell, shape := shapeOf d } := by
  unfold tinfo at h
  split at h
  · rename_i i d hi hd
    split at h
    · rename_i z hz
      split at h
      · rename_i h1
        injection h with h
        exact ⟨i, d, z, hi, hd, hz, List.all_eq_true.1 h1, h.symm⟩
      · cases h
    · cases h
  · cases h

/-! ### States -/
structure St where
  M : Mem
  μ : Nat → Option (Nat × Nat)
  ν : Nat → Option Nat
  w : World

def shOf (H : List Blk) (b : Nat) : Option (Nat × Nat) :=
  match H[b]? with
  | some (.row s _ es) => some (s, es.length)
  | _ => none
def mpOf (ν : Nat → Option Nat) (H : List Blk) (b : Nat) : Option Nat :=
  match H[b]? with
  | some (.map _ _ _) => ν b
  | _ => none
def St.env (S : St) (H : List Blk) : Env := ⟨S.M, S.μ, shOf H, mpOf S.ν H⟩
/-- The block of the model's heap in which own block b lies. -/
def St.at (S : St) (H : List Blk) (b : Nat) : Option Nat :=
  match H[b]? with
  | some (.row _ _ _) => (S.μ b).map (·.1)
  | some (.map _ _ _) => S.ν b
  | none => none
def St.Owns (S : St) (H : List Blk) (k : Nat) : Prop := ∃ b, S.at H b = some k

def RowIn (E : Env) (s : Nat) (es : List (List AV)) (cs : Array Value) : Prop :=
  ∀ (i : Nat) (e : List AV), es[i]? = some e → e.length = s ∧ ∀ (j : Nat) (a : AV), e[j]? = some a → ∃ v, cs[i * s + j]? = some v ∧ v.oneCell' = true ∧ Rel E a v

/-- The keys of maps: what a key's values are. -/
def MapIn (E : Env) (es : List (AV × AV)) (ents : Array MapEntry) : Prop :=
  es.length = ents.size ∧ ∀ (i : Nat) (p : AV × AV), es[i]? = some p → ∃ e, ents[i]? = some e ∧ Rel E p.1 e.key ∧ Rel E p.2 e.val

structure St.Ok (S : St) (H : List Blk) : Prop where
  imm : ∀ k o, S.M k = some o → S.w.heap[k]? = some o
  row : ∀ b s t es, H[b]? = some (.row s t es) → (S.μ b = none ∧ es = []) ∨
    ∃ g k cs, S.μ b = some (g, k) ∧ S.M g = none ∧ S.w.heap[g]? = some (.cells cs t (0, 0)) ∧ cs.size = k * s ∧ es.length ≤ k ∧ k ≤ maxLen ∧ RowIn (S.env H) s es cs
  map : ∀ b kt vt es, H[b]? = some (.map kt vt es) → ∃ g ents clock, S.ν b = some g ∧ S.M g = none ∧ S.w.heap[g]? = some (.map ents clock) ∧ MapIn (S.env H) es ents
  inj : ∀ b b' g, S.at H b = some g → S.at H b' = some g → b = b'

/-- What lasts from one state of a call to a later one: n0: the first blocks, which were there when the activation began. -/
structure Ext (n0 : Nat) (S : St) (H : List Blk) (S' : St) (H' : List Blk) : Prop where
  os : S'.w.os = S.w.os
  tape : S'.w.tape = S.w.tape
  output : S'.w.output = S.w.output
  size : S.w.heap.size ≤ S'.w.heap.size
  keep : ∀ k, k < S.w.heap.size → ¬ S.Owns H k → S'.w.heap[k]? = S.w.heap[k]?
  M : ∀ k o, S.M k = some o → S'.M k = some o
  dom : ∀ k, S'.M k ≠ none → S.M k ≠ none ∨ S.Owns H k ∨ S.w.heap.size ≤ k
  own : ∀ k, S'.Owns H' k → S.Owns H k ∨ S.w.heap.size ≤ k
  sh : ∀ b s cur, b < n0 → shOf H b = some (s, cur) → ∃ cur', cur ≤ cur' ∧ shOf H' b = some (s, cur') ∧ (cur' = cur → S'.μ b = S.μ b)
  ν : ∀ b g, b < n0 → mpOf S.ν H b = some g → mpOf S'.ν H' b = some g
  len : n0 ≤ H.length → n0 ≤ H'.length

theorem Ext.refl (n0 : Nat) (S : St) (H : List Blk) : Ext n0 S H S H :=
  ⟨rfl, rfl, rfl, Nat.le_refl _, fun _ _ _ => rfl, fun _ _ h => h, fun _ h => .inl h, fun _ h => .inl h, fun _ _ _ _ h => ⟨_, Nat.le_refl _, h, fun _ => rfl⟩, fun _ _ _ h => h, id⟩
theorem Ext.trans {n0 : Nat} {S S1 S2 : St} {H H1 H2 : List Blk} (h : Ext n0 S H S1 H1) (k : Ext n0 S1 H1 S2 H2) : Ext n0 S H S2 H2 where
  os := k.os.trans h.os
  tape := k.tape.trans h.tape
  output := k.output.trans h.output
  size := Nat.le_trans h.size k.size
  keep i hi hno := (k.keep i (Nat.lt_of_lt_of_le hi h.size) fun ho => by
    rcases h.own i ho with h' | h'
    · exact hno h'
    · omega).trans (h.keep i hi hno)
  M i o hi := k.M i o (h.M i o hi)
  dom i hi := by
    rcases k.dom i hi with h' | h' | h'
    · exact h.dom i h'
    · rcases h.own i h' with h'' | h''
      · exact .inr (.inl h'')
      · exact .inr (.inr h'')
    · exact .inr (.inr (Nat.le_trans h.size h'))
  own i hi := by
    rcases k.own i hi with h' | h'
    · exact h.own i h'
    · exact .inr (Nat.le_trans h.size h')
  sh b s cur hb hs := by
    obtain ⟨c1, l1, s1, m1⟩ := h.sh b s cur hb hs
    obtain ⟨c2, l2, s2, m2⟩ := k.sh b s c1 hb s1
    exact ⟨c2, Nat.le_trans l1 l2, s2, fun e => by
      have : c1 = cur := by omega
      subst this
      rw [m2 e, m1 rfl]⟩
  ν b g hb hg := k.ν b g hb (h.ν b g hb hg)
  len hn := k.len (h.len hn)
theorem Ext.less {n0 m0 : Nat} {S S' : St} {H H' : List Blk} (h : Ext n0 S H S' H') (hm : m0 ≤ n0) (hn : n0 ≤ H.length) : Ext m0 S H S' H' :=
  { h with
    len := fun _ => Nat.le_trans hm (h.len hn)
    sh := fun b s cur hb hs => h.sh b s cur (by omega) hs
    ν := fun b g hb hg => h.ν b g (by omega) hg }
theorem shOf_lt {H : List Blk} {b : Nat} {p : Nat × Nat} (h : shOf H b = some p) : b < H.length := by
  unfold shOf at h
  split at h
  · rename_i hb; exact (List.getElem?_eq_some_iff.1 hb).1
  · cases h
theorem mpOf_lt {ν : Nat → Option Nat} {H : List Blk} {b g : Nat} (h : mpOf ν H b = some g) : b < H.length := by
  unfold mpOf at h
  split at h
  · rename_i hb; exact (List.getElem?_eq_some_iff.1 hb).1
  · cases h
/-- The relation lasts where all blocks were there. -/
theorem Ext.le {n0 : Nat} {S S' : St} {H H' : List Blk} (h : Ext n0 S H S' H') (hn : H.length ≤ n0) : (S.env H).le (S'.env H') :=
  ⟨h.M, fun b s cur hb => h.sh b s cur (by have := shOf_lt hb; omega) hb, fun b g hb => h.ν b g (by have := mpOf_lt hb; omega) hb⟩
/-- The world alone has turned, outside of what is known. -/
def St.with (S : St) (w : World) : St := { S with w := w }
theorem St.at_with (S : St) (w : World) (H : List Blk) (b : Nat) : (S.with w).at H b = S.at H b := rfl
theorem St.env_with (S : St) (w : World) (H : List Blk) : (S.with w).env H = S.env H := rfl
theorem St.owns_with (S : St) (w : World) (H : List Blk) (k : Nat) : (S.with w).Owns H k ↔ S.Owns H k := Iff.rfl
end Go.V

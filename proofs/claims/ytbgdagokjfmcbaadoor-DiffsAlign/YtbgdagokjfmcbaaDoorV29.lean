/- The library V, part 29: a range over a function. -/
import Derived.Test.YtbgdagokjfmcbaaDoorV19
import Derived.ProofKit
set_option linter.unusedVariables false
set_option linter.unusedSimpArgs false
namespace Go.V
open Go Go.RowKit
def kid (i : Nat) (c : Code) : Code :=
 match c with
 | .seq x y => match i with|0 => x|_ => y
 | .cond _ x y => match i with|0 => x|_ => y
 | .block _ x => x
 | .loop x => x
 | .scope x => x
 | .rangeFunc _ _ x y => match i with|0 => x|_ => y
 | c => c
def atR (c : Code) : List Nat → Code
 | [] => c
 | i :: p => kid i (atR c p)
def ws0 (f : Func) : Code := f.body.getD .skip
def vdv9 : Code → Bool
 | .seq _ _ => true
 | _ => false
def vdl9 : Code → Bool
 | .skip => true
 | .label _ => true
 | _ => false
def kdv9 : Code → Bool
 | .ret => true
 | _ => false
def vcK9 : Code → Bool
 | .loop _ => true
 | _ => false
def zm0 : Code → List Oper
 | .region _ ops _ => ops.toList
 | _ => []
def kaD9 : Code → Bool
 | .region _ _ d => d
 | _ => false
def vN0 : Code → Bool
 | .region _ _ _ => true
 | _ => false
def waK9 : Op → Nat
 | .call { callee := .value _, .. } => 2
 | .makeSlice _ _ _ => 5
 | o => if wA0 o then 1 else 0
def Lst (n : Nat) (s : Nat → AV) : List AV := (List.range n).map s
def updS (s : Nat → AV) (d : Nat) (v : AV) : Nat → AV := fun t => if t = d then v else s t
def put (s : Nat → AV) (d : Option Tmp) (v : AV) : Nat → AV :=
 match d with
 | some d => updS s d v
 | none => s
theorem vy0 (n : Nat) (s : Nat → AV) : (Lst n s).length = n := by simp [Lst]
theorem qan9 (n : Nat) (s : Nat → AV) (t : Nat) : getA (Lst n s) t = if t < n then s t else .tup [] := by
 simp only [getA, Lst, List.getD_eq_getElem?_getD, List.getElem?_map];by_cases h : t < n
 ·rw [if_pos h, List.getElem?_range h]; rfl
 ·rw [if_neg h, List.getElem?_eq_none (by simpa using h)]; rfl
theorem zbu9 {a : List AV} {n : Nat} (h : a.length = n) : a = Lst n (getA a) := by
 apply List.ext_getElem
 ·simp [vy0, h]
 ·intro i h1 h2;simp [Lst, getA, List.getD_eq_getElem?_getD, h1]
theorem vv0 (n : Nat) (s : Nat → AV) (d : Option Tmp) (v : AV) : putA (Lst n s) d v = Lst n (put s d v) := by
 cases d with
 | none => rfl
 | some d =>
  apply List.ext_getElem
  ·simp [putA, Lst]
  ·intro i h1 h2;simp only [putA, put, updS, Lst, List.getElem_set, List.getElem_map, List.getElem_range];by_cases h : d = i
   ·simp [h]
   ·rw [if_neg h, if_neg (fun q => h q.symm)]
def rdS (n : Nat) (s : Nat → AV) (t : Nat) : AV := if t < n then s t else .tup []
theorem kdl9 (n : Nat) (s : Nat → AV) (t : Nat) : rdS n s t = if t < n then s t else .tup [] := rfl
def evS (G : Glob) (n : Nat) (s : Nat → AV) : Operand → AV
 | .tmp t => if t < n then s t else .tup []
 | .const v => qT0 v
 | .global g => match G g with|some cs => .iptr cs 0|none => .top
 | .func f => .fn f []
theorem qr0 (G : Glob) (n : Nat) (s : Nat → AV) : ev G (Lst n s) = evS G n s := by
 funext x
 cases x with
 | tmp t => exact qan9 n s t
 | _ => rfl
theorem kcU9 (G : Glob) (n : Nat) (s : Nat → AV) (t : Nat) : evS G n s (.tmp t) = if t < n then s t else .tup [] := rfl
theorem kbT9 (G : Glob) (n : Nat) (s : Nat → AV) (v : Value) : evS G n s (.const v) = qT0 v := rfl
theorem zct9 (G : Glob) (n : Nat) (s : Nat → AV) (f : FuncId) : evS G n s (.func f) = .fn f [] := rfl
theorem qcV9 (s : Nat → AV) (d t : Nat) (v : AV) : updS s d v t = if t = d then v else s t := rfl
theorem qbU9 (s : Nat → AV) (d : Nat) (v : AV) : updS s d v d = v := if_pos rfl
theorem xct9 (s : Nat → AV) (d : Nat) (v : AV) : put s (some d) v = updS s d v := rfl
theorem wct9 (s : Nat → AV) (v : AV) : put s none v = s := rfl
abbrev xn0 := Exit → (Nat → AV) → List Blk → Prop
def vY0 (n : Nat) (Q : xn0) : Post := fun e a H => ∃ s, a = Lst n s ∧ Q e s H
def qdw9 (n : Nat) (K : (Nat → AV) → List Blk → Prop) (a : List AV) (H : List Blk) : Prop := ∃ s, a = Lst n s ∧ K s H
def xF0 (K : (Nat → AV) → List Blk → Prop) (Q : xn0) : xn0
 | .normal, a, H => K a H
 | e, a, H => Q e a H
def ks0 (id : Nat) (Q : xn0) : xn0
 | .exit id', a, H => if id' = id then Q .normal a H else Q (.exit id') a H
 | e, a, H => Q e a H
theorem vU0 (n : Nat) (K : (Nat → AV) → List Blk → Prop) (Q : xn0) : vY0 n (xF0 K Q) = qbj9 (qdw9 n K) (vY0 n Q) := by
 funext e a H; cases e <;> rfl
theorem vaK9 (n : Nat) (id : Nat) (Q : xn0) : vY0 n (ks0 id Q) = vX0 id (vY0 n Q) := by
 funext e a H
 cases e with
 | exit id' =>
  simp only [vY0, ks0, vX0];by_cases h : id' = id <;> simp [h]
 | _ => rfl
section
variable {ρ : Bool} {P : Program} {G : Glob} {n0 n : Nat} {body : Code} {p : List Nat} {Q : xn0} {B : Prop} {s : Nat → AV} {H : List Blk} {dr : Operand → Bool} {k : Nat}
def At (ρ : Bool) (P : Program) (G : Glob) (n0 n : Nat) (body : Code) (p : List Nat) (Q : xn0) (s : Nat → AV) (H : List Blk) : Prop := AWp ρ P G n0 (atR body p) (vY0 n Q) (Lst n s) H
def xal9 (ρ : Bool) (P : Program) (G : Glob) (n0 n : Nat) (body : Code) (p : List Nat) (Q : xn0) : xn0 := xF0 (At ρ P G n0 n body p Q) Q
structure Go (ρ : Bool) (P : Program) (G : Glob) (n0 n : Nat) (body : Code) (p : List Nat) (Q : xn0) (B : Prop) (s : Nat → AV) (H : List Blk) : Prop where
 b : B
 w : At ρ P G n0 n body p Q s H
structure Out (Q : xn0) (e : Exit) (B : Prop) (s : Nat → AV) (H : List Blk) : Prop where
 b : B
 w : Q e s H
structure Acc (ρ : Bool) (P : Program) (G : Glob) (n0 n : Nat) (dr : Operand → Bool) (body : Code) (p : List Nat) (Q : xn0) (k : Nat) (B : Prop) (s : Nat → AV) (H : List Blk) : Prop where
 b : B
 w : tops P G dr (zm0 (atR body p)) (vY0 n Q .normal) ((zm0 (atR body p)).drop k) (Lst n s) H
theorem zdw9 (h : Go ρ P G n0 n body p Q B s H) : Go ρ P G n0 n body p Q B s H := h
theorem kY0 (h : Acc ρ P G n0 n dr body p Q k B s H) : Acc ρ P G n0 n dr body p Q k B s H := h
theorem qdm9 {e : Exit} (h : Out Q e B s H) : Out Q e B s H := h
theorem at_go (h : Go ρ P G n0 n body p Q True s H) : At ρ P G n0 n body p Q s H := h.2
theorem zdm9 (hs : vdv9 (atR body p) = true) (h : Go ρ P G n0 n body (0 :: p) (xal9 ρ P G n0 n body (1 :: p) Q) B s H) : Go ρ P G n0 n body p Q B s H := by
 refine ⟨h.1, ?_⟩;have h2 := h.2;unfold At xal9 at h2;rw [vU0] at h2;simp only [atR] at h2;unfold At;generalize hc : atR body p = c at hs h2;cases c with
 | seq x y =>
  refine zcR9 (xy0 h2 fun e a H q => ?_);cases e with
  | normal =>
   obtain ⟨s', rfl, q⟩ := q;unfold At at q;simp only [atR, hc] at q;exact q
  | _ => exact q
 | _ => cases hs
theorem go_skip (hs : vdl9 (atR body p) = true) (h : Out Q .normal B s H) : Go ρ P G n0 n body p Q B s H := by
 refine ⟨h.1, ?_⟩;unfold At;generalize atR body p = c at hs;cases c with
 | skip => exact wcq9 ⟨_, rfl, h.2⟩
 | label l => exact kaU9 ⟨_, rfl, h.2⟩
 | _ => cases hs
theorem go_ret (hs : kdv9 (atR body p) = true) (h : Out Q .ret B s H) : Go ρ P G n0 n body p Q B s H := by
 refine ⟨h.1, ?_⟩;unfold At;generalize atR body p = c at hs;cases c with
 | ret => exact xcR9 ⟨_, rfl, h.2⟩
 | _ => cases hs
theorem zcV9 {id : Nat} (hs : atR body p = .exit id) (h : Out Q (.exit id) B s H) : Go ρ P G n0 n body p Q B s H := by
 refine ⟨h.1, ?_⟩;unfold At; rw [hs]; exact vcq9 ⟨_, rfl, h.2⟩
theorem vct9 {id : Nat} {c : Code} (hs : atR body p = .block id c) (h : Go ρ P G n0 n body (0 :: p) (ks0 id Q) B s H) : Go ρ P G n0 n body p Q B s H := by
 refine ⟨h.1, ?_⟩;have h2 := h.2;unfold At at h2 ⊢;simp only [atR] at h2;rw [vaK9] at h2;rw [hs] at h2 ⊢;exact wbQ9 h2
def xcV9 (G : Glob) (n : Nat) (s : Nat → AV) (c : Operand) (X Y : Prop) : Prop :=
 match (evS G n s c).strip with
 | .bool b => (evS G n s c).ok = true ∧ (b = true → X) ∧ (b = false → Y)
 | .anyb => (evS G n s c).ok = true ∧ X ∧ Y
 | _ => False
theorem wcV9 {c : Operand} {x y : Code} (hs : atR body p = .cond c x y) (h : B ∧ xcV9 G n s c (At ρ P G n0 n body (0 :: p) Q s H) (At ρ P G n0 n body (1 :: p) Q s H)) : Go ρ P G n0 n body p Q B s H := by
 refine ⟨h.1, ?_⟩;have h2 := h.2;unfold At at h2 ⊢;simp only [atR] at h2;rw [hs] at h2 ⊢;refine wdl9 ?_;unfold xcV9 at h2;unfold vcU9;rw [qr0];exact h2
theorem go_loop (hs : vcK9 (atR body p) = true) (I : Nat → (Nat → AV) → List Blk → Prop) {m : Nat} {s1 : Nat → AV} {H1 : List Blk} (hB : B) (hw : Weak n0 (Lst n s) H (Lst n s1) H1) (h0 : I m s1 H1)
  (round : ∀ m s H, I m s H → Go ρ P G n0 n body (0 :: p) (xF0 (fun s' H' => ∃ m' s2 H2, m' < m ∧ Weak n0 (Lst n s') H' (Lst n s2) H2 ∧ I m' s2 H2) Q) True s H) : Go ρ P G n0 n body p Q B s H := by
 refine ⟨hB, ?_⟩;have h2 := fun n a H h => (round n a H h).2;unfold At at h2 ⊢;simp only [atR] at h2;generalize atR body p = c at hs h2;cases c with
 | loop x =>
  refine zcr9 (fun m a H => ∃ s, a = Lst n s ∧ I m s H) hw ⟨s1, rfl, h0⟩ fun m a H ⟨s, ha, hI⟩ => ?_;subst ha;refine xy0 (h2 m s H hI) fun e a H q => ?_;rw [vU0] at q;cases e with
  | normal =>
   obtain ⟨s', rfl, m', s2, H2, q1, q2, q3⟩ := q;exact ⟨m', Lst n s2, H2, q1, q2, s2, rfl, q3⟩
  | _ => exact q
 | _ => cases hs
theorem zo0 {s1 : Nat → AV} {H1 : List Blk} (hB : B) (hw : Weak n0 (Lst n s) H (Lst n s1) H1) (h : Go ρ P G n0 n body p Q True s1 H1) : Go ρ P G n0 n body p Q B s H := ⟨hB, qcr9 hw h.2⟩
theorem go_region (hs : vN0 (atR body p) = true) (hd : kaD9 (atR body p) = false) (h : Acc ρ P G n0 n noQ body p Q 0 B s H) : Go ρ P G n0 n body p Q B s H := by
 refine ⟨h.1, ?_⟩;have h2 := h.2;unfold At;generalize atR body p = c at hs h2 hd;cases c with
 | region id ops d =>
  cases hd
  simp only [zm0, List.drop_zero] at h2;exact waD9 (ops := ops.toList) h2
 | _ => cases hs
theorem wg0 (hs : vN0 (atR body p) = true) (hd : kaD9 (atR body p) = true) (hm : P.follows .mixedOrders = true) (ho : qaf9 dr (zm0 (atR body p)) = true) (h : Acc ρ P G n0 n dr body p Q 0 B s H) (hown : ownF dr = false := by rfl) : Go ρ P G n0 n body p Q B s H := by
 refine ⟨h.1, ?_⟩;have h2 := h.2;unfold At;generalize atR body p = c at hs h2 hd ho;cases c with
 | region id ops d =>
  cases hd
  simp only [zm0, List.drop_zero] at h2 ho;exact xcr9 (ops := ops.toList) hown hm ho h2
 | _ => cases hs
theorem kct9 {p1 : List Nat} (h : Go ρ P G n0 n body p1 Q B s H) : Out (xal9 ρ P G n0 n body p1 Q) .normal B s H := ⟨h.1, h.2⟩
theorem zaW9 {p1 : List Nat} (h : Out Q .ret B s H) : Out (xal9 ρ P G n0 n body p1 Q) .ret B s H := ⟨h.1, h.2⟩
theorem kaK9 {p1 : List Nat} {id : Nat} (h : Out Q (.exit id) B s H) : Out (xal9 ρ P G n0 n body p1 Q) (.exit id) B s H := ⟨h.1, h.2⟩
theorem qZ0 {K : (Nat → AV) → List Blk → Prop} (h : B ∧ K s H) : Out (xF0 K Q) .normal B s H := ⟨h.1, h.2⟩
theorem qb0 {I : Nat → (Nat → AV) → List Blk → Prop} {m : Nat} (m' : Nat) (hm : m' < m) (hB : B) (hI : I m' s H) : Out (xF0 (fun s' H' => ∃ m' s2 H2, m' < m ∧ Weak n0 (Lst n s') H' (Lst n s2) H2 ∧ I m' s2 H2) Q) .normal B s H := ⟨hB, m', s, H, hm, Weak.refl _ _, hI⟩
theorem qaL9 {K : (Nat → AV) → List Blk → Prop} (h : Out Q .ret B s H) : Out (xF0 K Q) .ret B s H := ⟨h.1, h.2⟩
theorem xaz9 {K : (Nat → AV) → List Blk → Prop} {id : Nat} (h : Out Q (.exit id) B s H) : Out (xF0 K Q) (.exit id) B s H := ⟨h.1, h.2⟩
theorem zbU9 {id : Nat} (h : Out Q .normal B s H) : Out (ks0 id Q) .normal B s H := ⟨h.1, h.2⟩
theorem zaL9 {id : Nat} (h : Out Q .ret B s H) : Out (ks0 id Q) .ret B s H := ⟨h.1, h.2⟩
theorem waz9 {id id' : Nat} (hid : (id' == id) = true) (h : Out Q .normal B s H) : Out (ks0 id Q) (.exit id') B s H := by
 have : id' = id := by simpa using hid
 subst this;exact ⟨h.1, by simpa [ks0] using h.2⟩
theorem xas9 {id id' : Nat} (hid : (id' == id) = false) (h : Out Q (.exit id') B s H) : Out (ks0 id Q) (.exit id') B s H := by
 have : ¬ id' = id := by simpa using hid
 exact ⟨h.1, by simpa [ks0, this] using h.2⟩
theorem wF0 {l : List Oper} {k : Nat} {o : Oper} (h : l[k]? = some o) : l.drop k = o :: l.drop (k + 1) := by
 obtain ⟨hk, e⟩ := List.getElem?_eq_some_iff.1 h;rw [List.drop_eq_getElem_cons hk, e]
theorem vcV9 (h : (zm0 (atR body p))[k]? = none) (hk : Out Q .normal B s H) : Acc ρ P G n0 n dr body p Q k B s H := by
 refine ⟨hk.1, ?_⟩;rw [List.drop_eq_nil_of_le (List.getElem?_eq_none_iff.1 h)];exact ⟨_, rfl, hk.2⟩
theorem qcu9 {o : Op} {σ : Operand → AV} {K : AV → List Blk → Prop} (ho : waK9 o = 0) (h1 : (zf0 P o σ H).1 = true) (h2 : K (zf0 P o σ H).2 H) : opK P G dr o σ H K := by
 unfold opK;split
 ·cases ho
 ·cases ho
 ·exact .inl ⟨h1, h2⟩
 ·rename_i hne hnm hnb;have : wA0 o = false := by
   unfold waK9 at ho;split at ho
   ·cases ho
   ·cases ho
   ·split at ho
    ·cases ho
    ·rename_i h; simpa using h
  rw [if_neg (by simp [this])];exact ⟨h1, h2⟩
theorem kcV9 {o : Op} {σ : Operand → AV} {K : AV → List Blk → Prop} (ho : waK9 o = 1) (h1 : (xg0 P o σ H).1 = true) (h2 : K (xg0 P o σ H).2.1 (xg0 P o σ H).2.2) : opK P G dr o σ H K := by
 unfold opK;split
 ·cases ho
 ·cases ho
 ·cases ho
 ·rename_i hne hnm hnb;have : wA0 o = true := by
   unfold waK9 at ho;split at ho
   ·cases ho
   ·cases ho
   ·split at ho
    ·rename_i h; exact h
    ·cases ho
  rw [if_pos this];exact ⟨h1, h2⟩
theorem xdm9 {t l c} {σ : Operand → AV} {K : AV → List Blk → Prop} (hm : (mkF dr || atF dr) = false) (h1 : (xg0 P (.makeSlice t l c) σ H).1 = true) (h2 : K (xg0 P (.makeSlice t l c) σ H).2.1 (xg0 P (.makeSlice t l c) σ H).2.2) : opK P G dr (.makeSlice t l c) σ H K := by
 rw [Bool.or_eq_false_iff] at hm;simp only [opK, hm.1, hm.2, Bool.false_eq_true, if_false];exact ⟨h1, h2⟩
theorem zcu9 {t l c} {σ : Operand → AV} {K : AV → List Blk → Prop} {r : AV} (hm : mkF dr = true) (h1 : Made P (.makeSlice t l c) σ H r) (h2 : K r H) : opK P G dr (.makeSlice t l c) σ H K := by
 simp only [opK, hm, if_true];exact ⟨r, h1, h2⟩
theorem xbU9 {g : Bool} {o : Op} {σ : Operand → AV} {K : AV → List Blk → Prop} (ho : waK9 o = 0) (h1 : g = true → (zf0 P o σ H).1 = true) (h2 : K (.opt g (zf0 P o σ H).2) H) : gopK P G dr g o σ H K := by
 unfold gopK;split
 ·cases ho
 ·cases ho
 ·rename_i hne hnm;have : wA0 o = false := by
   unfold waK9 at ho;split at ho
   ·cases ho
   ·cases ho
   ·split at ho
    ·cases ho
    ·rename_i h; simpa using h
  rw [if_neg (by simp [this])];exact ⟨h1, h2⟩
variable {d : Option Tmp} {op : Op} {ty : TypeId} {pos : String} {af : Array Edge}
theorem xcu9 (h : (zm0 (atR body p))[k]? = some ⟨d, op, ty, pos, af, none⟩) (ho : waK9 op = 0) (hk : Acc ρ P G n0 n dr body p Q (k + 1) (B ∧ (zf0 P op (evS G n s) H).1 = true) (put s d (zf0 P op (evS G n s) H).2) H) : Acc ρ P G n0 n dr body p Q k B s H := by
 obtain ⟨⟨h1, h2⟩, h3⟩ := hk;refine ⟨h1, ?_⟩;rw [wF0 h];rw [← vv0] at h3;exact qcu9 ho (by rw [qr0]; exact h2) (by rw [qr0]; exact h3)
theorem qcW9 (h : (zm0 (atR body p))[k]? = some ⟨d, op, ty, pos, af, none⟩) (ho : waK9 op = 1) (hk : Acc ρ P G n0 n dr body p Q (k + 1) (B ∧ (xg0 P op (evS G n s) H).1 = true) (put s d (xg0 P op (evS G n s) H).2.1) (xg0 P op (evS G n s) H).2.2) : Acc ρ P G n0 n dr body p Q k B s H := by
 obtain ⟨⟨h1, h2⟩, h3⟩ := hk;refine ⟨h1, ?_⟩;rw [wF0 h];rw [← vv0] at h3;exact kcV9 ho (by rw [qr0]; exact h2) (by rw [qr0]; exact h3)
theorem wdm9 {t0 : TypeId} {l c : Operand} (h : (zm0 (atR body p))[k]? = some ⟨d, .makeSlice t0 l c, ty, pos, af, none⟩) (hm : (mkF dr || atF dr) = false) (hk : Acc ρ P G n0 n dr body p Q (k + 1) (B ∧ (xg0 P (.makeSlice t0 l c) (evS G n s) H).1 = true) (put s d (xg0 P (.makeSlice t0 l c) (evS G n s) H).2.1) (xg0 P (.makeSlice t0 l c) (evS G n s) H).2.2) : Acc ρ P G n0 n dr body p Q k B s H := by
 obtain ⟨⟨h1, h2⟩, h3⟩ := hk;refine ⟨h1, ?_⟩;rw [wF0 h];rw [← vv0] at h3;exact (show opK P G dr (.makeSlice t0 l c) (ev G (Lst n s)) H (fun r H' => tops P G dr (zm0 (atR body p)) (vY0 n Q .normal) ((zm0 (atR body p)).drop (k + 1)) (putA (Lst n s) d r) H') from xdm9 hm (by rw [qr0]; exact h2) (by rw [qr0]; exact h3))
theorem wcu9 {t0 : TypeId} {l c : Operand} (h : (zm0 (atR body p))[k]? = some ⟨d, .makeSlice t0 l c, ty, pos, af, none⟩) (hm : mkF dr = true) (hk : B ∧ ∃ r, Made P (.makeSlice t0 l c) (evS G n s) H r ∧ Acc ρ P G n0 n dr body p Q (k + 1) True (put s d r) H) : Acc ρ P G n0 n dr body p Q k B s H := by
 obtain ⟨h1, r, h2, h3⟩ := hk;refine ⟨h1, ?_⟩;rw [wF0 h];have h3 := h3.2;rw [← vv0] at h3;exact (show opK P G dr (.makeSlice t0 l c) (ev G (Lst n s)) H (fun r H' => tops P G dr (zm0 (atR body p)) (vY0 n Q .normal) ((zm0 (atR body p)).drop (k + 1)) (putA (Lst n s) d r) H') from zcu9 hm (by rw [qr0]; exact h2) h3)
theorem qaE9 {dr : Bool} {f : AV} {args : List AV} {K K' : AV → List Blk → Prop} (h : qal9 P G dr f args H K) (hk : ∀ r H', K r H' → K' r H') : qal9 P G dr f args H K' := by
 unfold qal9 at h ⊢;split
 ·rename_i g cap hf;rw [hf] at h;simp only at h;obtain ⟨h3, h4, h5, h6⟩ := h;refine ⟨h3, h4, h5, ?_⟩;split
  ·rename_i hdr;rw [if_pos hdr] at h6;obtain ⟨r, q1, q2⟩ := h6;exact ⟨r, q1, hk _ _ q2⟩
  ·rename_i hdr;rw [if_neg hdr] at h6;obtain ⟨r, H', q1, q2⟩ := h6;exact ⟨r, H', q1, hk _ _ q2⟩
 ·rename_i b hf;rw [hf] at h;simp only at h;obtain ⟨h3, h5, h6⟩ := h;refine ⟨h3, h5, ?_⟩;split
  ·rename_i hdr;rw [if_pos hdr] at h6;obtain ⟨r, q1, q2⟩ := h6;exact ⟨r, q1, hk _ _ q2⟩
  ·rename_i hdr;rw [if_neg hdr] at h6;obtain ⟨r, H', q1, q2⟩ := h6;exact ⟨r, H', q1, hk _ _ q2⟩
 ·rename_i hne hne2;split at h
  ·rename_i g cap hf; exact absurd hf (hne g cap)
  ·rename_i b hf; exact absurd hf (hne2 b)
  ·exact h
theorem vcu9 {f : Operand} {args : Array Operand} {ts : Array TypeId} (h : (zm0 (atR body p))[k]? = some ⟨d, .call ⟨.value f, args, ts⟩, ty, pos, af, none⟩)
  (hk : B ∧ qal9 P G (dr f) (evS G n s f) (args.toList.map (evS G n s)) H (fun r H' => Acc ρ P G n0 n dr body p Q (k + 1) True (put s d r) H')) (hkp : kpF dr = false := by rfl) (hpc : pcF dr = false := by rfl) : Acc ρ P G n0 n dr body p Q k B s H := by
 refine ⟨hk.1, ?_⟩;rw [wF0 h];show qal9 P G (dr f) (ev G (Lst n s) f) (args.toList.map (ev G (Lst n s))) H _;rw [qr0];refine qaE9 hk.2 fun r H' q => ⟨fun w => (by rw [hkp] at w; cases w), fun w => (by rw [hpc] at w; cases w), ?_⟩;show tops _ _ _ _ _ _ (putA (Lst n s) d r) _;rw [vv0]; exact q.2
theorem wbU9 {f : Operand} {args : Array Operand} {ts : Array TypeId} (h : (zm0 (atR body p))[k]? = some ⟨d, .call ⟨.value f, args, ts⟩, ty, pos, af, none⟩) (hkp : kpF dr = true)
  (hk : B ∧ qal9 P G (dr f) (evS G n s f) (args.toList.map (evS G n s)) H (fun r H' => (∃ E, H' = H ++ E) ∧ Acc ρ P G n0 n dr body p Q (k + 1) True (put s d r) H')) (hpc : pcF dr = false := by rfl) : Acc ρ P G n0 n dr body p Q k B s H := by
 refine ⟨hk.1, ?_⟩;rw [wF0 h];show qal9 P G (dr f) (ev G (Lst n s) f) (args.toList.map (ev G (Lst n s))) H _;rw [qr0];refine qaE9 hk.2 fun r H' q => ⟨fun _ => q.1, fun w => (by rw [hpc] at w; cases w), ?_⟩;show tops _ _ _ _ _ _ (putA (Lst n s) d r) _;rw [vv0]; exact q.2.2
theorem kcu9 {ops : List Oper} {a : List AV} {j t : Nat} {want : Bool} (h : (ops[j]?).map (fun o => o.dst) = some (some t)) : zU0 ops a j want = gOf (getA a t) want := by
 unfold zU0;cases hj : ops[j]? with
 | none => rw [hj] at h; cases h
 | some o =>
  rw [hj] at h;simp only [Option.map_some, Option.some.injEq] at h;simp only [h]
def optK (o : Option Bool) (K : Bool → Prop) : Prop :=
 match o with
 | some g => K g
 | none => False
theorem vbU9 {j t : Nat} {want : Bool} {K : List AV → List Blk → Prop} (h : (zm0 (atR body p))[k]? = some ⟨d, op, ty, pos, af, some (j, want)⟩) (hj : ((zm0 (atR body p))[j]?).map (fun o => o.dst) = some (some t))
  (hk : optK (gOf (evS G n s (.tmp t)) want) fun g => gopK P G dr g op (evS G n s) H (fun r H' => tops P G dr (zm0 (atR body p)) K ((zm0 (atR body p)).drop (k + 1)) (Lst n (put s d r)) H')) : tops P G dr (zm0 (atR body p)) K ((zm0 (atR body p)).drop k) (Lst n s) H := by
 have ht : tops P G dr (zm0 (atR body p)) K ((zm0 (atR body p)).drop k) (Lst n s) H ↔ match zU0 (zm0 (atR body p)) (Lst n s) j want with|some g => gopK P G dr g op (ev G (Lst n s)) H (fun r H' => tops P G dr (zm0 (atR body p)) K ((zm0 (atR body p)).drop (k + 1)) (putA (Lst n s) d r) H')|none => False := by
  rw [wF0 h]; rfl
 rw [ht, kcu9 hj, ← zdj9 G, qr0];unfold optK at hk;simp only [vv0];exact hk
theorem vdm9 {j t : Nat} {want : Bool} (h : (zm0 (atR body p))[k]? = some ⟨d, op, ty, pos, af, some (j, want)⟩) (ho : waK9 op = 0) (hj : ((zm0 (atR body p))[j]?).map (fun o => o.dst) = some (some t))
  (hk : B ∧ optK (gOf (evS G n s (.tmp t)) want) fun g => Acc ρ P G n0 n dr body p Q (k + 1) (g = true → (zf0 P op (evS G n s) H).1 = true) (put s d (.opt g (zf0 P op (evS G n s) H).2)) H) : Acc ρ P G n0 n dr body p Q k B s H := by
 refine ⟨hk.1, vbU9 h hj ?_⟩;obtain ⟨hB, hk⟩ := hk;unfold optK at hk ⊢;split at hk
 ·exact xbU9 ho hk.1 hk.2
 ·exact hk.elim
theorem kbU9 {j t : Nat} {want : Bool} {t0 : TypeId} {l c : Operand} (h : (zm0 (atR body p))[k]? = some ⟨d, .makeSlice t0 l c, ty, pos, af, some (j, want)⟩) (hm : mkF dr = true) (hj : ((zm0 (atR body p))[j]?).map (fun o => o.dst) = some (some t))
  (hk : B ∧ optK (gOf (evS G n s (.tmp t)) want) fun g => ∃ r, (g = true → Made P (.makeSlice t0 l c) (evS G n s) H r) ∧ Acc ρ P G n0 n dr body p Q (k + 1) True (put s d (.opt g r)) H) : Acc ρ P G n0 n dr body p Q k B s H := by
 refine ⟨hk.1, vbU9 h hj ?_⟩;obtain ⟨hB, hk⟩ := hk;unfold optK at hk ⊢;split at hk
 ·obtain ⟨r, h1, h2⟩ := hk;simp only [gopK, hm, if_true];exact ⟨r, h1, h2.2⟩
 ·exact hk.elim
theorem kdm9 {j t : Nat} {want : Bool} {f : Operand} {args : Array Operand} {ts : Array TypeId} (h : (zm0 (atR body p))[k]? = some ⟨d, .call ⟨.value f, args, ts⟩, ty, pos, af, some (j, want)⟩) (hj : ((zm0 (atR body p))[j]?).map (fun o => o.dst) = some (some t))
  (hk : B ∧ optK (gOf (evS G n s (.tmp t)) want) fun g => qaV9 P G (dr f) g (evS G n s f) (args.toList.map (evS G n s)) H (fun r H' => Acc ρ P G n0 n dr body p Q (k + 1) True (put s d r) H')) : Acc ρ P G n0 n dr body p Q k B s H := by
 refine ⟨hk.1, vbU9 h hj ?_⟩;obtain ⟨hB, hk⟩ := hk;unfold optK at hk ⊢;split at hk
 ·rename_i g hg;simp only [gopK];unfold qaV9 at hk ⊢;split
  ·rename_i fn cap hf;rw [hf] at hk;simp only at hk;obtain ⟨h3, h4, r, h5, h6⟩ := hk;exact ⟨h3, h4, r, h5, h6.2⟩
  ·rename_i b hf;rw [hf] at hk;simp only at hk;obtain ⟨h3, h4⟩ := hk;refine ⟨h3, ?_⟩;split
   ·rename_i hg;rw [if_pos hg] at h4;obtain ⟨h5, h6, r, H', h7, h8⟩ := h4;exact ⟨h5, h6, r, H', h7, h8.2⟩
   ·rename_i hg;rw [if_neg hg] at h4;exact h4.2
  ·rename_i hne hny;split at hk
   ·rename_i g cap hf; exact absurd hf (hne g cap)
   ·rename_i b hf; exact absurd hf (hny b)
   ·exact hk
 ·exact hk.elim
def qcv9 (s : Nat → AV) : Nat → List AV → Prop
 | _, [] => True
 | k, x :: xs => s k = x ∧ qcv9 s (k + 1) xs
theorem xaL9 (a : List AV) : ∀ (k : Nat) (xs : List AV), zaV9 a k xs → qcv9 (getA a) k xs
 | _, [], _ => trivial
 | k, x :: xs, ⟨h1, h2⟩ => ⟨h1, xaL9 a (k + 1) xs h2⟩
def vu0 (P : Program) (n : Nat) (s : Nat → AV) (H : List Blk) : ResultVar → Bool × AV
 | .tmp t => ((rdS n s t).ok, (rdS n s t).strip)
 | .cell b t => ((rdS n s b).ok && (zQ0 P H t (rdS n s b).strip).1, (zQ0 P H t (rdS n s b).strip).2)
def resS (P : Program) (n : Nat) (rs : List ResultVar) (s : Nat → AV) (H : List Blk) : Bool × AV :=
 match rs with
 | [r] => vu0 P n s H r
 | rs => (rs.all fun r => (vu0 P n s H r).1, .tup (rs.map fun r => (vu0 P n s H r).2))
theorem qbV9 (n : Nat) (s : Nat → AV) (H : List Blk) (t : Nat) : vu0 P n s H (.tmp t) = ((rdS n s t).ok, (rdS n s t).strip) := rfl
theorem xbF9 (n : Nat) (s : Nat → AV) (H : List Blk) (b : Nat) (t : TypeId) : vu0 P n s H (.cell b t) = ((rdS n s b).ok && (zQ0 P H t (rdS n s b).strip).1, (zQ0 P H t (rdS n s b).strip).2) := rfl
theorem qdn9 (n : Nat) (s : Nat → AV) (H : List Blk) : resS P n [] s H = (true, .tup []) := rfl
theorem zdn9 (n : Nat) (s : Nat → AV) (H : List Blk) (a : ResultVar) : resS P n [a] s H = vu0 P n s H a := rfl
theorem xdn9 (n : Nat) (s : Nat → AV) (H : List Blk) (a b : ResultVar) : resS P n [a, b] s H = ((vu0 P n s H a).1 && (vu0 P n s H b).1, .tup [(vu0 P n s H a).2, (vu0 P n s H b).2]) := by simp [resS]
theorem wdn9 (n : Nat) (s : Nat → AV) (H : List Blk) (a b c : ResultVar) : resS P n [a, b, c] s H = ((vu0 P n s H a).1 && ((vu0 P n s H b).1 && (vu0 P n s H c).1), .tup [(vu0 P n s H a).2, (vu0 P n s H b).2, (vu0 P n s H c).2]) := by simp [resS]
theorem vdn9 (n : Nat) (s : Nat → AV) (H : List Blk) (a b c d : ResultVar) : resS P n [a, b, c, d] s H = ((vu0 P n s H a).1 && ((vu0 P n s H b).1 && ((vu0 P n s H c).1 && (vu0 P n s H d).1)), .tup [(vu0 P n s H a).2, (vu0 P n s H b).2, (vu0 P n s H c).2, (vu0 P n s H d).2]) := by simp [resS]
theorem zbV9 (n : Nat) (s : Nat → AV) (r : ResultVar) : zal9 P (Lst n s) H r = vu0 P n s H r := by
 cases r <;> simp only [zal9, vu0, qan9, rdS]
theorem xbu9 (n : Nat) (rs : List ResultVar) (s : Nat → AV) : ares P rs (Lst n s) H = resS P n rs s H := by
 have e : zal9 P (Lst n s) H = vu0 P n s H := funext fun r => zbV9 n s r;cases rs with
 | nil => simp only [ares, resS, e]
 | cons r l => cases l <;> simp only [ares, resS, e]
def vaz9 (P : Program) (n : Nat) (rs : List ResultVar) (d : Nat) (r : AV) : xn0 := fun e s' H' =>
 (e = .normal ∨ e = .ret) ∧ (resS P n rs s' H').1 = true ∧ okR H' d (resS P n rs s' H').2 = true ∧ (qS0 H' d (resS P n rs s' H').2).eqv r
def xbV9 (P : Program) (n : Nat) (rs : List ResultVar) (r : AV) (Hf : List Blk) : xn0 := fun e s' H' =>
 (e = .normal ∨ e = .ret) ∧ (resS P n rs s' H').1 = true ∧ ((resS P n rs s' H').2).eqv r ∧ H' = Hf
theorem zcW9 {rs : List ResultVar} {d : Nat} {r : AV} (h : B ∧ (resS P n rs s H).1 = true ∧ okR H d (resS P n rs s H).2 = true ∧ (qS0 H d (resS P n rs s H).2).eqv r) : Out (vaz9 P n rs d r) .ret B s H := ⟨h.1, .inr rfl, h.2⟩
theorem wbF9 {rs : List ResultVar} {d : Nat} {r : AV} (h : B ∧ (resS P n rs s H).1 = true ∧ okR H d (resS P n rs s H).2 = true ∧ (qS0 H d (resS P n rs s H).2).eqv r) : Out (vaz9 P n rs d r) .normal B s H := ⟨h.1, .inl rfl, h.2⟩
theorem zcv9 {rs : List ResultVar} {r : AV} {Hf : List Blk} (h : B ∧ (resS P n rs s H).1 = true ∧ ((resS P n rs s H).2).eqv r ∧ H = Hf) : Out (xbV9 P n rs r Hf) .ret B s H := ⟨h.1, .inr rfl, h.2⟩
theorem qbl9 {rs : List ResultVar} {r : AV} {Hf : List Blk} (h : B ∧ (resS P n rs s H).1 = true ∧ ((resS P n rs s H).2).eqv r ∧ H = Hf) : Out (xbV9 P n rs r Hf) .normal B s H := ⟨h.1, .inl rfl, h.2⟩
theorem wf0 {f : FuncId} {fn : Func} {args : List AV} {r : AV} (d n : Nat) (rs : List ResultVar) (hf : P.funcs[f]? = some fn) (hb : fn.body.isSome = true) (hn : fn.ntmps = n) (hrs : fn.results.toList = rs) (hl : args.length ≤ n)
  (h : ∀ s, qcv9 s 0 args → Go false P G 0 n (ws0 fn) [] (vaz9 P n rs d r) True s []) : PC P G f args r := by
 obtain ⟨c, hc⟩ := Option.isSome_iff_exists.1 hb;refine zcs9 d n rs hf hc hn hrs hl fun a h1 h2 => ?_;have := (h (getA a) (xaL9 a 0 args h2)).2;unfold At atR ws0 at this;rw [hc, ← zbu9 h1] at this;refine xy0 this fun e a H ⟨s, ha, q⟩ => ?_;subst ha;unfold Done;rw [xbu9];exact q
theorem vQ0 {f : FuncId} {fn : Func} {args : List AV} {r : AV} {Hf : List Blk} (n : Nat) (rs : List ResultVar) (hf : P.funcs[f]? = some fn) (hb : fn.body.isSome = true) (hn : fn.ntmps = n) (hrs : fn.results.toList = rs) (hl : args.length ≤ n)
  (h : ∀ s, qcv9 s 0 args → Go false P G H.length n (ws0 fn) [] (xbV9 P n rs r Hf) True s H) : qg0 P G f args H r Hf := by
 obtain ⟨c, hc⟩ := Option.isSome_iff_exists.1 hb;refine qaW9 n rs hf hc hn hrs hl fun a h1 h2 => ?_;have := (h (getA a) (xaL9 a 0 args h2)).2;unfold At atR ws0 at this;rw [hc, ← zbu9 h1] at this;refine xy0 this fun e a H ⟨s, ha, q⟩ => ?_;subst ha;unfold qdj9;rw [xbu9];exact q
end
def St0 (w : World) : St := ⟨fun k => w.heap[k]?, fun _ => none, fun _ => none, w⟩
def EnvW (w : World) : Env := (St0 w).env []
theorem kdn9 (w : World) : (St0 w).Ok [] :=
 ⟨fun k o h => h, fun b s t es hb => by simp at hb, fun b ob0 hb => by simp at hb, fun b b' g hb => by simp [St.at] at hb⟩
theorem xcv9 {P : Program} {G : Glob} {f : FuncId} {args : List AV} {vals : List Value} {b : Bool} {w : World} (h : PC P G f args (.bool b)) (hG : Globs G (fun k => w.heap[k]?)) (ha : RelL (EnvW w) args vals) :
  Calls P f vals.toArray w fun e w' => e = .returned (.bool b) ∧ Below w.heap.size w w' := by
 refine (h (St0 w) vals (kdn9 w) hG ha).mono fun e w' hh => ?_;obtain ⟨v, S', rfl, rfl, hok, hext, hrel⟩ := hh;have hn : ∀ k, ¬ (St0 w).Owns [] k := fun k ⟨b, hb⟩ => by simp [St.at] at hb
 have hv : v = .bool b := by simpa [Rel] using hrel
 exact ⟨by rw [hv], ⟨hext.os, hext.tape, hext.output, hext.size, fun k hlt => hext.keep k hlt (hn k)⟩⟩
theorem zaE9 {w w' : World} (hg : Below w.heap.size w w') {i : Nat} (hi : i < w.heap.size) : w'.heap[i]? = w.heap[i]? := hg.block i hi
theorem vbF9 {w w' : World} (hg : Below w.heap.size w w') {p : MemPlace} (hp : p.block < w.heap.size) : w.sameAt w' p := by
 cases p with
 | cell b off =>
  have hb : w'.heap[b]? = w.heap[b]? := zaE9 hg hp;simp only [World.sameAt, World.cell?];rw [hb]
 | map b => exact zaE9 hg hp
theorem zZ0 {H : Type} {enc : TypeId × Value → H} {P : Program} (hl : laidOutB P = true) {w w' : World} (hg : Below w.heap.size w w') {sp : Nat → Bool} : ∀ {ts : List TypeId} {vs : List Value} {ds : List (DataW H)} {ps : List MemPlace},
  (ts.all fun t => P.readableRec t && decide (t < P.types.size)) = true → DataW.TrodAll enc P w 0 (fun _ => true) true ts vs ds ps → (∀ p ∈ ps, p.block < w.heap.size) → (∀ p ∈ ps, sp p.block = true) → DataW.TrodAll enc P w' 0 sp true ts vs ds ps
 | [], [], [], ps, _, h, _, _ => h
 | t :: ts, v :: vs, d :: ds, ps, ht, ⟨p, q, h1, h2, e⟩, hlt, hs => by
  subst e;simp only [List.all_cons, Bool.and_eq_true, decide_eq_true_eq] at ht;refine ⟨p, q, Go.WideElems.Trod_stays hl ht.1.1 ht.1.2 h1 (fun x hx => vbF9 hg (hlt x (List.mem_append_left _ hx))) (fun x hx => hs x (List.mem_append_left _ hx)), ?_, rfl⟩;exact zZ0 hl hg (by simpa using ht.2) h2 (fun x hx => hlt x (List.mem_append_right _ hx)) (fun x hx => hs x (List.mem_append_right _ hx))
 | [], v :: vs, ds, ps, _, h, _, _ => h.elim
 | [], [], d :: ds, ps, _, h, _, _ => h.elim
 | t :: ts, [], ds, ps, _, h, _, _ => h.elim
 | t :: ts, v :: vs, [], ps, _, h, _, _ => h.elim
theorem kbF9 {w : World} {g off : Nat} {v : Value} (h : w.cell? ⟨g, off, none⟩ = some v) : qx0 (EnvW w).M g off = some v := by
 unfold World.cell? at h;simp only [qx0, EnvW, St.env, St0];split at h
 ·rename_i c t fr hx;rw [hx];simpa using h
 ·cases h
theorem wbV9 {w : World} {a : Addr} {v : Value} (h : w.cell? a = some v) : a.spot = none := by
 unfold World.cell? at h;split at h
 ·split at h
  ·cases h
  ·rename_i q; simpa using q
 ·cases h
theorem kcK9 {a : Addr} (h : a.spot = none) (n : Nat) : a.add n = ⟨a.block, a.off + n, none⟩ := by
 unfold Addr.add;split
 ·rename_i q; subst q;cases a; simp at h; subst h; rfl
 ·rfl
theorem xaW9 {α β : Type} {f : α → Option β} : ∀ {l : List α} {r : List β}, l.mapM f = some r → r.length = l.length ∧ ∀ (i : Nat) (x : α) (y : β), l[i]? = some x → r[i]? = some y → f x = some y
 | [], r, h => by
  simp at h; subst h; simp
 | a :: l, r, h => by
  rw [List.mapM_cons] at h;cases ha : f a with
  | none => rw [ha] at h; cases h
  | some b =>
   rw [ha] at h;cases hl : l.mapM f with
   | none => rw [hl] at h; cases h
   | some bs =>
    rw [hl] at h;injection h with h; subst h
    obtain ⟨h1, h2⟩ := xaW9 hl;refine ⟨by simp [h1], fun i x y hx hy => ?_⟩;cases i with
    | zero =>
     simp at hx hy;subst hx; subst hy; exact ha
    | succ i => exact h2 i x y (by simpa using hx) (by simpa using hy)
theorem was9 {α : Type} {Pr : Nat → α → Prop} : ∀ (n : Nat), (∀ i, i < n → ∃ y, Pr i y) → ∃ ys : List α, ys.length = n ∧ ∀ (i : Nat) (y : α), ys[i]? = some y → Pr i y
 | 0, _ => ⟨[], rfl, fun i y h => by simp at h⟩
 | n + 1, h => by
  obtain ⟨ys, h1, h2⟩ := was9 n fun i hi => h i (by omega);obtain ⟨y, hy⟩ := h n (by omega);refine ⟨ys ++ [y], by simp [h1], fun i z hz => ?_⟩;rcases Nat.lt_or_ge i n with q|q
  ·rw [List.getElem?_append_left (by omega)] at hz; exact h2 i z hz
  ·rw [List.getElem?_append_right (by omega)] at hz;have : i - ys.length = 0 := by
    have := (List.getElem?_eq_some_iff.1 hz).1;simp at this; omega
   rw [this] at hz;simp at hz; subst hz;have : i = n := by omega
   subst this; exact hy
structure View (P : Program) (t : TypeId) (α : Type) where
 tq : α → List AV
 ok : α → Prop
 get : ∀ {H : Type} {enc : TypeId × Value → H} {w : World} {fuel : Nat} {cs : List Value} {x : DataW H × List MemPlace}, DataW.trod enc P w 0 (fun _ => true) true fuel t cs = some x → ∃ y, ok y ∧ RelL (EnvW w) (tq y) cs ∧ ∀ u ∈ cs, u.oneCell' = true
def View.int {P : Program} {t : TypeId} (k : IntKind) (hu : P.underlying t = some (.int k)) : View P t Int where
 tq n := [.int k n]
 ok n := (Lit.int k n).wf = true
 get h := by
  obtain ⟨n, rfl, _, hw⟩ := DataW.trod_int hu h;exact ⟨n, hw, by simp [RelL, Rel], by simp [Value.oneCell']⟩
def View.bool {P : Program} {t : TypeId} (hu : P.underlying t = some .bool) : View P t Bool where
 tq n := [.bool n]
 ok n := True
 get h := by
  obtain ⟨n, rfl, _⟩ := DataW.trod_bool hu h;exact ⟨n, trivial, by simp [RelL, Rel], by simp [Value.oneCell']⟩
def View.str {P : Program} {t : TypeId} (hu : P.underlying t = some .string) : View P t (List UInt8) where
 tq n := [.str n]
 ok n := n.length ≤ maxLen
 get h := by
  obtain ⟨s, rfl, _, hw⟩ := DataW.trod_string hu h;exact ⟨s.data.toList, by simpa using hw, by simp [RelL, Rel], by simp [Value.oneCell']⟩
def View.slice {P : Program} {t e : TypeId} {α : Type} (s : Nat) (hu : P.underlying t = some (.slice e)) (hs : P.cellsOf e = s) (hpos : 0 < s) (v : View P e α) : View P t (List α × Nat) where
 tq y := [.sl s (y.1.map v.tq) (some y.2)]
 ok y := (∀ x ∈ y.1, v.ok x) ∧ y.1.length ≤ y.2 ∧ y.2 ≤ maxLen
 get {H enc w fuel cs x} h := by
  rcases DataW.trod_slice hu h with ⟨rfl, _⟩|⟨a, len, cap, elems, rest, n, rfl, rfl, hx, _, h1, h2, h3, h4, _⟩
  ·exact ⟨([], 0), ⟨by simp, by simp, by simp⟩, by simp [RelL, Rel], by simp [Value.oneCell']⟩
  ·have hcell : ∀ i, i < len → ∃ ci y, w.cells? 0 (a.add (i * s)) s = some ci ∧ v.ok y ∧ RelL (EnvW w) (v.tq y) ci ∧ ∀ u ∈ ci, u.oneCell' = true := fun i hi => by
    have q := h4 i hi;have hlt : i < elems.length := by omega
    rw [List.getElem?_eq_getElem hlt, hs] at q;cases hc : w.cells? 0 (a.add (i * s)) s with
    | none => rw [hc] at q; cases q
    | some ci =>
     rw [hc] at q;obtain ⟨y, q1, q2, q3⟩ := v.get (H := H) q;exact ⟨ci, y, rfl, q1, q2, q3⟩
   have hparts : ∀ i ci, w.cells? 0 (a.add (i * s)) s = some ci → ci.length = s ∧ ∀ j u, ci[j]? = some u → w.cell? ((a.add (i * s)).add j) = some u := fun i ci hc => by
    unfold World.cells? at hc;rw [if_pos (Nat.zero_le _)] at hc;obtain ⟨q1, q2⟩ := xaW9 hc;refine ⟨by simpa using q1, fun j u hj => ?_⟩;have hjs : j < s := by have := (List.getElem?_eq_some_iff.1 hj).1; simp at q1; omega
    exact q2 j j u (by simp [hjs]) hj
   have hspot : 0 < len → a.spot = none := fun hl => by
    obtain ⟨ci, y, hc, _⟩ := hcell 0 hl;obtain ⟨q1, q2⟩ := hparts 0 ci hc;have h0 : 0 < ci.length := by omega
    have := q2 0 ci[0] (by simp [h0]);rw [Nat.zero_mul] at this;have e : (a.add 0).add 0 = a := rfl;rw [e] at this;exact wbV9 this
   obtain ⟨ys, g1, g2⟩ := was9 (Pr := fun i y => v.ok y ∧ (v.tq y).length = s ∧ RelC (EnvW w) (v.tq y) a.block (a.off + i * s)) len fun i hi => by
    obtain ⟨ci, y, hc, q1, q2, q3⟩ := hcell i hi;obtain ⟨p1, p2⟩ := hparts i ci hc;refine ⟨y, q1, by have := q2.length; omega, RelC.mk fun j b hj => ?_⟩;obtain ⟨u, hu', hr⟩ := q2.get hj;refine ⟨u, ?_, q3 u (List.mem_of_getElem? hu'), hr⟩;have := p2 j u hu';rw [kcK9 (hspot (by omega)), kcK9 rfl] at this;exact kbF9 this
   refine ⟨(ys, cap), ⟨fun x hx => ?_, by simp [g1, h1], h2⟩, ?_, by simp [Value.oneCell']⟩
   ·obtain ⟨i, hi⟩ := List.mem_iff_getElem?.1 hx;exact (g2 i x hi).1
   ·refine ⟨_, [], rfl, ?_, rfl⟩;simp only [Rel];refine ⟨some a, cap, by simp [g1], by simp [g1, h1], h2, fun k hk => by injection hk, ?_⟩;rcases Nat.eq_zero_or_pos len with q|q
    ·left
     have : ys = [] := List.eq_nil_of_length_eq_zero (by omega);rw [this]; rfl
    ·right
     have hs' := hspot q;refine ⟨a.block, a.off, by cases a; simp at hs'; subst hs'; rfl, RelE.mk fun i e he => ?_⟩;rw [List.getElem?_map] at he;cases hy : ys[i]? with
     | none => rw [hy] at he; cases he
     | some y =>
      rw [hy] at he;simp only [Option.map_some, Option.some.injEq] at he;subst he;exact (g2 i y hy).2
structure FView (P : Program) (fs : List Field) (off tot : Nat) (β : Type) where
 tq : β → List AV
 ok : β → Prop
 get : ∀ {H : Type} {enc : TypeId × Value → H} {w : World} {n : Nat} {cs : List Value}, cs.length = tot →
  (∀ (i : Nat) (f : Field), fs[i]? = some f → ∃ x : DataW H × List MemPlace, DataW.trod enc P w 0 (fun _ => true) true n f.type (List.take (P.cellsOf f.type) (List.drop f.offset cs)) = some x) → ∃ y, ok y ∧ RelL (EnvW w) (tq y) (cs.drop off) ∧ ∀ u ∈ cs.drop off, u.oneCell' = true
def FView.nil {P : Program} {off tot : Nat} (h : tot ≤ off) : FView P [] off tot Unit where
 tq _ := []
 ok _ := True
 get hc _ := by
  refine ⟨(), trivial, ?_⟩;rw [List.drop_eq_nil_of_le (by omega)];simp [RelL]
def FView.cons {P : Program} {f : Field} {fs : List Field} {off tot : Nat} {α β : Type} (c : Nat) (hf : f.offset = off) (hc : P.cellsOf f.type = c) (v : View P f.type α) (r : FView P fs (off + c) tot β) : FView P (f :: fs) off tot (α × β) where
 tq y := v.tq y.1 ++ r.tq y.2
 ok y := v.ok y.1 ∧ r.ok y.2
 get {H enc w n cs} hl h := by
  obtain ⟨x, hx⟩ := h 0 f rfl;rw [hf, hc] at hx;obtain ⟨y1, q1, q2, q3⟩ := v.get hx;obtain ⟨y2, p1, p2, p3⟩ := r.get hl fun i f' hi => h (i + 1) f' hi;have e : cs.drop off = (cs.drop off).take c ++ cs.drop (off + c) := by
   rw [← List.drop_drop, List.take_append_drop]
  refine ⟨(y1, y2), ⟨q1, p1⟩, ?_, ?_⟩
  ·rw [e]; exact q2.append p2
  ·rw [e]; intro u hu;rcases List.mem_append.1 hu with q|q
   ·exact q3 u q
   ·exact p3 u q
def View.struct {P : Program} {t : TypeId} {fs : Array Field} {β : Type} (tot : Nat) (hu : P.underlying t = some (.struct fs)) (ht : P.cellsOf t = tot) (r : FView P fs.toList 0 tot β) : View P t β where
 tq := r.tq
 ok := r.ok
 get {H enc w fuel cs x} h := by
  obtain ⟨xs, n, rfl, _, h1, h2, h3⟩ := DataW.trod_struct hu h;obtain ⟨y, q1, q2, q3⟩ := r.get (H := H) (h1.trans ht) fun i f hi => by
   have hi' : fs[i]? = some f := by simpa using hi
   have hlt : i < xs.length := by rw [h2]; exact (Array.getElem?_eq_some_iff.1 hi').1
   exact ⟨xs[i], by rw [h3 i f hi', List.getElem?_eq_getElem hlt]⟩
  exact ⟨y, q1, by simpa using q2, by simpa using q3⟩
section
variable {P : Program} {H : Type} {enc : TypeId × Value → H} {w : World} {t : TypeId} {v : Value} {d : DataW H} {ps : List MemPlace} {α : Type}
theorem xcW9 {a : α → AV} (V : View P t α) (hV : ∀ y, V.tq y = [a y]) (hc : v.cells = #[v]) (h : DataW.Trod enc P w 0 (fun _ => true) true t v d ps) : ∃ y, V.ok y ∧ Rel (EnvW w) (a y) v := by
 obtain ⟨fuel, h⟩ := h;obtain ⟨y, q1, q2, q3⟩ := V.get h;refine ⟨y, q1, ?_⟩;rw [hV, hc] at q2;simp only [RelL] at q2;obtain ⟨u, us, e, hr, _⟩ := q2;simp at e;rw [e.1]; exact hr
end
section
variable {S : St} {H : List Blk}
def St.nil (S : St) (b : Nat) : St := { S with μ := upd S.μ b none }
theorem waL9 (hok : S.Ok H) (s : Nat) (t : TypeId) : Ext H.length S H (S.nil H.length) (H ++ [.row s t []]) where
 os := rfl
 tape := rfl
 output := rfl
 size := Nat.le_refl _
 keep i hi hno := rfl
 M i o h := h
 dom i h := .inl h
 own i h := by
  obtain ⟨x, hx⟩ := h;by_cases e : x < H.length
  ·left
   refine ⟨x, ?_⟩;simpa only [St.at, St.nil, List.getElem?_append_left e, kg0 _ _ (show x ≠ H.length by omega)] using hx
  ·by_cases e2 : x = H.length
   ·subst e2;simp [St.at, St.nil, qf0] at hx
   ·have : (H ++ [Blk.row s t []])[x]? = none := List.getElem?_eq_none (by simp; omega);simp [St.at, this] at hx
 sh x s' cur hx hs := ⟨cur, Nat.le_refl _, by rw [kA0 hx]; exact hs, fun _ => kg0 _ _ (show x ≠ H.length by omega)⟩
 ν x g' hx hs := by rw [qB0 hx]; exact hs
 len h := by simp
theorem vbV9 (hok : S.Ok H) (s : Nat) (t : TypeId) : (S.nil H.length).Ok (H ++ [.row s t []]) := by
 have hle := (waL9 hok s t).le (Nat.le_refl _);have hat : ∀ x, x < H.length → (S.nil H.length).at (H ++ [.row s t []]) x = S.at H x := fun x e => by
  simp only [St.at, St.nil, List.getElem?_append_left e, kg0 _ _ (show x ≠ H.length by omega)]
 have hlt : ∀ x g, (S.nil H.length).at (H ++ [.row s t []]) x = some g → x < H.length := fun x g hx => by
  by_cases e : x < H.length
  ·exact e
  ·by_cases e2 : x = H.length
   ·subst e2; simp [St.at, St.nil, qf0] at hx
   ·have : (H ++ [Blk.row s t []])[x]? = none := List.getElem?_eq_none (by simp; omega);simp [St.at, this] at hx
 refine ⟨hok.imm, fun x s' t' es hx => ?_, fun x ob0 hx => ?_, fun x y g hx hy => ?_⟩
 ·by_cases e : x < H.length
  ·rw [List.getElem?_append_left e] at hx;rcases hok.row x s' t' es hx with q|⟨g, k, cs, h1, h2, h3, h4, h5, h6, h7⟩
   ·exact .inl ⟨(kg0 _ _ (by omega)).trans q.1, q.2⟩
   ·exact .inr ⟨g, k, cs, (kg0 _ _ (by omega)).trans h1, h2, h3, h4, h5, h6, h7.mono hle⟩
  ·have e2 : x = H.length := by
    have := (List.getElem?_eq_some_iff.1 hx).1;simp at this; omega
   subst e2;simp at hx;exact .inl ⟨qf0 _ _ _, .inl hx.2.2⟩
 ·by_cases e : x < H.length
  ·rw [List.getElem?_append_left e] at hx;obtain ⟨g, ob1, h1, h2, h3, h4⟩ := hok.ob x ob0 hx;exact ⟨g, ob1, h1, h2, h3, h4.mono hle⟩
  ·have e2 : x = H.length := by
    have := (List.getElem?_eq_some_iff.1 hx).1;simp at this; omega
   subst e2;simp at hx
 ·have q1 := hlt x g hx;have q2 := hlt y g hy;rw [hat x q1] at hx; rw [hat y q2] at hy;exact hok.inj x y g hx hy
end
theorem kv0 {n0 n t z sz : Nat} {ty : TypeId} {s : Nat → AV} {H : List Blk} (h : s t = .sl z [] (some 0)) :
  Weak n0 (Lst n s) H (Lst n (updS s t (.own H.length 0 0 none))) (H ++ [.row sz ty []]) := fun S vs hok hn ha => by
 have hext := waL9 hok sz ty;refine ⟨S.nil H.length, rfl, vbV9 hok sz ty, hext.less hn (Nat.le_refl _), ?_⟩;have hle := hext.le (Nat.le_refl _);refine RelL.mk (by rw [← ha.length]; simp [vy0]) fun i a v hi hv => ?_;have hil : i < n := by have := (List.getElem?_eq_some_iff.1 hi).1; simpa [vy0] using this
 simp only [Lst, List.getElem?_map, List.getElem?_range hil, Option.map_some, Option.some.injEq] at hi;subst hi;obtain ⟨v', hv', hr⟩ := ha.get (i := i) (a := s i) (by simp [Lst, List.getElem?_range hil]);rw [hv] at hv'; injection hv' with hv'; subst hv'
 unfold updS;split
 ·rename_i e; subst e;rw [h] at hr;simp only [Rel] at hr;obtain ⟨a, cap, rfl, h1, h2, h3, h4⟩ := hr;have : cap = 0 := h3 0 rfl;subst this;simp only [Rel];refine ⟨sz, 0, by simp [St.env, shOf], Nat.le_refl _, fun _ => ⟨Nat.le_refl _, .inl ⟨qf0 _ _ _, ⟨a, rfl⟩, by simp⟩⟩⟩
 ·exact Rel.mono hle _ _ hr
section
variable {P : Program} {G : Glob}
theorem zS0 {f : FuncId} {args : List AV} {H : List Blk} {k : Nat} (h : qg0 P G f args H (.sl k [] (some 0)) H) (s : Nat) (t : TypeId) : qg0 P G f args H (.own H.length 0 0 none) (H ++ [.row s t []]) := fun S vals hok hG ha => by
 refine (h S vals hok hG ha).mono fun e w' ⟨v, S', he, hw, hok', hext, hr⟩ => ?_;refine ⟨v, S'.nil H.length, he, hw, vbV9 hok' s t, hext.trans (waL9 hok' s t), ?_⟩;simp only [Rel] at hr;obtain ⟨a, cap, hv, h1, h2, h3, h4⟩ := hr;have := h3 0 rfl;subst this;refine vh0 (s := s) (by rw [kj0]; rfl) (Nat.le_refl _) (.inl ⟨by simp [St.nil, qf0], ⟨a, hv⟩, rfl, .inl rfl⟩)
end
mutual
def AV.flat : AV → Bool
 | .int _ _|.bool _|.str _|.anyb|.anyi _|.err|.lit _|.sl _ [] _ => true
 | .agg cs => kbV9 cs
 | .tup cs => kbV9 cs
 | _ => false
def kbV9 : List AV → Bool
 | [] => true
 | a :: as => a.flat && kbV9 as
end
mutual
theorem wbu9 {E E' : Env} : ∀ (a : AV) (v : Value), a.flat = true → Rel E a v → Rel E' a v
 | .int k n, v, _, hr => by simpa [Rel] using hr
 | .bool b, v, _, hr => by simpa [Rel] using hr
 | .str s, v, _, hr => by simpa [Rel] using hr
 | .anyb, v, _, hr => by simpa [Rel] using hr
 | .anyi k, v, _, hr => by simpa [Rel] using hr
 | .err, v, _, hr => by simpa [Rel] using hr
 | .lit u, v, _, hr => by simpa [Rel] using hr
 | .sl s [] c, v, _, hr => by simpa [Rel] using hr
 | .sl s (_ :: _) c, v, h, hr => by simp [AV.flat] at h
 | .agg cs, v, h, hr => by
  simp only [Rel, AV.flat] at hr h ⊢;obtain ⟨vs, hv, hl, h1⟩ := hr;exact ⟨vs, hv, vas9 cs vs h hl, h1⟩
 | .tup cs, v, h, hr => by
  simp only [Rel, AV.flat] at hr h ⊢;obtain ⟨vs, hv, hl⟩ := hr;exact ⟨vs, hv, vas9 cs vs h hl⟩
 | .own .., v, h, hr => by simp [AV.flat] at h
 | .ptr .., v, h, hr => by simp [AV.flat] at h
 | .iptr .., v, h, hr => by simp [AV.flat] at h
 | .fn .., v, h, hr => by simp [AV.flat] at h
 | .bnd .., v, h, hr => by simp [AV.flat] at h
 | .sub .., v, h, hr => by simp [AV.flat] at h
 | .mp .., v, h, hr => by simp [AV.flat] at h
 | .yld .., v, h, hr => by simp [AV.flat] at h
 | .opt .., v, h, hr => by simp [AV.flat] at h
 | .top, v, h, hr => by simp [AV.flat] at h
theorem vas9 {E E' : Env} : ∀ (as : List AV) (vs : List Value), kbV9 as = true → RelL E as vs → RelL E' as vs
 | [], vs, _, hr => by simpa [RelL] using hr
 | a :: as, vs, h, hr => by
  simp only [RelL, kbV9, Bool.and_eq_true] at hr h ⊢;obtain ⟨u, us, hv, h1, h2⟩ := hr;exact ⟨u, us, hv, wbu9 a u h.1 h1, vas9 as us h.2 h2⟩
end
section
variable {P : Program} {G : Glob}
theorem qbW9 {S : St} {H : List Blk} (hok : S.Ok H) {k : Nat} (h : S.Owns H k) : S.M k = none := by
 obtain ⟨b, hb⟩ := h;unfold St.at at hb;split at hb
 ·rename_i s t es hbb;rcases hok.row b s t es hbb with ⟨q, _⟩|⟨g, k', cs, h1, h2, _⟩
  ·rw [q] at hb; cases hb
  ·rw [h1] at hb; injection hb with hb; rw [← hb]; exact h2
 ·rename_i ob0 hbb;obtain ⟨g, ob1, h1, h2, _⟩ := hok.ob b ob0 hbb;rw [h1] at hb; injection hb with hb; rw [← hb]; exact h2
 ·cases hb
open Classical in
theorem zbW9 {f : FuncId} {args args' : List AV} {r : AV} {H : List Blk} (d : Nat) (hk : args.all (okA H d) = true) (he : args.map (kx0 H d) = args') (h : PC P G f args' r) (hr : r.flat = true) : qg0 P G f args H r H := fun S vals hok hG ha => by
 subst he;have hok0 := wY0 hok;have hM0 : ∀ k o, S.M k = some o → (S.freeze H).M k = some o := fun k o hk => xY0 hok hk;have ha0 : RelL ((S.freeze H).env []) (args.map (kx0 H d)) vals := kar9 hok _ _ (xJ0 hok d) hk ha;refine (h (S.freeze H) vals hok0 (hG.mono hM0) ha0).mono fun e w' ⟨v, S1, he, hw, hok1, hext, hrel⟩ => ?_;have hno : ∀ (T : St) k, ¬ T.Owns [] k := fun T k ⟨b, hb⟩ => by simp [St.at] at hb
 let S' : St := ⟨fun k => if S.Owns H k then none else S1.M k, S.μ, S.ν, S1.w⟩
 have hM' : ∀ k, ¬ S.Owns H k → S'.M k = S1.M k := fun k hk => if_neg hk;have hMo : ∀ k, S.Owns H k → S'.M k = none := fun k hk => if_pos hk;have hM : ∀ k o, S.M k = some o → S'.M k = some o := fun k o hk => by
  have hn : ¬ S.Owns H k := fun q => by rw [qbW9 hok q] at hk; cases hk
  rw [hM' k hn]; exact hext.M k o (hM0 k o hk)
 have hsame : ∀ g o, S.Owns H g → S.w.heap[g]? = some o → S1.w.heap[g]? = some o := fun g o hg ho => by
  refine hok1.imm g o (hext.M g o ?_);rw [zaf9 hg]; exact ho
 have hle : (S.env H).le (S'.env H) := ⟨hM, fun b s cur hs => ⟨cur, Nat.le_refl _, hs, fun _ => rfl⟩, fun b g hs => hs⟩;refine ⟨v, S', he, hw, ⟨fun k o hk => ?_, fun b s t es hbb => ?_, fun b ob0 hbb => ?_, hok.inj⟩, ⟨hext.os, hext.tape, hext.output, hext.size, fun k hk hn => hext.keep k hk (hno _ _), hM, fun k hk => ?_, fun k hk => .inl hk, fun b s cur _ hs => ⟨cur, Nat.le_refl _, hs, fun _ => rfl⟩, fun b g _ hs => hs, id⟩, wbu9 r v hr hrel⟩
 ·by_cases q : S.Owns H k
  ·rw [hMo k q] at hk; cases hk
  ·rw [hM' k q] at hk; exact hok1.imm k o hk
 ·rcases hok.row b s t es hbb with q|⟨g, k, cs, h1, h2, h3, h4, h5, h6, h7⟩
  ·exact .inl q
  ·have hg : S.Owns H g := ⟨b, by simp [St.at, hbb, h1]⟩;exact .inr ⟨g, k, cs, h1, hMo g hg, hsame g _ hg h3, h4, h5, h6, h7.mono hle⟩
 ·obtain ⟨g, ob1, h1, h2, h3, h4⟩ := hok.ob b ob0 hbb;have hg : S.Owns H g := ⟨b, by simp [St.at, hbb, h1]⟩;exact ⟨g, ob1, h1, hMo g hg, hsame g _ hg h3, h4.mono hle⟩
 ·by_cases q : S.Owns H k
  ·exact absurd (hMo k q) hk
  ·rw [hM' k q] at hk;rcases hext.dom k hk with q1|q1|q1
   ·left
    intro h0;apply q1;simp only [St.freeze]; rw [if_neg q]; exact h0
   ·exact absurd q1 (hno _ _)
   ·exact .inr (.inr q1)
end
inductive Halt (p : Prop) : Prop where
 | mk (h : p)
 | mk' (h : p)
def qak9 (H : List Blk) (d : Nat) (a : AV) : AV := if okA H d a = true then kx0 H d a else .top
theorem xbW9 {S : St} {H : List Blk} (hok : S.Ok H) (d : Nat) {a : AV} {v : Value} (h : Rel (S.env H) a v) : Rel ((S.freeze H).env []) (qak9 H d a) v := by
 unfold qak9;split
 ·rename_i h1; exact xJ0 hok d _ _ h1 h
 ·simp [Rel]
theorem qbG9 {n : Nat} {s : Nat → AV} {H : List Blk} (d : Nat) : Weak 0 (Lst n s) H (Lst n fun k => qak9 H d (s k)) [] := fun S vs hok hn ha => by
 refine ⟨S.freeze H, rfl, wY0 hok, vaD9 hok, ?_⟩;refine RelL.mk (by rw [← ha.length]; simp [vy0]) fun i a v hi hv => ?_;have hi' : i < n := by
  have := (List.getElem?_eq_some_iff.1 hi).1;simpa [vy0] using this
 have e : (Lst n s)[i]? = some (s i) := by simp [Lst, hi']
 have e2 : (Lst n fun k => qak9 H d (s k))[i]? = some (qak9 H d (s i)) := by simp [Lst, hi']
 rw [e2] at hi;injection hi with hi; subst hi
 obtain ⟨u, hu, hr⟩ := ha.get e;rw [hu] at hv;injection hv with hv; subst hv
 exact xbW9 hok d hr
section
variable {ρ : Bool} {P : Program} {G : Glob} {n0 n : Nat} {p : List Nat} {Q : Exit → (Nat → AV) → List Blk → Prop} {B : Prop} {s : Nat → AV} {H : List Blk}
theorem wx0 {body : Code} (h : Halt (V.Go ρ P G n0 n body p Q B s H)) : V.Go ρ P G n0 n body p Q B s H := by cases h <;> assumption
theorem vbu9 {body : Code} (d : Nat) (hB : B) (h : ∀ s1 : Nat → AV, (∀ k, s1 k = qak9 H d (s k)) → V.Go ρ P G 0 n body p Q True s1 []) : V.Go ρ P G 0 n body p Q B s H :=
 zo0 hB (qbG9 d) (h _ fun k => rfl)
end
def xh0 : Exit → Option Code
 | .ret => some .ret
 | .exit id => some (.exit id)
 | .goto t => some (.goto t)
 | _ => none
def xZ0 : Exit → Bool
 | .panic _ => false
 | .outgrown => false
 | _ => true
def setA : List Tmp → List AV → List AV → List AV
 | p :: ps, x :: xs, a => setA ps xs (a.set p x)
 | _, _, a => a
def qt0 (fn : FuncId) (ts : Array Value) (ps : Array Tmp) (assign body : Code) (D : Nat) (st : LoopState) (pe : Option Code) : Obj := .loop { state := st, pending := pe, fn := fn, tmps := ts, params := ps, assign := assign, body := body, defers := D }
section
variable {P : Program} {G : Glob}
theorem waW9 {E : Env} : ∀ (ps : List Tmp) (xs : List AV) (a : List AV) (ts : Array Value) (vs : List Value), RelL E a ts.toList → RelL E xs vs → RelL E (setA ps xs a) ((ps.zip vs).foldl (fun t (p : Tmp × Value) => t.setIfInBounds p.1 p.2) ts).toList
 | [], xs, a, ts, vs, ha, hx => by simpa [setA] using ha
 | p :: ps, [], a, ts, vs, ha, hx => by
  simp only [RelL] at hx; subst hx;simpa [setA] using ha
 | p :: ps, x :: xs, a, ts, vs, ha, hx => by
  simp only [RelL] at hx;obtain ⟨u, us, rfl, h1, h2⟩ := hx;simp only [setA, List.zip_cons_cons, List.foldl_cons];refine waW9 ps xs _ _ us ?_ h2;simpa using ha.set p h1
def St.add (S : St) (k L : Nat) (w : World) : St := { S with ν := upd S.ν k (some L), w := w }
theorem vaW9 {S : St} {H : List Blk} {L : Nat} {w : World} {x : OB} {b : Nat} (hb : b < H.length) : (S.add H.length L w).at (H ++ [.ob x]) b = S.at H b := by
 simp only [St.at, St.add, List.getElem?_append_left hb, kg0 _ _ (show b ≠ H.length by omega)]
theorem kN0 {S : St} {H : List Blk} {L : Nat} {w : World} {x : OB} : (S.add H.length L w).at (H ++ [.ob x]) H.length = some L := by
 simp [St.at, St.add, qf0]
theorem wJ0 {S : St} {H : List Blk} {x : OB} {b g : Nat} (h : S.at (H ++ [.ob x]) b = some g) : b < H.length ∨ b = H.length := by
 by_cases e : b ≤ H.length
 ·omega
 ·have : (H ++ [Blk.ob x])[b]? = none := List.getElem?_eq_none (by simp; omega);simp [St.at, this] at h
theorem wbW9 {S : St} {H : List Blk} {L : Nat} {w : World} {x : OB} : (S.env H).le ((S.add H.length L w).env (H ++ [.ob x])) :=
 ⟨fun k o h => h, fun b s cur hb => ⟨cur, Nat.le_refl _, by
  have hb : shOf H b = some (s, cur) := hb;have := qbh9 hb;show shOf (H ++ [.ob x]) b = _;simpa [shOf, List.getElem?_append_left this] using hb, fun _ => rfl⟩, fun b g hb => by
  have hb : mpOf S.ν H b = some g := hb;have hlt := zbh9 hb;show mpOf (upd S.ν H.length (some L)) (H ++ [.ob x]) b = _;simpa [mpOf, List.getElem?_append_left hlt, kg0 _ _ (show b ≠ H.length by omega)] using hb⟩
theorem qcL9 {S : St} {H : List Blk} {L : Nat} {w : World} {o : Obj} {as : List AV} {vs : List Value} (hok : S.Ok H) (hL : S.Free H L) (hsame : ∀ k, k < S.w.heap.size → k ≠ L → w.heap[k]? = S.w.heap[k]?) (hnew : w.heap[L]? = some o) (hr : RelL (S.env H) as vs) :
  (S.add H.length L w).Ok (H ++ [.ob (.loop o as vs)]) := by
 have hle := wbW9 (S := S) (H := H) (L := L) (w := w) (x := .loop o as vs);have hne : ∀ b k, S.at H b = some k → k ≠ L := fun b k hb e => hL.1 ⟨b, by rw [← e]; exact hb⟩;refine ⟨fun k o' hk => ?_, fun b s t es hb => ?_, fun b x hb => ?_, fun b b' g hb hb' => ?_⟩
 ·have hk' : S.M k = some o' := hk;have : k ≠ L := fun e => by rw [e, hL.2] at hk'; cases hk'
  exact (hsame k (M_lt hok (by rw [hk']; simp)) this).trans (hok.imm k o' hk')
 ·have hlt : b < H.length := by
   have := (List.getElem?_eq_some_iff.1 hb).1;simp at this;rcases Nat.lt_or_ge b H.length with q|q
   ·exact q
   ·have e : b = H.length := by omega
    subst e; simp at hb
  rw [List.getElem?_append_left hlt] at hb;rcases hok.row b s t es hb with q|⟨g, k, cs, h1, h2, h3, h4, h5, h6, h7⟩
  ·exact .inl q
  ·have hlt2 := (Array.getElem?_eq_some_iff.1 h3).1;exact .inr ⟨g, k, cs, h1, h2, (hsame g hlt2 (hne b g (by simp [St.at, hb, h1]))).trans h3, h4, h5, h6, h7.mono hle⟩
 ·rcases Nat.lt_or_ge b H.length with hlt|hge
  ·rw [List.getElem?_append_left hlt] at hb;obtain ⟨g, o1, h1, h2, h3, h4⟩ := hok.ob b x hb;have hlt2 := (Array.getElem?_eq_some_iff.1 h3).1;exact ⟨g, o1, (kg0 _ _ (show b ≠ H.length by omega)).trans h1, h2, (hsame g hlt2 (hne b g (by simp [St.at, hb, h1]))).trans h3, h4.mono hle⟩
  ·have e : b = H.length := by
    have := (List.getElem?_eq_some_iff.1 hb).1;simp at this; omega
   subst e;simp at hb;subst hb;exact ⟨L, o, qf0 _ _ _, hL.2, hnew, rfl, RelL.mono hle _ _ hr⟩
 ·rcases wJ0 hb with e|e
  ·rw [vaW9 e] at hb;rcases wJ0 hb' with e'|e'
   ·rw [vaW9 e'] at hb'; exact hok.inj b b' g hb hb'
   ·rw [e', kN0] at hb'; injection hb' with hb'
    exact absurd hb'.symm (hne b g hb)
  ·rw [e, kN0] at hb; injection hb with hb
   rcases wJ0 hb' with e'|e'
   ·rw [vaW9 e'] at hb'; exact absurd hb.symm (hne b' g hb')
   ·omega
theorem kaW9 {S : St} {H : List Blk} {x : OB} {L : Nat} (hok : S.Ok (H ++ [.ob x])) (hν : S.ν H.length = some L) : S.Free H L := by
 have hat : S.at (H ++ [.ob x]) H.length = some L := by simp [St.at, hν]
 refine ⟨fun ⟨b, hb⟩ => ?_, ?_⟩
 ·have hlt : b < H.length := by
   rcases Nat.lt_or_ge b H.length with q|q
   ·exact q
   ·simp [St.at, List.getElem?_eq_none q] at hb
  have : S.at (H ++ [.ob x]) b = some L := by simpa only [St.at, List.getElem?_append_left hlt] using hb
  have := hok.inj b H.length L this hat;omega
 ·obtain ⟨g, o, h1, h2, _⟩ := hok.ob H.length x (by simp);rw [hν] at h1; injection h1 with h1; rw [h1]; exact h2
theorem qaX9 {S S' : St} {n0 : Nat} {H H' : List Blk} {L : Nat} (h : Ext n0 S H S' H') (hL : S.Owns H L ∨ S.w.heap.size ≤ L) (o : Obj) : Ext n0 S H (S'.shut L o) H' :=
 { h with
  size := by simpa [St.shut] using h.size
  keep := fun k hk hn => (World.putObj_heap_other (by rintro rfl; rcases hL with q|q; exact hn q; omega)).trans (h.keep k hk hn) }
theorem vbW9 {S : St} {H : List Blk} {g L : Nat} (h : S.Free H g) (o : Obj) : (S.shut L o).Free H g := h
theorem xS0 {k : Nat} {xs aS : List AV} {H1 H2 : List Blk} {fn : FuncId} {ts : Array Value} {ps : Array Tmp} {assign body : Code} {D : Nat} {e : Exit}
  (hbody : AWp true P G k assign (qbj9 (AWp true P G k body (fun e' a' H' => e' = e ∧ H'.take k = H2)) (fun _ _ _ => False)) (setA ps.toList xs aS) H1)
  (h1 : H1.length = k) (h2 : H2.length = k) (hb1 : H1.all (Blk.below k) = true) (hb2 : H2.all (Blk.below k) = true) (he : xZ0 e = true) (hx : idsL kX0 xs = true) (ha : idsL (fun b => decide (b < k)) aS = true) (hsz : xs.length = ps.size) :
  wX0 P G k xs (H1 ++ [.ob (.loop (qt0 fn ts ps assign body D .ready none) aS ts.toList)]) (.bool (xh0 e).isNone) (H2 ++ [.ob (.loop (qt0 fn ts ps assign body D (if (xh0 e).isNone = true then .ready else .done) (xh0 e)) aS ts.toList)]) := by
 subst h1;intro S vals L hok hG hrel hL;have hν : S.ν H1.length = some L := by simpa [mpOf] using hL
 have hfree := kaW9 hok hν;obtain ⟨g, o, q1, q2, q3, q4, q5⟩ := hok.ob H1.length _ (by simp; rfl);rw [hν] at q1; injection q1 with q1; subst q1; subst q4
 have htk : (H1 ++ [Blk.ob (.loop (qt0 fn ts ps assign body D .ready none) aS ts.toList)]).take H1.length = H1 := by simp
 obtain ⟨hok1, hext1⟩ := qas9 (n0 := H1.length) hok (Nat.le_refl _) (by simp) (by rw [htk]; exact hb1);have hag := xaK9 (m := H1.length) S (H1 ++ [Blk.ob (.loop (qt0 fn ts ps assign body D .ready none) aS ts.toList)]);rw [htk] at hok1 hext1 hag;have hvs : vals.length = ps.size := by rw [← hrel.length]; exact hsz
 have hrx : RelL (S.env H1) xs vals := RelL.move (ww0 (E := S.env (H1 ++ [.ob (.loop (qt0 fn ts ps assign body D .ready none) aS ts.toList)])) (E' := S.env H1) fun k o q => q) _ _ hx hrel;have hra : RelL (S.env H1) aS ts.toList := RelL.move hag _ _ ha q5;refine ⟨fn, _, assign, body, run_yield (P := P) (args := vals.toArray) q3 (by simpa using hvs), roundIn_of_wpIn (F := Fence.wide) trivial ?_⟩;have hset := waW9 ps.toList xs aS ts vals hra hrx;have hown : S.Owns (H1 ++ [Blk.ob (.loop (qt0 fn ts ps assign body D .ready none) aS ts.toList)]) L := ⟨H1.length, by simp [St.at, hν]⟩;have hfold : ((ps.zip vals.toArray).foldl (fun t (p : Tmp × Value) => t.setIfInBounds p.1 p.2) ts) = ((ps.toList.zip vals).foldl (fun t (p : Tmp × Value) => t.setIfInBounds p.1 p.2) ts) := by
  rw [← Array.foldl_toList]; simp
 refine wpIn_mono (hbody (some L) S { tmps := (ps.zip vals.toArray).foldl (fun t (p : Tmp × Value) => t.setIfInBounds p.1 p.2) ts, defers := [] } rfl hok1 hG (Nat.le_refl _) (by rw [hfold]; exact hset)) fun e1 act1 w1 hE => ?_;cases e1 with
 | normal =>
  obtain ⟨a1, Ha, Sa, rfl, hB, hoka, hexta, hra1, _⟩ := hE;obtain ⟨hfa, hsame⟩ := hfree.ext (Array.getElem?_eq_some_iff.1 q3).1 hexta;have hLa := hsame.trans q3;refine ⟨_, run_beginRound (P := P) hLa rfl, ?_⟩;have hokb := zbj9 hoka hfa (qt0 fn ts ps assign body D .busy none);have hlen : H1.length ≤ Ha.length := hexta.len (Nat.le_refl _);have henv : (Sa.shut L (qt0 fn ts ps assign body D .busy none)).env Ha = Sa.env Ha := rfl;refine wpIn_mono (hB (some L) (Sa.shut L (qt0 fn ts ps assign body D .busy none)) act1 rfl hokb (hG.mono hexta.M) hlen hra1) fun e act2 w2 hE2 => ?_;obtain ⟨a2, Hb, Sb, rfl, ⟨rfl, hH2⟩, hok2, hext2, _, _⟩ := hE2;have hLb0 : (Sa.shut L (qt0 fn ts ps assign body D .busy none)).w.heap[L]? = some (qt0 fn ts ps assign body D .busy none) := World.putObj_heap_same (Array.getElem?_eq_some_iff.1 hLa).1;obtain ⟨hfb, hsameb⟩ := (vbW9 (L := L) hfa (qt0 fn ts ps assign body D .busy none)).ext (Array.getElem?_eq_some_iff.1 hLb0).1 hext2;have hLb := hsameb.trans hLb0;have hlen2 : H1.length ≤ Hb.length := hext2.len hlen;obtain ⟨hok3, hext3⟩ := qas9 (n0 := H1.length) hok2 (Nat.le_refl _) hlen2 (by rw [hH2]; exact hb2);rw [hH2] at hok3 hext3;have hfc : Sb.Free H2 L := ⟨fun q => hfb.1 (by
   rcases q with ⟨b, hb⟩;refine ⟨b, ?_⟩;have hlt : b < H1.length := by
    rcases Nat.lt_or_ge b H2.length with q|q
    ·omega
    ·simp [St.at, List.getElem?_eq_none q] at hb
   rw [← hH2] at hb;simpa only [St.at, List.getElem?_take, if_pos hlt] using hb), hfb.2⟩
  -- the chain, as the caller sees it
  have hchain : Ext H1.length S (H1 ++ [Blk.ob (.loop (qt0 fn ts ps assign body D .ready none) aS ts.toList)]) Sb H2 := ((qaX9 (hext1.trans hexta) (.inl hown) _).trans hext2).trans hext3;have hra2 : RelL (Sb.env H2) aS ts.toList := by
   have e1 := RelL.mono (hexta.le (Nat.le_refl _)) _ _ hra;refine RelL.mono ?_ _ _ hra;have : Ext H1.length S H1 Sa Ha := hexta;have l1 := hexta.le (Nat.le_refl _);refine ⟨fun k o q => hext3.M k o (hext2.M k o (hexta.M k o q)), fun b s cur hb => ?_, fun b g hb => ?_⟩
   ·have hlt := qbh9 hb;obtain ⟨c1, l1, s1, m1⟩ := hexta.sh b s cur hlt hb;obtain ⟨c2, l2, s2, m2⟩ := hext2.sh b s c1 hlt s1;obtain ⟨c3, l3, s3, m3⟩ := hext3.sh b s c2 hlt s2;refine ⟨c3, by omega, s3, fun e => ?_⟩;have e3 : c3 = c2 := by omega
    have e2 : c2 = c1 := by omega
    have e1 : c1 = cur := by omega
    exact ((m3 e3).trans (m2 e2)).trans (m1 e1)
   ·have hlt := zbh9 hb;exact hext3.ν b g hlt (hext2.ν b g hlt (hexta.ν b g hlt hb))
  have hend := run_endRound (P := P) (xh0 e) hLb
  let w' := Sb.w.putObj L (qt0 fn ts ps assign body D (if (xh0 e).isNone = true then .ready else .done) (xh0 e))
  have hfin : ∃ v S', Ending.returned (.bool (xh0 e).isNone) = .returned v ∧ S'.w = w' ∧ S'.Ok (H2 ++ [.ob (.loop (qt0 fn ts ps assign body D (if (xh0 e).isNone = true then .ready else .done) (xh0 e)) aS ts.toList)]) ∧
    Ext (H1 ++ [Blk.ob (.loop (qt0 fn ts ps assign body D .ready none) aS ts.toList)]).length S (H1 ++ [Blk.ob (.loop (qt0 fn ts ps assign body D .ready none) aS ts.toList)]) S' (H2 ++ [.ob (.loop (qt0 fn ts ps assign body D (if (xh0 e).isNone = true then .ready else .done) (xh0 e)) aS ts.toList)]) ∧
    Rel (S'.env (H2 ++ [.ob (.loop (qt0 fn ts ps assign body D (if (xh0 e).isNone = true then .ready else .done) (xh0 e)) aS ts.toList)])) (.bool (xh0 e).isNone) v := by
   refine ⟨_, Sb.add H2.length L w', rfl, rfl, qcL9 hok3 hfc (fun k hk hne => World.putObj_heap_other hne) (World.putObj_heap_same (Array.getElem?_eq_some_iff.1 hLb).1) hra2, ?_, by simp [Rel]⟩;have hput := qaX9 hchain (.inl hown) (qt0 fn ts ps assign body D (if (xh0 e).isNone = true then .ready else .done) (xh0 e));have hlt1 : ∀ b, b < (H1 ++ [Blk.ob (.loop (qt0 fn ts ps assign body D .ready none) aS ts.toList)]).length → b < H1.length ∨ b = H1.length := fun b hb => by simp at hb; omega
   exact {
    os := hput.os
    tape := hput.tape
    output := hput.output
    size := hput.size
    keep := hput.keep
    M := hput.M
    dom := hput.dom
    own := fun j hj => by
     obtain ⟨b, hb⟩ := hj;rcases wJ0 hb with q|q
     ·rw [vaW9 q] at hb;exact hput.own j ⟨b, hb⟩
     ·rw [q, kN0] at hb; injection hb with hb
      rw [← hb]; exact .inl hown
    sh := fun b s cur hb hs => by
     rcases hlt1 b hb with q|q
     ·obtain ⟨c, c1, c2, c3⟩ := hput.sh b s cur q hs;refine ⟨c, c1, ?_, c3⟩;have : b < H2.length := by omega
      simpa [shOf, List.getElem?_append_left this] using c2
     ·subst q; simp [shOf] at hs
    ν := fun b g hb hg => by
     rcases hlt1 b hb with q|q
     ·have : mpOf Sb.ν H2 b = some g := hput.ν b g q hg;have hb2 : b < H2.length := by omega
      have e : (Sb.add H2.length L w').ν b = Sb.ν b := kg0 _ _ (by omega);simpa [mpOf, List.getElem?_append_left hb2, e] using this
     ·subst q;have e : mpOf S.ν (H1 ++ [Blk.ob (.loop (qt0 fn ts ps assign body D .ready none) aS ts.toList)]) H1.length = some L := by simpa [mpOf] using hν
      rw [e] at hg; injection hg with hg; subst hg
      rw [← h2];simp [mpOf, St.add, qf0]
    len := fun _ => by simp; omega }
  cases e with
  | normal => exact ⟨_, w', hend, hfin⟩
  | ret => exact ⟨_, w', hend, hfin⟩
  | exit id => exact ⟨_, w', hend, hfin⟩
  | goto t => exact ⟨_, w', hend, hfin⟩
  | panic c => cases he
  | outgrown => cases he
 | exit id => obtain ⟨_, _, _, _, h, _⟩ := hE; exact h.elim
 | goto id => obtain ⟨_, _, _, _, h, _⟩ := hE; exact h.elim
 | ret => obtain ⟨_, _, _, _, h, _⟩ := hE; exact h.elim
 | panic id => obtain ⟨_, _, _, _, h, _⟩ := hE; exact h.elim
 | outgrown => obtain ⟨_, _, _, _, h, _⟩ := hE; exact h.elim
end
end Go.V

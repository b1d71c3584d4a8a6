/- The library V, part 28: all that is own becomes immutable, in the middle of a walk. -/
import Derived.Test.YtfdnlhegmdhcjaaDoorV19
import Derived.ProofKit
set_option linter.unusedVariables false
set_option linter.unusedSimpArgs false
namespace Go.V
open Go Go.RowKit
def kid (i : Nat) (c : Code) : Code :=
 match c with
 | .seq x y => match i with|0 => x|_ => y
 | .cond _ x y => match i with|0 => x|_ => y
 | .block _ x => x
 | .loop x => x
 | .scope x => x
 | .rangeFunc _ _ x y => match i with|0 => x|_ => y
 | c => c
def atR (c : Code) : List Nat → Code
 | [] => c
 | i :: p => kid i (atR c p)
def bodyOf (f : Func) : Code := f.body.getD .skip
def isSeq : Code → Bool
 | .seq _ _ => true
 | _ => false
def isSkip : Code → Bool
 | .skip => true
 | .label _ => true
 | _ => false
def isRet : Code → Bool
 | .ret => true
 | _ => false
def isLoop : Code → Bool
 | .loop _ => true
 | _ => false
def opsOf : Code → List Oper
 | .region _ ops _ => ops.toList
 | _ => []
def drawOf : Code → Bool
 | .region _ _ d => d
 | _ => false
def isRegion : Code → Bool
 | .region _ _ _ => true
 | _ => false
def okind : Op → Nat
 | .call { callee := .value _, .. } => 2
 | .makeSlice _ _ _ => 5
 | o => if isEff o then 1 else 0
def Lst (n : Nat) (s : Nat → AV) : List AV := (List.range n).map s
def updS (s : Nat → AV) (d : Nat) (v : AV) : Nat → AV := fun t => if t = d then v else s t
def put (s : Nat → AV) (d : Option Tmp) (v : AV) : Nat → AV :=
 match d with
 | some d => updS s d v
 | none => s
theorem length_Lst (n : Nat) (s : Nat → AV) : (Lst n s).length = n := by simp [Lst]
theorem getA_Lst (n : Nat) (s : Nat → AV) (t : Nat) : getA (Lst n s) t = if t < n then s t else .tup [] := by
 simp only [getA, Lst, List.getD_eq_getElem?_getD, List.getElem?_map]
 by_cases h : t < n
 ·rw [if_pos h, List.getElem?_range h]; rfl
 ·rw [if_neg h, List.getElem?_eq_none (by simpa using h)]; rfl
theorem Lst_getA {a : List AV} {n : Nat} (h : a.length = n) : a = Lst n (getA a) := by
 apply List.ext_getElem
 ·simp [length_Lst, h]
 ·intro i h1 h2
  simp [Lst, getA, List.getD_eq_getElem?_getD, h1]
theorem putA_Lst (n : Nat) (s : Nat → AV) (d : Option Tmp) (v : AV) : putA (Lst n s) d v = Lst n (put s d v) := by
 cases d with
 | none => rfl
 | some d =>
  apply List.ext_getElem
  ·simp [putA, Lst]
  ·intro i h1 h2
   simp only [putA, put, updS, Lst, List.getElem_set, List.getElem_map, List.getElem_range]
   by_cases h : d = i
   ·simp [h]
   ·rw [if_neg h, if_neg (fun q => h q.symm)]
def rdS (n : Nat) (s : Nat → AV) (t : Nat) : AV := if t < n then s t else .tup []
theorem rdS_eq (n : Nat) (s : Nat → AV) (t : Nat) : rdS n s t = if t < n then s t else .tup [] := rfl
def evS (G : Glob) (n : Nat) (s : Nat → AV) : Operand → AV
 | .tmp t => if t < n then s t else .tup []
 | .const v => ofVal v
 | .global g => match G g with|some cs => .iptr cs 0|none => .top
 | .func f => .fn f []
theorem ev_Lst (G : Glob) (n : Nat) (s : Nat → AV) : ev G (Lst n s) = evS G n s := by
 funext x
 cases x with
 | tmp t => exact getA_Lst n s t
 | _ => rfl
theorem evS_tmp (G : Glob) (n : Nat) (s : Nat → AV) (t : Nat) : evS G n s (.tmp t) = if t < n then s t else .tup [] := rfl
theorem evS_const (G : Glob) (n : Nat) (s : Nat → AV) (v : Value) : evS G n s (.const v) = ofVal v := rfl
theorem evS_func (G : Glob) (n : Nat) (s : Nat → AV) (f : FuncId) : evS G n s (.func f) = .fn f [] := rfl
theorem updS_eq (s : Nat → AV) (d t : Nat) (v : AV) : updS s d v t = if t = d then v else s t := rfl
theorem updS_same (s : Nat → AV) (d : Nat) (v : AV) : updS s d v d = v := if_pos rfl
theorem put_some (s : Nat → AV) (d : Nat) (v : AV) : put s (some d) v = updS s d v := rfl
theorem put_none (s : Nat → AV) (v : AV) : put s none v = s := rfl
abbrev PostS := Exit → (Nat → AV) → List Blk → Prop
def liftQ (n : Nat) (Q : PostS) : Post := fun e a H => ∃ s, a = Lst n s ∧ Q e s H
def liftK (n : Nat) (K : (Nat → AV) → List Blk → Prop) (a : List AV) (H : List Blk) : Prop := ∃ s, a = Lst n s ∧ K s H
def thenS (K : (Nat → AV) → List Blk → Prop) (Q : PostS) : PostS
 | .normal, a, H => K a H
 | e, a, H => Q e a H
def inBlockS (id : Nat) (Q : PostS) : PostS
 | .exit id', a, H => if id' = id then Q .normal a H else Q (.exit id') a H
 | e, a, H => Q e a H
theorem liftQ_thenS (n : Nat) (K : (Nat → AV) → List Blk → Prop) (Q : PostS) : liftQ n (thenS K Q) = thenA (liftK n K) (liftQ n Q) := by
 funext e a H; cases e <;> rfl
theorem liftQ_inBlock (n : Nat) (id : Nat) (Q : PostS) : liftQ n (inBlockS id Q) = inBlockA id (liftQ n Q) := by
 funext e a H
 cases e with
 | exit id' =>
  simp only [liftQ, inBlockS, inBlockA]
  by_cases h : id' = id <;> simp [h]
 | _ => rfl
section
variable {ρ : Bool} {P : Program} {G : Glob} {n0 n : Nat} {body : Code} {p : List Nat} {Q : PostS} {B : Prop} {s : Nat → AV} {H : List Blk} {dr : Operand → Bool} {k : Nat}
def At (ρ : Bool) (P : Program) (G : Glob) (n0 n : Nat) (body : Code) (p : List Nat) (Q : PostS) (s : Nat → AV) (H : List Blk) : Prop := AWp ρ P G n0 (atR body p) (liftQ n Q) (Lst n s) H
def thenC (ρ : Bool) (P : Program) (G : Glob) (n0 n : Nat) (body : Code) (p : List Nat) (Q : PostS) : PostS := thenS (At ρ P G n0 n body p Q) Q
structure Go (ρ : Bool) (P : Program) (G : Glob) (n0 n : Nat) (body : Code) (p : List Nat) (Q : PostS) (B : Prop) (s : Nat → AV) (H : List Blk) : Prop where
 b : B
 w : At ρ P G n0 n body p Q s H
structure Out (Q : PostS) (e : Exit) (B : Prop) (s : Nat → AV) (H : List Blk) : Prop where
 b : B
 w : Q e s H
structure Acc (ρ : Bool) (P : Program) (G : Glob) (n0 n : Nat) (dr : Operand → Bool) (body : Code) (p : List Nat) (Q : PostS) (k : Nat) (B : Prop) (s : Nat → AV) (H : List Blk) : Prop where
 b : B
 w : tops P G dr (opsOf (atR body p)) (liftQ n Q .normal) ((opsOf (atR body p)).drop k) (Lst n s) H
theorem go_id (h : Go ρ P G n0 n body p Q B s H) : Go ρ P G n0 n body p Q B s H := h
theorem acc_id (h : Acc ρ P G n0 n dr body p Q k B s H) : Acc ρ P G n0 n dr body p Q k B s H := h
theorem out_id {e : Exit} (h : Out Q e B s H) : Out Q e B s H := h
theorem at_go (h : Go ρ P G n0 n body p Q True s H) : At ρ P G n0 n body p Q s H := h.2
theorem go_seq (hs : isSeq (atR body p) = true) (h : Go ρ P G n0 n body (0 :: p) (thenC ρ P G n0 n body (1 :: p) Q) B s H) : Go ρ P G n0 n body p Q B s H := by
 refine ⟨h.1, ?_⟩
 have h2 := h.2
 unfold At thenC at h2
 rw [liftQ_thenS] at h2
 simp only [atR] at h2
 unfold At
 generalize hc : atR body p = c at hs h2
 cases c with
 | seq x y =>
  refine awp_seq (awp_mono h2 fun e a H q => ?_)
  cases e with
  | normal =>
   obtain ⟨s', rfl, q⟩ := q
   unfold At at q
   simp only [atR, hc] at q
   exact q
  | _ => exact q
 | _ => cases hs
theorem go_skip (hs : isSkip (atR body p) = true) (h : Out Q .normal B s H) : Go ρ P G n0 n body p Q B s H := by
 refine ⟨h.1, ?_⟩
 unfold At
 generalize atR body p = c at hs
 cases c with
 | skip => exact awp_skip ⟨_, rfl, h.2⟩
 | label l => exact awp_label ⟨_, rfl, h.2⟩
 | _ => cases hs
theorem go_ret (hs : isRet (atR body p) = true) (h : Out Q .ret B s H) : Go ρ P G n0 n body p Q B s H := by
 refine ⟨h.1, ?_⟩
 unfold At
 generalize atR body p = c at hs
 cases c with
 | ret => exact awp_ret ⟨_, rfl, h.2⟩
 | _ => cases hs
theorem go_exit {id : Nat} (hs : atR body p = .exit id) (h : Out Q (.exit id) B s H) : Go ρ P G n0 n body p Q B s H := by
 refine ⟨h.1, ?_⟩
 unfold At; rw [hs]; exact awp_exit ⟨_, rfl, h.2⟩
theorem go_block {id : Nat} {c : Code} (hs : atR body p = .block id c) (h : Go ρ P G n0 n body (0 :: p) (inBlockS id Q) B s H) : Go ρ P G n0 n body p Q B s H := by
 refine ⟨h.1, ?_⟩
 have h2 := h.2
 unfold At at h2 ⊢
 simp only [atR] at h2
 rw [liftQ_inBlock] at h2
 rw [hs] at h2 ⊢
 exact awp_block h2
def condS (G : Glob) (n : Nat) (s : Nat → AV) (c : Operand) (X Y : Prop) : Prop :=
 match (evS G n s c).strip with
 | .bool b => (evS G n s c).ok = true ∧ (b = true → X) ∧ (b = false → Y)
 | .anyb => (evS G n s c).ok = true ∧ X ∧ Y
 | _ => False
theorem go_cond {c : Operand} {x y : Code} (hs : atR body p = .cond c x y) (h : B ∧ condS G n s c (At ρ P G n0 n body (0 :: p) Q s H) (At ρ P G n0 n body (1 :: p) Q s H)) : Go ρ P G n0 n body p Q B s H := by
 refine ⟨h.1, ?_⟩
 have h2 := h.2
 unfold At at h2 ⊢
 simp only [atR] at h2
 rw [hs] at h2 ⊢
 refine awp_if ?_
 unfold condS at h2
 unfold condK
 rw [ev_Lst]
 exact h2
theorem go_loop (hs : isLoop (atR body p) = true) (I : Nat → (Nat → AV) → List Blk → Prop) {m : Nat} {s1 : Nat → AV} {H1 : List Blk} (hB : B) (hw : Weak n0 (Lst n s) H (Lst n s1) H1) (h0 : I m s1 H1)
  (round : ∀ m s H, I m s H → Go ρ P G n0 n body (0 :: p) (thenS (fun s' H' => ∃ m' s2 H2, m' < m ∧ Weak n0 (Lst n s') H' (Lst n s2) H2 ∧ I m' s2 H2) Q) True s H) : Go ρ P G n0 n body p Q B s H := by
 refine ⟨hB, ?_⟩
 have h2 := fun n a H h => (round n a H h).2
 unfold At at h2 ⊢
 simp only [atR] at h2
 generalize atR body p = c at hs h2
 cases c with
 | loop x =>
  refine awp_loop (fun m a H => ∃ s, a = Lst n s ∧ I m s H) hw ⟨s1, rfl, h0⟩ fun m a H ⟨s, ha, hI⟩ => ?_
  subst ha
  refine awp_mono (h2 m s H hI) fun e a H q => ?_
  rw [liftQ_thenS] at q
  cases e with
  | normal =>
   obtain ⟨s', rfl, m', s2, H2, q1, q2, q3⟩ := q
   exact ⟨m', Lst n s2, H2, q1, q2, s2, rfl, q3⟩
  | _ => exact q
 | _ => cases hs
theorem go_weak {s1 : Nat → AV} {H1 : List Blk} (hB : B) (hw : Weak n0 (Lst n s) H (Lst n s1) H1) (h : Go ρ P G n0 n body p Q True s1 H1) : Go ρ P G n0 n body p Q B s H := ⟨hB, awp_weak hw h.2⟩
theorem go_region (hs : isRegion (atR body p) = true) (hd : drawOf (atR body p) = false) (h : Acc ρ P G n0 n noQ body p Q 0 B s H) : Go ρ P G n0 n body p Q B s H := by
 refine ⟨h.1, ?_⟩
 have h2 := h.2
 unfold At
 generalize atR body p = c at hs h2 hd
 cases c with
 | region id ops d =>
  cases hd
  simp only [opsOf, List.drop_zero] at h2
  exact awp_region (ops := ops.toList) h2
 | _ => cases hs
theorem go_draw (hs : isRegion (atR body p) = true) (hd : drawOf (atR body p) = true) (hm : P.follows .mixedOrders = true) (ho : orderOk dr (opsOf (atR body p)) = true) (h : Acc ρ P G n0 n dr body p Q 0 B s H) : Go ρ P G n0 n body p Q B s H := by
 refine ⟨h.1, ?_⟩
 have h2 := h.2
 unfold At
 generalize atR body p = c at hs h2 hd ho
 cases c with
 | region id ops d =>
  cases hd
  simp only [opsOf, List.drop_zero] at h2 ho
  exact awp_draw (ops := ops.toList) hm ho h2
 | _ => cases hs
theorem out_then {p1 : List Nat} (h : Go ρ P G n0 n body p1 Q B s H) : Out (thenC ρ P G n0 n body p1 Q) .normal B s H := ⟨h.1, h.2⟩
theorem out_then_ret {p1 : List Nat} (h : Out Q .ret B s H) : Out (thenC ρ P G n0 n body p1 Q) .ret B s H := ⟨h.1, h.2⟩
theorem out_then_exit {p1 : List Nat} {id : Nat} (h : Out Q (.exit id) B s H) : Out (thenC ρ P G n0 n body p1 Q) (.exit id) B s H := ⟨h.1, h.2⟩
theorem out_thenS {K : (Nat → AV) → List Blk → Prop} (h : B ∧ K s H) : Out (thenS K Q) .normal B s H := ⟨h.1, h.2⟩
theorem out_round {I : Nat → (Nat → AV) → List Blk → Prop} {m : Nat} (m' : Nat) (hm : m' < m) (hB : B) (hI : I m' s H) : Out (thenS (fun s' H' => ∃ m' s2 H2, m' < m ∧ Weak n0 (Lst n s') H' (Lst n s2) H2 ∧ I m' s2 H2) Q) .normal B s H := ⟨hB, m', s, H, hm, Weak.refl _ _, hI⟩
theorem out_thenS_ret {K : (Nat → AV) → List Blk → Prop} (h : Out Q .ret B s H) : Out (thenS K Q) .ret B s H := ⟨h.1, h.2⟩
theorem out_thenS_exit {K : (Nat → AV) → List Blk → Prop} {id : Nat} (h : Out Q (.exit id) B s H) : Out (thenS K Q) (.exit id) B s H := ⟨h.1, h.2⟩
theorem out_block {id : Nat} (h : Out Q .normal B s H) : Out (inBlockS id Q) .normal B s H := ⟨h.1, h.2⟩
theorem out_block_ret {id : Nat} (h : Out Q .ret B s H) : Out (inBlockS id Q) .ret B s H := ⟨h.1, h.2⟩
theorem out_block_exit {id id' : Nat} (hid : (id' == id) = true) (h : Out Q .normal B s H) : Out (inBlockS id Q) (.exit id') B s H := by
 have : id' = id := by simpa using hid
 subst this
 exact ⟨h.1, by simpa [inBlockS] using h.2⟩
theorem out_block_exit' {id id' : Nat} (hid : (id' == id) = false) (h : Out Q (.exit id') B s H) : Out (inBlockS id Q) (.exit id') B s H := by
 have : ¬ id' = id := by simpa using hid
 exact ⟨h.1, by simpa [inBlockS, this] using h.2⟩
theorem drop_at {l : List Oper} {k : Nat} {o : Oper} (h : l[k]? = some o) : l.drop k = o :: l.drop (k + 1) := by
 obtain ⟨hk, e⟩ := List.getElem?_eq_some_iff.1 h
 rw [List.drop_eq_getElem_cons hk, e]
theorem acc_end (h : (opsOf (atR body p))[k]? = none) (hk : Out Q .normal B s H) : Acc ρ P G n0 n dr body p Q k B s H := by
 refine ⟨hk.1, ?_⟩
 rw [List.drop_eq_nil_of_le (List.getElem?_eq_none_iff.1 h)]
 exact ⟨_, rfl, hk.2⟩
theorem opK_pure {o : Op} {σ : Operand → AV} {K : AV → List Blk → Prop} (ho : okind o = 0) (h1 : (pstep P o σ H).1 = true) (h2 : K (pstep P o σ H).2 H) : opK P G dr o σ H K := by
 unfold opK
 split
 ·cases ho
 ·cases ho
 ·rename_i hne hnm
  have : isEff o = false := by
   unfold okind at ho
   split at ho
   ·cases ho
   ·cases ho
   ·split at ho
    ·cases ho
    ·rename_i h; simpa using h
  rw [if_neg (by simp [this])]
  exact ⟨h1, h2⟩
theorem opK_eff {o : Op} {σ : Operand → AV} {K : AV → List Blk → Prop} (ho : okind o = 1) (h1 : (estep P o σ H).1 = true) (h2 : K (estep P o σ H).2.1 (estep P o σ H).2.2) : opK P G dr o σ H K := by
 unfold opK
 split
 ·cases ho
 ·cases ho
 ·rename_i hne hnm
  have : isEff o = true := by
   unfold okind at ho
   split at ho
   ·cases ho
   ·cases ho
   ·split at ho
    ·rename_i h; exact h
    ·cases ho
  rw [if_pos this]
  exact ⟨h1, h2⟩
theorem opK_mk {t l c} {σ : Operand → AV} {K : AV → List Blk → Prop} (hm : mkF dr = false) (h1 : (estep P (.makeSlice t l c) σ H).1 = true) (h2 : K (estep P (.makeSlice t l c) σ H).2.1 (estep P (.makeSlice t l c) σ H).2.2) : opK P G dr (.makeSlice t l c) σ H K := by
 simp only [opK, hm, Bool.false_eq_true, if_false]
 exact ⟨h1, h2⟩
theorem opK_made {t l c} {σ : Operand → AV} {K : AV → List Blk → Prop} {r : AV} (hm : mkF dr = true) (h1 : Made P (.makeSlice t l c) σ H r) (h2 : K r H) : opK P G dr (.makeSlice t l c) σ H K := by
 simp only [opK, hm, if_true]
 exact ⟨r, h1, h2⟩
theorem gopK_pure {g : Bool} {o : Op} {σ : Operand → AV} {K : AV → List Blk → Prop} (ho : okind o = 0) (h1 : g = true → (pstep P o σ H).1 = true) (h2 : K (.opt g (pstep P o σ H).2) H) : gopK P G dr g o σ H K := by
 unfold gopK
 split
 ·cases ho
 ·cases ho
 ·rename_i hne hnm
  have : isEff o = false := by
   unfold okind at ho
   split at ho
   ·cases ho
   ·cases ho
   ·split at ho
    ·cases ho
    ·rename_i h; simpa using h
  rw [if_neg (by simp [this])]
  exact ⟨h1, h2⟩
variable {d : Option Tmp} {op : Op} {ty : TypeId} {pos : String} {af : Array Edge}
theorem acc_pure (h : (opsOf (atR body p))[k]? = some ⟨d, op, ty, pos, af, none⟩) (ho : okind op = 0) (hk : Acc ρ P G n0 n dr body p Q (k + 1) (B ∧ (pstep P op (evS G n s) H).1 = true) (put s d (pstep P op (evS G n s) H).2) H) : Acc ρ P G n0 n dr body p Q k B s H := by
 obtain ⟨⟨h1, h2⟩, h3⟩ := hk
 refine ⟨h1, ?_⟩
 rw [drop_at h]
 rw [← putA_Lst] at h3
 exact opK_pure ho (by rw [ev_Lst]; exact h2) (by rw [ev_Lst]; exact h3)
theorem acc_eff (h : (opsOf (atR body p))[k]? = some ⟨d, op, ty, pos, af, none⟩) (ho : okind op = 1) (hk : Acc ρ P G n0 n dr body p Q (k + 1) (B ∧ (estep P op (evS G n s) H).1 = true) (put s d (estep P op (evS G n s) H).2.1) (estep P op (evS G n s) H).2.2) : Acc ρ P G n0 n dr body p Q k B s H := by
 obtain ⟨⟨h1, h2⟩, h3⟩ := hk
 refine ⟨h1, ?_⟩
 rw [drop_at h]
 rw [← putA_Lst] at h3
 exact opK_eff ho (by rw [ev_Lst]; exact h2) (by rw [ev_Lst]; exact h3)
theorem acc_mk {t0 : TypeId} {l c : Operand} (h : (opsOf (atR body p))[k]? = some ⟨d, .makeSlice t0 l c, ty, pos, af, none⟩) (hm : mkF dr = false) (hk : Acc ρ P G n0 n dr body p Q (k + 1) (B ∧ (estep P (.makeSlice t0 l c) (evS G n s) H).1 = true) (put s d (estep P (.makeSlice t0 l c) (evS G n s) H).2.1) (estep P (.makeSlice t0 l c) (evS G n s) H).2.2) : Acc ρ P G n0 n dr body p Q k B s H := by
 obtain ⟨⟨h1, h2⟩, h3⟩ := hk
 refine ⟨h1, ?_⟩
 rw [drop_at h]
 rw [← putA_Lst] at h3
 exact (show opK P G dr (.makeSlice t0 l c) (ev G (Lst n s)) H (fun r H' => tops P G dr (opsOf (atR body p)) (liftQ n Q .normal) ((opsOf (atR body p)).drop (k + 1)) (putA (Lst n s) d r) H') from opK_mk hm (by rw [ev_Lst]; exact h2) (by rw [ev_Lst]; exact h3))
theorem acc_made {t0 : TypeId} {l c : Operand} (h : (opsOf (atR body p))[k]? = some ⟨d, .makeSlice t0 l c, ty, pos, af, none⟩) (hm : mkF dr = true) (hk : B ∧ ∃ r, Made P (.makeSlice t0 l c) (evS G n s) H r ∧ Acc ρ P G n0 n dr body p Q (k + 1) True (put s d r) H) : Acc ρ P G n0 n dr body p Q k B s H := by
 obtain ⟨h1, r, h2, h3⟩ := hk
 refine ⟨h1, ?_⟩
 rw [drop_at h]
 have h3 := h3.2
 rw [← putA_Lst] at h3
 exact (show opK P G dr (.makeSlice t0 l c) (ev G (Lst n s)) H (fun r H' => tops P G dr (opsOf (atR body p)) (liftQ n Q .normal) ((opsOf (atR body p)).drop (k + 1)) (putA (Lst n s) d r) H') from opK_made hm (by rw [ev_Lst]; exact h2) h3)
theorem callK_mono {dr : Bool} {f : AV} {args : List AV} {K K' : AV → List Blk → Prop} (h : callK P G dr f args H K) (hk : ∀ r H', K r H' → K' r H') : callK P G dr f args H K' := by
 unfold callK at h ⊢
 split
 ·rename_i g cap hf
  rw [hf] at h
  simp only at h
  obtain ⟨h3, h4, h5, h6⟩ := h
  refine ⟨h3, h4, h5, ?_⟩
  split
  ·rename_i hdr
   rw [if_pos hdr] at h6
   obtain ⟨r, q1, q2⟩ := h6
   exact ⟨r, q1, hk _ _ q2⟩
  ·rename_i hdr
   rw [if_neg hdr] at h6
   obtain ⟨r, H', q1, q2⟩ := h6
   exact ⟨r, H', q1, hk _ _ q2⟩
 ·rename_i b hf
  rw [hf] at h
  simp only at h
  obtain ⟨h3, h5, h6⟩ := h
  refine ⟨h3, h5, ?_⟩
  split
  ·rename_i hdr
   rw [if_pos hdr] at h6
   obtain ⟨r, q1, q2⟩ := h6
   exact ⟨r, q1, hk _ _ q2⟩
  ·rename_i hdr
   rw [if_neg hdr] at h6
   obtain ⟨r, H', q1, q2⟩ := h6
   exact ⟨r, H', q1, hk _ _ q2⟩
 ·rename_i hne hne2
  split at h
  ·rename_i g cap hf; exact absurd hf (hne g cap)
  ·rename_i b hf; exact absurd hf (hne2 b)
  ·exact h
theorem acc_call {f : Operand} {args : Array Operand} {ts : Array TypeId} (h : (opsOf (atR body p))[k]? = some ⟨d, .call ⟨.value f, args, ts⟩, ty, pos, af, none⟩)
  (hk : B ∧ callK P G (dr f) (evS G n s f) (args.toList.map (evS G n s)) H (fun r H' => Acc ρ P G n0 n dr body p Q (k + 1) True (put s d r) H')) (hkp : kpF dr = false := by rfl) : Acc ρ P G n0 n dr body p Q k B s H := by
 refine ⟨hk.1, ?_⟩
 rw [drop_at h]
 show callK P G (dr f) (ev G (Lst n s) f) (args.toList.map (ev G (Lst n s))) H _
 rw [ev_Lst]
 refine callK_mono hk.2 fun r H' q => ⟨fun w => (by rw [hkp] at w; cases w), ?_⟩
 show tops _ _ _ _ _ _ (putA (Lst n s) d r) _
 rw [putA_Lst]; exact q.2
theorem acc_callK {f : Operand} {args : Array Operand} {ts : Array TypeId} (h : (opsOf (atR body p))[k]? = some ⟨d, .call ⟨.value f, args, ts⟩, ty, pos, af, none⟩) (hkp : kpF dr = true)
  (hk : B ∧ callK P G (dr f) (evS G n s f) (args.toList.map (evS G n s)) H (fun r H' => (∃ E, H' = H ++ E) ∧ Acc ρ P G n0 n dr body p Q (k + 1) True (put s d r) H')) : Acc ρ P G n0 n dr body p Q k B s H := by
 refine ⟨hk.1, ?_⟩
 rw [drop_at h]
 show callK P G (dr f) (ev G (Lst n s) f) (args.toList.map (ev G (Lst n s))) H _
 rw [ev_Lst]
 refine callK_mono hk.2 fun r H' q => ⟨fun _ => q.1, ?_⟩
 show tops _ _ _ _ _ _ (putA (Lst n s) d r) _
 rw [putA_Lst]; exact q.2.2
theorem gBool_of {ops : List Oper} {a : List AV} {j t : Nat} {want : Bool} (h : (ops[j]?).map (fun o => o.dst) = some (some t)) : gBool ops a j want = gOf (getA a t) want := by
 unfold gBool
 cases hj : ops[j]? with
 | none => rw [hj] at h; cases h
 | some o =>
  rw [hj] at h
  simp only [Option.map_some, Option.some.injEq] at h
  simp only [h]
def optK (o : Option Bool) (K : Bool → Prop) : Prop :=
 match o with
 | some g => K g
 | none => False
theorem tops_g {j t : Nat} {want : Bool} {K : List AV → List Blk → Prop} (h : (opsOf (atR body p))[k]? = some ⟨d, op, ty, pos, af, some (j, want)⟩) (hj : ((opsOf (atR body p))[j]?).map (fun o => o.dst) = some (some t))
  (hk : optK (gOf (evS G n s (.tmp t)) want) fun g => gopK P G dr g op (evS G n s) H (fun r H' => tops P G dr (opsOf (atR body p)) K ((opsOf (atR body p)).drop (k + 1)) (Lst n (put s d r)) H')) : tops P G dr (opsOf (atR body p)) K ((opsOf (atR body p)).drop k) (Lst n s) H := by
 have ht : tops P G dr (opsOf (atR body p)) K ((opsOf (atR body p)).drop k) (Lst n s) H ↔ match gBool (opsOf (atR body p)) (Lst n s) j want with|some g => gopK P G dr g op (ev G (Lst n s)) H (fun r H' => tops P G dr (opsOf (atR body p)) K ((opsOf (atR body p)).drop (k + 1)) (putA (Lst n s) d r) H')|none => False := by
  rw [drop_at h]; rfl
 rw [ht, gBool_of hj, ← ev_tmp G, ev_Lst]
 unfold optK at hk
 simp only [putA_Lst]
 exact hk
theorem acc_gp {j t : Nat} {want : Bool} (h : (opsOf (atR body p))[k]? = some ⟨d, op, ty, pos, af, some (j, want)⟩) (ho : okind op = 0) (hj : ((opsOf (atR body p))[j]?).map (fun o => o.dst) = some (some t))
  (hk : B ∧ optK (gOf (evS G n s (.tmp t)) want) fun g => Acc ρ P G n0 n dr body p Q (k + 1) (g = true → (pstep P op (evS G n s) H).1 = true) (put s d (.opt g (pstep P op (evS G n s) H).2)) H) : Acc ρ P G n0 n dr body p Q k B s H := by
 refine ⟨hk.1, tops_g h hj ?_⟩
 obtain ⟨hB, hk⟩ := hk
 unfold optK at hk ⊢
 split at hk
 ·exact gopK_pure ho hk.1 hk.2
 ·exact hk.elim
theorem acc_gmade {j t : Nat} {want : Bool} {t0 : TypeId} {l c : Operand} (h : (opsOf (atR body p))[k]? = some ⟨d, .makeSlice t0 l c, ty, pos, af, some (j, want)⟩) (hm : mkF dr = true) (hj : ((opsOf (atR body p))[j]?).map (fun o => o.dst) = some (some t))
  (hk : B ∧ optK (gOf (evS G n s (.tmp t)) want) fun g => ∃ r, (g = true → Made P (.makeSlice t0 l c) (evS G n s) H r) ∧ Acc ρ P G n0 n dr body p Q (k + 1) True (put s d (.opt g r)) H) : Acc ρ P G n0 n dr body p Q k B s H := by
 refine ⟨hk.1, tops_g h hj ?_⟩
 obtain ⟨hB, hk⟩ := hk
 unfold optK at hk ⊢
 split at hk
 ·obtain ⟨r, h1, h2⟩ := hk
  simp only [gopK, hm, if_true]
  exact ⟨r, h1, h2.2⟩
 ·exact hk.elim
theorem acc_gc {j t : Nat} {want : Bool} {f : Operand} {args : Array Operand} {ts : Array TypeId} (h : (opsOf (atR body p))[k]? = some ⟨d, .call ⟨.value f, args, ts⟩, ty, pos, af, some (j, want)⟩) (hj : ((opsOf (atR body p))[j]?).map (fun o => o.dst) = some (some t))
  (hk : B ∧ optK (gOf (evS G n s (.tmp t)) want) fun g => gcallK P G (dr f) g (evS G n s f) (args.toList.map (evS G n s)) H (fun r H' => Acc ρ P G n0 n dr body p Q (k + 1) True (put s d r) H')) : Acc ρ P G n0 n dr body p Q k B s H := by
 refine ⟨hk.1, tops_g h hj ?_⟩
 obtain ⟨hB, hk⟩ := hk
 unfold optK at hk ⊢
 split at hk
 ·rename_i g hg
  simp only [gopK]
  unfold gcallK at hk ⊢
  split
  ·rename_i fn cap hf
   rw [hf] at hk
   simp only at hk
   obtain ⟨h3, h4, r, h5, h6⟩ := hk
   exact ⟨h3, h4, r, h5, h6.2⟩
  ·rename_i b hf
   rw [hf] at hk
   simp only at hk
   obtain ⟨h3, h4⟩ := hk
   refine ⟨h3, ?_⟩
   split
   ·rename_i hg
    rw [if_pos hg] at h4
    obtain ⟨h5, h6, r, H', h7, h8⟩ := h4
    exact ⟨h5, h6, r, H', h7, h8.2⟩
   ·rename_i hg
    rw [if_neg hg] at h4
    exact h4.2
  ·rename_i hne hny
   split at hk
   ·rename_i g cap hf; exact absurd hf (hne g cap)
   ·rename_i b hf; exact absurd hf (hny b)
   ·exact hk
 ·exact hk.elim
def argsS (s : Nat → AV) : Nat → List AV → Prop
 | _, [] => True
 | k, x :: xs => s k = x ∧ argsS s (k + 1) xs
theorem argsS_of (a : List AV) : ∀ (k : Nat) (xs : List AV), argsAt a k xs → argsS (getA a) k xs
 | _, [], _ => trivial
 | k, x :: xs, ⟨h1, h2⟩ => ⟨h1, argsS_of a (k + 1) xs h2⟩
def resS1 (P : Program) (n : Nat) (s : Nat → AV) (H : List Blk) : ResultVar → Bool × AV
 | .tmp t => ((rdS n s t).ok, (rdS n s t).strip)
 | .cell b t => ((rdS n s b).ok && (pLoad P H t (rdS n s b).strip).1, (pLoad P H t (rdS n s b).strip).2)
def resS (P : Program) (n : Nat) (rs : List ResultVar) (s : Nat → AV) (H : List Blk) : Bool × AV :=
 match rs with
 | [r] => resS1 P n s H r
 | rs => (rs.all fun r => (resS1 P n s H r).1, .tup (rs.map fun r => (resS1 P n s H r).2))
theorem resS1_tmp (n : Nat) (s : Nat → AV) (H : List Blk) (t : Nat) : resS1 P n s H (.tmp t) = ((rdS n s t).ok, (rdS n s t).strip) := rfl
theorem resS1_cell (n : Nat) (s : Nat → AV) (H : List Blk) (b : Nat) (t : TypeId) : resS1 P n s H (.cell b t) = ((rdS n s b).ok && (pLoad P H t (rdS n s b).strip).1, (pLoad P H t (rdS n s b).strip).2) := rfl
theorem resS_0 (n : Nat) (s : Nat → AV) (H : List Blk) : resS P n [] s H = (true, .tup []) := rfl
theorem resS_1 (n : Nat) (s : Nat → AV) (H : List Blk) (a : ResultVar) : resS P n [a] s H = resS1 P n s H a := rfl
theorem resS_2 (n : Nat) (s : Nat → AV) (H : List Blk) (a b : ResultVar) : resS P n [a, b] s H = ((resS1 P n s H a).1 && (resS1 P n s H b).1, .tup [(resS1 P n s H a).2, (resS1 P n s H b).2]) := by simp [resS]
theorem resS_3 (n : Nat) (s : Nat → AV) (H : List Blk) (a b c : ResultVar) : resS P n [a, b, c] s H = ((resS1 P n s H a).1 && ((resS1 P n s H b).1 && (resS1 P n s H c).1), .tup [(resS1 P n s H a).2, (resS1 P n s H b).2, (resS1 P n s H c).2]) := by simp [resS]
theorem resS_4 (n : Nat) (s : Nat → AV) (H : List Blk) (a b c d : ResultVar) : resS P n [a, b, c, d] s H = ((resS1 P n s H a).1 && ((resS1 P n s H b).1 && ((resS1 P n s H c).1 && (resS1 P n s H d).1)), .tup [(resS1 P n s H a).2, (resS1 P n s H b).2, (resS1 P n s H c).2, (resS1 P n s H d).2]) := by simp [resS]
theorem ares1_Lst (n : Nat) (s : Nat → AV) (r : ResultVar) : ares1 P (Lst n s) H r = resS1 P n s H r := by
 cases r <;> simp only [ares1, resS1, getA_Lst, rdS]
theorem ares_Lst (n : Nat) (rs : List ResultVar) (s : Nat → AV) : ares P rs (Lst n s) H = resS P n rs s H := by
 have e : ares1 P (Lst n s) H = resS1 P n s H := funext fun r => ares1_Lst n s r
 cases rs with
 | nil => simp only [ares, resS, e]
 | cons r l => cases l <;> simp only [ares, resS, e]
def DoneS (P : Program) (n : Nat) (rs : List ResultVar) (d : Nat) (r : AV) : PostS := fun e s' H' =>
 (e = .normal ∨ e = .ret) ∧ (resS P n rs s' H').1 = true ∧ okR H' d (resS P n rs s' H').2 = true ∧ (closeR H' d (resS P n rs s' H').2).eqv r
def DoneHS (P : Program) (n : Nat) (rs : List ResultVar) (r : AV) (Hf : List Blk) : PostS := fun e s' H' =>
 (e = .normal ∨ e = .ret) ∧ (resS P n rs s' H').1 = true ∧ ((resS P n rs s' H').2).eqv r ∧ H' = Hf
theorem out_ret {rs : List ResultVar} {d : Nat} {r : AV} (h : B ∧ (resS P n rs s H).1 = true ∧ okR H d (resS P n rs s H).2 = true ∧ (closeR H d (resS P n rs s H).2).eqv r) : Out (DoneS P n rs d r) .ret B s H := ⟨h.1, .inr rfl, h.2⟩
theorem out_normal {rs : List ResultVar} {d : Nat} {r : AV} (h : B ∧ (resS P n rs s H).1 = true ∧ okR H d (resS P n rs s H).2 = true ∧ (closeR H d (resS P n rs s H).2).eqv r) : Out (DoneS P n rs d r) .normal B s H := ⟨h.1, .inl rfl, h.2⟩
theorem out_retH {rs : List ResultVar} {r : AV} {Hf : List Blk} (h : B ∧ (resS P n rs s H).1 = true ∧ ((resS P n rs s H).2).eqv r ∧ H = Hf) : Out (DoneHS P n rs r Hf) .ret B s H := ⟨h.1, .inr rfl, h.2⟩
theorem out_normalH {rs : List ResultVar} {r : AV} {Hf : List Blk} (h : B ∧ (resS P n rs s H).1 = true ∧ ((resS P n rs s H).2).eqv r ∧ H = Hf) : Out (DoneHS P n rs r Hf) .normal B s H := ⟨h.1, .inl rfl, h.2⟩
theorem pc_go {f : FuncId} {fn : Func} {args : List AV} {r : AV} (d n : Nat) (rs : List ResultVar) (hf : P.funcs[f]? = some fn) (hb : fn.body.isSome = true) (hn : fn.ntmps = n) (hrs : fn.results.toList = rs) (hl : args.length ≤ n)
  (h : ∀ s, argsS s 0 args → Go false P G 0 n (bodyOf fn) [] (DoneS P n rs d r) True s []) : PC P G f args r := by
 obtain ⟨c, hc⟩ := Option.isSome_iff_exists.1 hb
 refine pc_start d n rs hf hc hn hrs hl fun a h1 h2 => ?_
 have := (h (getA a) (argsS_of a 0 args h2)).2
 unfold At atR bodyOf at this
 rw [hc, ← Lst_getA h1] at this
 refine awp_mono this fun e a H ⟨s, ha, q⟩ => ?_
 subst ha
 unfold Done
 rw [ares_Lst]
 exact q
theorem ac_go {f : FuncId} {fn : Func} {args : List AV} {r : AV} {Hf : List Blk} (n : Nat) (rs : List ResultVar) (hf : P.funcs[f]? = some fn) (hb : fn.body.isSome = true) (hn : fn.ntmps = n) (hrs : fn.results.toList = rs) (hl : args.length ≤ n)
  (h : ∀ s, argsS s 0 args → Go false P G H.length n (bodyOf fn) [] (DoneHS P n rs r Hf) True s H) : ACalls P G f args H r Hf := by
 obtain ⟨c, hc⟩ := Option.isSome_iff_exists.1 hb
 refine acalls_start n rs hf hc hn hrs hl fun a h1 h2 => ?_
 have := (h (getA a) (argsS_of a 0 args h2)).2
 unfold At atR bodyOf at this
 rw [hc, ← Lst_getA h1] at this
 refine awp_mono this fun e a H ⟨s, ha, q⟩ => ?_
 subst ha
 unfold DoneH
 rw [ares_Lst]
 exact q
end
end Go.V
set_option linter.unusedVariables false
set_option linter.unusedSimpArgs false
namespace Go.V
open Go Go.RowKit
def St0 (w : World) : St := ⟨fun k => w.heap[k]?, fun _ => none, fun _ => none, w⟩
def EnvW (w : World) : Env := (St0 w).env []
theorem st0_ok (w : World) : (St0 w).Ok [] :=
 ⟨fun k o h => h, fun b s t es hb => by simp at hb, fun b ob0 hb => by simp at hb, fun b b' g hb => by simp [St.at] at hb⟩
theorem pc_below {P : Program} {G : Glob} {f : FuncId} {args : List AV} {vals : List Value} {b : Bool} {w : World} (h : PC P G f args (.bool b)) (hG : Globs G (fun k => w.heap[k]?)) (ha : RelL (EnvW w) args vals) :
  Calls P f vals.toArray w fun e w' => e = .returned (.bool b) ∧ Below w.heap.size w w' := by
 refine (h (St0 w) vals (st0_ok w) hG ha).mono fun e w' hh => ?_
 obtain ⟨v, S', rfl, rfl, hok, hext, hrel⟩ := hh
 have hn : ∀ k, ¬ (St0 w).Owns [] k := fun k ⟨b, hb⟩ => by simp [St.at] at hb
 have hv : v = .bool b := by simpa [Rel] using hrel
 exact ⟨by rw [hv], ⟨hext.os, hext.tape, hext.output, hext.size, fun k hlt => hext.keep k hlt (hn k)⟩⟩
theorem grown_heap {w w' : World} (hg : Below w.heap.size w w') {i : Nat} (hi : i < w.heap.size) : w'.heap[i]? = w.heap[i]? := hg.block i hi
theorem grown_same {w w' : World} (hg : Below w.heap.size w w') {p : MemPlace} (hp : p.block < w.heap.size) : w.sameAt w' p := by
 cases p with
 | cell b off =>
  have hb : w'.heap[b]? = w.heap[b]? := grown_heap hg hp
  simp only [World.sameAt, World.cell?]
  rw [hb]
 | map b => exact grown_heap hg hp
theorem trodAll_stays {H : Type} {enc : TypeId × Value → H} {P : Program} (hl : laidOutB P = true) {w w' : World} (hg : Below w.heap.size w w') {sp : Nat → Bool} : ∀ {ts : List TypeId} {vs : List Value} {ds : List (DataW H)} {ps : List MemPlace},
  (ts.all fun t => P.readableRec t && decide (t < P.types.size)) = true → DataW.TrodAll enc P w 0 (fun _ => true) true ts vs ds ps → (∀ p ∈ ps, p.block < w.heap.size) → (∀ p ∈ ps, sp p.block = true) → DataW.TrodAll enc P w' 0 sp true ts vs ds ps
 | [], [], [], ps, _, h, _, _ => h
 | t :: ts, v :: vs, d :: ds, ps, ht, ⟨p, q, h1, h2, e⟩, hlt, hs => by
  subst e
  simp only [List.all_cons, Bool.and_eq_true, decide_eq_true_eq] at ht
  refine ⟨p, q, Go.WideElems.Trod_stays hl ht.1.1 ht.1.2 h1 (fun x hx => grown_same hg (hlt x (List.mem_append_left _ hx))) (fun x hx => hs x (List.mem_append_left _ hx)), ?_, rfl⟩
  exact trodAll_stays hl hg (by simpa using ht.2) h2 (fun x hx => hlt x (List.mem_append_right _ hx)) (fun x hx => hs x (List.mem_append_right _ hx))
 | [], v :: vs, ds, ps, _, h, _, _ => h.elim
 | [], [], d :: ds, ps, _, h, _, _ => h.elim
 | t :: ts, [], ds, ps, _, h, _, _ => h.elim
 | t :: ts, v :: vs, [], ps, _, h, _, _ => h.elim
theorem mcell_cell {w : World} {g off : Nat} {v : Value} (h : w.cell? ⟨g, off, none⟩ = some v) : mcell (EnvW w).M g off = some v := by
 unfold World.cell? at h
 simp only [mcell, EnvW, St.env, St0]
 split at h
 ·rename_i c t fr hx
  rw [hx]
  simpa using h
 ·cases h
theorem cell_spot {w : World} {a : Addr} {v : Value} (h : w.cell? a = some v) : a.spot = none := by
 unfold World.cell? at h
 split at h
 ·split at h
  ·cases h
  ·rename_i q; simpa using q
 ·cases h
theorem add_eq {a : Addr} (h : a.spot = none) (n : Nat) : a.add n = ⟨a.block, a.off + n, none⟩ := by
 unfold Addr.add
 split
 ·rename_i q; subst q
  cases a; simp at h; subst h; rfl
 ·rfl
theorem mapM_some {α β : Type} {f : α → Option β} : ∀ {l : List α} {r : List β}, l.mapM f = some r → r.length = l.length ∧ ∀ (i : Nat) (x : α) (y : β), l[i]? = some x → r[i]? = some y → f x = some y
 | [], r, h => by
  simp at h; subst h; simp
 | a :: l, r, h => by
  rw [List.mapM_cons] at h
  cases ha : f a with
  | none => rw [ha] at h; cases h
  | some b =>
   rw [ha] at h
   cases hl : l.mapM f with
   | none => rw [hl] at h; cases h
   | some bs =>
    rw [hl] at h
    injection h with h; subst h
    obtain ⟨h1, h2⟩ := mapM_some hl
    refine ⟨by simp [h1], fun i x y hx hy => ?_⟩
    cases i with
    | zero =>
     simp at hx hy
     subst hx; subst hy; exact ha
    | succ i => exact h2 i x y (by simpa using hx) (by simpa using hy)
theorem exists_list {α : Type} {Pr : Nat → α → Prop} : ∀ (n : Nat), (∀ i, i < n → ∃ y, Pr i y) → ∃ ys : List α, ys.length = n ∧ ∀ (i : Nat) (y : α), ys[i]? = some y → Pr i y
 | 0, _ => ⟨[], rfl, fun i y h => by simp at h⟩
 | n + 1, h => by
  obtain ⟨ys, h1, h2⟩ := exists_list n fun i hi => h i (by omega)
  obtain ⟨y, hy⟩ := h n (by omega)
  refine ⟨ys ++ [y], by simp [h1], fun i z hz => ?_⟩
  rcases Nat.lt_or_ge i n with q|q
  ·rw [List.getElem?_append_left (by omega)] at hz; exact h2 i z hz
  ·rw [List.getElem?_append_right (by omega)] at hz
   have : i - ys.length = 0 := by
    have := (List.getElem?_eq_some_iff.1 hz).1
    simp at this; omega
   rw [this] at hz
   simp at hz; subst hz
   have : i = n := by omega
   subst this; exact hy
structure View (P : Program) (t : TypeId) (α : Type) where
 to : α → List AV
 ok : α → Prop
 get : ∀ {H : Type} {enc : TypeId × Value → H} {w : World} {fuel : Nat} {cs : List Value} {x : DataW H × List MemPlace}, DataW.trod enc P w 0 (fun _ => true) true fuel t cs = some x → ∃ y, ok y ∧ RelL (EnvW w) (to y) cs ∧ ∀ u ∈ cs, u.oneCell' = true
def View.int {P : Program} {t : TypeId} (k : IntKind) (hu : P.underlying t = some (.int k)) : View P t Int where
 to n := [.int k n]
 ok n := (Lit.int k n).wf = true
 get h := by
  obtain ⟨n, rfl, _, hw⟩ := DataW.trod_int hu h
  exact ⟨n, hw, by simp [RelL, Rel], by simp [Value.oneCell']⟩
def View.bool {P : Program} {t : TypeId} (hu : P.underlying t = some .bool) : View P t Bool where
 to n := [.bool n]
 ok n := True
 get h := by
  obtain ⟨n, rfl, _⟩ := DataW.trod_bool hu h
  exact ⟨n, trivial, by simp [RelL, Rel], by simp [Value.oneCell']⟩
def View.str {P : Program} {t : TypeId} (hu : P.underlying t = some .string) : View P t (List UInt8) where
 to n := [.str n]
 ok n := n.length ≤ maxLen
 get h := by
  obtain ⟨s, rfl, _, hw⟩ := DataW.trod_string hu h
  exact ⟨s.data.toList, by simpa using hw, by simp [RelL, Rel], by simp [Value.oneCell']⟩
def View.slice {P : Program} {t e : TypeId} {α : Type} (s : Nat) (hu : P.underlying t = some (.slice e)) (hs : P.cellsOf e = s) (hpos : 0 < s) (v : View P e α) : View P t (List α × Nat) where
 to y := [.sl s (y.1.map v.to) (some y.2)]
 ok y := (∀ x ∈ y.1, v.ok x) ∧ y.1.length ≤ y.2 ∧ y.2 ≤ maxLen
 get {H enc w fuel cs x} h := by
  rcases DataW.trod_slice hu h with ⟨rfl, _⟩|⟨a, len, cap, elems, rest, n, rfl, rfl, hx, _, h1, h2, h3, h4, _⟩
  ·exact ⟨([], 0), ⟨by simp, by simp, by simp⟩, by simp [RelL, Rel], by simp [Value.oneCell']⟩
  ·have hcell : ∀ i, i < len → ∃ ci y, w.cells? 0 (a.add (i * s)) s = some ci ∧ v.ok y ∧ RelL (EnvW w) (v.to y) ci ∧ ∀ u ∈ ci, u.oneCell' = true := fun i hi => by
    have q := h4 i hi
    have hlt : i < elems.length := by omega
    rw [List.getElem?_eq_getElem hlt, hs] at q
    cases hc : w.cells? 0 (a.add (i * s)) s with
    | none => rw [hc] at q; cases q
    | some ci =>
     rw [hc] at q
     obtain ⟨y, q1, q2, q3⟩ := v.get (H := H) q
     exact ⟨ci, y, rfl, q1, q2, q3⟩
   have hparts : ∀ i ci, w.cells? 0 (a.add (i * s)) s = some ci → ci.length = s ∧ ∀ j u, ci[j]? = some u → w.cell? ((a.add (i * s)).add j) = some u := fun i ci hc => by
    unfold World.cells? at hc
    rw [if_pos (Nat.zero_le _)] at hc
    obtain ⟨q1, q2⟩ := mapM_some hc
    refine ⟨by simpa using q1, fun j u hj => ?_⟩
    have hjs : j < s := by have := (List.getElem?_eq_some_iff.1 hj).1; simp at q1; omega
    exact q2 j j u (by simp [hjs]) hj
   have hspot : 0 < len → a.spot = none := fun hl => by
    obtain ⟨ci, y, hc, _⟩ := hcell 0 hl
    obtain ⟨q1, q2⟩ := hparts 0 ci hc
    have h0 : 0 < ci.length := by omega
    have := q2 0 ci[0] (by simp [h0])
    rw [Nat.zero_mul] at this
    have e : (a.add 0).add 0 = a := rfl
    rw [e] at this
    exact cell_spot this
   obtain ⟨ys, g1, g2⟩ := exists_list (Pr := fun i y => v.ok y ∧ (v.to y).length = s ∧ RelC (EnvW w) (v.to y) a.block (a.off + i * s)) len fun i hi => by
    obtain ⟨ci, y, hc, q1, q2, q3⟩ := hcell i hi
    obtain ⟨p1, p2⟩ := hparts i ci hc
    refine ⟨y, q1, by have := q2.length; omega, RelC.mk fun j b hj => ?_⟩
    obtain ⟨u, hu', hr⟩ := q2.get hj
    refine ⟨u, ?_, q3 u (List.mem_of_getElem? hu'), hr⟩
    have := p2 j u hu'
    rw [add_eq (hspot (by omega)), add_eq rfl] at this
    exact mcell_cell this
   refine ⟨(ys, cap), ⟨fun x hx => ?_, by simp [g1, h1], h2⟩, ?_, by simp [Value.oneCell']⟩
   ·obtain ⟨i, hi⟩ := List.mem_iff_getElem?.1 hx
    exact (g2 i x hi).1
   ·refine ⟨_, [], rfl, ?_, rfl⟩
    simp only [Rel]
    refine ⟨some a, cap, by simp [g1], by simp [g1, h1], h2, fun k hk => by injection hk, ?_⟩
    rcases Nat.eq_zero_or_pos len with q|q
    ·left
     have : ys = [] := List.eq_nil_of_length_eq_zero (by omega)
     rw [this]; rfl
    ·right
     have hs' := hspot q
     refine ⟨a.block, a.off, by cases a; simp at hs'; subst hs'; rfl, RelE.mk fun i e he => ?_⟩
     rw [List.getElem?_map] at he
     cases hy : ys[i]? with
     | none => rw [hy] at he; cases he
     | some y =>
      rw [hy] at he
      simp only [Option.map_some, Option.some.injEq] at he
      subst he
      exact (g2 i y hy).2
structure FView (P : Program) (fs : List Field) (off tot : Nat) (β : Type) where
 to : β → List AV
 ok : β → Prop
 get : ∀ {H : Type} {enc : TypeId × Value → H} {w : World} {n : Nat} {cs : List Value}, cs.length = tot →
  (∀ (i : Nat) (f : Field), fs[i]? = some f → ∃ x : DataW H × List MemPlace, DataW.trod enc P w 0 (fun _ => true) true n f.type (List.take (P.cellsOf f.type) (List.drop f.offset cs)) = some x) → ∃ y, ok y ∧ RelL (EnvW w) (to y) (cs.drop off) ∧ ∀ u ∈ cs.drop off, u.oneCell' = true
def FView.nil {P : Program} {off tot : Nat} (h : tot ≤ off) : FView P [] off tot Unit where
 to _ := []
 ok _ := True
 get hc _ := by
  refine ⟨(), trivial, ?_⟩
  rw [List.drop_eq_nil_of_le (by omega)]
  simp [RelL]
def FView.cons {P : Program} {f : Field} {fs : List Field} {off tot : Nat} {α β : Type} (c : Nat) (hf : f.offset = off) (hc : P.cellsOf f.type = c) (v : View P f.type α) (r : FView P fs (off + c) tot β) : FView P (f :: fs) off tot (α × β) where
 to y := v.to y.1 ++ r.to y.2
 ok y := v.ok y.1 ∧ r.ok y.2
 get {H enc w n cs} hl h := by
  obtain ⟨x, hx⟩ := h 0 f rfl
  rw [hf, hc] at hx
  obtain ⟨y1, q1, q2, q3⟩ := v.get hx
  obtain ⟨y2, p1, p2, p3⟩ := r.get hl fun i f' hi => h (i + 1) f' hi
  have e : cs.drop off = (cs.drop off).take c ++ cs.drop (off + c) := by
   rw [← List.drop_drop, List.take_append_drop]
  refine ⟨(y1, y2), ⟨q1, p1⟩, ?_, ?_⟩
  ·rw [e]; exact q2.append p2
  ·rw [e]; intro u hu
   rcases List.mem_append.1 hu with q|q
   ·exact q3 u q
   ·exact p3 u q
def View.struct {P : Program} {t : TypeId} {fs : Array Field} {β : Type} (tot : Nat) (hu : P.underlying t = some (.struct fs)) (ht : P.cellsOf t = tot) (r : FView P fs.toList 0 tot β) : View P t β where
 to := r.to
 ok := r.ok
 get {H enc w fuel cs x} h := by
  obtain ⟨xs, n, rfl, _, h1, h2, h3⟩ := DataW.trod_struct hu h
  obtain ⟨y, q1, q2, q3⟩ := r.get (H := H) (h1.trans ht) fun i f hi => by
   have hi' : fs[i]? = some f := by simpa using hi
   have hlt : i < xs.length := by rw [h2]; exact (Array.getElem?_eq_some_iff.1 hi').1
   exact ⟨xs[i], by rw [h3 i f hi', List.getElem?_eq_getElem hlt]⟩
  exact ⟨y, q1, by simpa using q2, by simpa using q3⟩
section
variable {P : Program} {H : Type} {enc : TypeId × Value → H} {w : World} {t : TypeId} {v : Value} {d : DataW H} {ps : List MemPlace} {α : Type}
end
end Go.V
set_option linter.unusedVariables false
set_option linter.unusedSimpArgs false
namespace Go.V
open Go Go.RowKit
section
variable {S : St} {H : List Blk}
def St.nil (S : St) (b : Nat) : St := { S with μ := upd S.μ b none }
theorem nil_ext (hok : S.Ok H) (s : Nat) (t : TypeId) : Ext H.length S H (S.nil H.length) (H ++ [.row s t []]) where
 os := rfl
 tape := rfl
 output := rfl
 size := Nat.le_refl _
 keep i hi hno := rfl
 M i o h := h
 dom i h := .inl h
 own i h := by
  obtain ⟨x, hx⟩ := h
  by_cases e : x < H.length
  ·left
   refine ⟨x, ?_⟩
   simpa only [St.at, St.nil, List.getElem?_append_left e, upd_ne _ _ (show x ≠ H.length by omega)] using hx
  ·by_cases e2 : x = H.length
   ·subst e2
    simp [St.at, St.nil, upd_same] at hx
   ·have : (H ++ [Blk.row s t []])[x]? = none := List.getElem?_eq_none (by simp; omega)
    simp [St.at, this] at hx
 sh x s' cur hx hs := ⟨cur, Nat.le_refl _, by rw [shOf_push_lt hx]; exact hs, fun _ => upd_ne _ _ (show x ≠ H.length by omega)⟩
 ν x g' hx hs := by rw [mpOf_push_lt hx]; exact hs
 len h := by simp
theorem nil_ok (hok : S.Ok H) (s : Nat) (t : TypeId) : (S.nil H.length).Ok (H ++ [.row s t []]) := by
 have hle := (nil_ext hok s t).le (Nat.le_refl _)
 have hat : ∀ x, x < H.length → (S.nil H.length).at (H ++ [.row s t []]) x = S.at H x := fun x e => by
  simp only [St.at, St.nil, List.getElem?_append_left e, upd_ne _ _ (show x ≠ H.length by omega)]
 have hlt : ∀ x g, (S.nil H.length).at (H ++ [.row s t []]) x = some g → x < H.length := fun x g hx => by
  by_cases e : x < H.length
  ·exact e
  ·by_cases e2 : x = H.length
   ·subst e2; simp [St.at, St.nil, upd_same] at hx
   ·have : (H ++ [Blk.row s t []])[x]? = none := List.getElem?_eq_none (by simp; omega)
    simp [St.at, this] at hx
 refine ⟨hok.imm, fun x s' t' es hx => ?_, fun x ob0 hx => ?_, fun x y g hx hy => ?_⟩
 ·by_cases e : x < H.length
  ·rw [List.getElem?_append_left e] at hx
   rcases hok.row x s' t' es hx with q|⟨g, k, cs, h1, h2, h3, h4, h5, h6, h7⟩
   ·exact .inl ⟨(upd_ne _ _ (by omega)).trans q.1, q.2⟩
   ·exact .inr ⟨g, k, cs, (upd_ne _ _ (by omega)).trans h1, h2, h3, h4, h5, h6, h7.mono hle⟩
  ·have e2 : x = H.length := by
    have := (List.getElem?_eq_some_iff.1 hx).1
    simp at this; omega
   subst e2
   simp at hx
   exact .inl ⟨upd_same _ _ _, .inl hx.2.2⟩
 ·by_cases e : x < H.length
  ·rw [List.getElem?_append_left e] at hx
   obtain ⟨g, ob1, h1, h2, h3, h4⟩ := hok.ob x ob0 hx
   exact ⟨g, ob1, h1, h2, h3, h4.mono hle⟩
  ·have e2 : x = H.length := by
    have := (List.getElem?_eq_some_iff.1 hx).1
    simp at this; omega
   subst e2
   simp at hx
 ·have q1 := hlt x g hx
  have q2 := hlt y g hy
  rw [hat x q1] at hx; rw [hat y q2] at hy
  exact hok.inj x y g hx hy
end
theorem weak_nil {n0 n t z sz : Nat} {ty : TypeId} {s : Nat → AV} {H : List Blk} (h : s t = .sl z [] (some 0)) :
  Weak n0 (Lst n s) H (Lst n (updS s t (.own H.length 0 0 none))) (H ++ [.row sz ty []]) := fun S vs hok hn ha => by
 have hext := nil_ext hok sz ty
 refine ⟨S.nil H.length, rfl, nil_ok hok sz ty, hext.less hn (Nat.le_refl _), ?_⟩
 have hle := hext.le (Nat.le_refl _)
 refine RelL.mk (by rw [← ha.length]; simp [length_Lst]) fun i a v hi hv => ?_
 have hil : i < n := by have := (List.getElem?_eq_some_iff.1 hi).1; simpa [length_Lst] using this
 simp only [Lst, List.getElem?_map, List.getElem?_range hil, Option.map_some, Option.some.injEq] at hi
 subst hi
 obtain ⟨v', hv', hr⟩ := ha.get (i := i) (a := s i) (by simp [Lst, List.getElem?_range hil])
 rw [hv] at hv'; injection hv' with hv'; subst hv'
 unfold updS
 split
 ·rename_i e; subst e
  rw [h] at hr
  simp only [Rel] at hr
  obtain ⟨a, cap, rfl, h1, h2, h3, h4⟩ := hr
  have : cap = 0 := h3 0 rfl
  subst this
  simp only [Rel]
  refine ⟨sz, 0, by simp [St.env, shOf], Nat.le_refl _, fun _ => ⟨Nat.le_refl _, .inl ⟨upd_same _ _ _, ⟨a, rfl⟩, by simp⟩⟩⟩
 ·exact Rel.mono hle _ _ hr
end Go.V
set_option linter.unusedVariables false
set_option linter.unusedSimpArgs false
namespace Go.V
open Go Go.RowKit
section
variable {P : Program} {G : Glob}
end
end Go.V
set_option linter.unusedVariables false
set_option linter.unusedSimpArgs false
namespace Go.V
open Go Go.RowKit
mutual
def AV.flat : AV → Bool
 | .int _ _|.bool _|.str _|.anyb|.anyi _|.err|.lit _|.sl _ [] _ => true
 | .agg cs => flatL cs
 | .tup cs => flatL cs
 | _ => false
def flatL : List AV → Bool
 | [] => true
 | a :: as => a.flat && flatL as
end
mutual
theorem rel_flat {E E' : Env} : ∀ (a : AV) (v : Value), a.flat = true → Rel E a v → Rel E' a v
 | .int k n, v, _, hr => by simpa [Rel] using hr
 | .bool b, v, _, hr => by simpa [Rel] using hr
 | .str s, v, _, hr => by simpa [Rel] using hr
 | .anyb, v, _, hr => by simpa [Rel] using hr
 | .anyi k, v, _, hr => by simpa [Rel] using hr
 | .err, v, _, hr => by simpa [Rel] using hr
 | .lit u, v, _, hr => by simpa [Rel] using hr
 | .sl s [] c, v, _, hr => by simpa [Rel] using hr
 | .sl s (_ :: _) c, v, h, hr => by simp [AV.flat] at h
 | .agg cs, v, h, hr => by
  simp only [Rel, AV.flat] at hr h ⊢
  obtain ⟨vs, hv, hl, h1⟩ := hr
  exact ⟨vs, hv, relL_flat cs vs h hl, h1⟩
 | .tup cs, v, h, hr => by
  simp only [Rel, AV.flat] at hr h ⊢
  obtain ⟨vs, hv, hl⟩ := hr
  exact ⟨vs, hv, relL_flat cs vs h hl⟩
 | .own .., v, h, hr => by simp [AV.flat] at h
 | .ptr .., v, h, hr => by simp [AV.flat] at h
 | .iptr .., v, h, hr => by simp [AV.flat] at h
 | .fn .., v, h, hr => by simp [AV.flat] at h
 | .mp .., v, h, hr => by simp [AV.flat] at h
 | .yld .., v, h, hr => by simp [AV.flat] at h
 | .opt .., v, h, hr => by simp [AV.flat] at h
 | .top, v, h, hr => by simp [AV.flat] at h
theorem relL_flat {E E' : Env} : ∀ (as : List AV) (vs : List Value), flatL as = true → RelL E as vs → RelL E' as vs
 | [], vs, _, hr => by simpa [RelL] using hr
 | a :: as, vs, h, hr => by
  simp only [RelL, flatL, Bool.and_eq_true] at hr h ⊢
  obtain ⟨u, us, hv, h1, h2⟩ := hr
  exact ⟨u, us, hv, rel_flat a u h.1 h1, relL_flat as us h.2 h2⟩
end
section
variable {P : Program} {G : Glob}
theorem owns_none {S : St} {H : List Blk} (hok : S.Ok H) {k : Nat} (h : S.Owns H k) : S.M k = none := by
 obtain ⟨b, hb⟩ := h
 unfold St.at at hb
 split at hb
 ·rename_i s t es hbb
  rcases hok.row b s t es hbb with ⟨q, _⟩|⟨g, k', cs, h1, h2, _⟩
  ·rw [q] at hb; cases hb
  ·rw [h1] at hb; injection hb with hb; rw [← hb]; exact h2
 ·rename_i ob0 hbb
  obtain ⟨g, ob1, h1, h2, _⟩ := hok.ob b ob0 hbb
  rw [h1] at hb; injection hb with hb; rw [← hb]; exact h2
 ·cases hb
open Classical in
theorem ac_lend {f : FuncId} {args args' : List AV} {r : AV} {H : List Blk} (d : Nat) (hk : args.all (okA H d) = true) (he : args.map (closeA H d) = args') (h : PC P G f args' r) (hr : r.flat = true) : ACalls P G f args H r H := fun S vals hok hG ha => by
 subst he
 have hok0 := freeze_ok hok
 have hM0 : ∀ k o, S.M k = some o → (S.freeze H).M k = some o := fun k o hk => freeze_M hok hk
 have ha0 : RelL ((S.freeze H).env []) (args.map (closeA H d)) vals := closeL_ok hok _ _ (closeA_ok hok d) hk ha
 refine (h (S.freeze H) vals hok0 (hG.mono hM0) ha0).mono fun e w' ⟨v, S1, he, hw, hok1, hext, hrel⟩ => ?_
 have hno : ∀ (T : St) k, ¬ T.Owns [] k := fun T k ⟨b, hb⟩ => by simp [St.at] at hb
 let S' : St := ⟨fun k => if S.Owns H k then none else S1.M k, S.μ, S.ν, S1.w⟩
 have hM' : ∀ k, ¬ S.Owns H k → S'.M k = S1.M k := fun k hk => if_neg hk
 have hMo : ∀ k, S.Owns H k → S'.M k = none := fun k hk => if_pos hk
 have hM : ∀ k o, S.M k = some o → S'.M k = some o := fun k o hk => by
  have hn : ¬ S.Owns H k := fun q => by rw [owns_none hok q] at hk; cases hk
  rw [hM' k hn]; exact hext.M k o (hM0 k o hk)
 have hsame : ∀ g o, S.Owns H g → S.w.heap[g]? = some o → S1.w.heap[g]? = some o := fun g o hg ho => by
  refine hok1.imm g o (hext.M g o ?_)
  rw [freeze_own hg]; exact ho
 have hle : (S.env H).le (S'.env H) := ⟨hM, fun b s cur hs => ⟨cur, Nat.le_refl _, hs, fun _ => rfl⟩, fun b g hs => hs⟩
 refine ⟨v, S', he, hw, ⟨fun k o hk => ?_, fun b s t es hbb => ?_, fun b ob0 hbb => ?_, hok.inj⟩, ⟨hext.os, hext.tape, hext.output, hext.size, fun k hk hn => hext.keep k hk (hno _ _), hM, fun k hk => ?_, fun k hk => .inl hk, fun b s cur _ hs => ⟨cur, Nat.le_refl _, hs, fun _ => rfl⟩, fun b g _ hs => hs, id⟩, rel_flat r v hr hrel⟩
 ·by_cases q : S.Owns H k
  ·rw [hMo k q] at hk; cases hk
  ·rw [hM' k q] at hk; exact hok1.imm k o hk
 ·rcases hok.row b s t es hbb with q|⟨g, k, cs, h1, h2, h3, h4, h5, h6, h7⟩
  ·exact .inl q
  ·have hg : S.Owns H g := ⟨b, by simp [St.at, hbb, h1]⟩
   exact .inr ⟨g, k, cs, h1, hMo g hg, hsame g _ hg h3, h4, h5, h6, h7.mono hle⟩
 ·obtain ⟨g, ob1, h1, h2, h3, h4⟩ := hok.ob b ob0 hbb
  have hg : S.Owns H g := ⟨b, by simp [St.at, hbb, h1]⟩
  exact ⟨g, ob1, h1, hMo g hg, hsame g _ hg h3, h4.mono hle⟩
 ·by_cases q : S.Owns H k
  ·exact absurd (hMo k q) hk
  ·rw [hM' k q] at hk
   rcases hext.dom k hk with q1|q1|q1
   ·left
    intro h0
    apply q1
    simp only [St.freeze]; rw [if_neg q]; exact h0
   ·exact absurd q1 (hno _ _)
   ·exact .inr (.inr q1)
end
end Go.V
set_option linter.unusedVariables false
set_option linter.unusedSimpArgs false
namespace Go.V
open Go Go.RowKit
inductive Halt (p : Prop) : Prop where
 | mk (h : p)
 | mk' (h : p)
def closeT (H : List Blk) (d : Nat) (a : AV) : AV := if okA H d a = true then closeA H d a else .top
section
variable {ρ : Bool} {P : Program} {G : Glob} {n0 n : Nat} {p : List Nat} {Q : Exit → (Nat → AV) → List Blk → Prop} {B : Prop} {s : Nat → AV} {H : List Blk}
end
end Go.V

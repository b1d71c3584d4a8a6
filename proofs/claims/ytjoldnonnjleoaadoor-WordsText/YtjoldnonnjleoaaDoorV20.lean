/- The library V, part 20: walks by paths, so that a goal never shows the code that is still to come. -/
import Derived.Test.YtjoldnonnjleoaaDoorV19
set_option linter.unusedVariables false
set_option linter.unusedSimpArgs false
namespace Go.V
open Go Go.RowKit

def kid (i : Nat) (c : Code) : Code :=
  match c with
  | .seq x y => match i with | 0 => x | _ => y
  | .cond _ x y => match i with | 0 => x | _ => y
  | .block _ x => x
  | .loop x => x
  | .scope x => x
  | .rangeFunc _ _ x y => match i with | 0 => x | _ => y
  | c => c
/-- The code at a path (the last step first). -/
def atR (c : Code) : List Nat → Code
  | [] => c
  | i :: p => kid i (atR c p)
def bodyOf (f : Func) : Code := f.body.getD .skip
def isSeq : Code → Bool
  | .seq _ _ => true
  | _ => false
def isSkip : Code → Bool
  | .skip => true
  | .label _ => true
  | _ => false
def isRet : Code → Bool
  | .ret => true
  | _ => false
def isLoop : Code → Bool
  | .loop _ => true
  | _ => false
def opsOf : Code → List Oper
  | .region _ ops _ => ops.toList
  | _ => []
def drawOf : Code → Bool
  | .region _ _ d => d
  | _ => false
def isRegion : Code → Bool
  | .region _ _ _ => true
  | _ => false
/-- Pure 0, effect 1, call of a value 2. -/
def okind : Op → Nat
  | .call { callee := .value _, .. } => 2
  | o => if isEff o then 1 else 0


/-! ### States as functions: the first n slots. -/
def Lst (n : Nat) (s : Nat → AV) : List AV := (List.range n).map s
def updS (s : Nat → AV) (d : Nat) (v : AV) : Nat → AV := fun t => if t = d then v else s t
def put (s : Nat → AV) (d : Option Tmp) (v : AV) : Nat → AV :=
  match d with
  | some d => updS s d v
  | none => s
theorem length_Lst (n : Nat) (s : Nat → AV) : (Lst n s).length = n := by simp [Lst]
theorem getA_Lst (n : Nat) (s : Nat → AV) (t : Nat) : getA (Lst n s) t = if t < n then s t else .tup [] := by
  simp only [getA, Lst, List.getD_eq_getElem?_getD, List.getElem?_map]
  by_cases h : t < n
  · rw [if_pos h, List.getElem?_range h]; rfl
  · rw [if_neg h, List.getElem?_eq_none (by simpa using h)]; rfl
theorem Lst_getA {a : List AV} {n : Nat} (h : a.length = n) : a = Lst n (getA a) := by
  apply List.ext_getElem
  · simp [length_Lst, h]
  · intro i h1 h2
    simp [Lst, getA, List.getD_eq_getElem?_getD, h1]
theorem putA_Lst (n : Nat) (s : Nat → AV) (d : Option Tmp) (v : AV) : putA (Lst n s) d v = Lst n (put s d v) := by
  cases d with
  | none => rfl
  | some d =>
    apply List.ext_getElem
    · simp [putA, Lst]
    · intro i h1 h2
      simp only [putA, put, updS, Lst, List.getElem_set, List.getElem_map, List.getElem_range]
      by_cases h : d = i
      · simp [h]
      · rw [if_neg h, if_neg (fun q => h q.symm)]
def rdS (n : Nat) (s : Nat → AV) (t : Nat) : AV := if t < n then s t else .tup []
theorem rdS_eq (n : Nat) (s : Nat → AV) (t : Nat) : rdS n s t = if t < n then s t else .tup [] := rfl
def evS (G : Glob) (n : Nat) (s : Nat → AV) : Operand → AV
  | .tmp t => if t < n then s t else .tup []
  | .const v => ofVal v
  | .global g => match G g with | some cs => .iptr cs 0 | none => .top
  | .func f => .fn f []
theorem ev_Lst (G : Glob) (n : Nat) (s : Nat → AV) : ev G (Lst n s) = evS G n s := by
  funext x
  cases x with
  | tmp t => exact getA_Lst n s t
  | _ => rfl
theorem evS_tmp (G : Glob) (n : Nat) (s : Nat → AV) (t : Nat) : evS G n s (.tmp t) = if t < n then s t else .tup [] := rfl
theorem evS_const (G : Glob) (n : Nat) (s : Nat → AV) (v : Value) : evS G n s (.const v) = ofVal v := rfl
theorem evS_func (G : Glob) (n : Nat) (s : Nat → AV) (f : FuncId) : evS G n s (.func f) = .fn f [] := rfl
theorem updS_eq (s : Nat → AV) (d t : Nat) (v : AV) : updS s d v t = if t = d then v else s t := rfl
theorem updS_same (s : Nat → AV) (d : Nat) (v : AV) : updS s d v d = v := if_pos rfl
theorem put_some (s : Nat → AV) (d : Nat) (v : AV) : put s (some d) v = updS s d v := rfl
theorem put_none (s : Nat → AV) (v : AV) : put s none v = s := rfl

abbrev PostS := Exit → (Nat → AV) → List Blk → Prop
def liftQ (n : Nat) (Q : PostS) : Post := fun e a H => ∃ s, a = Lst n s ∧ Q e s H
def liftK (n : Nat) (K : (Nat → AV) → List Blk → Prop) (a : List AV) (H : List Blk) : Prop := ∃ s, a = Lst n s ∧ K s H
def thenS (K : (Nat → AV) → List Blk → Prop) (Q : PostS) : PostS
  | .normal, a, H => K a H
  | e, a, H => Q e a H
def inBlockS (id : Nat) (Q : PostS) : PostS
  | .exit id', a, H => if id' = id then Q .normal a H else Q (.exit id') a H
  | e, a, H => Q e a H
theorem liftQ_thenS (n : Nat) (K : (Nat → AV) → List Blk → Prop) (Q : PostS) : liftQ n (thenS K Q) = thenA (liftK n K) (liftQ n Q) := by
  funext e a H; cases e <;> rfl
theorem liftQ_inBlock (n : Nat) (id : Nat) (Q : PostS) : liftQ n (inBlockS id Q) = inBlockA id (liftQ n Q) := by
  funext e a H
  cases e with
  | exit id' =>
    simp only [liftQ, inBlockS, inBlockA]
    by_cases h : id' = id <;> simp [h]
  | _ => rfl

section
variable {P : Program} {G : Glob} {n0 n : Nat} {body : Code} {p : List Nat} {Q : PostS} {B : Prop} {s : Nat → AV} {H : List Blk} {dr : Bool} {k : Nat}

def At (P : Program) (G : Glob) (n0 n : Nat) (body : Code) (p : List Nat) (Q : PostS) (s : Nat → AV) (H : List Blk) : Prop := AWp P G n0 (atR body p) (liftQ n Q) (Lst n s) H
def thenC (P : Program) (G : Glob) (n0 n : Nat) (body : Code) (p : List Nat) (Q : PostS) : PostS := thenS (At P G n0 n body p Q) Q
structure Go (P : Program) (G : Glob) (n0 n : Nat) (body : Code) (p : List Nat) (Q : PostS) (B : Prop) (s : Nat → AV) (H : List Blk) : Prop where
  b : B
  w : At P G n0 n body p Q s H
structure Out (Q : PostS) (e : Exit) (B : Prop) (s : Nat → AV) (H : List Blk) : Prop where
  b : B
  w : Q e s H
/-- In a region, ahead of its operation k. -/
structure Acc (P : Program) (G : Glob) (n0 n : Nat) (dr : Bool) (body : Code) (p : List Nat) (Q : PostS) (k : Nat) (B : Prop) (s : Nat → AV) (H : List Blk) : Prop where
  b : B
  w : tops P G dr (opsOf (atR body p)) (liftQ n Q .normal) ((opsOf (atR body p)).drop k) (Lst n s) H

theorem go_id (h : Go P G n0 n body p Q B s H) : Go P G n0 n body p Q B s H := h
theorem acc_id (h : Acc P G n0 n dr body p Q k B s H) : Acc P G n0 n dr body p Q k B s H := h
theorem out_id {e : Exit} (h : Out Q e B s H) : Out Q e B s H := h
theorem at_go (h : Go P G n0 n body p Q True s H) : At P G n0 n body p Q s H := h.2
theorem go_seq (hs : isSeq (atR body p) = true) (h : Go P G n0 n body (0 :: p) (thenC P G n0 n body (1 :: p) Q) B s H) : Go P G n0 n body p Q B s H := by
  refine ⟨h.1, ?_⟩
  have h2 := h.2
  unfold At thenC at h2
  rw [liftQ_thenS] at h2
  simp only [atR] at h2
  unfold At
  generalize hc : atR body p = c at hs h2
  cases c with
  | seq x y =>
    refine awp_seq (awp_mono h2 fun e a H q => ?_)
    cases e with
    | normal =>
      obtain ⟨s', rfl, q⟩ := q
      unfold At at q
      simp only [atR, hc] at q
      exact q
    | _ => exact q
  | _ => cases hs
theorem go_skip (hs : isSkip (atR body p) = true) (h : Out Q .normal B s H) : Go P G n0 n body p Q B s H := by
  refine ⟨h.1, ?_⟩
  unfold At
  generalize atR body p = c at hs
  cases c with
  | skip => exact awp_skip ⟨_, rfl, h.2⟩
  | label l => exact awp_label ⟨_, rfl, h.2⟩
  | _ => cases hs
theorem go_ret (hs : isRet (atR body p) = true) (h : Out Q .ret B s H) : Go P G n0 n body p Q B s H := by
  refine ⟨h.1, ?_⟩
  unfold At
  generalize atR body p = c at hs
  cases c with
  | ret => exact awp_ret ⟨_, rfl, h.2⟩
  | _ => cases hs
theorem go_exit {id : Nat} (hs : atR body p = .exit id) (h : Out Q (.exit id) B s H) : Go P G n0 n body p Q B s H := by
  refine ⟨h.1, ?_⟩
  unfold At; rw [hs]; exact awp_exit ⟨_, rfl, h.2⟩
theorem go_block {id : Nat} {c : Code} (hs : atR body p = .block id c) (h : Go P G n0 n body (0 :: p) (inBlockS id Q) B s H) : Go P G n0 n body p Q B s H := by
  refine ⟨h.1, ?_⟩
  have h2 := h.2
  unfold At at h2 ⊢
  simp only [atR] at h2
  rw [liftQ_inBlock] at h2
  rw [hs] at h2 ⊢
  exact awp_block h2
def condS (G : Glob) (n : Nat) (s : Nat → AV) (c : Operand) (X Y : Prop) : Prop :=
  match (evS G n s c).strip with
  | .bool b => (evS G n s c).ok = true ∧ (b = true → X) ∧ (b = false → Y)
  | .anyb => (evS G n s c).ok = true ∧ X ∧ Y
  | _ => False
theorem go_cond {c : Operand} {x y : Code} (hs : atR body p = .cond c x y) (h : B ∧ condS G n s c (At P G n0 n body (0 :: p) Q s H) (At P G n0 n body (1 :: p) Q s H)) : Go P G n0 n body p Q B s H := by
  refine ⟨h.1, ?_⟩
  have h2 := h.2
  unfold At at h2 ⊢
  simp only [atR] at h2
  rw [hs] at h2 ⊢
  refine awp_if ?_
  unfold condS at h2
  unfold condK
  rw [ev_Lst]
  exact h2
theorem go_loop (hs : isLoop (atR body p) = true) (I : Nat → (Nat → AV) → List Blk → Prop) {m : Nat} {s1 : Nat → AV} {H1 : List Blk} (hB : B) (hw : Weak n0 (Lst n s) H (Lst n s1) H1) (h0 : I m s1 H1)
    (round : ∀ m s H, I m s H → Go P G n0 n body (0 :: p) (thenS (fun s' H' => ∃ m' s2 H2, m' < m ∧ Weak n0 (Lst n s') H' (Lst n s2) H2 ∧ I m' s2 H2) Q) True s H) : Go P G n0 n body p Q B s H := by
  refine ⟨hB, ?_⟩
  have h2 := fun n a H h => (round n a H h).2
  unfold At at h2 ⊢
  simp only [atR] at h2
  generalize atR body p = c at hs h2
  cases c with
  | loop x =>
    refine awp_loop (fun m a H => ∃ s, a = Lst n s ∧ I m s H) hw ⟨s1, rfl, h0⟩ fun m a H ⟨s, ha, hI⟩ => ?_
    subst ha
    refine awp_mono (h2 m s H hI) fun e a H q => ?_
    rw [liftQ_thenS] at q
    cases e with
    | normal =>
      obtain ⟨s', rfl, m', s2, H2, q1, q2, q3⟩ := q
      exact ⟨m', Lst n s2, H2, q1, q2, s2, rfl, q3⟩
    | _ => exact q
  | _ => cases hs
theorem go_weak {s1 : Nat → AV} {H1 : List Blk} (hB : B) (hw : Weak n0 (Lst n s) H (Lst n s1) H1) (h : Go P G n0 n body p Q True s1 H1) : Go P G n0 n body p Q B s H := ⟨hB, awp_weak hw h.2⟩
theorem go_region (hs : isRegion (atR body p) = true) (hd : drawOf (atR body p) = false) (h : Acc P G n0 n false body p Q 0 B s H) : Go P G n0 n body p Q B s H := by
  refine ⟨h.1, ?_⟩
  have h2 := h.2
  unfold At
  generalize atR body p = c at hs h2 hd
  cases c with
  | region id ops d =>
    cases hd
    simp only [opsOf, List.drop_zero] at h2
    exact awp_region (ops := ops.toList) h2
  | _ => cases hs
theorem go_draw (hs : isRegion (atR body p) = true) (hd : drawOf (atR body p) = true) (hm : P.follows .mixedOrders = true) (ho : orderOk (opsOf (atR body p)) = true) (h : Acc P G n0 n true body p Q 0 B s H) : Go P G n0 n body p Q B s H := by
  refine ⟨h.1, ?_⟩
  have h2 := h.2
  unfold At
  generalize atR body p = c at hs h2 hd ho
  cases c with
  | region id ops d =>
    cases hd
    simp only [opsOf, List.drop_zero] at h2 ho
    exact awp_draw (ops := ops.toList) hm ho h2
  | _ => cases hs

/-! ### Ways out -/
theorem out_then {p1 : List Nat} (h : Go P G n0 n body p1 Q B s H) : Out (thenC P G n0 n body p1 Q) .normal B s H := ⟨h.1, h.2⟩
theorem out_then_ret {p1 : List Nat} (h : Out Q .ret B s H) : Out (thenC P G n0 n body p1 Q) .ret B s H := ⟨h.1, h.2⟩
theorem out_then_exit {p1 : List Nat} {id : Nat} (h : Out Q (.exit id) B s H) : Out (thenC P G n0 n body p1 Q) (.exit id) B s H := ⟨h.1, h.2⟩
theorem out_thenS {K : (Nat → AV) → List Blk → Prop} (h : B ∧ K s H) : Out (thenS K Q) .normal B s H := ⟨h.1, h.2⟩
theorem out_round {I : Nat → (Nat → AV) → List Blk → Prop} {m : Nat} (m' : Nat) (hm : m' < m) (hB : B) (hI : I m' s H) : Out (thenS (fun s' H' => ∃ m' s2 H2, m' < m ∧ Weak n0 (Lst n s') H' (Lst n s2) H2 ∧ I m' s2 H2) Q) .normal B s H := ⟨hB, m', s, H, hm, Weak.refl _ _, hI⟩
theorem out_thenS_ret {K : (Nat → AV) → List Blk → Prop} (h : Out Q .ret B s H) : Out (thenS K Q) .ret B s H := ⟨h.1, h.2⟩
theorem out_thenS_exit {K : (Nat → AV) → List Blk → Prop} {id : Nat} (h : Out Q (.exit id) B s H) : Out (thenS K Q) (.exit id) B s H := ⟨h.1, h.2⟩
theorem out_block {id : Nat} (h : Out Q .normal B s H) : Out (inBlockS id Q) .normal B s H := ⟨h.1, h.2⟩
theorem out_block_ret {id : Nat} (h : Out Q .ret B s H) : Out (inBlockS id Q) .ret B s H := ⟨h.1, h.2⟩
theorem out_block_exit {id id' : Nat} (hid : (id' == id) = true) (h : Out Q .normal B s H) : Out (inBlockS id Q) (.exit id') B s H := by
  have : id' = id := by simpa using hid
  subst this
  exact ⟨h.1, by simpa [inBlockS] using h.2⟩
theorem out_block_exit' {id id' : Nat} (hid : (id' == id) = false) (h : Out Q (.exit id') B s H) : Out (inBlockS id Q) (.exit id') B s H := by
  have : ¬ id' = id := by simpa using hid
  exact ⟨h.1, by simpa [inBlockS, this] using h.2⟩

/-! ### Operations -/
theorem drop_at {l : List Oper} {k : Nat} {o : Oper} (h : l[k]? = some o) : l.drop k = o :: l.drop (k + 1) := by
  obtain ⟨hk, e⟩ := List.getElem?_eq_some_iff.1 h
  rw [List.drop_eq_getElem_cons hk, e]
theorem acc_end (h : (opsOf (atR body p))[k]? = none) (hk : Out Q .normal B s H) : Acc P G n0 n dr body p Q k B s H := by
  refine ⟨hk.1, ?_⟩
  rw [List.drop_eq_nil_of_le (List.getElem?_eq_none_iff.1 h)]
  exact ⟨_, rfl, hk.2⟩
theorem opK_pure {o : Op} {ρ : Operand → AV} {K : AV → List Blk → Prop} (ho : okind o = 0) (h1 : (pstep P o ρ H).1 = true) (h2 : K (pstep P o ρ H).2 H) : opK P G dr o ρ H K := by
  unfold opK
  split
  · cases ho
  · rename_i hne
    have : isEff o = false := by
      unfold okind at ho
      split at ho
      · cases ho
      · split at ho
        · cases ho
        · rename_i h; simpa using h
    rw [if_neg (by simp [this])]
    exact ⟨h1, h2⟩
theorem opK_eff {o : Op} {ρ : Operand → AV} {K : AV → List Blk → Prop} (ho : okind o = 1) (h1 : (estep P o ρ H).1 = true) (h2 : K (estep P o ρ H).2.1 (estep P o ρ H).2.2) : opK P G dr o ρ H K := by
  unfold opK
  split
  · cases ho
  · rename_i hne
    have : isEff o = true := by
      unfold okind at ho
      split at ho
      · cases ho
      · split at ho
        · rename_i h; exact h
        · cases ho
    rw [if_pos this]
    exact ⟨h1, h2⟩
theorem gopK_pure {g : Bool} {o : Op} {ρ : Operand → AV} {K : AV → List Blk → Prop} (ho : okind o = 0) (h1 : g = true → (pstep P o ρ H).1 = true) (h2 : K (.opt g (pstep P o ρ H).2) H) : gopK P G dr g o ρ H K := by
  unfold gopK
  split
  · cases ho
  · rename_i hne
    have : isEff o = false := by
      unfold okind at ho
      split at ho
      · cases ho
      · split at ho
        · cases ho
        · rename_i h; simpa using h
    rw [if_neg (by simp [this])]
    exact ⟨h1, h2⟩
theorem gopK_eff {g : Bool} {o : Op} {ρ : Operand → AV} {K : AV → List Blk → Prop} (ho : okind o = 1) (h0 : g = true) (h1 : (estep P o ρ H).1 = true) (h2 : K (estep P o ρ H).2.1 (estep P o ρ H).2.2) : gopK P G dr g o ρ H K := by
  unfold gopK
  split
  · cases ho
  · rename_i hne
    have : isEff o = true := by
      unfold okind at ho
      split at ho
      · cases ho
      · split at ho
        · rename_i h; exact h
        · cases ho
    rw [if_pos this]
    exact ⟨h0, h1, h2⟩
variable {d : Option Tmp} {op : Op} {ty : TypeId} {pos : String} {af : Array Edge}
theorem acc_pure (h : (opsOf (atR body p))[k]? = some ⟨d, op, ty, pos, af, none⟩) (ho : okind op = 0) (hk : Acc P G n0 n dr body p Q (k + 1) (B ∧ (pstep P op (evS G n s) H).1 = true) (put s d (pstep P op (evS G n s) H).2) H) : Acc P G n0 n dr body p Q k B s H := by
  obtain ⟨⟨h1, h2⟩, h3⟩ := hk
  refine ⟨h1, ?_⟩
  rw [drop_at h]
  rw [← putA_Lst] at h3
  exact opK_pure ho (by rw [ev_Lst]; exact h2) (by rw [ev_Lst]; exact h3)
theorem acc_eff (h : (opsOf (atR body p))[k]? = some ⟨d, op, ty, pos, af, none⟩) (ho : okind op = 1) (hk : Acc P G n0 n dr body p Q (k + 1) (B ∧ (estep P op (evS G n s) H).1 = true) (put s d (estep P op (evS G n s) H).2.1) (estep P op (evS G n s) H).2.2) : Acc P G n0 n dr body p Q k B s H := by
  obtain ⟨⟨h1, h2⟩, h3⟩ := hk
  refine ⟨h1, ?_⟩
  rw [drop_at h]
  rw [← putA_Lst] at h3
  exact opK_eff ho (by rw [ev_Lst]; exact h2) (by rw [ev_Lst]; exact h3)
theorem acc_call {f : Operand} {args : Array Operand} {ts : Array TypeId} (h : (opsOf (atR body p))[k]? = some ⟨d, .call ⟨.value f, args, ts⟩, ty, pos, af, none⟩)
    (hk : B ∧ callK P G dr (evS G n s f) (args.toList.map (evS G n s)) H (fun r H' => Acc P G n0 n dr body p Q (k + 1) True (put s d r) H')) : Acc P G n0 n dr body p Q k B s H := by
  refine ⟨hk.1, ?_⟩
  rw [drop_at h]
  have h2 := hk.2
  show callK P G dr (ev G (Lst n s) f) (args.toList.map (ev G (Lst n s))) H _
  rw [ev_Lst]
  unfold callK at h2 ⊢
  split
  · rename_i g cap hf
    rw [hf] at h2
    simp only at h2
    obtain ⟨h3, h4, h5, h6⟩ := h2
    refine ⟨h3, h4, h5, ?_⟩
    split
    · rename_i hdr
      rw [if_pos hdr] at h6
      obtain ⟨r, q1, q2⟩ := h6
      refine ⟨r, q1, ?_⟩
      show tops _ _ _ _ _ _ (putA (Lst n s) d r) _
      rw [putA_Lst]; exact q2.2
    · rename_i hdr
      rw [if_neg hdr] at h6
      obtain ⟨r, H', q1, q2⟩ := h6
      refine ⟨r, H', q1, ?_⟩
      show tops _ _ _ _ _ _ (putA (Lst n s) d r) _
      rw [putA_Lst]; exact q2.2
  · rename_i hne
    split at h2
    · rename_i g cap hf; exact absurd hf (hne g cap)
    · exact h2
theorem gBool_of {ops : List Oper} {a : List AV} {j t : Nat} {want : Bool} (h : (ops[j]?).map (fun o => o.dst) = some (some t)) : gBool ops a j want = gOf (getA a t) want := by
  unfold gBool
  cases hj : ops[j]? with
  | none => rw [hj] at h; cases h
  | some o =>
    rw [hj] at h
    simp only [Option.map_some, Option.some.injEq] at h
    simp only [h]
def optK (o : Option Bool) (K : Bool → Prop) : Prop :=
  match o with
  | some g => K g
  | none => False
theorem tops_g {j t : Nat} {want : Bool} {K : List AV → List Blk → Prop} (h : (opsOf (atR body p))[k]? = some ⟨d, op, ty, pos, af, some (j, want)⟩) (hj : ((opsOf (atR body p))[j]?).map (fun o => o.dst) = some (some t))
    (hk : optK (gOf (evS G n s (.tmp t)) want) fun g => gopK P G dr g op (evS G n s) H (fun r H' => tops P G dr (opsOf (atR body p)) K ((opsOf (atR body p)).drop (k + 1)) (Lst n (put s d r)) H')) : tops P G dr (opsOf (atR body p)) K ((opsOf (atR body p)).drop k) (Lst n s) H := by
  have ht : tops P G dr (opsOf (atR body p)) K ((opsOf (atR body p)).drop k) (Lst n s) H ↔ match gBool (opsOf (atR body p)) (Lst n s) j want with | some g => gopK P G dr g op (ev G (Lst n s)) H (fun r H' => tops P G dr (opsOf (atR body p)) K ((opsOf (atR body p)).drop (k + 1)) (putA (Lst n s) d r) H') | none => False := by
    rw [drop_at h]; rfl
  rw [ht, gBool_of hj, ← ev_tmp G, ev_Lst]
  unfold optK at hk
  simp only [putA_Lst]
  exact hk
theorem acc_gp {j t : Nat} {want : Bool} (h : (opsOf (atR body p))[k]? = some ⟨d, op, ty, pos, af, some (j, want)⟩) (ho : okind op = 0) (hj : ((opsOf (atR body p))[j]?).map (fun o => o.dst) = some (some t))
    (hk : B ∧ optK (gOf (evS G n s (.tmp t)) want) fun g => Acc P G n0 n dr body p Q (k + 1) (g = true → (pstep P op (evS G n s) H).1 = true) (put s d (.opt g (pstep P op (evS G n s) H).2)) H) : Acc P G n0 n dr body p Q k B s H := by
  refine ⟨hk.1, tops_g h hj ?_⟩
  obtain ⟨hB, hk⟩ := hk
  unfold optK at hk ⊢
  split at hk
  · exact gopK_pure ho hk.1 hk.2
  · exact hk.elim
theorem acc_ge {j t : Nat} {want : Bool} (h : (opsOf (atR body p))[k]? = some ⟨d, op, ty, pos, af, some (j, want)⟩) (ho : okind op = 1) (hj : ((opsOf (atR body p))[j]?).map (fun o => o.dst) = some (some t))
    (hk : B ∧ optK (gOf (evS G n s (.tmp t)) want) fun g => g = true ∧ Acc P G n0 n dr body p Q (k + 1) ((estep P op (evS G n s) H).1 = true) (put s d (estep P op (evS G n s) H).2.1) (estep P op (evS G n s) H).2.2) : Acc P G n0 n dr body p Q k B s H := by
  refine ⟨hk.1, tops_g h hj ?_⟩
  obtain ⟨hB, hk⟩ := hk
  unfold optK at hk ⊢
  split at hk
  · exact gopK_eff ho hk.1 hk.2.1 hk.2.2
  · exact hk.elim
theorem acc_gc {j t : Nat} {want : Bool} {f : Operand} {args : Array Operand} {ts : Array TypeId} (h : (opsOf (atR body p))[k]? = some ⟨d, .call ⟨.value f, args, ts⟩, ty, pos, af, some (j, want)⟩) (hj : ((opsOf (atR body p))[j]?).map (fun o => o.dst) = some (some t))
    (hk : B ∧ optK (gOf (evS G n s (.tmp t)) want) fun g => gcallK P G g (evS G n s f) (args.toList.map (evS G n s)) H (fun r H' => Acc P G n0 n dr body p Q (k + 1) True (put s d r) H')) : Acc P G n0 n dr body p Q k B s H := by
  refine ⟨hk.1, tops_g h hj ?_⟩
  obtain ⟨hB, hk⟩ := hk
  unfold optK at hk ⊢
  split at hk
  · rename_i g hg
    simp only [gopK]
    unfold gcallK at hk ⊢
    split
    · rename_i fn cap hf
      rw [hf] at hk
      simp only at hk
      obtain ⟨h3, h4, r, h5, h6⟩ := hk
      exact ⟨h3, h4, r, h5, h6.2⟩
    · rename_i hne
      split at hk
      · rename_i g cap hf; exact absurd hf (hne g cap)
      · exact hk
  · exact hk.elim

/-! ### Functions -/
def argsS (s : Nat → AV) : Nat → List AV → Prop
  | _, [] => True
  | k, x :: xs => s k = x ∧ argsS s (k + 1) xs
theorem argsS_of (a : List AV) : ∀ (k : Nat) (xs : List AV), argsAt a k xs → argsS (getA a) k xs
  | _, [], _ => trivial
  | k, x :: xs, ⟨h1, h2⟩ => ⟨h1, argsS_of a (k + 1) xs h2⟩
def resS1 (P : Program) (n : Nat) (s : Nat → AV) (H : List Blk) : ResultVar → Bool × AV
  | .tmp t => ((rdS n s t).ok, (rdS n s t).strip)
  | .cell b t => ((rdS n s b).ok && (pLoad P H t (rdS n s b).strip).1, (pLoad P H t (rdS n s b).strip).2)
def resS (P : Program) (n : Nat) (rs : List ResultVar) (s : Nat → AV) (H : List Blk) : Bool × AV :=
  match rs with
  | [r] => resS1 P n s H r
  | rs => (rs.all fun r => (resS1 P n s H r).1, .tup (rs.map fun r => (resS1 P n s H r).2))
theorem resS1_tmp (n : Nat) (s : Nat → AV) (H : List Blk) (t : Nat) : resS1 P n s H (.tmp t) = ((rdS n s t).ok, (rdS n s t).strip) := rfl
theorem resS1_cell (n : Nat) (s : Nat → AV) (H : List Blk) (b : Nat) (t : TypeId) : resS1 P n s H (.cell b t) = ((rdS n s b).ok && (pLoad P H t (rdS n s b).strip).1, (pLoad P H t (rdS n s b).strip).2) := rfl
theorem resS_0 (n : Nat) (s : Nat → AV) (H : List Blk) : resS P n [] s H = (true, .tup []) := rfl
theorem resS_1 (n : Nat) (s : Nat → AV) (H : List Blk) (a : ResultVar) : resS P n [a] s H = resS1 P n s H a := rfl
theorem resS_2 (n : Nat) (s : Nat → AV) (H : List Blk) (a b : ResultVar) : resS P n [a, b] s H = ((resS1 P n s H a).1 && (resS1 P n s H b).1, .tup [(resS1 P n s H a).2, (resS1 P n s H b).2]) := by simp [resS]
theorem resS_3 (n : Nat) (s : Nat → AV) (H : List Blk) (a b c : ResultVar) : resS P n [a, b, c] s H = ((resS1 P n s H a).1 && ((resS1 P n s H b).1 && (resS1 P n s H c).1), .tup [(resS1 P n s H a).2, (resS1 P n s H b).2, (resS1 P n s H c).2]) := by simp [resS]
theorem resS_4 (n : Nat) (s : Nat → AV) (H : List Blk) (a b c d : ResultVar) : resS P n [a, b, c, d] s H = ((resS1 P n s H a).1 && ((resS1 P n s H b).1 && ((resS1 P n s H c).1 && (resS1 P n s H d).1)), .tup [(resS1 P n s H a).2, (resS1 P n s H b).2, (resS1 P n s H c).2, (resS1 P n s H d).2]) := by simp [resS]
theorem ares1_Lst (n : Nat) (s : Nat → AV) (r : ResultVar) : ares1 P (Lst n s) H r = resS1 P n s H r := by
  cases r <;> simp only [ares1, resS1, getA_Lst, rdS]
theorem ares_Lst (n : Nat) (rs : List ResultVar) (s : Nat → AV) : ares P rs (Lst n s) H = resS P n rs s H := by
  have e : ares1 P (Lst n s) H = resS1 P n s H := funext fun r => ares1_Lst n s r
  cases rs with
  | nil => simp only [ares, resS, e]
  | cons r l => cases l <;> simp only [ares, resS, e]
/-- The end of a function with a closed result. -/
def DoneS (P : Program) (n : Nat) (rs : List ResultVar) (d : Nat) (r : AV) : PostS := fun e s' H' =>
  (e = .normal ∨ e = .ret) ∧ (resS P n rs s' H').1 = true ∧ okR H' d (resS P n rs s' H').2 = true ∧ (closeR H' d (resS P n rs s' H').2).eqv r
/-- The end of a function that may leave blocks to its caller. -/
def DoneHS (P : Program) (n : Nat) (rs : List ResultVar) (r : AV) (Hf : List Blk) : PostS := fun e s' H' =>
  (e = .normal ∨ e = .ret) ∧ (resS P n rs s' H').1 = true ∧ ((resS P n rs s' H').2).eqv r ∧ H' = Hf
theorem out_ret {rs : List ResultVar} {d : Nat} {r : AV} (h : B ∧ (resS P n rs s H).1 = true ∧ okR H d (resS P n rs s H).2 = true ∧ (closeR H d (resS P n rs s H).2).eqv r) : Out (DoneS P n rs d r) .ret B s H := ⟨h.1, .inr rfl, h.2⟩
theorem out_normal {rs : List ResultVar} {d : Nat} {r : AV} (h : B ∧ (resS P n rs s H).1 = true ∧ okR H d (resS P n rs s H).2 = true ∧ (closeR H d (resS P n rs s H).2).eqv r) : Out (DoneS P n rs d r) .normal B s H := ⟨h.1, .inl rfl, h.2⟩
theorem out_retH {rs : List ResultVar} {r : AV} {Hf : List Blk} (h : B ∧ (resS P n rs s H).1 = true ∧ ((resS P n rs s H).2).eqv r ∧ H = Hf) : Out (DoneHS P n rs r Hf) .ret B s H := ⟨h.1, .inr rfl, h.2⟩
theorem out_normalH {rs : List ResultVar} {r : AV} {Hf : List Blk} (h : B ∧ (resS P n rs s H).1 = true ∧ ((resS P n rs s H).2).eqv r ∧ H = Hf) : Out (DoneHS P n rs r Hf) .normal B s H := ⟨h.1, .inl rfl, h.2⟩
theorem pc_go {f : FuncId} {fn : Func} {args : List AV} {r : AV} (d n : Nat) (rs : List ResultVar) (hf : P.funcs[f]? = some fn) (hb : fn.body.isSome = true) (hn : fn.ntmps = n) (hrs : fn.results.toList = rs) (hl : args.length ≤ n)
    (h : ∀ s, argsS s 0 args → Go P G 0 n (bodyOf fn) [] (DoneS P n rs d r) True s []) : PC P G f args r := by
  obtain ⟨c, hc⟩ := Option.isSome_iff_exists.1 hb
  refine pc_start d n rs hf hc hn hrs hl fun a h1 h2 => ?_
  have := (h (getA a) (argsS_of a 0 args h2)).2
  unfold At atR bodyOf at this
  rw [hc, ← Lst_getA h1] at this
  refine awp_mono this fun e a H ⟨s, ha, q⟩ => ?_
  subst ha
  unfold Done
  rw [ares_Lst]
  exact q
theorem ac_go {f : FuncId} {fn : Func} {args : List AV} {r : AV} {Hf : List Blk} (n : Nat) (rs : List ResultVar) (hf : P.funcs[f]? = some fn) (hb : fn.body.isSome = true) (hn : fn.ntmps = n) (hrs : fn.results.toList = rs) (hl : args.length ≤ n)
    (h : ∀ s, argsS s 0 args → Go P G H.length n (bodyOf fn) [] (DoneHS P n rs r Hf) True s H) : ACalls P G f args H r Hf := by
  obtain ⟨c, hc⟩ := Option.isSome_iff_exists.1 hb
  refine acalls_start n rs hf hc hn hrs hl fun a h1 h2 => ?_
  have := (h (getA a) (argsS_of a 0 args h2)).2
  unfold At atR bodyOf at this
  rw [hc, ← Lst_getA h1] at this
  refine awp_mono this fun e a H ⟨s, ha, q⟩ => ?_
  subst ha
  unfold DoneH
  rw [ares_Lst]
  exact q
end

/-- So that the equations of these definitions lie in this module. -/
theorem equations_made (x : Nat) : x + 0 = x := by simp only [callK, gcallK, isEff, pstep, estep, condS, optK, put_some, put_none, updS_same, updS_eq, evS_tmp, evS_const, evS_func, rdS_eq, resS1_tmp, resS1_cell, resS_0, resS_1, resS_2, resS_3, resS_4, strip_int, strip_bool, strip_str, strip_agg, strip_tup, strip_sl, strip_own, strip_ptr, strip_iptr, strip_fn, strip_mp, strip_opt, strip_lit, strip_top, eqv_sl, eqv_tup, eqv_agg, eqv_int, eqv_bool, eqv_str, eqv_own, eqv_ptr, eqv_iptr, eqv_fn, eqv_mp, eqv_lit, eqv_err, go_nil, go_cons_sl, go_cons_agg, go_cons_int, go_cons_bool, go_cons_str, go_cons_own, go_cons_ptr, go_cons_iptr, go_cons_fn, go_cons_mp, go_cons_lit, go_cons_err, go1_nil, go1_cons_sl, go1_cons_int, go1_cons_bool, go1_cons_str, strip_anyb, strip_err, strip_anyi, ok_anyb, ok_err, ok_anyi, ok_int, ok_bool, ok_str, ok_agg, ok_tup, ok_sl, ok_own, ok_ptr, ok_iptr, ok_fn, ok_mp, ok_opt, ok_lit, ok_top, ofVal_int, ofVal_bool, ofVal_str, ofVal_nil, ite_bool, nilTest, pNil, gOf_bool, gOf_opt, gOf_undef, gBool, shp, pLoad, fieldOf, pFieldAddr, pField, pIndexAddr, pIndex, pInt, pStr, pBin, pUn, pConvert, pLen, pCap, pMinMax, pSlice, isLow, isHigh, cut, fitsAt, isLen, shOf, eqA, eqPair, eAlloc, eBox, eStore, eMake, eAppend, srcElems, isSrc, AV.cells?, AV.live, pBuild, pBuildSlice, fillA, structPlaces, chunks, bad, bad3, okR, okA, okC, closeR, closeA, closeC, AV.closed, AV.ids, idsL, idsE, Nat.add_zero]
end Go.V

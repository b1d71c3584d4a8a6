/- The library V, part 19: the forms in which a walk is done. -/
import Derived.Test.YtjoldnonnjleoaaDoorV18
set_option linter.unusedVariables false
set_option linter.unusedSimpArgs false
namespace Go.V
open Go Go.RowKit

section
variable {ρ : Bool} {P : Program} {G : Glob} {n0 : Nat} {Q : Post} {a : List AV} {H : List Blk}

/-- The arguments stand in the first slots. -/
def argsAt (a : List AV) : Nat → List AV → Prop
  | _, [] => True
  | k, x :: xs => getA a k = x ∧ argsAt a (k + 1) xs
theorem argsAt_start (pre args : List AV) (m : Nat) : argsAt (pre ++ (args ++ List.replicate m (.tup []))) pre.length args := by
  induction args generalizing pre with
  | nil => trivial
  | cons x xs ih =>
    refine ⟨by simp [getA, List.getD_eq_getElem?_getD], ?_⟩
    have := ih (pre ++ [x])
    simpa using this

def eqv1 : List AV → List AV → Prop
  | [], [] => True
  | a :: as, b :: bs => (match a, b with | .sl s es c, .sl s' es' c' => (es = [] ∨ s = s') ∧ es = es' ∧ c = c' | a, b => a = b) ∧ eqv1 as bs
  | _, _ => False
def eqvL : List AV → List AV → Prop
  | [], [] => True
  | a :: as, b :: bs => (match a, b with | .sl s es c, .sl s' es' c' => (es = [] ∨ s = s') ∧ es = es' ∧ c = c' | .agg xs, .agg ys => eqv1 xs ys | a, b => a = b) ∧ eqvL as bs
  | _, _ => False
/-- The same value, but for the cells an element of an empty slice. -/
def AV.eqv : AV → AV → Prop
  | .sl s es c, b => match b with | .sl s' es' c' => (es = [] ∨ s = s') ∧ es = es' ∧ c = c' | _ => False
  | .tup as, b => match b with | .tup bs => eqvL as bs | _ => False
  | .agg as, b => match b with | .agg bs => eqvL as bs | _ => False
  | a, b => a = b
theorem rel_sl_eqv {E : Env} {s s' : Nat} {es es' : List (List AV)} {c c' : Option Nat} {v : Value} (h : (es = [] ∨ s = s') ∧ es = es' ∧ c = c') (hr : Rel E (.sl s es c) v) : Rel E (.sl s' es' c') v := by
  obtain ⟨h, rfl, rfl⟩ := h
  rcases h with rfl | rfl
  · simp only [Rel] at hr ⊢
    obtain ⟨a, cap, h1, h2, h3, h4, _⟩ := hr
    exact ⟨a, cap, h1, h2, h3, h4, by simp⟩
  · exact hr
theorem rel_eqv1 {E : Env} : ∀ {as bs : List AV} {vs : List Value}, eqv1 as bs → RelL E as vs → RelL E bs vs
  | [], [], _, _, hr => hr
  | [], _ :: _, _, h, _ => h.elim
  | _ :: _, [], _, h, _ => h.elim
  | a :: as, b :: bs, vs, h, hr => by
    simp only [eqv1] at h
    simp only [RelL] at hr ⊢
    obtain ⟨u, us, rfl, h1, h2⟩ := hr
    refine ⟨u, us, rfl, ?_, rel_eqv1 h.2 h2⟩
    have h0 := h.1
    split at h0
    · exact rel_sl_eqv h0 h1
    · subst h0; exact h1
theorem rel_eqvL {E : Env} : ∀ {as bs : List AV} {vs : List Value}, eqvL as bs → RelL E as vs → RelL E bs vs
  | [], [], _, _, hr => hr
  | [], _ :: _, _, h, _ => h.elim
  | _ :: _, [], _, h, _ => h.elim
  | a :: as, b :: bs, vs, h, hr => by
    simp only [eqvL] at h
    simp only [RelL] at hr ⊢
    obtain ⟨u, us, rfl, h1, h2⟩ := hr
    refine ⟨u, us, rfl, ?_, rel_eqvL h.2 h2⟩
    have h0 := h.1
    split at h0
    · exact rel_sl_eqv h0 h1
    · simp only [Rel] at h1 ⊢
      obtain ⟨vs, hv, hl, ho⟩ := h1
      exact ⟨vs, hv, rel_eqv1 h0 hl, ho⟩
    · subst h0; exact h1
theorem rel_eqv {E : Env} {a b : AV} {v : Value} (h : a.eqv b) (hr : Rel E a v) : Rel E b v := by
  unfold AV.eqv at h
  split at h
  · split at h
    · exact rel_sl_eqv h hr
    · exact h.elim
  · split at h
    · simp only [Rel] at hr ⊢
      obtain ⟨vs, hv, hl⟩ := hr
      exact ⟨vs, hv, rel_eqvL h hl⟩
    · exact h.elim
  · split at h
    · simp only [Rel] at hr ⊢
      obtain ⟨vs, hv, hl, ho⟩ := hr
      exact ⟨vs, hv, rel_eqvL h hl, ho⟩
    · exact h.elim
  · subst h; exact hr
theorem Closes.eqv {n0 : Nat} {H' Hf : List Blk} {v r r' : AV} (h : Closes n0 H' v r Hf) (he : r.eqv r') : Closes n0 H' v r' Hf := fun S' u h1 h2 h3 =>
  let ⟨S'', e1, e2, e3, e4⟩ := h S' u h1 h2 h3
  ⟨S'', e1, e2, e3, rel_eqv he e4⟩
theorem eqv_sl (s s' : Nat) (es es' : List (List AV)) (c c' : Option Nat) : (AV.sl s es c).eqv (.sl s' es' c') = ((es = [] ∨ s = s') ∧ es = es' ∧ c = c') := rfl
theorem eqv_tup (as bs : List AV) : (AV.tup as).eqv (.tup bs) = eqvL as bs := rfl
theorem eqv_agg (as bs : List AV) : (AV.agg as).eqv (.agg bs) = eqvL as bs := rfl
theorem eqv_int (k : IntKind) (n : Int) (b : AV) : (AV.int k n).eqv b = (.int k n = b) := rfl
theorem eqv_bool (n : Bool) (b : AV) : (AV.bool n).eqv b = (.bool n = b) := rfl
theorem eqv_str (n : List UInt8) (b : AV) : (AV.str n).eqv b = (.str n = b) := rfl
theorem eqv_own (x n h : Nat) (c : Option Nat) (b : AV) : (AV.own x n h c).eqv b = (.own x n h c = b) := rfl
theorem eqv_ptr (x n h o : Nat) (b : AV) : (AV.ptr x n h o).eqv b = (.ptr x n h o = b) := rfl
theorem eqv_iptr (cs : List AV) (o : Nat) (b : AV) : (AV.iptr cs o).eqv b = (.iptr cs o = b) := rfl
theorem eqv_fn (f : FuncId) (cs : List AV) (b : AV) : (AV.fn f cs).eqv b = (.fn f cs = b) := rfl
theorem eqv_mp (x : Nat) (b : AV) : (AV.mp x).eqv b = (.mp x = b) := rfl
theorem eqv_yld (x : Nat) (b : AV) : (AV.yld x).eqv b = (.yld x = b) := rfl
theorem eqv_lit (x : Value) (b : AV) : (AV.lit x).eqv b = (.lit x = b) := rfl
theorem eqv_err (b : AV) : AV.err.eqv b = (.err = b) := rfl
theorem go_nil : eqvL [] [] = True := rfl
theorem go_cons_sl (s s' : Nat) (es es' : List (List AV)) (c c' : Option Nat) (as bs : List AV) : eqvL (.sl s es c :: as) (.sl s' es' c' :: bs) = (((es = [] ∨ s = s') ∧ es = es' ∧ c = c') ∧ eqvL as bs) := rfl
theorem go_cons_agg (xs ys : List AV) (as bs : List AV) : eqvL (.agg xs :: as) (.agg ys :: bs) = (eqv1 xs ys ∧ eqvL as bs) := rfl
theorem go_cons_int (k : IntKind) (n : Int) (b : AV) (as bs : List AV) : eqvL (.int k n :: as) (b :: bs) = (.int k n = b ∧ eqvL as bs) := rfl
theorem go_cons_bool (n : Bool) (b : AV) (as bs : List AV) : eqvL (.bool n :: as) (b :: bs) = (.bool n = b ∧ eqvL as bs) := rfl
theorem go_cons_str (n : List UInt8) (b : AV) (as bs : List AV) : eqvL (.str n :: as) (b :: bs) = (.str n = b ∧ eqvL as bs) := rfl
theorem go_cons_own (x n h : Nat) (c : Option Nat) (b : AV) (as bs : List AV) : eqvL (.own x n h c :: as) (b :: bs) = (.own x n h c = b ∧ eqvL as bs) := rfl
theorem go_cons_ptr (x n h o : Nat) (b : AV) (as bs : List AV) : eqvL (.ptr x n h o :: as) (b :: bs) = (.ptr x n h o = b ∧ eqvL as bs) := rfl
theorem go_cons_iptr (cs : List AV) (o : Nat) (b : AV) (as bs : List AV) : eqvL (.iptr cs o :: as) (b :: bs) = (.iptr cs o = b ∧ eqvL as bs) := rfl
theorem go_cons_fn (f : FuncId) (cs : List AV) (b : AV) (as bs : List AV) : eqvL (.fn f cs :: as) (b :: bs) = (.fn f cs = b ∧ eqvL as bs) := rfl
theorem go_cons_mp (x : Nat) (b : AV) (as bs : List AV) : eqvL (.mp x :: as) (b :: bs) = (.mp x = b ∧ eqvL as bs) := rfl
theorem go_cons_yld (x : Nat) (b : AV) (as bs : List AV) : eqvL (.yld x :: as) (b :: bs) = (.yld x = b ∧ eqvL as bs) := rfl
theorem go_cons_lit (x : Value) (b : AV) (as bs : List AV) : eqvL (.lit x :: as) (b :: bs) = (.lit x = b ∧ eqvL as bs) := rfl
theorem go_cons_err (b : AV) (as bs : List AV) : eqvL (.err :: as) (b :: bs) = (.err = b ∧ eqvL as bs) := rfl
theorem go1_nil : eqv1 [] [] = True := rfl
theorem go1_cons_sl (s s' : Nat) (es es' : List (List AV)) (c c' : Option Nat) (as bs : List AV) : eqv1 (.sl s es c :: as) (.sl s' es' c' :: bs) = (((es = [] ∨ s = s') ∧ es = es' ∧ c = c') ∧ eqv1 as bs) := rfl
theorem go1_cons_int (k : IntKind) (n : Int) (b : AV) (as bs : List AV) : eqv1 (.int k n :: as) (b :: bs) = (.int k n = b ∧ eqv1 as bs) := rfl
theorem go1_cons_bool (n : Bool) (b : AV) (as bs : List AV) : eqv1 (.bool n :: as) (b :: bs) = (.bool n = b ∧ eqv1 as bs) := rfl
theorem go1_cons_str (n : List UInt8) (b : AV) (as bs : List AV) : eqv1 (.str n :: as) (b :: bs) = (.str n = b ∧ eqv1 as bs) := rfl

/-- The end of a function with a closed result. -/
def Done (P : Program) (rs : List ResultVar) (d : Nat) (r : AV) : Post := fun e a' H' =>
  (e = .normal ∨ e = .ret) ∧ (ares P rs a' H').1 = true ∧ okR H' d (ares P rs a' H').2 = true ∧ (closeR H' d (ares P rs a' H').2).eqv r
theorem done_ret {rs : List ResultVar} {d : Nat} {r : AV} : Done P rs d r .ret a H ↔ (ares P rs a H).1 = true ∧ okR H d (ares P rs a H).2 = true ∧ (closeR H d (ares P rs a H).2).eqv r := by simp [Done]
theorem done_normal {rs : List ResultVar} {d : Nat} {r : AV} : Done P rs d r .normal a H ↔ (ares P rs a H).1 = true ∧ okR H d (ares P rs a H).2 = true ∧ (closeR H d (ares P rs a H).2).eqv r := by simp [Done]

theorem pc_start {f : FuncId} {fn : Func} {c : Code} {args : List AV} {r : AV} (d n : Nat) (rs : List ResultVar) (hf : P.funcs[f]? = some fn) (hb : fn.body = some c) (hn : fn.ntmps = n) (hrs : fn.results.toList = rs) (hl : args.length ≤ n)
    (h : ∀ a, a.length = n → argsAt a 0 args → AWp false P G 0 c (Done P rs d r) a []) : PC P G f args r := by
  refine acalls_of_awp hf hb (awp_mono (h _ ?_ (by simpa using argsAt_start [] args _)) fun e a' H' ⟨h1, h2, h3, h4⟩ => ⟨h1, by rw [hrs]; exact h2, by rw [hrs]; exact (closes_all d h3).eqv h4⟩)
  simp [hn]; omega

/-- The end of a function that leaves the caller's blocks to itself. -/
def DoneH (P : Program) (rs : List ResultVar) (r : AV) (Hf : List Blk) : Post := fun e a' H' =>
  (e = .normal ∨ e = .ret) ∧ (ares P rs a' H').1 = true ∧ ((ares P rs a' H').2).eqv r ∧ H' = Hf
theorem acalls_start {f : FuncId} {fn : Func} {c : Code} {args : List AV} {H Hf : List Blk} {r : AV} (n : Nat) (rs : List ResultVar) (hf : P.funcs[f]? = some fn) (hb : fn.body = some c) (hn : fn.ntmps = n) (hrs : fn.results.toList = rs) (hl : args.length ≤ n)
    (h : ∀ a, a.length = n → argsAt a 0 args → AWp false P G H.length c (DoneH P rs r Hf) a H) : ACalls P G f args H r Hf := by
  refine acalls_of_awp hf hb (awp_mono (h _ ?_ (by simpa using argsAt_start [] args _)) fun e a' H' ⟨h1, h2, h3, h4⟩ => ⟨h1, by rw [hrs]; exact h2, by
    subst h4; rw [hrs]; exact Closes.eqv (fun S' u h5 h6 h7 => ⟨S', rfl, h5, Ext.refl _ _ _, h7⟩) h3⟩)
  simp [hn]; omega

/-! ### Simplification -/
theorem getA_put (a : List AV) (d t : Nat) (v : AV) : getA (putA a (some d) v) t = if d = t then (if d < a.length then v else getA a t) else getA a t := by
  by_cases h : d = t
  · subst h
    rw [if_pos rfl]
    by_cases hl : d < a.length
    · rw [if_pos hl, getA_putA_same v hl]
    · rw [if_neg hl]
      simp only [getA, putA]
      rw [List.set_eq_of_length_le (by omega)]
  · rw [if_neg h, getA_putA_ne v h]
theorem putA_none (a : List AV) (v : AV) : putA a none v = a := rfl
theorem ev_tmp (G : Glob) (a : List AV) (t : Nat) : ev G a (.tmp t) = getA a t := rfl
theorem ev_const (G : Glob) (a : List AV) (v : Value) : ev G a (.const v) = ofVal v := rfl
theorem ev_func (G : Glob) (a : List AV) (f : FuncId) : ev G a (.func f) = .fn f [] := rfl
theorem thenA_normal (K : List AV → List Blk → Prop) : thenA K Q .normal a H = K a H := rfl
theorem thenA_ret (K : List AV → List Blk → Prop) : thenA K Q .ret a H = Q .ret a H := rfl
theorem thenA_exit (K : List AV → List Blk → Prop) (id : Nat) : thenA K Q (.exit id) a H = Q (.exit id) a H := rfl
theorem inBlockA_normal (id : Nat) : inBlockA id Q .normal a H = Q .normal a H := rfl
theorem inBlockA_ret (id : Nat) : inBlockA id Q .ret a H = Q .ret a H := rfl
theorem inBlockA_exit (id id' : Nat) : inBlockA id Q (.exit id') a H = if id' = id then Q .normal a H else Q (.exit id') a H := rfl
theorem strip_int (k : IntKind) (n : Int) : (AV.int k n).strip = .int k n := rfl
theorem strip_bool (b : Bool) : (AV.bool b).strip = .bool b := rfl
theorem strip_str (s : List UInt8) : (AV.str s).strip = .str s := rfl
theorem strip_agg (cs : List AV) : (AV.agg cs).strip = .agg cs := rfl
theorem strip_tup (cs : List AV) : (AV.tup cs).strip = .tup cs := rfl
theorem strip_sl (s : Nat) (es : List (List AV)) (c : Option Nat) : (AV.sl s es c).strip = .sl s es c := rfl
theorem strip_own (b n h : Nat) (c : Option Nat) : (AV.own b n h c).strip = .own b n h c := rfl
theorem strip_ptr (b i o h : Nat) : (AV.ptr b i o h).strip = .ptr b i o h := rfl
theorem strip_iptr (cs : List AV) (o : Nat) : (AV.iptr cs o).strip = .iptr cs o := rfl
theorem strip_fn (f : FuncId) (cs : List AV) : (AV.fn f cs).strip = .fn f cs := rfl
theorem strip_mp (b : Nat) : (AV.mp b).strip = .mp b := rfl
theorem strip_yld (b : Nat) : (AV.yld b).strip = .yld b := rfl
theorem ok_yld (b : Nat) : (AV.yld b).ok = true := rfl
theorem strip_opt (g : Bool) (v : AV) : (AV.opt g v).strip = v := rfl
theorem strip_lit (v : Value) : (AV.lit v).strip = .lit v := rfl
theorem strip_top : AV.top.strip = .top := rfl
theorem ok_int (k : IntKind) (n : Int) : (AV.int k n).ok = true := rfl
theorem ok_bool (b : Bool) : (AV.bool b).ok = true := rfl
theorem ok_str (s : List UInt8) : (AV.str s).ok = true := rfl
theorem ok_agg (cs : List AV) : (AV.agg cs).ok = true := rfl
theorem ok_tup (cs : List AV) : (AV.tup cs).ok = true := rfl
theorem ok_sl (s : Nat) (es : List (List AV)) (c : Option Nat) : (AV.sl s es c).ok = true := rfl
theorem ok_own (b n h : Nat) (c : Option Nat) : (AV.own b n h c).ok = true := rfl
theorem ok_ptr (b i o h : Nat) : (AV.ptr b i o h).ok = true := rfl
theorem ok_iptr (cs : List AV) (o : Nat) : (AV.iptr cs o).ok = true := rfl
theorem ok_fn (f : FuncId) (cs : List AV) : (AV.fn f cs).ok = true := rfl
theorem ok_mp (b : Nat) : (AV.mp b).ok = true := rfl
theorem ok_opt (g : Bool) (v : AV) : (AV.opt g v).ok = g := rfl
theorem ok_lit (v : Value) : (AV.lit v).ok = true := rfl
theorem ok_top : AV.top.ok = true := rfl
theorem strip_anyb : AV.anyb.strip = .anyb := rfl
theorem ok_anyb : AV.anyb.ok = true := rfl
theorem strip_err : AV.err.strip = .err := rfl
theorem ok_err : AV.err.ok = true := rfl
theorem strip_anyi (k : IntKind) : (AV.anyi k).strip = .anyi k := rfl
theorem ok_anyi (k : IntKind) : (AV.anyi k).ok = true := rfl
theorem ofVal_int (k : IntKind) (n : Int) : ofVal (.int k n) = .int k n := rfl
theorem ofVal_bool (b : Bool) : ofVal (.bool b) = .bool b := rfl
theorem ofVal_str (s : ByteArray) : ofVal (.string s) = .str s.data.toList := rfl
theorem ofVal_nil : ofVal (.slice none 0 0) = .sl 0 [] (some 0) := rfl
theorem ite_bool (b p q : Bool) : AV.ite b (.bool p) (.bool q) = .bool (bif b then p else q) := rfl
theorem gOf_bool (b w : Bool) : gOf (.bool b) w = some (b == w) := rfl
theorem gOf_opt (g b w : Bool) : gOf (.opt g (.bool b)) w = some (g && (b == w)) := rfl
theorem gOf_undef (w : Bool) : gOf (.tup []) w = some false := rfl

/-! ### Tests -/
def condK (G : Glob) (a : List AV) (c : Operand) (X Y : Prop) : Prop :=
  match (ev G a c).strip with
  | .bool b => (ev G a c).ok = true ∧ (b = true → X) ∧ (b = false → Y)
  | .anyb => (ev G a c).ok = true ∧ X ∧ Y
  | _ => False
theorem awp_if {c : Operand} {x y : Code} (h : condK G a c (AWp ρ P G n0 x Q a H) (AWp ρ P G n0 y Q a H)) : AWp ρ P G n0 (.cond c x y) Q a H := by
  unfold condK at h
  split at h
  · rename_i b hb
    exact awp_cond hb h.1 h.2.1 h.2.2
  · rename_i hb
    exact awp_any hb h.1 h.2.1 h.2.2
  · exact h.elim

/-! ### What is not wanted any more -/
def scrub (m : Nat) (v : AV) : AV := if v.ids (fun b => decide (b < m)) = true then v else .top
def Blk.below (m : Nat) : Blk → Bool
  | .row _ _ es => idsE (fun b => decide (b < m)) es
  | .ob (.map _ _ es) => es.all fun p => p.1.ids (fun b => decide (b < m)) && p.2.ids (fun b => decide (b < m))
  | .ob (.loop _ as _) => idsL (fun b => decide (b < m)) as
theorem getA_scrub (a : List AV) (m t : Nat) : getA (a.map (scrub m)) t = scrub m (getA a t) := by
  simp only [getA, List.getD_eq_getElem?_getD, List.getElem?_map]
  cases a[t]? with
  | none => simp [scrub, AV.ids, idsL]
  | some v => rfl

theorem env_take {m : Nat} (S : St) (H : List Blk) : (S.env H).agree (fun b => decide (b < m)) (S.env (H.take m)) := ⟨fun k o q => q, fun b hb => by
    have hb' : b < m := by simpa using hb
    have hget : (H.take m)[b]? = H[b]? := by rw [List.getElem?_take, if_pos hb']
    exact ⟨by simp [St.env, shOf, hget], rfl, by simp [St.env, mpOf, hget]⟩⟩
theorem take_ok {m : Nat} {S : St} (hok : S.Ok H) (hm : n0 ≤ m) (hml : m ≤ H.length) (hb : (H.take m).all (Blk.below m) = true) : S.Ok (H.take m) ∧ Ext n0 S H S (H.take m) := by
  have hget : ∀ b, b < m → (H.take m)[b]? = H[b]? := fun b hb => by rw [List.getElem?_take, if_pos hb]
  have hnone : ∀ b, ¬ b < m → (H.take m)[b]? = none := fun b hb => by rw [List.getElem?_take, if_neg hb]
  have hag : (S.env H).agree (fun b => decide (b < m)) (S.env (H.take m)) := ⟨fun k o q => q, fun b hb => by
    have hb' : b < m := by simpa using hb
    exact ⟨by simp [St.env, shOf, hget b hb'], rfl, by simp [St.env, mpOf, hget b hb']⟩⟩
  have hat : ∀ b, b < m → S.at (H.take m) b = S.at H b := fun b hb => by simp only [St.at, hget b hb]
  have hatn : ∀ b g, S.at (H.take m) b = some g → b < m := fun b g q => by
    by_cases hb : b < m
    · exact hb
    · simp [St.at, hnone b hb] at q
  refine ⟨⟨hok.imm, fun b s t es hbb => ?_, fun b ob0 hbb => ?_, fun b b' g q q' => ?_⟩, ⟨rfl, rfl, rfl, Nat.le_refl _, fun _ _ _ => rfl, fun _ _ q => q, fun _ q => .inl q, fun k q => ?_, fun b s cur hb hs => ?_, fun b g hb hg => ?_, fun _ => by simp; omega⟩⟩
  · have hlt : b < m := by
      rcases Nat.lt_or_ge b m with q | q
      · exact q
      · rw [hnone b (by omega)] at hbb; cases hbb
    have hbel := List.all_eq_true.1 hb _ (List.mem_of_getElem? hbb)
    rw [hget b hlt] at hbb
    rcases hok.row b s t es hbb with q | ⟨g, k, cs, h1, h2, h3, h4, h5, h6, h7⟩
    · exact .inl q
    · refine .inr ⟨g, k, cs, h1, h2, h3, h4, h5, h6, fun i e hi => ?_⟩
      obtain ⟨l1, l2⟩ := h7 i e hi
      refine ⟨l1, fun j x hj => ?_⟩
      obtain ⟨v, hv, ho, hr⟩ := l2 j x hj
      simp only [Blk.below] at hbel
      have h8 := (idsL_iff e).1 ((idsE_iff es).1 hbel e (List.mem_of_getElem? hi)) x (List.mem_of_getElem? hj)
      exact ⟨v, hv, ho, Rel.move hag x v h8 hr⟩
  · have hlt : b < m := by
      rcases Nat.lt_or_ge b m with q | q
      · exact q
      · rw [hnone b (by omega)] at hbb; cases hbb
    have hbel := List.all_eq_true.1 hb _ (List.mem_of_getElem? hbb)
    rw [hget b hlt] at hbb
    obtain ⟨g, ob1, h1, h2, h3, h4⟩ := hok.ob b ob0 hbb
    refine ⟨g, ob1, h1, h2, h3, ?_⟩
    cases ob0 with
    | map kt vt es =>
      obtain ⟨ents, clock, e0, e1, h5⟩ := h4
      refine ⟨ents, clock, e0, e1, fun i p hi => ?_⟩
      obtain ⟨e, he, r1, r2⟩ := h5 i p hi
      simp only [Blk.below, List.all_eq_true, Bool.and_eq_true] at hbel
      have h8 := hbel p (List.mem_of_getElem? hi)
      exact ⟨e, he, Rel.move hag _ _ h8.1 r1, Rel.move hag _ _ h8.2 r2⟩
    | loop o as vs => exact ⟨h4.1, RelL.move hag _ _ hbel h4.2⟩
  · have q1 := hatn b g q
    have q2 := hatn b' g q'
    rw [hat b q1] at q; rw [hat b' q2] at q'
    exact hok.inj b b' g q q'
  · obtain ⟨b, hb'⟩ := q
    have := hatn b k hb'
    rw [hat b this] at hb'
    exact .inl ⟨b, hb'⟩
  · exact ⟨cur, Nat.le_refl _, by simpa [shOf, hget b (by omega)] using hs, fun _ => rfl⟩
  · simpa [mpOf, hget b (by omega)] using hg
theorem weak_take {m : Nat} (hm : n0 ≤ m) (hml : m ≤ H.length) (hb : (H.take m).all (Blk.below m) = true) : Weak n0 a H (a.map (scrub m)) (H.take m) := fun S vs hok hn ha => by
  obtain ⟨h1, h2⟩ := take_ok hok hm hml hb
  have hag := env_take (m := m) S H
  refine ⟨S, rfl, h1, h2, ?_⟩
  · refine RelL.mk (by simpa using ha.length) fun i x v hx hv => ?_
    rw [List.getElem?_map] at hx
    cases hy : a[i]? with
    | none => rw [hy] at hx; cases hx
    | some y =>
      rw [hy] at hx
      simp only [Option.map_some, Option.some.injEq] at hx
      subst hx
      obtain ⟨v', hv', hr⟩ := ha.get hy
      rw [hv] at hv'; injection hv' with hv'; subst hv'
      unfold scrub
      split
      · rename_i hi; exact Rel.move hag y v hi hr
      · simp [Rel]
end
end Go.V

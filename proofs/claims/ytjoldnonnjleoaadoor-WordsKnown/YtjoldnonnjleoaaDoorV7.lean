/- The library V, part 7: the pure operations yield what V4 says (the rest), and all together. -/
import Derived.Test.YtjoldnonnjleoaaDoorV6
import Derived.Laws.Tables
set_option linter.unusedVariables false
set_option linter.unusedSimpArgs false
namespace Go.V
open Go Go.RowKit

theorem RowIn.mono {E E' : Env} (h : E.le E') {s : Nat} {es : List (List AV)} {cs : Array Value} (hr : RowIn E s es cs) : RowIn E' s es cs := fun i e hi => by
  obtain ⟨h1, h2⟩ := hr i e hi
  refine ⟨h1, fun j a hj => ?_⟩
  obtain ⟨v, hv, ho, hrv⟩ := h2 j a hj
  exact ⟨v, hv, ho, hrv.mono h⟩
theorem MapIn.mono {E E' : Env} (h : E.le E') {es : List (AV × AV)} {ents : Array MapEntry} (hr : MapIn E es ents) : MapIn E' es ents :=
  ⟨hr.1, fun i p hi => by
    obtain ⟨e, he, h1, h2⟩ := hr.2 i p hi
    exact ⟨e, he, h1.mono h, h2.mono h⟩⟩

theorem ObIn.mono {E E' : Env} (h : E.le E') {x : OB} {o : Obj} (hr : ObIn E x o) : ObIn E' x o := by
  cases x with
  | map kt vt es =>
    obtain ⟨ents, clock, e, hm⟩ := hr
    exact ⟨ents, clock, e, hm.mono h⟩
  | loop o as vs => exact ⟨hr.1, RelL.mono h _ _ hr.2⟩

section
variable {P : Program} {S : St} {H : List Blk}

theorem M_lt (hok : S.Ok H) {k : Nat} (h : S.M k ≠ none) : k < S.w.heap.size := by
  cases ho : S.M k with
  | none => exact absurd ho h
  | some o => exact (Array.getElem?_eq_some_iff.1 (hok.imm k o ho)).1
theorem own_lt (hok : S.Ok H) {b g : Nat} (h : S.at H b = some g) : g < S.w.heap.size := by
  unfold St.at at h
  split at h
  · rename_i s t es hb
    rcases hok.row b s t es hb with ⟨h1, _⟩ | ⟨g', k, cs, h1, h2, h3, _⟩
    · rw [h1] at h; cases h
    · rw [h1] at h; simp at h; subst h; exact (Array.getElem?_eq_some_iff.1 h3).1
  · rename_i ob0 hb
    obtain ⟨g', ob1, h1, h2, h3, _⟩ := hok.ob b ob0 hb
    rw [h1] at h; injection h with h; subst h; exact (Array.getElem?_eq_some_iff.1 h3).1
  · cases h

/-- The state behind a new immutable block. -/
def St.imm (S : St) (o : Obj) : St := { S with M := fun k => if k = S.w.heap.size then some o else S.M k, w := S.w.alloc o }

theorem frozen_alloc (w : World) (c : Array Value) (t : TypeId) (a : Addr) : (w.alloc (.cells c t)).frozen? a = w.frozen? a := ((Grown.refl w).alloc c t).2.1 a
theorem imm_ext (hok : S.Ok H) (C : Array Value) (ce : TypeId) : Ext H.length S H (S.imm (.cells C ce)) H where
  os := rfl
  tape := rfl
  output := rfl
  size := by simp [St.imm]
  keep k hk _ := Below.heap_alloc S.w _ k hk
  M k o' hk := by
    have : k < S.w.heap.size := M_lt hok (by rw [hk]; simp)
    simp only [St.imm]
    rw [if_neg (by omega)]; exact hk
  dom k hk := by
    simp only [St.imm] at hk
    split at hk
    · exact .inr (.inr (by omega))
    · exact .inl hk
  own k hk := .inl hk
  sh b s cur _ hs := ⟨cur, Nat.le_refl _, hs, fun _ => rfl⟩
  ν b g _ hg := hg
  len h := h
theorem imm_ok (hok : S.Ok H) (C : Array Value) (ce : TypeId) : (S.imm (.cells C ce)).Ok H where
  imm k o' hk := by
    simp only [St.imm] at hk ⊢
    split at hk
    · rename_i e; subst e; injection hk with hk; subst hk; exact heap_alloc_new S.w _
    · have hlt : k < S.w.heap.size := M_lt hok (by rw [hk]; simp)
      rw [Below.heap_alloc S.w _ k hlt]; exact hok.imm k o' hk
  row b s t es hb := by
    rcases hok.row b s t es hb with h | ⟨g, k, cs, h1, h2, h3, h4, h5, h6, h7⟩
    · exact .inl h
    · have hlt : g < S.w.heap.size := (Array.getElem?_eq_some_iff.1 h3).1
      refine .inr ⟨g, k, cs, h1, ?_, ?_, h4, h5, h6, h7.mono ((imm_ext hok C ce).le (Nat.le_refl _))⟩
      · simp only [St.imm]; rw [if_neg (by omega)]; exact h2
      · simp only [St.imm]; rw [Below.heap_alloc S.w _ g hlt]; exact h3
  ob b ob0 hb := by
    obtain ⟨g, ob1, h1, h2, h3, h4⟩ := hok.ob b ob0 hb
    have hlt : g < S.w.heap.size := (Array.getElem?_eq_some_iff.1 h3).1
    refine ⟨g, ob1, h1, ?_, ?_, h4.mono ((imm_ext hok C ce).le (Nat.le_refl _))⟩
    · simp only [St.imm]; rw [if_neg (by omega)]; exact h2
    · simp only [St.imm]; rw [Below.heap_alloc S.w _ g hlt]; exact h3
  inj b b' g h h' := hok.inj b b' g h h'
theorem imm_cell_new (S : St) (c : Array Value) (t : TypeId) (i : Nat) : mcell (S.imm (.cells c t)).M S.w.heap.size i = c[i]? := by
  simp [mcell, St.imm]

theorem pBin_ok (op : BinOp) (t : TypeId) (X Y : Operand) {x y : AV} {u v : Value} (hx : Rel (S.env H) x u) (hy : Rel (S.env H) y v) (h : (pBin P op t x y).1 = true) :
    ∃ r, (do eqGuard op t X Y u v; binOp op t u v : Sem Value).run P S.w = .ok r S.w ∧ Rel (S.env H) (pBin P op t x y).2 r := by
  unfold pBin at *
  split at h
  · rename_i k a k' b
    have e1 : u = .int k a := by simpa [Rel] using hx
    have e2 : v = .int k' b := by simpa [Rel] using hy
    subst e1; subst e2
    obtain ⟨r, hr, hrr⟩ := pInt_ok (P := P) t S.w h
    exact ⟨r, by simp [eqGuard_at_int, hr], hrr _⟩
  · rename_i a b
    have e1 : u = .string ⟨a.toArray⟩ := by simpa [Rel] using hx
    have e2 : v = .string ⟨b.toArray⟩ := by simpa [Rel] using hy
    subst e1; subst e2
    obtain ⟨r, hr, hrr⟩ := pStr_ok (P := P) t S.w h
    exact ⟨r, by simp [eqGuard_at_string, hr], hrr _⟩
  · rename_i a b
    have e1 : u = .bool a := by simpa [Rel] using hx
    have e2 : v = .bool b := by simpa [Rel] using hy
    subst e1; subst e2
    have key : ∀ c : Bool, (match shp P t with | .bool => true | _ => false) = true → P.underlying t = some .bool := by
      intro _ hc
      split at hc
      · rename_i hs
        obtain ⟨T, hT, hsh⟩ := shp_some hs (by simp)
        exact und_bool hT hsh
      · cases hc
    cases op <;> simp only [bad] at h <;> first | cases h | skip
    · have hu := key true h
      exact ⟨.bool (a == b), by simp [eqGuard_at_bool, run_eql_bool S.w t a b hu], by simp [Rel]⟩
    · have hu := key true h
      exact ⟨.bool (!(a == b)), by simp [eqGuard_at_bool, run_neq_bool S.w t a b hu], by simp [Rel]⟩
  · rename_i xs ys
    have hx' := hx
    have hy' := hy
    simp only [Rel] at hx hy
    obtain ⟨us, rfl, _, _⟩ := hx
    obtain ⟨vs, rfl, _, _⟩ := hy
    cases op <;> simp only [bad] at h <;> first | cases h | skip
    · simp only [Bool.and_eq_true, eqTyOk, Bool.not_eq_true'] at h
      have he := eqA_ok (P := P) S.w 8 t _ _ _ _ hx' hy' h.1.1 h.2 10000 (by decide)
      refine ⟨.bool (eqA P 8 t (.agg xs) (.agg ys)).2, ?_, by simp [Rel]⟩
      simp only [Sem.run_bind, run_eqGuard_agg S.w .eql t X Y us.toArray vs.toArray h.1.2, Result.andThen_ok, run_eql_struct, he]
    · simp only [Bool.and_eq_true, eqTyOk, Bool.not_eq_true'] at h
      have he := eqA_ok (P := P) S.w 8 t _ _ _ _ hx' hy' h.1.1 h.2 10000 (by decide)
      refine ⟨.bool (!(eqA P 8 t (.agg xs) (.agg ys)).2), ?_, by simp [Rel]⟩
      simp only [Sem.run_bind, run_eqGuard_agg S.w .neq t X Y us.toArray vs.toArray h.1.2, Result.andThen_ok, run_neq_struct, he]
  · cases h

theorem nilTest_some {op : BinOp} {y : Operand} {neg : Bool} {v : Value} (h : nilTest op y = some (neg, v)) : y = .const v ∧ op = (if neg = true then .neq else .eql) := by
  unfold nilTest at h
  split at h <;> first | (split at h <;> first | (injection h with h; injection h with h1 h2; subst h1; subst h2; exact ⟨rfl, rfl⟩) | cases h) | cases h
theorem run_nil_slice {neg : Bool} {op : BinOp} {t e : TypeId} {a : Option Addr} {n c : Nat} (w : World) (ho : op = if neg = true then .neq else .eql) (hu : P.underlying t = some (.slice e)) :
    (binOp op t (.slice a n c) (.slice none 0 0)).run P w = .ok (.bool (if neg = true then !a.isNone else a.isNone)) w := by
  have h : ∀ d, (Op.equalIn (d + 1) t (.slice a n c) (.slice none 0 0)).run P w = .ok a.isNone w := fun d => by
    cases a <;> simp [Op.equalIn, run_underlying hu]
  have h := h 9999
  subst ho
  cases neg <;> simp [binOp, Op.equal, Op.maxDepth, h]
theorem run_nil_iface {neg : Bool} {op : BinOp} {t : TypeId} {ms : Array (String × TypeId)} {u : Value} (w : World) (ho : op = if neg = true then .neq else .eql) (hu : P.underlying t = some (.interface ms)) :
    (∀ tx x, u = .iface tx x → (binOp op t u .nilIface).run P w = .ok (.bool neg) w) ∧ (u = .nilIface → (binOp op t u .nilIface).run P w = .ok (.bool (!neg)) w) := by
  have h1 : ∀ d tx x, (Op.equalIn (d + 1) t (.iface tx x) .nilIface).run P w = .ok false w := fun d tx x => by simp [Op.equalIn, run_underlying hu]
  have h2 : ∀ d, (Op.equalIn (d + 1) t .nilIface .nilIface).run P w = .ok true w := fun d => by simp [Op.equalIn, run_underlying hu]
  have h1 := h1 9999
  have h2 := h2 9999
  subst ho
  refine ⟨fun tx x e => ?_, fun e => ?_⟩
  · subst e; cases neg <;> simp [binOp, Op.equal, Op.maxDepth, h1]
  · subst e; cases neg <;> simp [binOp, Op.equal, Op.maxDepth, h2]
theorem run_nil_ptr {neg : Bool} {op : BinOp} {t e : TypeId} {a : Option Addr} (w : World) (ho : op = if neg = true then .neq else .eql) (hu : P.underlying t = some (.pointer e)) :
    (binOp op t (.pointer a) (.pointer none)).run P w = .ok (.bool (if neg = true then !a.isNone else a.isNone)) w := by
  have h : ∀ d, (Op.equalIn (d + 1) t (.pointer a) (.pointer none)).run P w = .ok a.isNone w := fun d => by
    cases a <;> simp [Op.equalIn, run_underlying hu]
  have h := h 9999
  subst ho
  cases neg <;> simp [binOp, Op.equal, Op.maxDepth, h]
theorem run_nil_map {neg : Bool} {op : BinOp} {t k e : TypeId} {a : Option Nat} (w : World) (ho : op = if neg = true then .neq else .eql) (hu : P.underlying t = some (.map k e)) :
    (binOp op t (.map a) (.map none)).run P w = .ok (.bool (if neg = true then !a.isNone else a.isNone)) w := by
  have h : ∀ d, (Op.equalIn (d + 1) t (.map a) (.map none)).run P w = .ok a.isNone w := fun d => by
    cases a <;> simp [Op.equalIn, run_underlying hu]
  have h := h 9999
  subst ho
  cases neg <;> simp [binOp, Op.equal, Op.maxDepth, h]
theorem run_nil_func {neg : Bool} {op : BinOp} {t : TypeId} {A B : Array TypeId} {C : Bool} {u : Value} (w : World) (ho : op = if neg = true then .neq else .eql) (hu : P.underlying t = some (.func A B C)) :
    (∀ f x y, u = .func f x y → (binOp op t u .nilFunc).run P w = .ok (.bool neg) w) ∧ (u = .nilFunc → (binOp op t u .nilFunc).run P w = .ok (.bool (!neg)) w) := by
  have h1 : ∀ d f x y, (Op.equalIn (d + 1) t (.func f x y) .nilFunc).run P w = .ok false w := fun d f x y => by simp [Op.equalIn, run_underlying hu]
  have h2 : ∀ d, (Op.equalIn (d + 1) t .nilFunc .nilFunc).run P w = .ok true w := fun d => by simp [Op.equalIn, run_underlying hu]
  have h1 := h1 9999
  have h2 := h2 9999
  subst ho
  refine ⟨fun f x y e => ?_, fun e => ?_⟩
  · subst e; cases neg <;> simp [binOp, Op.equal, Op.maxDepth, h1]
  · subst e; cases neg <;> simp [binOp, Op.equal, Op.maxDepth, h2]
theorem eqGuard_nil {op : BinOp} {t : TypeId} {X : Operand} {u v : Value} (w : World) (hu : ∀ cs, u ≠ .agg cs) : (eqGuard op t X (.const v) u v).run P w = .ok () w := by
  unfold eqGuard
  cases op <;> simp <;> (split <;> first | rfl | simp) <;> exact absurd rfl (hu _)
theorem pNil_ok (op : BinOp) (t : TypeId) (X Y : Operand) {x : AV} {u v : Value} {neg : Bool} (hn : nilTest op Y = some (neg, v)) (hx : Rel (S.env H) x u) (h : (pNil P H neg t x v).1 = true) :
    ∃ r, (do eqGuard op t X Y u v; binOp op t u v : Sem Value).run P S.w = .ok r S.w ∧ Rel (S.env H) (pNil P H neg t x v).2 r := by
  obtain ⟨rfl, ho⟩ := nilTest_some hn
  have fin : (∀ cs, u ≠ .agg cs) → ∀ r, (binOp op t u v).run P S.w = .ok r S.w → (do eqGuard op t X (.const v) u v; binOp op t u v : Sem Value).run P S.w = .ok r S.w := fun h1 r h2 => by
    simp only [Sem.run_bind, eqGuard_nil S.w h1, Result.andThen_ok, h2]
  unfold pNil at *
  split at h
  · rename_i e s es c hs
    obtain ⟨T, hT, hsh⟩ := shp_some hs (by simp)
    have hd := und_slice hT hsh
    have e1 := hx; simp only [Rel] at e1
    obtain ⟨a, cap, rfl, h1, h2, h3, h4⟩ := e1
    refine ⟨_, fin (fun cs q => by cases q) _ (run_nil_slice S.w ho hd), ?_⟩
    cases es with
    | nil => simp [Rel]
    | cons e0 es =>
      obtain ⟨g, off, rfl, _⟩ := h4.resolve_left (by simp)
      cases neg <;> simp [Rel]
  · rename_i e b n hh c hs
    obtain ⟨T, hT, hsh⟩ := shp_some hs (by simp)
    have hd := und_slice hT hsh
    obtain ⟨s, hs', _, hc⟩ := rel_own hx h
    rcases hc with ⟨_, ⟨a0, rfl⟩, rfl, _⟩ | ⟨g, k, cap, _, rfl, _⟩
    · exact ⟨_, fin (fun cs q => by cases q) _ (run_nil_slice S.w ho hd), by simp [Rel]⟩
    · refine ⟨_, fin (fun cs q => by cases q) _ (run_nil_slice S.w ho hd), ?_⟩
      cases n <;> cases neg <;> simp [Rel]
  · rename_i hs
    obtain ⟨T, hT, hsh⟩ := shp_some hs (by simp)
    obtain ⟨ms, hd⟩ := und_iface hT hsh
    have e1 := hx; simp only [Rel] at e1
    obtain ⟨tx, y, rfl⟩ := e1
    exact ⟨_, fin (fun cs q => by cases q) _ ((run_nil_iface S.w ho hd).1 _ _ rfl), by simp [Rel]⟩
  · rename_i hs
    obtain ⟨T, hT, hsh⟩ := shp_some hs (by simp)
    obtain ⟨ms, hd⟩ := und_iface hT hsh
    have e1 := hx; simp only [Rel] at e1; subst e1
    exact ⟨_, fin (fun cs q => by cases q) _ ((run_nil_iface S.w ho hd).2 rfl), by simp [Rel]⟩
  · rename_i e b i o hh hs
    obtain ⟨T, hT, hsh⟩ := shp_some hs (by simp)
    have hd := und_ptr hT hsh
    obtain ⟨s, g, k, _, _, rfl⟩ := rel_ptr hx h
    refine ⟨_, fin (fun cs q => by cases q) _ (run_nil_ptr S.w ho hd), ?_⟩
    cases neg <;> simp [Rel]
  · rename_i e cs o hs
    obtain ⟨T, hT, hsh⟩ := shp_some hs (by simp)
    have hd := und_ptr hT hsh
    have e1 := hx; simp only [Rel] at e1
    obtain ⟨g, off, rfl, _⟩ := e1
    refine ⟨_, fin (fun cs q => by cases q) _ (run_nil_ptr S.w ho hd), ?_⟩
    cases neg <;> simp [Rel]
  · rename_i e hs
    obtain ⟨T, hT, hsh⟩ := shp_some hs (by simp)
    have hd := und_ptr hT hsh
    have e1 := hx; simp only [Rel] at e1; subst e1
    refine ⟨_, fin (fun cs q => by cases q) _ (run_nil_ptr S.w ho hd), ?_⟩
    cases neg <;> simp [Rel]
  · rename_i k e b hs
    obtain ⟨T, hT, hsh⟩ := shp_some hs (by simp)
    have hd := und_map hT hsh
    have e1 := hx; simp only [Rel] at e1
    obtain ⟨g, _, rfl⟩ := e1
    refine ⟨_, fin (fun cs q => by cases q) _ (run_nil_map S.w ho hd), ?_⟩
    cases neg <;> simp [Rel]
  · rename_i k e hs
    obtain ⟨T, hT, hsh⟩ := shp_some hs (by simp)
    have hd := und_map hT hsh
    have e1 := hx; simp only [Rel] at e1; subst e1
    refine ⟨_, fin (fun cs q => by cases q) _ (run_nil_map S.w ho hd), ?_⟩
    cases neg <;> simp [Rel]
  · rename_i f cap hs
    obtain ⟨T, hT, hsh⟩ := shp_some hs (by simp)
    obtain ⟨A, B, C, hd⟩ := und_func hT hsh
    have e1 := hx; simp only [Rel] at e1
    obtain ⟨vs, rfl, _⟩ := e1
    exact ⟨_, fin (fun cs q => by cases q) _ ((run_nil_func S.w ho hd).1 _ _ _ rfl), by simp [Rel]⟩
  · rename_i hs
    obtain ⟨T, hT, hsh⟩ := shp_some hs (by simp)
    obtain ⟨A, B, C, hd⟩ := und_func hT hsh
    have e1 := hx; simp only [Rel] at e1; subst e1
    exact ⟨_, fin (fun cs q => by cases q) _ ((run_nil_func S.w ho hd).2 rfl), by simp [Rel]⟩
  · cases h

theorem pUn_ok {op : UnOp} {x : AV} {u : Value} (hx : Rel (S.env H) x u) (h : (pUn op x).1 = true) :
    ∃ r, (Op.unary op u).run P S.w = .ok r S.w ∧ Rel (S.env H) (pUn op x).2 r := by
  unfold pUn at *
  split at h
  · have e1 := hx; simp only [Rel] at e1; subst e1
    exact ⟨_, by simp [Op.unary]; rfl, by simp [Rel]⟩
  · have e1 := hx; simp only [Rel] at e1; subst e1
    exact ⟨_, by simp [Op.unary, Op.intArith]; rfl, by simp [Rel]⟩
  · have e1 := hx; simp only [Rel] at e1; subst e1
    exact ⟨_, by simp [Op.unary]; rw [intBits_xor]; rfl, by simp [Rel]⟩
  · cases h

theorem pConvert_ok {src dst : TypeId} {x : AV} {u : Value} (hx : Rel (S.env H) x u) (h : (pConvert P src dst x).1 = true) :
    ∃ r, (convert src dst u).run P S.w = .ok r S.w ∧ Rel (S.env H) (pConvert P src dst x).2 r := by
  unfold pConvert at *
  split at h
  · rename_i k k' n hs
    obtain ⟨T, hT, hsh⟩ := shp_some hs (by simp)
    have hd := und_int hT hsh
    obtain ⟨d, hsrc⟩ := und_some h
    have e1 := hx; simp only [Rel] at e1; subst e1
    refine ⟨.int k (k.wrap n), ?_, by simp [Rel]⟩
    unfold convert
    simp only [Sem.run_bind, run_underlying hsrc, run_underlying hd, Result.andThen_ok]
    cases d <;> rfl
  · rename_i s hs
    obtain ⟨T, hT, hsh⟩ := shp_some hs (by simp)
    have hd := und_str hT hsh
    obtain ⟨d, hsrc⟩ := und_some h
    have e1 := hx; simp only [Rel] at e1; subst e1
    refine ⟨.string ⟨s.toArray⟩, ?_, by simp [Rel]⟩
    unfold convert
    simp only [Sem.run_bind, run_underlying hsrc, run_underlying hd, Result.andThen_ok]
    cases d <;> rfl
  · cases h

theorem pLen_ok {t : TypeId} {ts : Array TypeId} {x : AV} {u : Value} (ht : ts[0]? = some t) (ty : TypeId) (hx : Rel (S.env H) x u) (h : (pLen P H t x).1 = true) :
    ∃ r, (Builtin.len_ ts ty #[u]).run P S.w = .ok r S.w ∧ Rel (S.env H) (pLen P H t x).2 r := by
  unfold pLen at *
  split at h
  · rename_i s hs
    obtain ⟨T, hT, hsh⟩ := shp_some hs (by simp)
    have hd := und_str hT hsh
    have e1 := hx; simp only [Rel] at e1; subst e1
    have hsz : (ByteArray.mk s.toArray).size = s.length := rfl
    exact ⟨.int .i64 s.length, by simp [Builtin.len_, ht, run_underlying hd, goInt, hsz], by simp [Rel]⟩
  · rename_i e s es c hs
    obtain ⟨T, hT, hsh⟩ := shp_some hs (by simp)
    have hd := und_slice hT hsh
    have e1 := hx; simp only [Rel] at e1
    obtain ⟨a, cap, rfl, _⟩ := e1
    exact ⟨.int .i64 es.length, by simp [Builtin.len_, ht, run_underlying hd, goInt], by simp [Rel]⟩
  · rename_i e b n hh c hs
    obtain ⟨T, hT, hsh⟩ := shp_some hs (by simp)
    have hd := und_slice hT hsh
    obtain ⟨s, hs', _, hc⟩ := rel_own hx h
    refine ⟨.int .i64 n, ?_, by simp [Rel]⟩
    rcases hc with ⟨_, ⟨a0, rfl⟩, rfl, _⟩ | ⟨g, k, cap, _, rfl, _⟩
    · simp [Builtin.len_, ht, run_underlying hd, goInt]
    · simp [Builtin.len_, ht, run_underlying hd, goInt]
  · rename_i n e hs
    obtain ⟨T, hT, hsh⟩ := shp_some hs (by simp)
    have hd := und_array hT hsh
    exact ⟨.int .i64 n, by simp [Builtin.len_, ht, run_underlying hd, goInt], by simp [Rel]⟩
  · cases h

theorem pCap_ok {t : TypeId} {ts : Array TypeId} {x : AV} {u : Value} (ht : ts[0]? = some t) (ty : TypeId) (hx : Rel (S.env H) x u) (h : (pCap P H t x).1 = true) :
    ∃ r, (Builtin.cap_ ts ty #[u]).run P S.w = .ok r S.w ∧ Rel (S.env H) (pCap P H t x).2 r := by
  unfold pCap at *
  split at h
  · rename_i e s es c hs
    obtain ⟨T, hT, hsh⟩ := shp_some hs (by simp)
    have hd := und_slice hT hsh
    have e1 := hx; simp only [Rel] at e1
    obtain ⟨a, cap, rfl, _, _, hc, _⟩ := e1
    have := hc c rfl
    subst this
    exact ⟨.int .i64 cap, by simp [Builtin.cap_, ht, run_underlying hd, goInt], by simp [Rel]⟩
  · rename_i e b n hh c hs
    obtain ⟨T, hT, hsh⟩ := shp_some hs (by simp)
    have hd := und_slice hT hsh
    obtain ⟨s, hs', _, hc⟩ := rel_own hx h
    refine ⟨.int .i64 c, ?_, by simp [Rel]⟩
    rcases hc with ⟨_, ⟨a0, rfl⟩, rfl, hc⟩ | ⟨g, k, cap, _, rfl, _, _, _, hc⟩
    · have : c = 0 := by simpa using hc
      subst this
      simp [Builtin.cap_, ht, run_underlying hd, goInt]
    · have := hc c rfl
      subst this
      simp [Builtin.cap_, ht, run_underlying hd, goInt]
  · cases h

theorem pMax_ok {ts : Array TypeId} {ty : TypeId} {x y : AV} {u v : Value} (hx : Rel (S.env H) x u) (hy : Rel (S.env H) y v) (h : (pMinMax true x y).1 = true) :
    ∃ r, (Builtin.max_ ts ty #[u, v]).run P S.w = .ok r S.w ∧ Rel (S.env H) (pMinMax true x y).2 r := by
  unfold pMinMax at *
  split at h
  · have e1 := hx; simp only [Rel] at e1; subst e1
    have e2 := hy; simp only [Rel] at e2; subst e2
    exact ⟨_, by rw [run_max_int2], by simp [Rel]⟩
  · cases h
theorem pMin_ok {ts : Array TypeId} {ty : TypeId} {x y : AV} {u v : Value} (hx : Rel (S.env H) x u) (hy : Rel (S.env H) y v) (h : (pMinMax false x y).1 = true) :
    ∃ r, (Builtin.min_ ts ty #[u, v]).run P S.w = .ok r S.w ∧ Rel (S.env H) (pMinMax false x y).2 r := by
  unfold pMinMax at *
  split at h
  · have e1 := hx; simp only [Rel] at e1; subst e1
    have e2 := hy; simp only [Rel] at e2; subst e2
    exact ⟨_, by rw [run_min_int2], by simp [Rel]⟩
  · cases h

/-! ### Composite values -/
theorem foldl_set : ∀ (vs : List Value) (k off : Nat) (cells : Array Value), off + k + vs.length ≤ cells.size →
    ((vs.zipIdx k).foldl (fun cs p => cs.setIfInBounds (off + p.2) p.1) cells).toList = cells.toList.take (off + k) ++ vs ++ cells.toList.drop (off + k + vs.length)
  | [], k, off, cells, h => by simp
  | v :: vs, k, off, cells, h => by
    simp only [List.length_cons] at h
    rw [List.zipIdx_cons, List.foldl_cons]
    rw [foldl_set vs (k + 1) off _ (by simp; omega)]
    simp only [Array.toList_setIfInBounds, List.length_cons]
    have hlt : off + k < cells.toList.length := by simp; omega
    rw [List.set_eq_take_append_cons_drop, if_pos hlt]
    have e1 : (List.take (off + k) cells.toList ++ v :: List.drop (off + k + 1) cells.toList).take (off + (k + 1)) = List.take (off + k) cells.toList ++ [v] := by
      rw [List.take_append]
      have : (List.take (off + k) cells.toList).length = off + k := by simp; omega
      rw [this, List.take_take, show off + (k + 1) - (off + k) = 1 from by omega, show min (off + (k + 1)) (off + k) = off + k from by omega]
      rfl
    have e2 : (List.take (off + k) cells.toList ++ v :: List.drop (off + k + 1) cells.toList).drop (off + (k + 1) + vs.length) = List.drop (off + k + (vs.length + 1)) cells.toList := by
      rw [List.drop_append]
      have : (List.take (off + k) cells.toList).length = off + k := by simp; omega
      rw [this, List.drop_of_length_le (by rw [this]; omega), show off + (k + 1) + vs.length - (off + k) = vs.length + 1 from by omega]
      simp only [List.nil_append, List.drop_succ_cons, List.drop_drop]
      congr 1
      omega
    rw [e1, e2]
    simp

theorem fill_one (vs : Array Value) (off : Nat) (cells : Array Value) (h : off + vs.size ≤ cells.size) :
    (vs.zipIdx.foldl (fun cs p => cs.setIfInBounds (off + p.2) p.1) cells).toList = cells.toList.take off ++ vs.toList ++ cells.toList.drop (off + vs.size) := by
  rw [← Array.foldl_toList, Array.toList_zipIdx]
  have := foldl_set vs.toList 0 off cells (by simpa using h)
  simpa using this

theorem fillA_ok {place : Nat → Option (Nat × Nat)} : ∀ (parts : List (Nat × AV)) (pv : List (Nat × Value)) (cells : List AV) (C : Array Value) (out : List AV),
    parts.length = pv.length → (∀ (i : Nat) (p : Nat × AV) (q : Nat × Value), parts[i]? = some p → pv[i]? = some q → p.1 = q.1 ∧ Rel (S.env H) p.2 q.2) →
    RelL (S.env H) cells C.toList → (∀ u ∈ C.toList, u.oneCell' = true) → fillA H place cells parts = some out →
    ∃ C', Instr.fill place C pv = some C' ∧ RelL (S.env H) out C'.toList ∧ (∀ u ∈ C'.toList, u.oneCell' = true) ∧ C'.size = C.size
  | [], pv, cells, C, out, hl, _, hr, h1, h => by
    have : pv = [] := List.eq_nil_of_length_eq_zero (by simpa using hl.symm)
    subst this
    simp only [fillA, Option.some.injEq] at h
    subst h
    exact ⟨C, rfl, hr, h1, rfl⟩
  | (i, x) :: parts, [], cells, C, out, hl, _, _, _, _ => by simp at hl
  | (i, x) :: parts, (j, v) :: pv, cells, C, out, hl, hp, hr, h1, h => by
    obtain ⟨e, hxv⟩ := hp 0 _ _ rfl rfl
    simp only at e hxv
    subst e
    simp only [fillA] at h
    split at h
    · rename_i off size cs hpl hc
      split at h
      · rename_i hcond
        obtain ⟨hs, hb⟩ := hcond
        obtain ⟨hrl, hone⟩ := oneCell_of_rel hxv hc
        have hlen : cs.length = v.cells.size := by rw [hrl.length]; simp
        have hcl : cells.length = C.size := by rw [hr.length]; simp
        have hsz : off + v.cells.size ≤ C.size := by omega
        have hfo := fill_one v.cells off C hsz
        obtain ⟨C', hC', g1, g2, g3⟩ := fillA_ok parts pv _ (v.cells.zipIdx.foldl (fun cs p => cs.setIfInBounds (off + p.2) p.1) C) out (by simpa using hl)
          (fun n p q hpn hqn => hp (n + 1) p q (by simpa using hpn) (by simpa using hqn))
          (by rw [hfo, ← hlen]; exact ((hr.take off).append hrl).append (hr.drop _))
          (by
            rw [hfo]
            intro u hu
            rcases List.mem_append.1 hu with hu | hu
            · rcases List.mem_append.1 hu with hu | hu
              · exact h1 u (List.mem_of_mem_take hu)
              · exact hone u hu
            · exact h1 u (List.mem_of_mem_drop hu)) h
        refine ⟨C', ?_, g1, g2, ?_⟩
        · simp only [Instr.fill, hpl]
          have c1 : ¬ (v.cells.size ≠ size) := by omega
          have c2 : ¬ (off + v.cells.size > C.size) := by omega
          simp only [ne_eq, c1, decide_false, c2, Bool.or_self, Bool.false_eq_true, if_false]
          exact hC'
        · rw [g3]
          have : (v.cells.zipIdx.foldl (fun cs p => cs.setIfInBounds (off + p.2) p.1) C).size = (v.cells.zipIdx.foldl (fun cs p => cs.setIfInBounds (off + p.2) p.1) C).toList.length := by simp
          rw [this, hfo]
          simp
          omega
      · cases h
    · cases h
end
end Go.V

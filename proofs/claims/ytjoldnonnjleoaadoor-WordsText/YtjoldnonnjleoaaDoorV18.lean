/- The library V, part 18: calls; values that name no own block. -/
import Derived.Test.YtjoldnonnjleoaaDoorV17
set_option linter.unusedVariables false
set_option linter.unusedSimpArgs false
namespace Go.V
open Go Go.RowKit

mutual
/-- All own blocks that the value names satisfy p. -/
def AV.ids (p : Nat → Bool) : AV → Bool
  | .own b _ _ _ => p b
  | .ptr b _ _ _ => p b
  | .mp b => p b
  | .agg cs => idsL p cs
  | .tup cs => idsL p cs
  | .sl _ es _ => idsE p es
  | .iptr cs _ => idsL p cs
  | .fn _ cs => idsL p cs
  | .opt _ v => AV.ids p v
  | _ => true
def idsL (p : Nat → Bool) : List AV → Bool
  | [] => true
  | a :: as => AV.ids p a && idsL p as
def idsE (p : Nat → Bool) : List (List AV) → Bool
  | [] => true
  | e :: es => idsL p e && idsE p es
end

/-- E' says of what satisfies p what E says. -/
structure Env.agree (p : Nat → Bool) (E E' : Env) : Prop where
  M : ∀ k o, E.M k = some o → E'.M k = some o
  sh : ∀ b, p b = true → E'.sh b = E.sh b ∧ E'.μ b = E.μ b ∧ E'.ν b = E.ν b

mutual
theorem Rel.move {p : Nat → Bool} {E E' : Env} (h : E.agree p E') : ∀ (a : AV) (v : Value), a.ids p = true → Rel E a v → Rel E' a v
  | .int k n, v, _, hr => by simpa [Rel] using hr
  | .bool b, v, _, hr => by simpa [Rel] using hr
  | .str s, v, _, hr => by simpa [Rel] using hr
  | .agg cs, v, hi, hr => by
    simp only [Rel, AV.ids] at hr hi ⊢
    obtain ⟨vs, hv, hl, h1⟩ := hr
    exact ⟨vs, hv, RelL.move h cs vs hi hl, h1⟩
  | .tup cs, v, hi, hr => by
    simp only [Rel, AV.ids] at hr hi ⊢
    obtain ⟨vs, hv, hl⟩ := hr
    exact ⟨vs, hv, RelL.move h cs vs hi hl⟩
  | .sl s es c, v, hi, hr => by
    simp only [Rel, AV.ids] at hr hi ⊢
    obtain ⟨a, cap, hv, h1, h2, h3, h4⟩ := hr
    refine ⟨a, cap, hv, h1, h2, h3, ?_⟩
    rcases h4 with h4 | ⟨g, off, ha, he⟩
    · exact .inl h4
    · exact .inr ⟨g, off, ha, RelE.move h s es g off hi he⟩
  | .own b n hh c, v, hi, hr => by
    simp only [Rel, AV.ids] at hr hi ⊢
    obtain ⟨h1, h2, _⟩ := h.sh b hi
    rw [h1, h2]; exact hr
  | .ptr b i o hh, v, hi, hr => by
    simp only [Rel, AV.ids] at hr hi ⊢
    obtain ⟨h1, h2, _⟩ := h.sh b hi
    rw [h1, h2]; exact hr
  | .iptr cs o, v, hi, hr => by
    simp only [Rel, AV.ids] at hr hi ⊢
    obtain ⟨g, off, hv, hc⟩ := hr
    exact ⟨g, off, hv, RelC.move h cs g off hi hc⟩
  | .fn f cap, v, hi, hr => by
    simp only [Rel, AV.ids] at hr hi ⊢
    obtain ⟨vs, hv, hl⟩ := hr
    exact ⟨vs, hv, RelL.move h cap vs hi hl⟩
  | .mp b, v, hi, hr => by
    simp only [Rel, AV.ids] at hr hi ⊢
    rw [(h.sh b hi).2.2]; exact hr
  | .opt g w, v, hi, hr => by
    simp only [Rel, AV.ids] at hr hi ⊢
    exact ⟨fun hg => Rel.move h w v hi (hr.1 hg), hr.2⟩
  | .lit u, v, _, hr => by simpa [Rel] using hr
  | .anyb, v, _, hr => by simpa [Rel] using hr
  | .anyi k, v, _, hr => by simpa [Rel] using hr
  | .err, v, _, hr => by simpa [Rel] using hr
  | .top, v, _, hr => by simp [Rel]
theorem RelL.move {p : Nat → Bool} {E E' : Env} (h : E.agree p E') : ∀ (as : List AV) (vs : List Value), idsL p as = true → RelL E as vs → RelL E' as vs
  | [], vs, _, hr => by simpa [RelL] using hr
  | a :: as, vs, hi, hr => by
    simp only [RelL, idsL, Bool.and_eq_true] at hr hi ⊢
    obtain ⟨u, us, hv, h1, h2⟩ := hr
    exact ⟨u, us, hv, Rel.move h a u hi.1 h1, RelL.move h as us hi.2 h2⟩
theorem RelC.move {p : Nat → Bool} {E E' : Env} (h : E.agree p E') : ∀ (as : List AV) (g off : Nat), idsL p as = true → RelC E as g off → RelC E' as g off
  | [], g, off, _, hr => by simp [RelC]
  | a :: as, g, off, hi, hr => by
    simp only [RelC, idsL, Bool.and_eq_true] at hr hi ⊢
    obtain ⟨⟨u, hu, h1, hr1⟩, hr2⟩ := hr
    exact ⟨⟨u, mcell_mono h.M hu, h1, Rel.move h a u hi.1 hr1⟩, RelC.move h as g (off + 1) hi.2 hr2⟩
theorem RelE.move {p : Nat → Bool} {E E' : Env} (h : E.agree p E') (s : Nat) : ∀ (es : List (List AV)) (g off : Nat), idsE p es = true → RelE E s es g off → RelE E' s es g off
  | [], g, off, _, hr => by simp [RelE]
  | e :: es, g, off, hi, hr => by
    simp only [RelE, idsE, Bool.and_eq_true] at hr hi ⊢
    exact ⟨hr.1, RelC.move h e g off hi.1 hr.2.1, RelE.move h s es g (off + s) hi.2 hr.2.2⟩
end

def none_ : Nat → Bool := fun _ => false
/-- The value names no own block. -/
def AV.closed (v : AV) : Bool := v.ids none_

theorem agree_closed {E E' : Env} (h : ∀ k o, E.M k = some o → E'.M k = some o) : E.agree none_ E' := ⟨h, fun b hb => by cases hb⟩

section lists
variable {p : Nat → Bool}
theorem idsL_iff (as : List AV) : idsL p as = true ↔ ∀ a ∈ as, a.ids p = true := by
  induction as with
  | nil => simp [idsL]
  | cons a as ih => simp [idsL, ih]
theorem idsE_iff (es : List (List AV)) : idsE p es = true ↔ ∀ e ∈ es, idsL p e = true := by
  induction es with
  | nil => simp [idsE]
  | cons e es ih => simp [idsE, ih]
theorem idsE_map {α : Type} (xs : List α) (f : α → List AV) (h : ∀ x, idsL p (f x) = true) : idsE p (xs.map f) = true := by
  rw [idsE_iff]; intro e he
  obtain ⟨x, _, rfl⟩ := List.mem_map.1 he
  exact h x
end lists

section
variable {P : Program} {G : Glob}

/-! ### A call whose arguments name no own block -/
/-- What a function gives for closed arguments: a closed result, whatever the caller's own blocks are. -/
def PC (P : Program) (G : Glob) (f : FuncId) (args : List AV) (r : AV) : Prop := ACalls P G f args [] r []

theorem pc_lift {f : FuncId} {args : List AV} {r : AV} (h : PC P G f args r) (hc : idsL none_ args = true) (H : List Blk) : ACalls P G f args H r H := fun S vals hok hG ha => by
  let S0 : St := ⟨S.M, fun _ => none, fun _ => none, S.w⟩
  have hat0 : ∀ (T : St) b, T.at [] b = none := fun T b => by simp [St.at]
  have hok0 : S0.Ok [] := ⟨hok.imm, fun b s t es hb => by simp at hb, fun b kt vt es hb => by simp at hb, fun b b' g hb => by rw [hat0] at hb; cases hb⟩
  have hargs : RelL (S0.env []) args vals := RelL.move (agree_closed (E := S.env H) (E' := S0.env []) fun k o q => q) _ _ hc ha
  refine (h S0 vals hok0 hG hargs).mono fun e w' hh => ?_
  obtain ⟨v, S1, rfl, rfl, hok1, hext, hr⟩ := hh
  have howns : ∀ (T : St) k, ¬ T.Owns [] k := fun T k ⟨b, hb⟩ => by rw [hat0] at hb; cases hb
  let S' : St := ⟨S1.M, S.μ, S.ν, S1.w⟩
  have hsame : ∀ k, k < S.w.heap.size → S1.w.heap[k]? = S.w.heap[k]? := fun k hk => hext.keep k hk (howns _ _)
  have hMn : ∀ g, g < S.w.heap.size → S.M g = none → S1.M g = none := fun g hg hn => by
    cases hM : S1.M g with
    | none => rfl
    | some o =>
      rcases hext.dom g (by rw [hM]; simp) with q | q | q
      · exact absurd hn q
      · exact absurd q (howns _ _)
      · exact absurd hg (by show ¬ g < S0.w.heap.size; omega)
  have hle : (S.env H).le (S'.env H) := ⟨hext.M, fun b s cur hb => ⟨cur, Nat.le_refl _, hb, fun _ => rfl⟩, fun b g hb => hb⟩
  have hok' : S'.Ok H := by
    refine ⟨hok1.imm, fun b s t es hb => ?_, fun b kt vt es hb => ?_, fun b b' g hb hb' => hok.inj b b' g hb hb'⟩
    · rcases hok.row b s t es hb with q | ⟨g, k, cs, h1, h2, h3, h4, h5, h6, h7⟩
      · exact .inl q
      · have hlt := (Array.getElem?_eq_some_iff.1 h3).1
        exact .inr ⟨g, k, cs, h1, hMn g hlt h2, (hsame g hlt).trans h3, h4, h5, h6, h7.mono hle⟩
    · obtain ⟨g, ents, clock, h1, h2, h3, h4⟩ := hok.map b kt vt es hb
      have hlt := (Array.getElem?_eq_some_iff.1 h3).1
      exact ⟨g, ents, clock, h1, hMn g hlt h2, (hsame g hlt).trans h3, h4.mono hle⟩
  refine ⟨v, S', rfl, rfl, hok', ⟨hext.os, hext.tape, hext.output, hext.size, fun k hk _ => hsame k hk, hext.M, fun k hk => ?_, fun k hk => .inl hk, fun b s cur _ hb => ⟨cur, Nat.le_refl _, hb, fun _ => rfl⟩, fun b g _ hb => hb, fun q => q⟩, ?_⟩
  · rcases hext.dom k hk with q | q | q
    · exact .inl q
    · exact absurd q (howns _ _)
    · exact .inr (.inr q)
  · have hle2 : (S1.env []).le (S'.env H) := ⟨fun k o q => q, fun b s cur hb => by simp [St.env, shOf] at hb, fun b g hb => by simp [St.env, mpOf] at hb⟩
    exact Rel.mono hle2 r v hr

/-! ### The results -/
def ares1 (P : Program) (a : List AV) (H : List Blk) : ResultVar → Bool × AV
  | .tmp t => ((getA a t).ok, (getA a t).strip)
  | .cell b t => ((getA a b).ok && (pLoad P H t (getA a b).strip).1, (pLoad P H t (getA a b).strip).2)
def ares (P : Program) (rs : List ResultVar) (a : List AV) (H : List Blk) : Bool × AV :=
  match rs with
  | [r] => ares1 P a H r
  | rs => (rs.all fun r => (ares1 P a H r).1, .tup (rs.map fun r => (ares1 P a H r).2))

theorem ares1_ok {S : St} {H : List Blk} {a : List AV} {ts : Array Value} (hok : S.Ok H) (ha : RelL (S.env H) a ts.toList) (r : ResultVar) (h : (ares1 P a H r).1 = true) :
    ∃ v, (match r with | .tmp t => pure (ts.getD t undef) | .cell a t => do loadVar t (← asAddr (ts.getD a undef)) : Sem Value).run P S.w = .ok v S.w ∧ Rel (S.env H) (ares1 P a H r).2 v := by
  cases r with
  | tmp t => exact ⟨_, rfl, (rel_getA ha t).strip h⟩
  | cell b t =>
    simp only [ares1, Bool.and_eq_true] at h ⊢
    have hr := (rel_getA ha b).strip h.1
    obtain ⟨u, hu, hru⟩ := pLoad_ok (P := P) hok hr h.2
    refine ⟨u, ?_, hru⟩
    have hp : ∃ ad, ts.getD b undef = .pointer (some ad) := by
      have h2 := h.2
      unfold pLoad at h2
      cases hT : tinfo P t with
      | none => rw [hT] at h2; cases h2
      | some T =>
        simp only [hT] at h2
        generalize (getA a b).strip = x at h2 hr
        cases x with
        | ptr b' i o hh =>
          simp only at h2
          cases hb : H[b']? with
          | none => rw [hb] at h2; cases h2
          | some B =>
            cases B with
            | map _ _ _ => rw [hb] at h2; cases h2
            | row s bt es =>
              simp only [hb, Bool.and_eq_true, decide_eq_true_eq] at h2
              obtain ⟨s', g, k, _, _, hv⟩ := rel_ptr hr (by simp [isLen, shOf_of hb, h2.1.1])
              exact ⟨_, hv⟩
        | iptr cs o =>
          simp only [Rel] at hr
          obtain ⟨g, off, hv, _⟩ := hr
          exact ⟨_, hv⟩
        | _ => simp only at h2; cases h2
    obtain ⟨ad, had⟩ := hp
    rw [had] at hu ⊢
    simpa [Instr.loadAt, Instr.sureAddr, asAddr] using hu

theorem ares_ok {S : St} {H : List Blk} {a : List AV} {ts : Array Value} {fn : Func} (hok : S.Ok H) (ha : RelL (S.env H) a ts.toList) (h : (ares P fn.results.toList a H).1 = true) :
    ∃ v, (results fn ts).run P S.w = .ok v S.w ∧ Rel (S.env H) (ares P fn.results.toList a H).2 v := by
  have hm : ∀ rs : List ResultVar, (rs.all fun r => (ares1 P a H r).1) = true → ∃ vs : List Value, (rs.mapM fun r => (match r with | .tmp t => pure (ts.getD t undef) | .cell a t => do loadVar t (← asAddr (ts.getD a undef)) : Sem Value)).run P S.w = .ok vs S.w ∧ RelL (S.env H) (rs.map fun r => (ares1 P a H r).2) vs := by
    intro rs
    induction rs with
    | nil => intro _; exact ⟨[], by simp, by simp [RelL]⟩
    | cons r rs ih =>
      intro hall
      simp only [List.all_cons, Bool.and_eq_true] at hall
      obtain ⟨v, hv, hr⟩ := ares1_ok hok ha r hall.1
      obtain ⟨vs, hvs, hrs⟩ := ih hall.2
      refine ⟨v :: vs, ?_, ?_⟩
      · simp only [List.mapM_cons, Sem.run_bind, hv, hvs, Result.andThen_ok, Sem.run_pure]
      · simp only [List.map_cons, RelL]; exact ⟨v, vs, rfl, hr, hrs⟩
  have hall : (fn.results.toList.all fun r => (ares1 P a H r).1) = true := by
    unfold ares at h
    split at h
    · rename_i r hrs; simp only [hrs, List.all_cons, List.all_nil, Bool.and_true]; exact h
    · exact h
  obtain ⟨vs, hvs, hrs⟩ := hm _ hall
  have hl : vs.length = fn.results.toList.length := by rw [← hrs.length]; simp
  have hrun : (results fn ts).run P S.w = .ok (if h : vs.toArray.size = 1 then vs.toArray[0] else .tuple vs.toArray) S.w := by
    unfold results
    rw [Array.mapM_eq_mapM_toList]
    simp only [Sem.run_bind, Sem.run_map]
    erw [hvs]
    rfl
  rw [hrun]
  refine ⟨_, rfl, ?_⟩
  unfold ares
  split
  · rename_i r hrs'
    rw [hrs'] at hrs hl
    simp only [List.map_cons, List.map_nil, RelL] at hrs
    obtain ⟨u, us, rfl, hr, rfl⟩ := hrs
    simpa using hr
  · rename_i hne
    have : ¬ vs.toArray.size = 1 := by
      intro hv
      simp only [List.size_toArray] at hv
      rw [hl] at hv
      obtain ⟨r, hr⟩ := List.length_eq_one_iff.1 hv
      exact hne r hr
    rw [dif_neg this]
    simp only [Rel]
    exact ⟨vs, rfl, hrs⟩

/-- What the caller sees of a result. -/
def Closes (n0 : Nat) (H' : List Blk) (v : AV) (r : AV) (Hf : List Blk) : Prop :=
  ∀ (S' : St) (u : Value), S'.Ok H' → n0 ≤ H'.length → Rel (S'.env H') v u → ∃ S'', S''.w = S'.w ∧ S''.Ok Hf ∧ Ext n0 S' H' S'' Hf ∧ Rel (S''.env Hf) r u

def Fin (P : Program) (fn : Func) (n0 : Nat) (r : AV) (Hf : List Blk) : Post := fun e a' H' =>
  (e = .normal ∨ e = .ret) ∧ (ares P fn.results.toList a' H').1 = true ∧ Closes n0 H' (ares P fn.results.toList a' H').2 r Hf

theorem acalls_of_awp {f : FuncId} {fn : Func} {c : Code} {args : List AV} {H Hf : List Blk} {r : AV} (hf : P.funcs[f]? = some fn) (hb : fn.body = some c)
    (h : AWp P G H.length c (Fin P fn H.length r Hf) (args ++ List.replicate (fn.ntmps - args.length) (.tup [])) H) : ACalls P G f args H r Hf := fun S vals hok hG ha => by
  have hl := ha.length
  refine calls_of_wp hf hb (wp_mono (h S { tmps := vals.toArray ++ Array.replicate (fn.ntmps - vals.toArray.size) undef, defers := [] } hok hG (Nat.le_refl _) ?_ rfl) fun e act w hE => ?_)
  · simp only [Array.toList_append, Array.toList_replicate, List.size_toArray, hl]
    exact ha.append (RelL.replicate (by simp [Rel, RelL, undef]) _)
  · obtain ⟨a', H', S', rfl, ⟨he, har, hcl⟩, hok', hext, ha', hd⟩ := hE
    obtain ⟨v, hv, hr⟩ := ares_ok hok' ha' har
    obtain ⟨S'', e1, e2, e3, e4⟩ := hcl S' v hok' (hext.len (Nat.le_refl _)) hr
    rcases he with rfl | rfl
    · exact ⟨hd, v, hv, v, S'', rfl, e1, e2, hext.trans e3, e4⟩
    · exact ⟨hd, v, hv, v, S'', rfl, e1, e2, hext.trans e3, e4⟩

/-! ### Closing a result -/
def closeC (H : List Blk) : Nat → AV → AV
  | 0, v => v
  | d + 1, .own b n h c =>
    match H[b]? with
    | some (.row s _ es) => .sl s ((es.take n).map fun e => e.map (closeC H d)) c
    | _ => .own b n h c
  | _ + 1, v => v
def okC (H : List Blk) : Nat → AV → Bool
  | 0, v => v.closed
  | d + 1, .own b n h c => isLen H b h && (match H[b]? with | some (.row _ _ es) => (es.take n).all fun e => e.all (okC H d) | _ => false)
  | _ + 1, v => v.closed
def closeA (H : List Blk) (d : Nat) : AV → AV
  | .agg cs => .agg (cs.map (closeC H d))
  | v => closeC H d v
def okA (H : List Blk) (d : Nat) : AV → Bool
  | .agg cs => cs.all (okC H d)
  | v => okC H d v
def closeR (H : List Blk) (d : Nat) : AV → AV
  | .tup vs => .tup (vs.map (closeA H d))
  | v => closeA H d v
def okR (H : List Blk) (d : Nat) : AV → Bool
  | .tup vs => vs.all (okA H d)
  | v => okA H d v

open Classical in
/-- All own blocks are immutable from now on. -/
noncomputable def St.freeze (S : St) (H : List Blk) : St := { S with M := fun k => if S.Owns H k then S.w.heap[k]? else S.M k, μ := fun _ => none, ν := fun _ => none }

theorem freeze_M {S : St} {H : List Blk} (hok : S.Ok H) {k : Nat} {o : Obj} (h : S.M k = some o) : (S.freeze H).M k = some o := by
  simp only [St.freeze]
  split
  · exact hok.imm k o h
  · exact h
theorem freeze_own {S : St} {H : List Blk} {k : Nat} (h : S.Owns H k) : (S.freeze H).M k = S.w.heap[k]? := by
  simp only [St.freeze]; rw [if_pos h]

theorem freeze_ok {S : St} {H : List Blk} (hok : S.Ok H) : (S.freeze H).Ok [] := by
  refine ⟨fun k o hk => ?_, fun b s t es hb => by simp at hb, fun b kt vt es hb => by simp at hb, fun b b' g hb => by simp [St.at] at hb⟩
  simp only [St.freeze] at hk ⊢
  split at hk
  · exact hk
  · exact hok.imm k o hk
theorem freeze_ext {S : St} {H : List Blk} (hok : S.Ok H) : Ext 0 S H (S.freeze H) [] where
  os := rfl
  tape := rfl
  output := rfl
  size := Nat.le_refl _
  keep _ _ _ := rfl
  M k o h := freeze_M hok h
  dom k h := by
    simp only [St.freeze] at h
    split at h
    · rename_i ho; exact .inr (.inl ho)
    · exact .inl h
  own k h := by obtain ⟨b, hb⟩ := h; simp [St.at] at hb
  sh b s cur hb := by omega
  ν b g hb := by omega
  len _ := by omega

theorem closeC_ok {S : St} {H : List Blk} (hok : S.Ok H) : ∀ (d : Nat) (v : AV) (u : Value), okC H d v = true → Rel (S.env H) v u → Rel ((S.freeze H).env []) (closeC H d v) u
  | 0, v, u, h, hr => by
    simp only [okC, closeC] at *
    exact Rel.move (agree_closed fun k o => freeze_M hok) v u h hr
  | d + 1, v, u, h, hr => by
    have other : okC H (d + 1) v = v.closed → closeC H (d + 1) v = v → Rel ((S.freeze H).env []) (closeC H (d + 1) v) u := fun h1 h2 => by
      rw [h2]; rw [h1] at h
      exact Rel.move (agree_closed fun k o => freeze_M hok) v u h hr
    cases v with
    | own b n hh c =>
      simp only [okC, Bool.and_eq_true] at h
      cases hb : H[b]? with
      | none => rw [hb] at h; cases h.2
      | some B =>
        cases B with
        | map _ _ _ => rw [hb] at h; cases h.2
        | row s t es =>
          simp only [hb] at h
          simp only [closeC, hb]
          obtain ⟨s', hs, hn, hcase⟩ := rel_own hr h.1
          rw [shOf_of hb] at hs; injection hs with hs; injection hs with e1 e2; subst e1
          rcases hcase with ⟨_, ⟨a0, rfl⟩, rfl, hc⟩ | ⟨g, k, cap, hg, rfl, hncap, hcapk, hcn, hcs⟩
          · simp only [Rel]
            refine ⟨a0, 0, by simp, by simp, by simp [maxLen], fun k hk => ?_, .inl (by simp)⟩
            rcases hc with rfl | rfl
            · cases hk
            · injection hk
          · obtain ⟨g0, k0, cs, q1, q2, q3, q4, q5, q6, q7⟩ := (hok.row b s t es hb).resolve_left (fun q => by rw [q.1] at hg; cases hg)
            rw [hg] at q1; injection q1 with q1; injection q1 with e1 e3; subst e1; subst e3
            have hM : (S.freeze H).M g = some (.cells cs t (0, 0)) := by
              rw [freeze_own ⟨b, by simp [St.at, hb, hg]⟩]; exact q3
            have hlen : ((es.take n).map fun e => e.map (closeC H d)).length = n := by simp; omega
            simp only [Rel]
            refine ⟨some ⟨g, 0, none⟩, cap, by rw [hlen], by rw [hlen]; exact hncap, by omega, fun k hk => hcs k hk, .inr ⟨g, 0, rfl, RelE.mk fun i e hi => ?_⟩⟩
            rw [List.getElem?_map, List.getElem?_take] at hi
            split at hi
            · cases hei : es[i]? with
              | none => rw [hei] at hi; cases hi
              | some e0 =>
                rw [hei] at hi
                simp only [Option.map_some, Option.some.injEq] at hi
                subst hi
                obtain ⟨l1, l2⟩ := q7 i e0 hei
                refine ⟨by simpa using l1, RelC.mk fun j a hj => ?_⟩
                rw [List.getElem?_map] at hj
                cases hej : e0[j]? with
                | none => rw [hej] at hj; cases hj
                | some a0 =>
                  rw [hej] at hj
                  simp only [Option.map_some, Option.some.injEq] at hj
                  subst hj
                  obtain ⟨w, hw, ho, hrw⟩ := l2 j a0 hej
                  refine ⟨w, ?_, ho, closeC_ok hok d a0 w ?_ hrw⟩
                  · show mcell (S.freeze H).M g (0 + i * s + j) = some w
                    simp only [mcell, hM, Nat.zero_add]
                    exact hw
                  · have h2 := List.all_eq_true.1 h.2 e0 (List.mem_of_getElem? (by rw [List.getElem?_take]; rw [if_pos (by assumption)]; exact hei))
                    exact List.all_eq_true.1 h2 a0 (List.mem_of_getElem? hej)
            · cases hi
    | _ => exact other rfl rfl
theorem closeL_ok {S : St} {H : List Blk} (hok : S.Ok H) (f : AV → AV) (k : AV → Bool) (hf : ∀ v u, k v = true → Rel (S.env H) v u → Rel ((S.freeze H).env []) (f v) u) {as : List AV} {vs : List Value} (h : as.all k = true) (hr : RelL (S.env H) as vs) : RelL ((S.freeze H).env []) (as.map f) vs := by
  refine RelL.mk (by simpa using hr.length) fun i a v ha hv => ?_
  rw [List.getElem?_map] at ha
  cases hx : as[i]? with
  | none => rw [hx] at ha; cases ha
  | some x =>
    rw [hx] at ha
    simp only [Option.map_some, Option.some.injEq] at ha
    subst ha
    obtain ⟨v', hv', hr'⟩ := hr.get hx
    rw [hv] at hv'; injection hv' with hv'; subst hv'
    exact hf x v (List.all_eq_true.1 h x (List.mem_of_getElem? hx)) hr'
theorem closeA_ok {S : St} {H : List Blk} (hok : S.Ok H) (d : Nat) (v : AV) (u : Value) (h : okA H d v = true) (hr : Rel (S.env H) v u) : Rel ((S.freeze H).env []) (closeA H d v) u := by
  have other : okA H d v = okC H d v → closeA H d v = closeC H d v → Rel ((S.freeze H).env []) (closeA H d v) u := fun h1 h2 => by
    rw [h2]; rw [h1] at h
    exact closeC_ok hok d v u h hr
  cases v with
  | agg cs =>
    simp only [okA, closeA, Rel] at *
    obtain ⟨vs, rfl, hl, h1⟩ := hr
    exact ⟨vs, rfl, closeL_ok hok _ _ (closeC_ok hok d) h hl, h1⟩
  | _ => exact other rfl rfl
theorem closeR_ok {S : St} {H : List Blk} (hok : S.Ok H) (d : Nat) (v : AV) (u : Value) (h : okR H d v = true) (hr : Rel (S.env H) v u) : Rel ((S.freeze H).env []) (closeR H d v) u := by
  have other : okR H d v = okA H d v → closeR H d v = closeA H d v → Rel ((S.freeze H).env []) (closeR H d v) u := fun h1 h2 => by
    rw [h2]; rw [h1] at h
    exact closeA_ok hok d v u h hr
  cases v with
  | tup cs =>
    simp only [okR, closeR, Rel] at *
    obtain ⟨vs, rfl, hl⟩ := hr
    exact ⟨vs, rfl, closeL_ok hok _ _ (closeA_ok hok d) h hl⟩
  | _ => exact other rfl rfl

theorem closes_all {H' : List Blk} {v : AV} (d : Nat) (h : okR H' d v = true) : Closes 0 H' v (closeR H' d v) [] := fun S' u hok _ hr =>
  ⟨S'.freeze H', rfl, freeze_ok hok, freeze_ext hok, closeR_ok hok d v u h hr⟩

end
end Go.V

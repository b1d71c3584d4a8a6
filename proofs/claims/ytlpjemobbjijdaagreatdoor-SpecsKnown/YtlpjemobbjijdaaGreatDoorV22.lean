/- The library V, part 22: an empty slice that is about to grow is looked at as an own row that lies nowhere yet. -/
import Derived.Test.YtlpjemobbjijdaaGreatDoorV17
import Derived.ProofKit
set_option linter.unusedVariables false
set_option linter.unusedSimpArgs false
namespace Go.V
open Go Go.RowKit
mutual
def AV.ids (p : Nat → Bool) : AV → Bool
 | .own b _ _ _ => p b
 | .ptr b _ _ _ => p b
 | .mp b => p b
 | .sub b _ _ _ => p b
 | .yld b => p b
 | .agg cs => idsL p cs
 | .tup cs => idsL p cs
 | .sl _ es _ => idsE p es
 | .iptr cs _ => idsL p cs
 | .fn _ cs => idsL p cs
 | .bnd _ cs => idsL p cs
 | .opt _ v => AV.ids p v
 | _ => true
def idsL (p : Nat → Bool) : List AV → Bool
 | [] => true
 | a :: as => AV.ids p a && idsL p as
def idsE (p : Nat → Bool) : List (List AV) → Bool
 | [] => true
 | e :: es => idsL p e && idsE p es
end
structure Env.agree (p : Nat → Bool) (E E' : Env) : Prop where
 M : ∀ k o, E.M k = some o → E'.M k = some o
 sh : ∀ b, p b = true → E'.sh b = E.sh b ∧ E'.μ b = E.μ b ∧ E'.ν b = E.ν b
mutual
theorem Rel.move {p : Nat → Bool} {E E' : Env} (h : E.agree p E') : ∀ (a : AV) (v : Value), a.ids p = true → Rel E a v → Rel E' a v
 | .int k n, v, _, hr => by simpa [Rel] using hr
 | .bool b, v, _, hr => by simpa [Rel] using hr
 | .str s, v, _, hr => by simpa [Rel] using hr
 | .agg cs, v, hi, hr => by
  simp only [Rel, AV.ids] at hr hi ⊢;obtain ⟨vs, hv, hl, h1⟩ := hr;exact ⟨vs, hv, RelL.move h cs vs hi hl, h1⟩
 | .tup cs, v, hi, hr => by
  simp only [Rel, AV.ids] at hr hi ⊢;obtain ⟨vs, hv, hl⟩ := hr;exact ⟨vs, hv, RelL.move h cs vs hi hl⟩
 | .sl s es c, v, hi, hr => by
  simp only [Rel, AV.ids] at hr hi ⊢;obtain ⟨a, cap, hv, h1, h2, h3, h4⟩ := hr;refine ⟨a, cap, hv, h1, h2, h3, ?_⟩;rcases h4 with h4|⟨g, off, ha, he⟩
  ·exact .inl h4
  ·exact .inr ⟨g, off, ha, RelE.move h s es g off hi he⟩
 | .own b n hh c, v, hi, hr => by
  simp only [Rel, AV.ids] at hr hi ⊢;obtain ⟨h1, h2, _⟩ := h.sh b hi;rw [h1, h2]; exact hr
 | .ptr b i o hh, v, hi, hr => by
  simp only [Rel, AV.ids] at hr hi ⊢;obtain ⟨h1, h2, _⟩ := h.sh b hi;rw [h1, h2]; exact hr
 | .iptr cs o, v, hi, hr => by
  simp only [Rel, AV.ids] at hr hi ⊢;obtain ⟨g, off, hv, hc⟩ := hr;exact ⟨g, off, hv, RelC.move h cs g off hi hc⟩
 | .fn f cap, v, hi, hr => by
  simp only [Rel, AV.ids] at hr hi ⊢;obtain ⟨vs, hv, hl⟩ := hr;exact ⟨vs, hv, RelL.move h cap vs hi hl⟩
 | .bnd f cap, v, hi, hr => by
  simp only [Rel, AV.ids] at hr hi ⊢;obtain ⟨vs, hv, hl⟩ := hr;exact ⟨vs, hv, RelL.move h cap vs hi hl⟩
 | .sub b i n hh, v, hi, hr => by
  simp only [Rel, AV.ids] at hr hi ⊢;obtain ⟨h1, h2, _⟩ := h.sh b hi;rw [h1, h2]; exact hr
 | .mp b, v, hi, hr => by
  simp only [Rel, AV.ids] at hr hi ⊢;rw [(h.sh b hi).2.2]; exact hr
 | .opt g w, v, hi, hr => by
  simp only [Rel, AV.ids] at hr hi ⊢;exact ⟨fun hg => Rel.move h w v hi (hr.1 hg), hr.2⟩
 | .lit u, v, _, hr => by simpa [Rel] using hr
 | .anyb, v, _, hr => by simpa [Rel] using hr
 | .anyi k, v, _, hr => by simpa [Rel] using hr
 | .err, v, _, hr => by simpa [Rel] using hr
 | .top, v, _, hr => by simp [Rel]
 | .yld b, v, hi, hr => by
  simp only [Rel, AV.ids] at hr hi ⊢;rw [(h.sh b hi).2.2]; exact hr
theorem RelL.move {p : Nat → Bool} {E E' : Env} (h : E.agree p E') : ∀ (as : List AV) (vs : List Value), idsL p as = true → RelL E as vs → RelL E' as vs
 | [], vs, _, hr => by simpa [RelL] using hr
 | a :: as, vs, hi, hr => by
  simp only [RelL, idsL, l'a] at hr hi ⊢;obtain ⟨u, us, hv, h1, h2⟩ := hr;exact ⟨u, us, hv, Rel.move h a u hi.1 h1, RelL.move h as us hi.2 h2⟩
theorem RelC.move {p : Nat → Bool} {E E' : Env} (h : E.agree p E') : ∀ (as : List AV) (g off : Nat), idsL p as = true → RelC E as g off → RelC E' as g off
 | [], g, off, _, hr => by simp [RelC]
 | a :: as, g, off, hi, hr => by
  simp only [RelC, idsL, l'a] at hr hi ⊢;obtain ⟨⟨u, hu, h1, hr1⟩, hr2⟩ := hr;exact ⟨⟨u, kaG9 h.M hu, h1, Rel.move h a u hi.1 hr1⟩, RelC.move h as g (off + 1) hi.2 hr2⟩
theorem RelE.move {p : Nat → Bool} {E E' : Env} (h : E.agree p E') (s : Nat) : ∀ (es : List (List AV)) (g off : Nat), idsE p es = true → RelE E s es g off → RelE E' s es g off
 | [], g, off, _, hr => by simp [RelE]
 | e :: es, g, off, hi, hr => by
  simp only [RelE, idsE, l'a] at hr hi ⊢;exact ⟨hr.1, RelC.move h e g off hi.1 hr.2.1, RelE.move h s es g (off + s) hi.2 hr.2.2⟩
end
def xU0 : Nat → Bool := fun _ => false
def AV.closed (v : AV) : Bool := v.ids xU0
theorem wv0 {E E' : Env} (h : ∀ k o, E.M k = some o → E'.M k = some o) : E.agree xU0 E' := ⟨h, fun b hb => by cases hb⟩
section lists
variable {p : Nat → Bool}
theorem kX0 (as : List AV) : idsL p as = true ↔ ∀ a ∈ as, a.ids p = true := by
 induction as with
 | nil => simp [idsL]
 | cons a as ih => simp [idsL, ih]
theorem zu0 (es : List (List AV)) : idsE p es = true ↔ ∀ e ∈ es, idsL p e = true := by
 induction es with
 | nil => simp [idsE]
 | cons e es ih => simp [idsE, ih]
theorem xx0 {α : Type} (xs : List α) (f : α → List AV) (h : ∀ x, idsL p (f x) = true) : idsE p (xs.map f) = true := by
 rw [zu0]; intro e he;obtain ⟨x, _, rfl⟩ := l'Z.1 he;exact h x
end lists
section
variable {P : Program} {G : Glob}
def PC (P : Program) (G : Glob) (f : FuncId) (args : List AV) (r : AV) : Prop := qb0 P G f args [] r []
theorem kh0 {f : FuncId} {args : List AV} {r : AV} (h : PC P G f args r) (hc : idsL xU0 args = true) (H : List Blk) : qb0 P G f args H r H := fun S vals hok hG ha => by
 let S0 : St := ⟨S.M, fun _ => none, fun _ => none, S.w⟩
 have hat0 : ∀ (T : St) b, T.at [] b = none := fun T b => by simp [St.at]
 have hok0 : S0.Ok [] := ⟨hok.imm, fun b s t es hb => by simp at hb, fun b ob0 hb => by simp at hb, fun b b' g hb => by rw [hat0] at hb; cases hb⟩;have hargs : RelL (S0.env []) args vals := RelL.move (wv0 (E := S.env H) (E' := S0.env []) fun k o q => q) _ _ hc ha;refine (h S0 vals hok0 hG hargs).mono fun e w' hh => ?_;obtain ⟨v, S1, rfl, rfl, hok1, hext, hr⟩ := hh;have howns : ∀ (T : St) k, ¬ T.Owns [] k := fun T k ⟨b, hb⟩ => by rw [hat0] at hb; cases hb
 let S' : St := ⟨S1.M, S.μ, S.ν, S1.w⟩
 have hsame : ∀ k, k < S.w.heap.size → S1.w.heap[k]? = S.w.heap[k]? := fun k hk => hext.keep k hk (howns _ _);have hMn : ∀ g, g < S.w.heap.size → S.M g = none → S1.M g = none := fun g hg hn => by
  cases hM : S1.M g with
  | none => rfl
  | some o =>
   rcases hext.dom g (by rw [hM]; simp) with q|q|q
   ·exact absurd hn q
   ·exact absurd q (howns _ _)
   ·exact absurd hg (by show ¬ g < S0.w.heap.size; omega)
 have hle : (S.env H).le (S'.env H) := ⟨hext.M, fun b s cur hb => ⟨cur, l'd _, hb, fun _ => rfl⟩, fun b g hb => hb⟩;have hok' : S'.Ok H := by
  refine ⟨hok1.imm, fun b s t es hb => ?_, fun b ob0 hb => ?_, fun b b' g hb hb' => hok.inj b b' g hb hb'⟩
  ·rcases hok.row b s t es hb with q|⟨g, k, cs, h1, h2, h3, h4, h5, h6, h7⟩
   ·exact .inl q
   ·have hlt := (l'n.1 h3).1;exact .inr ⟨g, k, cs, h1, hMn g hlt h2, (hsame g hlt).trans h3, h4, h5, h6, h7.mono hle⟩
  ·obtain ⟨g, ob1, h1, h2, h3, h4⟩ := hok.ob b ob0 hb;have hlt := (l'n.1 h3).1;exact ⟨g, ob1, h1, hMn g hlt h2, (hsame g hlt).trans h3, h4.mono hle⟩
 refine ⟨v, S', rfl, rfl, hok', ⟨hext.os, hext.tape, hext.output, hext.size, fun k hk _ => hsame k hk, hext.M, fun k hk => ?_, fun k hk => .inl hk, fun b s cur _ hb => ⟨cur, l'd _, hb, fun _ => rfl⟩, fun b g _ hb => hb, fun q => q⟩, ?_⟩
 ·rcases hext.dom k hk with q|q|q
  ·exact .inl q
  ·exact absurd q (howns _ _)
  ·exact .inr (.inr q)
 ·have hle2 : (S1.env []).le (S'.env H) := ⟨fun k o q => q, fun b s cur hb => by simp [St.env, shOf] at hb, fun b g hb => by simp [St.env, mpOf] at hb⟩;exact Rel.mono hle2 r v hr
def kan9 (P : Program) (a : List AV) (H : List Blk) : ResultVar → Bool × AV
 | .tmp t => ((getA a t).ok, (getA a t).strip)
 | .cell b t => ((getA a b).ok && (wQ0 P H t (getA a b).strip).1, (wQ0 P H t (getA a b).strip).2)
def ares (P : Program) (rs : List ResultVar) (a : List AV) (H : List Blk) : Bool × AV :=
 match rs with
 | [r] => kan9 P a H r
 | rs => (rs.all fun r => (kan9 P a H r).1, .tup (rs.map fun r => (kan9 P a H r).2))
theorem vcE9 {S : St} {H : List Blk} {a : List AV} {ts : Array Value} (hok : S.Ok H) (ha : RelL (S.env H) a ts.toList) (r : ResultVar) (h : (kan9 P a H r).1 = true) :
  ∃ v, (match r with|.tmp t => pure (ts.getD t undef)|.cell a t => do loadVar t (← asAddr (ts.getD a undef)) : Sem Value).run P S.w = .ok v S.w ∧ Rel (S.env H) (kan9 P a H r).2 v := by
 cases r with
 | tmp t => exact ⟨_, rfl, (vap9 ha t).strip h⟩
 | cell b t =>
  simp only [kan9, l'a] at h ⊢;have hr := (vap9 ha b).strip h.1;obtain ⟨u, hu, hru⟩ := vbA9 (P := P) hok hr h.2;refine ⟨u, ?_, hru⟩;have hp : ∃ ad, ts.getD b undef = .pointer (some ad) := by
   have h2 := h.2;unfold wQ0 at h2;cases hT : xb0 P t with
   | none => rw [hT] at h2; cases h2
   | some T =>
    simp only [hT] at h2;generalize (getA a b).strip = x at h2 hr;cases x with
    | ptr b' i o hh =>
     simp only at h2;cases hb : H[b']? with
     | none => rw [hb] at h2; cases h2
     | some B =>
      cases B with
      | ob _ => rw [hb] at h2; cases h2
      | row s bt es =>
       simp only [hb, l'a, decide_eq_true_eq] at h2;obtain ⟨s', g, k, _, _, hv⟩ := wC0 hr (by simp [vg0, xl0 hb, h2.1.1]);exact ⟨_, hv⟩
    | iptr cs o =>
     simp only [Rel] at hr;obtain ⟨g, off, hv, _⟩ := hr;exact ⟨_, hv⟩
    | _ => simp only at h2; cases h2
  obtain ⟨ad, had⟩ := hp;rw [had] at hu ⊢;simpa [Instr.loadAt, Instr.sureAddr, asAddr] using hu
theorem qca9 {S : St} {H : List Blk} {a : List AV} {ts : Array Value} {fn : Func} (hok : S.Ok H) (ha : RelL (S.env H) a ts.toList) (h : (ares P fn.results.toList a H).1 = true) :
  ∃ v, (results fn ts).run P S.w = .ok v S.w ∧ Rel (S.env H) (ares P fn.results.toList a H).2 v := by
 have hm : ∀ rs : List ResultVar, (rs.all fun r => (kan9 P a H r).1) = true → ∃ vs : List Value, (rs.mapM fun r => (match r with|.tmp t => pure (ts.getD t undef)|.cell a t => do loadVar t (← asAddr (ts.getD a undef)) : Sem Value)).run P S.w = .ok vs S.w ∧ RelL (S.env H) (rs.map fun r => (kan9 P a H r).2) vs := by
  intro rs;induction rs with
  | nil => intro _; exact ⟨[], by simp, by simp [RelL]⟩
  | cons r rs ih =>
   intro hall;simp only [List.all_cons, l'a] at hall;obtain ⟨v, hv, hr⟩ := vcE9 hok ha r hall.1;obtain ⟨vs, hvs, hrs⟩ := ih hall.2;refine ⟨v :: vs, ?_, ?_⟩
   ·simp only [List.mapM_cons, Sem.run_bind, hv, hvs, Result.andThen_ok, Sem.run_pure]
   ·simp only [List.map_cons, RelL]; exact ⟨v, vs, rfl, hr, hrs⟩
 have hall : (fn.results.toList.all fun r => (kan9 P a H r).1) = true := by
  unfold ares at h;split at h
  ·rename_i r hrs; simp only [hrs, List.all_cons, List.all_nil, n'B]; exact h
  ·exact h
 obtain ⟨vs, hvs, hrs⟩ := hm _ hall;have hl : vs.length = fn.results.toList.length := by rw [← hrs.length]; simp
 have hrun : (results fn ts).run P S.w = .ok (if h : vs.toArray.size = 1 then vs.toArray[0] else .tuple vs.toArray) S.w := by
  unfold results;rw [Array.mapM_eq_mapM_toList];simp only [Sem.run_bind, Sem.run_map]
  erw [hvs]
  rfl
 rw [hrun];refine ⟨_, rfl, ?_⟩;unfold ares;split
 ·rename_i r hrs';rw [hrs'] at hrs hl;simp only [List.map_cons, List.map_nil, RelL] at hrs;obtain ⟨u, us, rfl, hr, rfl⟩ := hrs;simpa using hr
 ·rename_i hne;have : ¬ vs.toArray.size = 1 := by
   intro hv;simp only [n'N] at hv;rw [hl] at hv;obtain ⟨r, hr⟩ := List.length_eq_one_iff.1 hv;exact hne r hr
  rw [dif_neg this];simp only [Rel];exact ⟨vs, rfl, hrs⟩
def Closes (n0 : Nat) (H' : List Blk) (v : AV) (r : AV) (Hf : List Blk) : Prop :=
 ∀ (S' : St) (u : Value), S'.Ok H' → n0 ≤ H'.length → Rel (S'.env H') v u → ∃ S'', S''.w = S'.w ∧ S''.Ok Hf ∧ Ext n0 S' H' S'' Hf ∧ Rel (S''.env Hf) r u
def Fin (P : Program) (fn : Func) (n0 : Nat) (r : AV) (Hf : List Blk) : Post := fun e a' H' =>
 (e = .normal ∨ e = .ret) ∧ (ares P fn.results.toList a' H').1 = true ∧ Closes n0 H' (ares P fn.results.toList a' H').2 r Hf
def St.shut (S : St) (g : Nat) (o : Obj) : St := { S with w := S.w.putObj g o }
theorem kag9 {S : St} {H : List Blk} {g : Nat} (hok : S.Ok H) (hf : S.Free H g) (o : Obj) : (S.shut g o).Ok H := by
 have hne : ∀ b k, S.at H b = some k → k ≠ g := fun b k hb e => hf.1 ⟨b, by rw [← e]; exact hb⟩;have hother : ∀ k, k ≠ g → (S.shut g o).w.heap[k]? = S.w.heap[k]? := fun k hk => World.putObj_heap_other hk;refine ⟨fun k o' hk => ?_, fun b s t es hb => ?_, fun b x hb => ?_, hok.inj⟩
 ·have : k ≠ g := fun e => by rw [e] at hk; exact absurd hk (by show ¬ S.M g = some o'; rw [hf.2]; simp)
  exact (hother k this).trans (hok.imm k o' hk)
 ·rcases hok.row b s t es hb with q|⟨g', k, cs, h1, h2, h3, h4⟩
  ·exact .inl q
  ·exact .inr ⟨g', k, cs, h1, h2, (hother g' (hne b g' (by simp [St.at, hb, h1]))).trans h3, h4⟩
 ·obtain ⟨g', ob1, h1, h2, h3, h4⟩ := hok.ob b x hb;exact ⟨g', ob1, h1, h2, (hother g' (hne b g' (by simp [St.at, hb, h1]))).trans h3, h4⟩
theorem zaq9 {S0 S : St} {n0 : Nat} {H0 H : List Blk} {g : Nat} (h : Ext n0 S0 H0 S H) (hg : S0.w.heap.size ≤ g) (o : Obj) : Ext n0 S0 H0 (S.shut g o) H :=
 { h with
  size := by simpa [St.shut] using h.size
  keep := fun k hk hn => (World.putObj_heap_other (by omega)).trans (h.keep k hk hn) }
theorem xK0 {S0 : St} {n0 : Nat} {H0 H : List Blk} {fn : Func} {ts : Array Value} {R : Ending → World → Prop} : ∀ (Ds : List Nat) (S : St), S.Ok H → Ext n0 S0 H0 S H → Ds.Pairwise (fun x y => y < x) → (∀ g ∈ Ds, S0.w.heap.size ≤ g ∧ S.Free H g ∧ S.w.heap[g]? = some (.deferred (some []))) →
  (∀ S' : St, S'.Ok H → Ext n0 S0 H0 S' H → S'.M = S.M → S'.μ = S.μ → S'.ν = S.ν → ∃ v, (results fn ts).run P S'.w = .ok v S'.w ∧ R (.returned v) S'.w) → LeavesInM Fence.wide 0 P fn ts R (Ds.map mark) .returning S.w
 | [], S, hok, hext, _, _, hR => by
  obtain ⟨v, h1, h2⟩ := hR S hok hext rfl rfl rfl;exact ⟨v, h1, h2⟩
 | g :: Ds, S, hok, hext, hp, hq, hR => by
  obtain ⟨q1, q2, q3⟩ := hq g (by simp);rw [n'K] at hp;refine ⟨by simp, .inl ⟨g, _, rfl, run_takeDeferred q3, ?_⟩⟩;exact xK0 Ds (S.shut g (.deferred none)) (kag9 hok q2 _) (zaq9 hext q1 _) hp.2 (fun g' hg' => by
   obtain ⟨r1, r2, r3⟩ := hq g' (by simp [hg']);have := hp.1 g' hg';exact ⟨r1, r2, (World.putObj_heap_other (by omega)).trans r3⟩) hR
theorem qY0 {f : FuncId} {fn : Func} {c : Code} {args : List AV} {H Hf : List Blk} {r : AV} (hf : P.funcs[f]? = some fn) (hb : fn.body = some c)
  (h : AWp false P G H.length c (Fin P fn H.length r Hf) (args ++ List.replicate (fn.ntmps - args.length) (.tup [])) H) : qb0 P G f args H r Hf := fun S vals hok hG ha => by
 have hl := ha.length;have hw := h none S { tmps := vals.toArray ++ Array.replicate (fn.ntmps - vals.toArray.size) undef, defers := [] } rfl hok hG (l'd _) (by
  simp only [z'b, n'P, n'N, hl];exact ha.append (RelL.replicate (by simp [Rel, RelL, undef]) _))
 refine (callsIn_wide (n := 0)).1 (callsIn_of_wp_marks (F := Fence.wide) hf hb trivial (wpIn_mono hw fun e act w hE => ?_));obtain ⟨a', H', S', rfl, ⟨he, har, hcl⟩, hok', hext, ha', Ds, hd, hp, hq⟩ := hE;have key : LeavesInM Fence.wide 0 P fn act.tmps (fun e w' => ∃ v S', e = .returned v ∧ S'.w = w' ∧ S'.Ok Hf ∧ Ext H.length S H S' Hf ∧ Rel (S'.env Hf) r v) act.defers .returning S'.w := by
  rw [hd, l'F];refine xK0 Ds S' hok' hext hp hq fun T tok text tM tμ tν => ?_;have henv : T.env H' = S'.env H' := by simp only [St.env, tM, tμ, tν]
  obtain ⟨v, hv, hr⟩ := qca9 tok (by rw [henv]; exact ha') har;obtain ⟨S'', e1, e2, e3, e4⟩ := hcl T v tok (hext.len (l'd _)) hr;exact ⟨v, hv, v, S'', rfl, e1, e2, text.trans e3, e4⟩
 rcases he with rfl|rfl
 ·exact key
 ·exact key
def wg0 (H : List Blk) : Nat → AV → AV
 | 0, v => v
 | d + 1, .own b n h c =>
  match H[b]? with
  | some (.row s _ es) => .sl s ((es.take n).map fun e => e.map (wg0 H d)) c
  | _ => .own b n h c
 | d + 1, .ptr b i o h =>
  match H[b]? with
  | some (.row _ _ es) => .iptr ((es.getD i []).map (wg0 H d)) o
  | _ => .ptr b i o h
 | d + 1, .fn f cap => .fn f (cap.map (wg0 H d))
 | _ + 1, v => v
def okC (H : List Blk) : Nat → AV → Bool
 | 0, v => v.closed
 | d + 1, .own b n h c => vg0 H b h && (match H[b]? with|some (.row _ _ es) => (es.take n).all fun e => e.all (okC H d)|_ => false)
 | d + 1, .ptr b i o h => vg0 H b h && (match H[b]? with|some (.row _ _ es) => decide (i < es.length) && (es.getD i []).all (okC H d)|_ => false)
 | d + 1, .fn f cap => cap.all (okC H d)
 | _ + 1, v => v.closed
def vw0 (H : List Blk) (d : Nat) : AV → AV
 | .agg cs => .agg (cs.map (wg0 H d))
 | v => wg0 H d v
def okA (H : List Blk) (d : Nat) : AV → Bool
 | .agg cs => cs.all (okC H d)
 | v => okC H d v
def wR0 (H : List Blk) (d : Nat) : AV → AV
 | .tup vs => .tup (vs.map (vw0 H d))
 | v => vw0 H d v
def okR (H : List Blk) (d : Nat) : AV → Bool
 | .tup vs => vs.all (okA H d)
 | v => okA H d v
open Classical in
noncomputable def St.freeze (S : St) (H : List Blk) : St := { S with M := fun k => if S.Owns H k then S.w.heap[k]? else S.M k, μ := fun _ => none, ν := fun _ => none }
theorem zY0 {S : St} {H : List Blk} (hok : S.Ok H) {k : Nat} {o : Obj} (h : S.M k = some o) : (S.freeze H).M k = some o := by
 simp only [St.freeze];split
 ·exact hok.imm k o h
 ·exact h
theorem qah9 {S : St} {H : List Blk} {k : Nat} (h : S.Owns H k) : (S.freeze H).M k = S.w.heap[k]? := by
 simp only [St.freeze]; rw [if_pos h]
theorem qaw9 {S : St} {H : List Blk} (hok : S.Ok H) : (S.freeze H).Ok [] := by
 refine ⟨fun k o hk => ?_, fun b s t es hb => by simp at hb, fun b ob0 hb => by simp at hb, fun b b' g hb => by simp [St.at] at hb⟩;simp only [St.freeze] at hk ⊢;split at hk
 ·exact hk
 ·exact hok.imm k o hk
theorem wbM9 {S : St} {H : List Blk} (hok : S.Ok H) : Ext 0 S H (S.freeze H) [] where
 os := rfl
 tape := rfl
 output := rfl
 size := l'd _
 keep _ _ _ := rfl
 M k o h := zY0 hok h
 dom k h := by
  simp only [St.freeze] at h;split at h
  ·rename_i ho; exact .inr (.inl ho)
  ·exact .inl h
 own k h := by obtain ⟨b, hb⟩ := h; simp [St.at] at hb
 sh b s cur hb := by omega
 ν b g hb := by omega
 len _ := by omega
theorem kD0 {S : St} {H : List Blk} (hok : S.Ok H) : ∀ (d : Nat) (v : AV) (u : Value), okC H d v = true → Rel (S.env H) v u → Rel ((S.freeze H).env []) (wg0 H d v) u
 | 0, v, u, h, hr => by
  simp only [okC, wg0] at *;exact Rel.move (wv0 fun k o => zY0 hok) v u h hr
 | d + 1, v, u, h, hr => by
  have other : okC H (d + 1) v = v.closed → wg0 H (d + 1) v = v → Rel ((S.freeze H).env []) (wg0 H (d + 1) v) u := fun h1 h2 => by
   rw [h2]; rw [h1] at h;exact Rel.move (wv0 fun k o => zY0 hok) v u h hr
  cases v with
  | own b n hh c =>
   simp only [okC, l'a] at h;cases hb : H[b]? with
   | none => rw [hb] at h; cases h.2
   | some B =>
    cases B with
    | ob _ => rw [hb] at h; cases h.2
    | row s t es =>
     simp only [hb] at h;simp only [wg0, hb];obtain ⟨s', hs, hn, hcase⟩ := kp0 hr h.1;rw [xl0 hb] at hs; injection hs with hs; injection hs with e1 e2; subst e1
     rcases hcase with ⟨_, ⟨a0, rfl⟩, rfl, hc⟩|⟨g, k, cap, hg, rfl, hncap, hcapk, hcn, hcs⟩
     ·simp only [Rel];refine ⟨a0, 0, by simp, by simp, by simp [maxLen], fun k hk => ?_, .inl (by simp)⟩;rcases hc with rfl|rfl
      ·cases hk
      ·injection hk
     ·obtain ⟨g0, k0, cs, q1, q2, q3, q4, q5, q6, q7⟩ := (hok.row b s t es hb).resolve_left (fun q => by rw [q.1] at hg; cases hg);rw [hg] at q1; injection q1 with q1; injection q1 with e1 e3; subst e1; subst e3
      have hM : (S.freeze H).M g = some (.cells cs t (0, 0)) := by
       rw [qah9 ⟨b, by simp [St.at, hb, hg]⟩]; exact q3
      have hlen : ((es.take n).map fun e => e.map (wg0 H d)).length = n := by simp; omega
      simp only [Rel];refine ⟨some ⟨g, 0, none⟩, cap, by rw [hlen], by rw [hlen]; exact hncap, by omega, fun k hk => hcs k hk, .inr ⟨g, 0, rfl, RelE.mk fun i e hi => ?_⟩⟩;rw [l'k, l'u] at hi;split at hi
      ·cases hei : es[i]? with
       | none => rw [hei] at hi; cases hi
       | some e0 =>
        rw [hei] at hi;simp only [Option.map_some, Option.some.injEq] at hi;subst hi;obtain ⟨l1, l2⟩ := q7 i e0 hei;refine ⟨by simpa using l1, RelC.mk fun j a hj => ?_⟩;rw [l'k] at hj;cases hej : e0[j]? with
        | none => rw [hej] at hj; cases hj
        | some a0 =>
         rw [hej] at hj;simp only [Option.map_some, Option.some.injEq] at hj;subst hj;obtain ⟨w, hw, ho, hrw⟩ := l2 j a0 hej;refine ⟨w, ?_, ho, kD0 hok d a0 w ?_ hrw⟩
         ·show qv0 (S.freeze H).M g (0 + i * s + j) = some w;simp only [qv0, hM, l'g];exact hw
         ·have h2 := l'j.1 h.2 e0 (l'l (by rw [l'u]; rw [if_pos (by assumption)]; exact hei));exact l'j.1 h2 a0 (l'l hej)
      ·cases hi
  | ptr b i o hh =>
   simp only [okC, l'a] at h;cases hb : H[b]? with
   | none => rw [hb] at h; cases h.2
   | some B =>
    cases B with
    | ob _ => rw [hb] at h; cases h.2
    | row s t es =>
     simp only [hb, l'a, decide_eq_true_eq] at h;simp only [wg0, hb];obtain ⟨s', g, k, hs, hg, rfl⟩ := wC0 hr h.1;rw [xl0 hb] at hs; injection hs with hs; injection hs with e1 e2; subst e1
     obtain ⟨g0, k0, cs, q1, q2, q3, q4, q5, q6, q7⟩ := (hok.row b s t es hb).resolve_left (fun q => by rw [q.1] at hg; cases hg);rw [hg] at q1; injection q1 with q1; injection q1 with e1 e3; subst e1; subst e3
     have hM : (S.freeze H).M g = some (.cells cs t (0, 0)) := by
      rw [qah9 ⟨b, by simp [St.at, hb, hg]⟩]; exact q3
     have hei : es[i]? = some (es.getD i []) := by
      rw [l'b, l'e h.2.1]; rfl
     obtain ⟨l1, l2⟩ := q7 i _ hei;simp only [Rel];refine ⟨g, i * s, rfl, RelC.mk fun j a hj => ?_⟩;rw [l'k] at hj;cases hej : (es.getD i [])[j]? with
     | none => rw [hej] at hj; cases hj
     | some a0 =>
      rw [hej] at hj;simp only [Option.map_some, Option.some.injEq] at hj;subst hj;obtain ⟨w, hw, ho, hrw⟩ := l2 j a0 hej;refine ⟨w, ?_, ho, kD0 hok d a0 w (l'j.1 h.2.2 a0 (l'l hej)) hrw⟩;show qv0 (S.freeze H).M g (i * s + j) = some w;simp only [qv0, hM];exact hw
  | fn f cap =>
   simp only [okC] at h;simp only [wg0, Rel] at hr ⊢;obtain ⟨vs, rfl, hl⟩ := hr;refine ⟨vs, rfl, RelL.mk (by simpa using hl.length) fun i a v ha hv => ?_⟩;rw [l'k] at ha;cases hx : cap[i]? with
   | none => rw [hx] at ha; cases ha
   | some x =>
    rw [hx] at ha;simp only [Option.map_some, Option.some.injEq] at ha;subst ha;obtain ⟨v', hv', hr'⟩ := hl.get hx;rw [hv] at hv'; injection hv' with hv'; subst hv'
    exact kD0 hok d x v (l'j.1 h x (l'l hx)) hr'
  | _ => exact other rfl rfl
theorem zaw9 {S : St} {H : List Blk} (hok : S.Ok H) (f : AV → AV) (k : AV → Bool) (hf : ∀ v u, k v = true → Rel (S.env H) v u → Rel ((S.freeze H).env []) (f v) u) {as : List AV} {vs : List Value} (h : as.all k = true) (hr : RelL (S.env H) as vs) : RelL ((S.freeze H).env []) (as.map f) vs := by
 refine RelL.mk (by simpa using hr.length) fun i a v ha hv => ?_;rw [l'k] at ha;cases hx : as[i]? with
 | none => rw [hx] at ha; cases ha
 | some x =>
  rw [hx] at ha;simp only [Option.map_some, Option.some.injEq] at ha;subst ha;obtain ⟨v', hv', hr'⟩ := hr.get hx;rw [hv] at hv'; injection hv' with hv'; subst hv'
  exact hf x v (l'j.1 h x (l'l hx)) hr'
theorem xY0 {S : St} {H : List Blk} (hok : S.Ok H) (d : Nat) (v : AV) (u : Value) (h : okA H d v = true) (hr : Rel (S.env H) v u) : Rel ((S.freeze H).env []) (vw0 H d v) u := by
 have other : okA H d v = okC H d v → vw0 H d v = wg0 H d v → Rel ((S.freeze H).env []) (vw0 H d v) u := fun h1 h2 => by
  rw [h2]; rw [h1] at h;exact kD0 hok d v u h hr
 cases v with
 | agg cs =>
  simp only [okA, vw0, Rel] at *;obtain ⟨vs, rfl, hl, h1⟩ := hr;exact ⟨vs, rfl, zaw9 hok _ _ (kD0 hok d) h hl, h1⟩
 | _ => exact other rfl rfl
theorem zca9 {S : St} {H : List Blk} (hok : S.Ok H) (d : Nat) (v : AV) (u : Value) (h : okR H d v = true) (hr : Rel (S.env H) v u) : Rel ((S.freeze H).env []) (wR0 H d v) u := by
 have other : okR H d v = okA H d v → wR0 H d v = vw0 H d v → Rel ((S.freeze H).env []) (wR0 H d v) u := fun h1 h2 => by
  rw [h2]; rw [h1] at h;exact xY0 hok d v u h hr
 cases v with
 | tup cs =>
  simp only [okR, wR0, Rel] at *;obtain ⟨vs, rfl, hl⟩ := hr;exact ⟨vs, rfl, zaw9 hok _ _ (xY0 hok d) h hl⟩
 | _ => exact other rfl rfl
theorem kaI9 {H' : List Blk} {v : AV} (d : Nat) (h : okR H' d v = true) : Closes 0 H' v (wR0 H' d v) [] := fun S' u hok _ hr =>
 ⟨S'.freeze H', rfl, qaw9 hok, wbM9 hok, zca9 hok d v u h hr⟩
end
section
variable {ρ : Bool} {P : Program} {G : Glob} {n0 : Nat} {Q : Post} {a : List AV} {H : List Blk}
def xbb9 (a : List AV) : Nat → List AV → Prop
 | _, [] => True
 | k, x :: xs => getA a k = x ∧ xbb9 a (k + 1) xs
theorem vv0 (pre args : List AV) (m : Nat) : xbb9 (pre ++ (args ++ List.replicate m (.tup []))) pre.length args := by
 induction args generalizing pre with
 | nil => trivial
 | cons x xs ih =>
  refine ⟨by simp [getA, l'b], ?_⟩;have := ih (pre ++ [x]);simpa using this
def eqv1 : List AV → List AV → Prop
 | [], [] => True
 | a :: as, b :: bs => (match a, b with|.sl s es c, .sl s' es' c' => (es = [] ∨ s = s') ∧ es = es' ∧ c = c'|a, b => a = b) ∧ eqv1 as bs
 | _, _ => False
def eqvL : List AV → List AV → Prop
 | [], [] => True
 | a :: as, b :: bs => (match a, b with|.sl s es c, .sl s' es' c' => (es = [] ∨ s = s') ∧ es = es' ∧ c = c'|.agg xs, .agg ys => eqv1 xs ys|a, b => a = b) ∧ eqvL as bs
 | _, _ => False
def AV.eqv : AV → AV → Prop
 | .sl s es c, b => match b with|.sl s' es' c' => (es = [] ∨ s = s') ∧ es = es' ∧ c = c'|_ => False
 | .tup as, b => match b with|.tup bs => eqvL as bs|_ => False
 | .agg as, b => match b with|.agg bs => eqvL as bs|_ => False
 | a, b => a = b
theorem zah9 {E : Env} {s s' : Nat} {es es' : List (List AV)} {c c' : Option Nat} {v : Value} (h : (es = [] ∨ s = s') ∧ es = es' ∧ c = c') (hr : Rel E (.sl s es c) v) : Rel E (.sl s' es' c') v := by
 obtain ⟨h, rfl, rfl⟩ := h;rcases h with rfl|rfl
 ·simp only [Rel] at hr ⊢;obtain ⟨a, cap, h1, h2, h3, h4, _⟩ := hr;exact ⟨a, cap, h1, h2, h3, h4, by simp⟩
 ·exact hr
theorem qbC9 {E : Env} : ∀ {as bs : List AV} {vs : List Value}, eqv1 as bs → RelL E as vs → RelL E bs vs
 | [], [], _, _, hr => hr
 | [], _ :: _, _, h, _ => h.elim
 | _ :: _, [], _, h, _ => h.elim
 | a :: as, b :: bs, vs, h, hr => by
  simp only [eqv1] at h;simp only [RelL] at hr ⊢;obtain ⟨u, us, rfl, h1, h2⟩ := hr;refine ⟨u, us, rfl, ?_, qbC9 h.2 h2⟩;have h0 := h.1;split at h0
  ·exact zah9 h0 h1
  ·subst h0; exact h1
theorem waQ9 {E : Env} : ∀ {as bs : List AV} {vs : List Value}, eqvL as bs → RelL E as vs → RelL E bs vs
 | [], [], _, _, hr => hr
 | [], _ :: _, _, h, _ => h.elim
 | _ :: _, [], _, h, _ => h.elim
 | a :: as, b :: bs, vs, h, hr => by
  simp only [eqvL] at h;simp only [RelL] at hr ⊢;obtain ⟨u, us, rfl, h1, h2⟩ := hr;refine ⟨u, us, rfl, ?_, waQ9 h.2 h2⟩;have h0 := h.1;split at h0
  ·exact zah9 h0 h1
  ·simp only [Rel] at h1 ⊢;obtain ⟨vs, hv, hl, ho⟩ := h1;exact ⟨vs, hv, qbC9 h0 hl, ho⟩
  ·subst h0; exact h1
theorem vdi9 {E : Env} {a b : AV} {v : Value} (h : a.eqv b) (hr : Rel E a v) : Rel E b v := by
 unfold AV.eqv at h;split at h
 ·split at h
  ·exact zah9 h hr
  ·exact h.elim
 ·split at h
  ·simp only [Rel] at hr ⊢;obtain ⟨vs, hv, hl⟩ := hr;exact ⟨vs, hv, waQ9 h hl⟩
  ·exact h.elim
 ·split at h
  ·simp only [Rel] at hr ⊢;obtain ⟨vs, hv, hl, ho⟩ := hr;exact ⟨vs, hv, waQ9 h hl, ho⟩
  ·exact h.elim
 ·subst h; exact hr
theorem Closes.eqv {n0 : Nat} {H' Hf : List Blk} {v r r' : AV} (h : Closes n0 H' v r Hf) (he : r.eqv r') : Closes n0 H' v r' Hf := fun S' u h1 h2 h3 =>
 let ⟨S'', e1, e2, e3, e4⟩ := h S' u h1 h2 h3
 ⟨S'', e1, e2, e3, vdi9 he e4⟩
theorem wdB9 (s s' : Nat) (es es' : List (List AV)) (c c' : Option Nat) : (AV.sl s es c).eqv (.sl s' es' c') = ((es = [] ∨ s = s') ∧ es = es' ∧ c = c') := rfl
theorem kdi9 (as bs : List AV) : (AV.tup as).eqv (.tup bs) = eqvL as bs := rfl
theorem qdj9 (as bs : List AV) : (AV.agg as).eqv (.agg bs) = eqvL as bs := rfl
theorem zdj9 (k : IntKind) (n : Int) (b : AV) : (AV.int k n).eqv b = (.int k n = b) := rfl
theorem kcE9 (n : Bool) (b : AV) : (AV.bool n).eqv b = (.bool n = b) := rfl
theorem xdj9 (n : List UInt8) (b : AV) : (AV.str n).eqv b = (.str n = b) := rfl
theorem wdj9 (x n h : Nat) (c : Option Nat) (b : AV) : (AV.own x n h c).eqv b = (.own x n h c = b) := rfl
theorem vdj9 (x n h o : Nat) (b : AV) : (AV.ptr x n h o).eqv b = (.ptr x n h o = b) := rfl
theorem qcF9 (cs : List AV) (o : Nat) (b : AV) : (AV.iptr cs o).eqv b = (.iptr cs o = b) := rfl
theorem vdB9 (f : FuncId) (cs : List AV) (b : AV) : (AV.fn f cs).eqv b = (.fn f cs = b) := rfl
theorem kdB9 (x : Nat) (b : AV) : (AV.mp x).eqv b = (.mp x = b) := rfl
theorem kdj9 (x : Nat) (b : AV) : (AV.yld x).eqv b = (.yld x = b) := rfl
theorem qdk9 (x : Value) (b : AV) : (AV.lit x).eqv b = (.lit x = b) := rfl
theorem zdk9 (b : AV) : AV.err.eqv b = (.err = b) := rfl
theorem qdC9 : eqvL [] [] = True := rfl
theorem vbM9 (s s' : Nat) (es es' : List (List AV)) (c c' : Option Nat) (as bs : List AV) : eqvL (.sl s es c :: as) (.sl s' es' c' :: bs) = (((es = [] ∨ s = s') ∧ es = es' ∧ c = c') ∧ eqvL as bs) := rfl
theorem qbp9 (xs ys : List AV) (as bs : List AV) : eqvL (.agg xs :: as) (.agg ys :: bs) = (eqv1 xs ys ∧ eqvL as bs) := rfl
theorem zbp9 (k : IntKind) (n : Int) (b : AV) (as bs : List AV) : eqvL (.int k n :: as) (b :: bs) = (.int k n = b ∧ eqvL as bs) := rfl
theorem wbb9 (n : Bool) (b : AV) (as bs : List AV) : eqvL (.bool n :: as) (b :: bs) = (.bool n = b ∧ eqvL as bs) := rfl
theorem xbp9 (n : List UInt8) (b : AV) (as bs : List AV) : eqvL (.str n :: as) (b :: bs) = (.str n = b ∧ eqvL as bs) := rfl
theorem wbp9 (x n h : Nat) (c : Option Nat) (b : AV) (as bs : List AV) : eqvL (.own x n h c :: as) (b :: bs) = (.own x n h c = b ∧ eqvL as bs) := rfl
theorem vbp9 (x n h o : Nat) (b : AV) (as bs : List AV) : eqvL (.ptr x n h o :: as) (b :: bs) = (.ptr x n h o = b ∧ eqvL as bs) := rfl
theorem vbb9 (cs : List AV) (o : Nat) (b : AV) (as bs : List AV) : eqvL (.iptr cs o :: as) (b :: bs) = (.iptr cs o = b ∧ eqvL as bs) := rfl
theorem kbM9 (f : FuncId) (cs : List AV) (b : AV) (as bs : List AV) : eqvL (.fn f cs :: as) (b :: bs) = (.fn f cs = b ∧ eqvL as bs) := rfl
theorem qbN9 (x : Nat) (b : AV) (as bs : List AV) : eqvL (.mp x :: as) (b :: bs) = (.mp x = b ∧ eqvL as bs) := rfl
theorem kbp9 (x : Nat) (b : AV) (as bs : List AV) : eqvL (.yld x :: as) (b :: bs) = (.yld x = b ∧ eqvL as bs) := rfl
theorem qbq9 (x : Value) (b : AV) (as bs : List AV) : eqvL (.lit x :: as) (b :: bs) = (.lit x = b ∧ eqvL as bs) := rfl
theorem zbq9 (b : AV) (as bs : List AV) : eqvL (.err :: as) (b :: bs) = (.err = b ∧ eqvL as bs) := rfl
theorem xdk9 : eqv1 [] [] = True := rfl
theorem xbq9 (s s' : Nat) (es es' : List (List AV)) (c c' : Option Nat) (as bs : List AV) : eqv1 (.sl s es c :: as) (.sl s' es' c' :: bs) = (((es = [] ∨ s = s') ∧ es = es' ∧ c = c') ∧ eqv1 as bs) := rfl
theorem kbb9 (k : IntKind) (n : Int) (b : AV) (as bs : List AV) : eqv1 (.int k n :: as) (b :: bs) = (.int k n = b ∧ eqv1 as bs) := rfl
theorem vaQ9 (n : Bool) (b : AV) (as bs : List AV) : eqv1 (.bool n :: as) (b :: bs) = (.bool n = b ∧ eqv1 as bs) := rfl
theorem qbc9 (n : List UInt8) (b : AV) (as bs : List AV) : eqv1 (.str n :: as) (b :: bs) = (.str n = b ∧ eqv1 as bs) := rfl
def Done (P : Program) (rs : List ResultVar) (d : Nat) (r : AV) : Post := fun e a' H' =>
 (e = .normal ∨ e = .ret) ∧ (ares P rs a' H').1 = true ∧ okR H' d (ares P rs a' H').2 = true ∧ (wR0 H' d (ares P rs a' H').2).eqv r
theorem zcF9 {f : FuncId} {fn : Func} {c : Code} {args : List AV} {r : AV} (d n : Nat) (rs : List ResultVar) (hf : P.funcs[f]? = some fn) (hb : fn.body = some c) (hn : fn.ntmps = n) (hrs : fn.results.toList = rs) (hl : args.length ≤ n)
  (h : ∀ a, a.length = n → xbb9 a 0 args → AWp false P G 0 c (Done P rs d r) a []) : PC P G f args r := by
 refine qY0 hf hb (qu0 (h _ ?_ (by simpa using vv0 [] args _)) fun e a' H' ⟨h1, h2, h3, h4⟩ => ⟨h1, by rw [hrs]; exact h2, by rw [hrs]; exact (kaI9 d h3).eqv h4⟩);simp [hn]; omega
def zdC9 (P : Program) (rs : List ResultVar) (r : AV) (Hf : List Blk) : Post := fun e a' H' =>
 (e = .normal ∨ e = .ret) ∧ (ares P rs a' H').1 = true ∧ ((ares P rs a' H').2).eqv r ∧ H' = Hf
theorem zbc9 {f : FuncId} {fn : Func} {c : Code} {args : List AV} {H Hf : List Blk} {r : AV} (n : Nat) (rs : List ResultVar) (hf : P.funcs[f]? = some fn) (hb : fn.body = some c) (hn : fn.ntmps = n) (hrs : fn.results.toList = rs) (hl : args.length ≤ n)
  (h : ∀ a, a.length = n → xbb9 a 0 args → AWp false P G H.length c (zdC9 P rs r Hf) a H) : qb0 P G f args H r Hf := by
 refine qY0 hf hb (qu0 (h _ ?_ (by simpa using vv0 [] args _)) fun e a' H' ⟨h1, h2, h3, h4⟩ => ⟨h1, by rw [hrs]; exact h2, by
  subst h4; rw [hrs]; exact Closes.eqv (fun S' u h5 h6 h7 => ⟨S', rfl, h5, Ext.refl _ _ _, h7⟩) h3⟩)
 simp [hn]; omega
theorem xdC9 (G : Glob) (a : List AV) (t : Nat) : ev G a (.tmp t) = getA a t := rfl
theorem xca9 (k : IntKind) (n : Int) : (AV.int k n).strip = .int k n := rfl
theorem zbN9 (b : Bool) : (AV.bool b).strip = .bool b := rfl
theorem wca9 (s : List UInt8) : (AV.str s).strip = .str s := rfl
theorem vca9 (cs : List AV) : (AV.agg cs).strip = .agg cs := rfl
theorem kca9 (cs : List AV) : (AV.tup cs).strip = .tup cs := rfl
theorem xcF9 (s : Nat) (es : List (List AV)) (c : Option Nat) : (AV.sl s es c).strip = .sl s es c := rfl
theorem qcb9 (b n h : Nat) (c : Option Nat) : (AV.own b n h c).strip = .own b n h c := rfl
theorem zcb9 (b i o h : Nat) : (AV.ptr b i o h).strip = .ptr b i o h := rfl
theorem xbN9 (cs : List AV) (o : Nat) : (AV.iptr cs o).strip = .iptr cs o := rfl
theorem wcF9 (f : FuncId) (cs : List AV) : (AV.fn f cs).strip = .fn f cs := rfl
theorem xcb9 (f : FuncId) (cs : List AV) : (AV.bnd f cs).strip = .bnd f cs := rfl
theorem wcb9 (b i n h : Nat) : (AV.sub b i n h).strip = .sub b i n h := rfl
theorem wdC9 (b i n h : Nat) : (AV.sub b i n h).ok = true := rfl
theorem vcF9 (b : Nat) : (AV.mp b).strip = .mp b := rfl
theorem vcb9 (b : Nat) : (AV.yld b).strip = .yld b := rfl
theorem vdC9 (b : Nat) : (AV.yld b).ok = true := rfl
theorem kcb9 (g : Bool) (v : AV) : (AV.opt g v).strip = v := rfl
theorem qcc9 (v : Value) : (AV.lit v).strip = .lit v := rfl
theorem zcc9 : AV.top.strip = .top := rfl
theorem kdC9 (k : IntKind) (n : Int) : (AV.int k n).ok = true := rfl
theorem wdk9 (b : Bool) : (AV.bool b).ok = true := rfl
theorem qdD9 (s : List UInt8) : (AV.str s).ok = true := rfl
theorem zdD9 (cs : List AV) : (AV.agg cs).ok = true := rfl
theorem xdD9 (cs : List AV) : (AV.tup cs).ok = true := rfl
theorem vdQ9 (s : Nat) (es : List (List AV)) (c : Option Nat) : (AV.sl s es c).ok = true := rfl
theorem wdD9 (b n h : Nat) (c : Option Nat) : (AV.own b n h c).ok = true := rfl
theorem vdD9 (b i o h : Nat) : (AV.ptr b i o h).ok = true := rfl
theorem vdk9 (cs : List AV) (o : Nat) : (AV.iptr cs o).ok = true := rfl
theorem kdQ9 (f : FuncId) (cs : List AV) : (AV.fn f cs).ok = true := rfl
theorem kdD9 (f : FuncId) (cs : List AV) : (AV.bnd f cs).ok = true := rfl
theorem qdR9 (b : Nat) : (AV.mp b).ok = true := rfl
theorem qdE9 (g : Bool) (v : AV) : (AV.opt g v).ok = g := rfl
theorem zdE9 (v : Value) : (AV.lit v).ok = true := rfl
theorem xdE9 : AV.top.ok = true := rfl
theorem wbN9 : AV.anyb.strip = .anyb := rfl
theorem kdk9 : AV.anyb.ok = true := rfl
theorem xcc9 : AV.err.strip = .err := rfl
theorem wdE9 : AV.err.ok = true := rfl
theorem vbN9 (k : IntKind) : (AV.anyi k).strip = .anyi k := rfl
theorem qdl9 (k : IntKind) : (AV.anyi k).ok = true := rfl
theorem wcc9 (k : IntKind) (n : Int) : qaf9 (.int k n) = .int k n := rfl
theorem kbN9 (b : Bool) : qaf9 (.bool b) = .bool b := rfl
theorem vcc9 (s : ByteArray) : qaf9 (.string s) = .str s.data.toList := rfl
theorem kcc9 : qaf9 (.slice none 0 0) = .sl 0 [] (some 0) := rfl
theorem kcF9 (b p q : Bool) : AV.ite b (.bool p) (.bool q) = .bool (bif b then p else q) := rfl
theorem qcG9 (b w : Bool) : gOf (.bool b) w = some (b == w) := rfl
theorem zdl9 (g b w : Bool) : gOf (.opt g (.bool b)) w = some (g && (b == w)) := rfl
theorem qcd9 (w : Bool) : gOf (.tup []) w = some false := rfl
def xdl9 (G : Glob) (a : List AV) (c : Operand) (X Y : Prop) : Prop :=
 match (ev G a c).strip with
 | .bool b => (ev G a c).ok = true ∧ (b = true → X) ∧ (b = false → Y)
 | .anyb => (ev G a c).ok = true ∧ X ∧ Y
 | _ => False
theorem vdE9 {c : Operand} {x y : Code} (h : xdl9 G a c (AWp ρ P G n0 x Q a H) (AWp ρ P G n0 y Q a H)) : AWp ρ P G n0 (.cond c x y) Q a H := by
 unfold xdl9 at h;split at h
 ·rename_i b hb;exact qcE9 hb h.1 h.2.1 h.2.2
 ·rename_i hb;exact zdi9 hb h.1 h.2.1 h.2.2
 ·exact h.elim
def xi0 (m : Nat) (v : AV) : AV := if v.ids (fun b => decide (b < m)) = true then v else .top
def Blk.below (m : Nat) : Blk → Bool
 | .row _ _ es => idsE (fun b => decide (b < m)) es
 | .ob (.map _ _ es) => es.all fun p => p.1.ids (fun b => decide (b < m)) && p.2.ids (fun b => decide (b < m))
 | .ob (.loop _ as _) => idsL (fun b => decide (b < m)) as
theorem wY0 {m : Nat} (S : St) (H : List Blk) : (S.env H).agree (fun b => decide (b < m)) (S.env (H.take m)) := ⟨fun k o q => q, fun b hb => by
  have hb' : b < m := by simpa using hb
  have hget : (H.take m)[b]? = H[b]? := by rw [l'u, if_pos hb']
  exact ⟨by simp [St.env, shOf, hget], rfl, by simp [St.env, mpOf, hget]⟩⟩
theorem kF0 {m : Nat} {S : St} (hok : S.Ok H) (hm : n0 ≤ m) (hml : m ≤ H.length) (hb : (H.take m).all (Blk.below m) = true) : S.Ok (H.take m) ∧ Ext n0 S H S (H.take m) := by
 have hget : ∀ b, b < m → (H.take m)[b]? = H[b]? := fun b hb => by rw [l'u, if_pos hb]
 have hnone : ∀ b, ¬ b < m → (H.take m)[b]? = none := fun b hb => by rw [l'u, if_neg hb]
 have hag : (S.env H).agree (fun b => decide (b < m)) (S.env (H.take m)) := ⟨fun k o q => q, fun b hb => by
  have hb' : b < m := by simpa using hb
  exact ⟨by simp [St.env, shOf, hget b hb'], rfl, by simp [St.env, mpOf, hget b hb']⟩⟩
 have hat : ∀ b, b < m → S.at (H.take m) b = S.at H b := fun b hb => by simp only [St.at, hget b hb]
 have hatn : ∀ b g, S.at (H.take m) b = some g → b < m := fun b g q => by
  by_cases hb : b < m
  ·exact hb
  ·simp [St.at, hnone b hb] at q
 refine ⟨⟨hok.imm, fun b s t es hbb => ?_, fun b ob0 hbb => ?_, fun b b' g q q' => ?_⟩, ⟨rfl, rfl, rfl, l'd _, fun _ _ _ => rfl, fun _ _ q => q, fun _ q => .inl q, fun k q => ?_, fun b s cur hb hs => ?_, fun b g hb hg => ?_, fun _ => by simp; omega⟩⟩
 ·have hlt : b < m := by
   rcases l'h b m with q|q
   ·exact q
   ·rw [hnone b (by omega)] at hbb; cases hbb
  have hbel := l'j.1 hb _ (l'l hbb);rw [hget b hlt] at hbb;rcases hok.row b s t es hbb with q|⟨g, k, cs, h1, h2, h3, h4, h5, h6, h7⟩
  ·exact .inl q
  ·refine .inr ⟨g, k, cs, h1, h2, h3, h4, h5, h6, fun i e hi => ?_⟩;obtain ⟨l1, l2⟩ := h7 i e hi;refine ⟨l1, fun j x hj => ?_⟩;obtain ⟨v, hv, ho, hr⟩ := l2 j x hj;simp only [Blk.below] at hbel;have h8 := (kX0 e).1 ((zu0 es).1 hbel e (l'l hi)) x (l'l hj);exact ⟨v, hv, ho, Rel.move hag x v h8 hr⟩
 ·have hlt : b < m := by
   rcases l'h b m with q|q
   ·exact q
   ·rw [hnone b (by omega)] at hbb; cases hbb
  have hbel := l'j.1 hb _ (l'l hbb);rw [hget b hlt] at hbb;obtain ⟨g, ob1, h1, h2, h3, h4⟩ := hok.ob b ob0 hbb;refine ⟨g, ob1, h1, h2, h3, ?_⟩;cases ob0 with
  | map kt vt es =>
   obtain ⟨ents, clock, e0, e1, h5⟩ := h4;refine ⟨ents, clock, e0, e1, fun i p hi => ?_⟩;obtain ⟨e, he, r1, r2⟩ := h5 i p hi;simp only [Blk.below, l'j, l'a] at hbel;have h8 := hbel p (l'l hi);exact ⟨e, he, Rel.move hag _ _ h8.1 r1, Rel.move hag _ _ h8.2 r2⟩
  | loop o as vs => exact ⟨h4.1, RelL.move hag _ _ hbel h4.2⟩
 ·have q1 := hatn b g q;have q2 := hatn b' g q';rw [hat b q1] at q; rw [hat b' q2] at q';exact hok.inj b b' g q q'
 ·obtain ⟨b, hb'⟩ := q;have := hatn b k hb';rw [hat b this] at hb';exact .inl ⟨b, hb'⟩
 ·exact ⟨cur, l'd _, by simpa [shOf, hget b (by omega)] using hs, fun _ => rfl⟩
 ·simpa [mpOf, hget b (by omega)] using hg
theorem xbc9 {m : Nat} (hm : n0 ≤ m) (hml : m ≤ H.length) (hb : (H.take m).all (Blk.below m) = true) : Weak n0 a H (a.map (xi0 m)) (H.take m) := fun S vs hok hn ha => by
 obtain ⟨h1, h2⟩ := kF0 hok hm hml hb;have hag := wY0 (m := m) S H;refine ⟨S, rfl, h1, h2, ?_⟩
 ·refine RelL.mk (by simpa using ha.length) fun i x v hx hv => ?_;rw [l'k] at hx;cases hy : a[i]? with
  | none => rw [hy] at hx; cases hx
  | some y =>
   rw [hy] at hx;simp only [Option.map_some, Option.some.injEq] at hx;subst hx;obtain ⟨v', hv', hr⟩ := ha.get hy;rw [hv] at hv'; injection hv' with hv'; subst hv'
   unfold xi0;split
   ·rename_i hi; exact Rel.move hag y v hi hr
   ·simp [Rel]
end
def kid (i : Nat) (c : Code) : Code :=
 match c with
 | .seq x y => match i with|0 => x|_ => y
 | .cond _ x y => match i with|0 => x|_ => y
 | .block _ x => x
 | .loop x => x
 | .scope x => x
 | .rangeFunc _ _ x y => match i with|0 => x|_ => y
 | c => c
def atR (c : Code) : List Nat → Code
 | [] => c
 | i :: p => kid i (atR c p)
def wf0 (f : Func) : Code := f.body.getD .skip
def zcd9 : Code → Bool
 | .seq _ _ => true
 | _ => false
def kdE9 : Code → Bool
 | .skip => true
 | .label _ => true
 | _ => false
def zdR9 : Code → Bool
 | .ret => true
 | _ => false
def wda9 : Code → Bool
 | .loop _ => true
 | _ => false
def qd0 : Code → List Oper
 | .region _ ops _ => ops.toList
 | _ => []
def qC0 : Code → Bool
 | .region _ _ d => d
 | _ => false
def km0 : Code → Bool
 | .region _ _ _ => true
 | _ => false
def zaF9 : Op → Nat
 | .call { callee := .value _, .. } => 2
 | .makeSlice _ _ _ => 5
 | o => if zx0 o then 1 else 0
def Lst (n : Nat) (s : Nat → AV) : List AV := (List.range n).map s
def updS (s : Nat → AV) (d : Nat) (v : AV) : Nat → AV := fun t => if t = d then v else s t
def put (s : Nat → AV) (d : Option Tmp) (v : AV) : Nat → AV :=
 match d with
 | some d => updS s d v
 | none => s
theorem wq0 (n : Nat) (s : Nat → AV) : (Lst n s).length = n := by simp [Lst]
theorem xaq9 (n : Nat) (s : Nat → AV) (t : Nat) : getA (Lst n s) t = if t < n then s t else .tup [] := by
 simp only [getA, Lst, l'b, l'k];grind
theorem vY0 {a : List AV} {n : Nat} (h : a.length = n) : a = Lst n (getA a) := by
 grind [List.ext_getElem, wq0, Lst, getA]
theorem wk0 (n : Nat) (s : Nat → AV) (d : Option Tmp) (v : AV) : putA (Lst n s) d v = Lst n (put s d v) := by
 cases d with
 | none => rfl
 | some d =>
  apply n'I
  ·simp [putA, Lst]
  ·intro i h1 h2;simp only [putA, put, updS, Lst, List.getElem_set, List.getElem_map, List.getElem_range];grind
def rdS (n : Nat) (s : Nat → AV) (t : Nat) : AV := if t < n then s t else .tup []
theorem qdF9 (n : Nat) (s : Nat → AV) (t : Nat) : rdS n s t = if t < n then s t else .tup [] := rfl
def evS (G : Glob) (n : Nat) (s : Nat → AV) : Operand → AV
 | .tmp t => if t < n then s t else .tup []
 | .const v => qaf9 v
 | .global g => match G g with|some cs => .iptr cs 0|none => .top
 | .func f => .fn f []
theorem qm0 (G : Glob) (n : Nat) (s : Nat → AV) : ev G (Lst n s) = evS G n s := by
 funext x
 cases x with
 | tmp t => exact xaq9 n s t
 | _ => rfl
theorem wdl9 (G : Glob) (n : Nat) (s : Nat → AV) (t : Nat) : evS G n s (.tmp t) = if t < n then s t else .tup [] := rfl
theorem xcd9 (G : Glob) (n : Nat) (s : Nat → AV) (v : Value) : evS G n s (.const v) = qaf9 v := rfl
theorem zcG9 (G : Glob) (n : Nat) (s : Nat → AV) (f : FuncId) : evS G n s (.func f) = .fn f [] := rfl
theorem vdl9 (s : Nat → AV) (d t : Nat) (v : AV) : updS s d v t = if t = d then v else s t := rfl
theorem wcd9 (s : Nat → AV) (d : Nat) (v : AV) : updS s d v d = v := if_pos rfl
theorem xcG9 (s : Nat → AV) (d : Nat) (v : AV) : put s (some d) v = updS s d v := rfl
theorem wcG9 (s : Nat → AV) (v : AV) : put s none v = s := rfl
abbrev zg0 := Exit → (Nat → AV) → List Blk → Prop
def qG0 (n : Nat) (Q : zg0) : Post := fun e a H => ∃ s, a = Lst n s ∧ Q e s H
def xdR9 (n : Nat) (K : (Nat → AV) → List Blk → Prop) (a : List AV) (H : List Blk) : Prop := ∃ s, a = Lst n s ∧ K s H
def thenS (K : (Nat → AV) → List Blk → Prop) (Q : zg0) : zg0
 | .normal, a, H => K a H
 | e, a, H => Q e a H
def xu0 (id : Nat) (Q : zg0) : zg0
 | .exit id', a, H => if id' = id then Q .normal a H else Q (.exit id') a H
 | e, a, H => Q e a H
theorem wU0 (n : Nat) (K : (Nat → AV) → List Blk → Prop) (Q : zg0) : qG0 n (thenS K Q) = kbo9 (xdR9 n K) (qG0 n Q) := by
 funext e a H; cases e <;> rfl
theorem kaQ9 (n : Nat) (id : Nat) (Q : zg0) : qG0 n (xu0 id Q) = qaq9 id (qG0 n Q) := by
 funext e a H
 cases e with
 | exit id' =>
  grind [qG0, xu0, qaq9, id]
 | _ => rfl
section
variable {ρ : Bool} {P : Program} {G : Glob} {n0 n : Nat} {body : Code} {p : List Nat} {Q : zg0} {B : Prop} {s : Nat → AV} {H : List Blk} {dr : Operand → Bool} {k : Nat}
def At (ρ : Bool) (P : Program) (G : Glob) (n0 n : Nat) (body : Code) (p : List Nat) (Q : zg0) (s : Nat → AV) (H : List Blk) : Prop := AWp ρ P G n0 (atR body p) (qG0 n Q) (Lst n s) H
def qbO9 (ρ : Bool) (P : Program) (G : Glob) (n0 n : Nat) (body : Code) (p : List Nat) (Q : zg0) : zg0 := thenS (At ρ P G n0 n body p Q) Q
structure Go (ρ : Bool) (P : Program) (G : Glob) (n0 n : Nat) (body : Code) (p : List Nat) (Q : zg0) (B : Prop) (s : Nat → AV) (H : List Blk) : Prop where
 b : B
 w : At ρ P G n0 n body p Q s H
structure Out (Q : zg0) (e : Exit) (B : Prop) (s : Nat → AV) (H : List Blk) : Prop where
 b : B
 w : Q e s H
structure Acc (ρ : Bool) (P : Program) (G : Glob) (n0 n : Nat) (dr : Operand → Bool) (body : Code) (p : List Nat) (Q : zg0) (k : Nat) (B : Prop) (s : Nat → AV) (H : List Blk) : Prop where
 b : B
 w : tops P G dr (qd0 (atR body p)) (qG0 n Q .normal) ((qd0 (atR body p)).drop k) (Lst n s) H
theorem wdR9 (h : Go ρ P G n0 n body p Q B s H) : Go ρ P G n0 n body p Q B s H := h
theorem kY0 (h : Acc ρ P G n0 n dr body p Q k B s H) : Acc ρ P G n0 n dr body p Q k B s H := h
theorem zdF9 {e : Exit} (h : Out Q e B s H) : Out Q e B s H := h
theorem at_go (h : Go ρ P G n0 n body p Q True s H) : At ρ P G n0 n body p Q s H := h.2
theorem xdF9 (hs : zcd9 (atR body p) = true) (h : Go ρ P G n0 n body (0 :: p) (qbO9 ρ P G n0 n body (1 :: p) Q) B s H) : Go ρ P G n0 n body p Q B s H := by
 refine ⟨h.1, ?_⟩;have h2 := h.2;unfold At qbO9 at h2;rw [wU0] at h2;simp only [atR] at h2;unfold At;generalize hc : atR body p = c at hs h2;cases c with
 | seq x y =>
  refine kdh9 (qu0 h2 fun e a H q => ?_);cases e with
  | normal =>
   obtain ⟨s', rfl, q⟩ := q;unfold At at q;simp only [atR, hc] at q;exact q
  | _ => exact q
 | _ => cases hs
theorem go_skip (hs : kdE9 (atR body p) = true) (h : Out Q .normal B s H) : Go ρ P G n0 n body p Q B s H := by
 refine ⟨h.1, ?_⟩;unfold At;generalize atR body p = c at hs;cases c with
 | skip => exact vcD9 ⟨_, rfl, h.2⟩
 | label l => exact qbb9 ⟨_, rfl, h.2⟩
 | _ => cases hs
theorem go_ret (hs : zdR9 (atR body p) = true) (h : Out Q .ret B s H) : Go ρ P G n0 n body p Q B s H := by
 refine ⟨h.1, ?_⟩;unfold At;generalize atR body p = c at hs;cases c with
 | ret => exact qdi9 ⟨_, rfl, h.2⟩
 | _ => cases hs
theorem kdl9 {id : Nat} (hs : atR body p = .exit id) (h : Out Q (.exit id) B s H) : Go ρ P G n0 n body p Q B s H := by
 refine ⟨h.1, ?_⟩;unfold At; rw [hs]; exact kcD9 ⟨_, rfl, h.2⟩
theorem vcG9 {id : Nat} {c : Code} (hs : atR body p = .block id c) (h : Go ρ P G n0 n body (0 :: p) (xu0 id Q) B s H) : Go ρ P G n0 n body p Q B s H := by
 refine ⟨h.1, ?_⟩;have h2 := h.2;unfold At at h2 ⊢;simp only [atR] at h2;rw [kaQ9] at h2;rw [hs] at h2 ⊢;exact vbZ9 h2
def qdm9 (G : Glob) (n : Nat) (s : Nat → AV) (c : Operand) (X Y : Prop) : Prop :=
 match (evS G n s c).strip with
 | .bool b => (evS G n s c).ok = true ∧ (b = true → X) ∧ (b = false → Y)
 | .anyb => (evS G n s c).ok = true ∧ X ∧ Y
 | _ => False
theorem zdm9 {c : Operand} {x y : Code} (hs : atR body p = .cond c x y) (h : B ∧ qdm9 G n s c (At ρ P G n0 n body (0 :: p) Q s H) (At ρ P G n0 n body (1 :: p) Q s H)) : Go ρ P G n0 n body p Q B s H := by
 refine ⟨h.1, ?_⟩;have h2 := h.2;unfold At at h2 ⊢;simp only [atR] at h2;rw [hs] at h2 ⊢;refine vdE9 ?_;unfold qdm9 at h2;unfold xdl9;rw [qm0];exact h2
theorem go_loop (hs : wda9 (atR body p) = true) (I : Nat → (Nat → AV) → List Blk → Prop) {m : Nat} {s1 : Nat → AV} {H1 : List Blk} (hB : B) (hw : Weak n0 (Lst n s) H (Lst n s1) H1) (h0 : I m s1 H1)
  (round : ∀ m s H, I m s H → Go ρ P G n0 n body (0 :: p) (thenS (fun s' H' => ∃ m' s2 H2, m' < m ∧ Weak n0 (Lst n s') H' (Lst n s2) H2 ∧ I m' s2 H2) Q) True s H) : Go ρ P G n0 n body p Q B s H := by
 refine ⟨hB, ?_⟩;have h2 := fun n a H h => (round n a H h).2;unfold At at h2 ⊢;simp only [atR] at h2;generalize atR body p = c at hs h2;cases c with
 | loop x =>
  refine xcE9 (fun m a H => ∃ s, a = Lst n s ∧ I m s H) hw ⟨s1, rfl, h0⟩ fun m a H ⟨s, ha, hI⟩ => ?_;subst ha;refine qu0 (h2 m s H hI) fun e a H q => ?_;rw [wU0] at q;cases e with
  | normal =>
   obtain ⟨s', rfl, m', s2, H2, q1, q2, q3⟩ := q;exact ⟨m', Lst n s2, H2, q1, q2, s2, rfl, q3⟩
  | _ => exact q
 | _ => cases hs
theorem kq0 {s1 : Nat → AV} {H1 : List Blk} (hB : B) (hw : Weak n0 (Lst n s) H (Lst n s1) H1) (h : Go ρ P G n0 n body p Q True s1 H1) : Go ρ P G n0 n body p Q B s H := ⟨hB, zcE9 hw h.2⟩
theorem go_region (hs : km0 (atR body p) = true) (hd : qC0 (atR body p) = false) (h : Acc ρ P G n0 n noQ body p Q 0 B s H) : Go ρ P G n0 n body p Q B s H := by
 refine ⟨h.1, ?_⟩;have h2 := h.2;unfold At;generalize atR body p = c at hs h2 hd;cases c with
 | region id ops d =>
  cases hd
  simp only [qd0, List.drop_zero] at h2;exact vaI9 (ops := ops.toList) h2
 | _ => cases hs
theorem vk0 (hs : km0 (atR body p) = true) (hd : qC0 (atR body p) = true) (hm : P.follows .mixedOrders = true) (ho : kav9 dr (qd0 (atR body p)) = true) (h : Acc ρ P G n0 n dr body p Q 0 B s H) (hown : ownF dr = false := by rfl) : Go ρ P G n0 n body p Q B s H := by
 refine ⟨h.1, ?_⟩;have h2 := h.2;unfold At;generalize atR body p = c at hs h2 hd ho;cases c with
 | region id ops d =>
  cases hd
  simp only [qd0, List.drop_zero] at h2 ho;exact wcE9 (ops := ops.toList) hown hm ho h2
 | _ => cases hs
theorem kcG9 {p1 : List Nat} (h : Go ρ P G n0 n body p1 Q B s H) : Out (qbO9 ρ P G n0 n body p1 Q) .normal B s H := ⟨h.1, h.2⟩
theorem wbc9 {p1 : List Nat} (h : Out Q .ret B s H) : Out (qbO9 ρ P G n0 n body p1 Q) .ret B s H := ⟨h.1, h.2⟩
theorem qaR9 {p1 : List Nat} {id : Nat} (h : Out Q (.exit id) B s H) : Out (qbO9 ρ P G n0 n body p1 Q) (.exit id) B s H := ⟨h.1, h.2⟩
theorem vcd9 {K : (Nat → AV) → List Blk → Prop} (h : B ∧ K s H) : Out (thenS K Q) .normal B s H := ⟨h.1, h.2⟩
theorem wa0 {I : Nat → (Nat → AV) → List Blk → Prop} {m : Nat} (m' : Nat) (hm : m' < m) (hB : B) (hI : I m' s H) : Out (thenS (fun s' H' => ∃ m' s2 H2, m' < m ∧ Weak n0 (Lst n s') H' (Lst n s2) H2 ∧ I m' s2 H2) Q) .normal B s H := ⟨hB, m', s, H, hm, Weak.refl _ _, hI⟩
theorem zaR9 {K : (Nat → AV) → List Blk → Prop} (h : Out Q .ret B s H) : Out (thenS K Q) .ret B s H := ⟨h.1, h.2⟩
theorem xaF9 {K : (Nat → AV) → List Blk → Prop} {id : Nat} (h : Out Q (.exit id) B s H) : Out (thenS K Q) (.exit id) B s H := ⟨h.1, h.2⟩
theorem kcd9 {id : Nat} (h : Out Q .normal B s H) : Out (xu0 id Q) .normal B s H := ⟨h.1, h.2⟩
theorem xaR9 {id : Nat} (h : Out Q .ret B s H) : Out (xu0 id Q) .ret B s H := ⟨h.1, h.2⟩
theorem waF9 {id id' : Nat} (hid : (id' == id) = true) (h : Out Q .normal B s H) : Out (xu0 id Q) (.exit id') B s H := by
 have : id' = id := by simpa using hid
 subst this;exact ⟨h.1, by simpa [xu0] using h.2⟩
theorem xaw9 {id id' : Nat} (hid : (id' == id) = false) (h : Out Q (.exit id') B s H) : Out (xu0 id Q) (.exit id') B s H := by
 have : ¬ id' = id := by simpa using hid
 exact ⟨h.1, by simpa [xu0, this] using h.2⟩
theorem wz0 {l : List Oper} {k : Nat} {o : Oper} (h : l[k]? = some o) : l.drop k = o :: l.drop (k + 1) := by
 grind [List.getElem?_eq_some_iff, List.drop_eq_getElem_cons]
theorem xdm9 (h : (qd0 (atR body p))[k]? = none) (hk : Out Q .normal B s H) : Acc ρ P G n0 n dr body p Q k B s H := by
 refine ⟨hk.1, ?_⟩;rw [l'M (n'L.1 h)];exact ⟨_, rfl, hk.2⟩
theorem qcH9 {o : Op} {σ : Operand → AV} {K : AV → List Blk → Prop} (ho : zaF9 o = 0) (h1 : (xc0 P o σ H).1 = true) (h2 : K (xc0 P o σ H).2 H) : opK P G dr o σ H K := by
 unfold opK;split
 ·cases ho
 ·cases ho
 ·exact .inl ⟨h1, h2⟩
 ·rename_i hne hnm hnb;have : zx0 o = false := by
   grind [zaF9]
  grind
theorem wdm9 {o : Op} {σ : Operand → AV} {K : AV → List Blk → Prop} (ho : zaF9 o = 1) (h1 : (zd0 P o σ H).1 = true) (h2 : K (zd0 P o σ H).2.1 (zd0 P o σ H).2.2) : opK P G dr o σ H K := by
 unfold opK;split
 ·cases ho
 ·cases ho
 ·cases ho
 ·rename_i hne hnm hnb;have : zx0 o = true := by
   grind [zaF9]
  grind
theorem wdF9 {t l c} {σ : Operand → AV} {K : AV → List Blk → Prop} (hm : (mkF dr || atF dr) = false) (h1 : (zd0 P (.makeSlice t l c) σ H).1 = true) (h2 : K (zd0 P (.makeSlice t l c) σ H).2.1 (zd0 P (.makeSlice t l c) σ H).2.2) : opK P G dr (.makeSlice t l c) σ H K := by
 simp_all [n't, opK, l'I, if_false]
theorem zcH9 {t l c} {σ : Operand → AV} {K : AV → List Blk → Prop} {r : AV} (hm : mkF dr = true) (h1 : Made P (.makeSlice t l c) σ H r) (h2 : K r H) : opK P G dr (.makeSlice t l c) σ H K := by
 simp only [opK, hm, if_true];exact ⟨r, h1, h2⟩
theorem qce9 {g : Bool} {o : Op} {σ : Operand → AV} {K : AV → List Blk → Prop} (ho : zaF9 o = 0) (h1 : g = true → (xc0 P o σ H).1 = true) (h2 : K (.opt g (xc0 P o σ H).2) H) : gopK P G dr g o σ H K := by
 unfold gopK;split
 ·cases ho
 ·cases ho
 ·rename_i hne hnm;have : zx0 o = false := by
   grind [zaF9]
  grind
variable {d : Option Tmp} {op : Op} {ty : TypeId} {pos : String} {af : Array Edge}
theorem xcH9 (h : (qd0 (atR body p))[k]? = some ⟨d, op, ty, pos, af, none⟩) (ho : zaF9 op = 0) (hk : Acc ρ P G n0 n dr body p Q (k + 1) (B ∧ (xc0 P op (evS G n s) H).1 = true) (put s d (xc0 P op (evS G n s) H).2) H) : Acc ρ P G n0 n dr body p Q k B s H := by
 obtain ⟨⟨h1, h2⟩, h3⟩ := hk;refine ⟨h1, ?_⟩;rw [wz0 h];rw [← wk0] at h3;exact qcH9 ho (by rw [qm0]; exact h2) (by rw [qm0]; exact h3)
theorem vdm9 (h : (qd0 (atR body p))[k]? = some ⟨d, op, ty, pos, af, none⟩) (ho : zaF9 op = 1) (hk : Acc ρ P G n0 n dr body p Q (k + 1) (B ∧ (zd0 P op (evS G n s) H).1 = true) (put s d (zd0 P op (evS G n s) H).2.1) (zd0 P op (evS G n s) H).2.2) : Acc ρ P G n0 n dr body p Q k B s H := by
 obtain ⟨⟨h1, h2⟩, h3⟩ := hk;refine ⟨h1, ?_⟩;rw [wz0 h];rw [← wk0] at h3;exact wdm9 ho (by rw [qm0]; exact h2) (by rw [qm0]; exact h3)
theorem vdF9 {t0 : TypeId} {l c : Operand} (h : (qd0 (atR body p))[k]? = some ⟨d, .makeSlice t0 l c, ty, pos, af, none⟩) (hm : (mkF dr || atF dr) = false) (hk : Acc ρ P G n0 n dr body p Q (k + 1) (B ∧ (zd0 P (.makeSlice t0 l c) (evS G n s) H).1 = true) (put s d (zd0 P (.makeSlice t0 l c) (evS G n s) H).2.1) (zd0 P (.makeSlice t0 l c) (evS G n s) H).2.2) : Acc ρ P G n0 n dr body p Q k B s H := by
 obtain ⟨⟨h1, h2⟩, h3⟩ := hk;refine ⟨h1, ?_⟩;rw [wz0 h];grind [wk0, opK, ev, Lst, tops, qd0, atR, qG0, putA, wdF9, qm0]
theorem wcH9 {t0 : TypeId} {l c : Operand} (h : (qd0 (atR body p))[k]? = some ⟨d, .makeSlice t0 l c, ty, pos, af, none⟩) (hm : mkF dr = true) (hk : B ∧ ∃ r, Made P (.makeSlice t0 l c) (evS G n s) H r ∧ Acc ρ P G n0 n dr body p Q (k + 1) True (put s d r) H) : Acc ρ P G n0 n dr body p Q k B s H := by
 obtain ⟨h1, r, h2, h3⟩ := hk;refine ⟨h1, ?_⟩;rw [wz0 h];have h3 := h3.2;grind [wk0, opK, ev, Lst, tops, qd0, atR, qG0, putA, zcH9, qm0]
theorem qaJ9 {dr : Bool} {f : AV} {args : List AV} {K K' : AV → List Blk → Prop} (h : van9 P G dr f args H K) (hk : ∀ r H', K r H' → K' r H') : van9 P G dr f args H K' := by
 unfold van9 at h ⊢;grind
theorem vcH9 {f : Operand} {args : Array Operand} {ts : Array TypeId} (h : (qd0 (atR body p))[k]? = some ⟨d, .call ⟨.value f, args, ts⟩, ty, pos, af, none⟩)
  (hk : B ∧ van9 P G (dr f) (evS G n s f) (args.toList.map (evS G n s)) H (fun r H' => Acc ρ P G n0 n dr body p Q (k + 1) True (put s d r) H')) (hkp : kpF dr = false := by rfl) (hpc : pcF dr = false := by rfl) : Acc ρ P G n0 n dr body p Q k B s H := by
 refine ⟨hk.1, ?_⟩;rw [wz0 h];show van9 P G (dr f) (ev G (Lst n s) f) (args.toList.map (ev G (Lst n s))) H _;rw [qm0];refine qaJ9 hk.2 fun r H' q => ⟨fun w => (by rw [hkp] at w; cases w), fun w => (by rw [hpc] at w; cases w), ?_⟩;show tops _ _ _ _ _ _ (putA (Lst n s) d r) _;rw [wk0]; exact q.2
theorem zce9 {f : Operand} {args : Array Operand} {ts : Array TypeId} (h : (qd0 (atR body p))[k]? = some ⟨d, .call ⟨.value f, args, ts⟩, ty, pos, af, none⟩) (hkp : kpF dr = true)
  (hk : B ∧ van9 P G (dr f) (evS G n s f) (args.toList.map (evS G n s)) H (fun r H' => (∃ E, H' = H ++ E) ∧ Acc ρ P G n0 n dr body p Q (k + 1) True (put s d r) H')) (hpc : pcF dr = false := by rfl) : Acc ρ P G n0 n dr body p Q k B s H := by
 refine ⟨hk.1, ?_⟩;rw [wz0 h];show van9 P G (dr f) (ev G (Lst n s) f) (args.toList.map (ev G (Lst n s))) H _;rw [qm0];refine qaJ9 hk.2 fun r H' q => ⟨fun _ => q.1, fun w => (by rw [hpc] at w; cases w), ?_⟩;show tops _ _ _ _ _ _ (putA (Lst n s) d r) _;rw [wk0]; exact q.2.2
theorem kcH9 {ops : List Oper} {a : List AV} {j t : Nat} {want : Bool} (h : (ops[j]?).map (fun o => o.dst) = some (some t)) : vT0 ops a j want = gOf (getA a t) want := by
 grind [vT0, Option.some.injEq]
def optK (o : Option Bool) (K : Bool → Prop) : Prop :=
 match o with
 | some g => K g
 | none => False
theorem xce9 {j t : Nat} {want : Bool} {K : List AV → List Blk → Prop} (h : (qd0 (atR body p))[k]? = some ⟨d, op, ty, pos, af, some (j, want)⟩) (hj : ((qd0 (atR body p))[j]?).map (fun o => o.dst) = some (some t))
  (hk : optK (gOf (evS G n s (.tmp t)) want) fun g => gopK P G dr g op (evS G n s) H (fun r H' => tops P G dr (qd0 (atR body p)) K ((qd0 (atR body p)).drop (k + 1)) (Lst n (put s d r)) H')) : tops P G dr (qd0 (atR body p)) K ((qd0 (atR body p)).drop k) (Lst n s) H := by
 have ht : tops P G dr (qd0 (atR body p)) K ((qd0 (atR body p)).drop k) (Lst n s) H ↔ match vT0 (qd0 (atR body p)) (Lst n s) j want with|some g => gopK P G dr g op (ev G (Lst n s)) H (fun r H' => tops P G dr (qd0 (atR body p)) K ((qd0 (atR body p)).drop (k + 1)) (putA (Lst n s) d r) H')|none => False := by
  rw [wz0 h]; rfl
 rw [ht, kcH9 hj, ← xdC9 G, qm0];grind [optK, wk0]
theorem kdF9 {j t : Nat} {want : Bool} (h : (qd0 (atR body p))[k]? = some ⟨d, op, ty, pos, af, some (j, want)⟩) (ho : zaF9 op = 0) (hj : ((qd0 (atR body p))[j]?).map (fun o => o.dst) = some (some t))
  (hk : B ∧ optK (gOf (evS G n s (.tmp t)) want) fun g => Acc ρ P G n0 n dr body p Q (k + 1) (g = true → (xc0 P op (evS G n s) H).1 = true) (put s d (.opt g (xc0 P op (evS G n s) H).2)) H) : Acc ρ P G n0 n dr body p Q k B s H := by
 refine ⟨hk.1, xce9 h hj ?_⟩;obtain ⟨hB, hk⟩ := hk;unfold optK at hk ⊢;split at hk
 ·exact qce9 ho hk.1 hk.2
 ·exact hk.elim
theorem wce9 {j t : Nat} {want : Bool} {t0 : TypeId} {l c : Operand} (h : (qd0 (atR body p))[k]? = some ⟨d, .makeSlice t0 l c, ty, pos, af, some (j, want)⟩) (hm : mkF dr = true) (hj : ((qd0 (atR body p))[j]?).map (fun o => o.dst) = some (some t))
  (hk : B ∧ optK (gOf (evS G n s (.tmp t)) want) fun g => ∃ r, (g = true → Made P (.makeSlice t0 l c) (evS G n s) H r) ∧ Acc ρ P G n0 n dr body p Q (k + 1) True (put s d (.opt g r)) H) : Acc ρ P G n0 n dr body p Q k B s H := by
 refine ⟨hk.1, xce9 h hj ?_⟩;obtain ⟨hB, hk⟩ := hk;unfold optK at hk ⊢;split at hk
 ·obtain ⟨r, h1, h2⟩ := hk;simp only [gopK, hm, if_true];exact ⟨r, h1, h2.2⟩
 ·exact hk.elim
theorem qdG9 {j t : Nat} {want : Bool} {f : Operand} {args : Array Operand} {ts : Array TypeId} (h : (qd0 (atR body p))[k]? = some ⟨d, .call ⟨.value f, args, ts⟩, ty, pos, af, some (j, want)⟩) (hj : ((qd0 (atR body p))[j]?).map (fun o => o.dst) = some (some t))
  (hk : B ∧ optK (gOf (evS G n s (.tmp t)) want) fun g => zbb9 P G (dr f) g (evS G n s f) (args.toList.map (evS G n s)) H (fun r H' => Acc ρ P G n0 n dr body p Q (k + 1) True (put s d r) H')) : Acc ρ P G n0 n dr body p Q k B s H := by
 refine ⟨hk.1, xce9 h hj ?_⟩;obtain ⟨hB, hk⟩ := hk;unfold optK at hk ⊢;split at hk
 ·rename_i g hg;simp only [gopK];unfold zbb9 at hk ⊢;split
  ·rename_i fn cap hf;rw [hf] at hk;simp only at hk;obtain ⟨h3, h4, r, h5, h6⟩ := hk;exact ⟨h3, h4, r, h5, h6.2⟩
  ·rename_i b hf;rw [hf] at hk;simp only at hk;obtain ⟨h3, h4⟩ := hk;refine ⟨h3, ?_⟩;split
   ·rename_i hg;rw [if_pos hg] at h4;obtain ⟨h5, h6, r, H', h7, h8⟩ := h4;exact ⟨h5, h6, r, H', h7, h8.2⟩
   ·rename_i hg;rw [if_neg hg] at h4;exact h4.2
  grind
 ·exact hk.elim
def waR9 (s : Nat → AV) : Nat → List AV → Prop
 | _, [] => True
 | k, x :: xs => s k = x ∧ waR9 s (k + 1) xs
theorem xN0 (a : List AV) : ∀ (k : Nat) (xs : List AV), xbb9 a k xs → waR9 (getA a) k xs
 | _, [], _ => trivial
 | k, x :: xs, ⟨h1, h2⟩ => ⟨h1, xN0 a (k + 1) xs h2⟩
def vs0 (P : Program) (n : Nat) (s : Nat → AV) (H : List Blk) : ResultVar → Bool × AV
 | .tmp t => ((rdS n s t).ok, (rdS n s t).strip)
 | .cell b t => ((rdS n s b).ok && (wQ0 P H t (rdS n s b).strip).1, (wQ0 P H t (rdS n s b).strip).2)
def resS (P : Program) (n : Nat) (rs : List ResultVar) (s : Nat → AV) (H : List Blk) : Bool × AV :=
 match rs with
 | [r] => vs0 P n s H r
 | rs => (rs.all fun r => (vs0 P n s H r).1, .tup (rs.map fun r => (vs0 P n s H r).2))
theorem vce9 (n : Nat) (s : Nat → AV) (H : List Blk) (t : Nat) : vs0 P n s H (.tmp t) = ((rdS n s t).ok, (rdS n s t).strip) := rfl
theorem zbO9 (n : Nat) (s : Nat → AV) (H : List Blk) (b : Nat) (t : TypeId) : vs0 P n s H (.cell b t) = ((rdS n s b).ok && (wQ0 P H t (rdS n s b).strip).1, (wQ0 P H t (rdS n s b).strip).2) := rfl
theorem zdG9 (n : Nat) (s : Nat → AV) (H : List Blk) : resS P n [] s H = (true, .tup []) := rfl
theorem xdG9 (n : Nat) (s : Nat → AV) (H : List Blk) (a : ResultVar) : resS P n [a] s H = vs0 P n s H a := rfl
theorem wdG9 (n : Nat) (s : Nat → AV) (H : List Blk) (a b : ResultVar) : resS P n [a, b] s H = ((vs0 P n s H a).1 && (vs0 P n s H b).1, .tup [(vs0 P n s H a).2, (vs0 P n s H b).2]) := by simp [resS]
theorem vdG9 (n : Nat) (s : Nat → AV) (H : List Blk) (a b c : ResultVar) : resS P n [a, b, c] s H = ((vs0 P n s H a).1 && ((vs0 P n s H b).1 && (vs0 P n s H c).1), .tup [(vs0 P n s H a).2, (vs0 P n s H b).2, (vs0 P n s H c).2]) := by simp [resS]
theorem kdG9 (n : Nat) (s : Nat → AV) (H : List Blk) (a b c d : ResultVar) : resS P n [a, b, c, d] s H = ((vs0 P n s H a).1 && ((vs0 P n s H b).1 && ((vs0 P n s H c).1 && (vs0 P n s H d).1)), .tup [(vs0 P n s H a).2, (vs0 P n s H b).2, (vs0 P n s H c).2, (vs0 P n s H d).2]) := by simp [resS]
theorem kce9 (n : Nat) (s : Nat → AV) (r : ResultVar) : kan9 P (Lst n s) H r = vs0 P n s H r := by
 cases r <;> simp only [kan9, vs0, xaq9, rdS]
theorem vaR9 (n : Nat) (rs : List ResultVar) (s : Nat → AV) : ares P rs (Lst n s) H = resS P n rs s H := by
 have e : kan9 P (Lst n s) H = vs0 P n s H := funext fun r => kce9 n s r;cases rs with
 | nil => simp only [ares, resS, e]
 | cons r l => cases l <;> simp only [ares, resS, e]
def vbc9 (P : Program) (n : Nat) (rs : List ResultVar) (d : Nat) (r : AV) : zg0 := fun e s' H' =>
 (e = .normal ∨ e = .ret) ∧ (resS P n rs s' H').1 = true ∧ okR H' d (resS P n rs s' H').2 = true ∧ (wR0 H' d (resS P n rs s' H').2).eqv r
def qcf9 (P : Program) (n : Nat) (rs : List ResultVar) (r : AV) (Hf : List Blk) : zg0 := fun e s' H' =>
 (e = .normal ∨ e = .ret) ∧ (resS P n rs s' H').1 = true ∧ ((resS P n rs s' H').2).eqv r ∧ H' = Hf
theorem kdm9 {rs : List ResultVar} {d : Nat} {r : AV} (h : B ∧ (resS P n rs s H).1 = true ∧ okR H d (resS P n rs s H).2 = true ∧ (wR0 H d (resS P n rs s H).2).eqv r) : Out (vbc9 P n rs d r) .ret B s H := ⟨h.1, .inr rfl, h.2⟩
theorem xbO9 {rs : List ResultVar} {d : Nat} {r : AV} (h : B ∧ (resS P n rs s H).1 = true ∧ okR H d (resS P n rs s H).2 = true ∧ (wR0 H d (resS P n rs s H).2).eqv r) : Out (vbc9 P n rs d r) .normal B s H := ⟨h.1, .inl rfl, h.2⟩
theorem qcI9 {rs : List ResultVar} {r : AV} {Hf : List Blk} (h : B ∧ (resS P n rs s H).1 = true ∧ ((resS P n rs s H).2).eqv r ∧ H = Hf) : Out (qcf9 P n rs r Hf) .ret B s H := ⟨h.1, .inr rfl, h.2⟩
theorem wbq9 {rs : List ResultVar} {r : AV} {Hf : List Blk} (h : B ∧ (resS P n rs s H).1 = true ∧ ((resS P n rs s H).2).eqv r ∧ H = Hf) : Out (qcf9 P n rs r Hf) .normal B s H := ⟨h.1, .inl rfl, h.2⟩
theorem wb0 {f : FuncId} {fn : Func} {args : List AV} {r : AV} (d n : Nat) (rs : List ResultVar) (hf : P.funcs[f]? = some fn) (hb : fn.body.isSome = true) (hn : fn.ntmps = n) (hrs : fn.results.toList = rs) (hl : args.length ≤ n)
  (h : ∀ s, waR9 s 0 args → Go false P G 0 n (wf0 fn) [] (vbc9 P n rs d r) True s []) : PC P G f args r := by
 obtain ⟨c, hc⟩ := l'G.1 hb;refine zcF9 d n rs hf hc hn hrs hl fun a h1 h2 => ?_;have := (h (getA a) (xN0 a 0 args h2)).2;unfold At atR wf0 at this;rw [hc, ← vY0 h1] at this;refine qu0 this fun e a H ⟨s, ha, q⟩ => ?_;subst ha;unfold Done;rw [vaR9];exact q
theorem zp0 {f : FuncId} {fn : Func} {args : List AV} {r : AV} {Hf : List Blk} (n : Nat) (rs : List ResultVar) (hf : P.funcs[f]? = some fn) (hb : fn.body.isSome = true) (hn : fn.ntmps = n) (hrs : fn.results.toList = rs) (hl : args.length ≤ n)
  (h : ∀ s, waR9 s 0 args → Go false P G H.length n (wf0 fn) [] (qcf9 P n rs r Hf) True s H) : qb0 P G f args H r Hf := by
 obtain ⟨c, hc⟩ := l'G.1 hb;refine zbc9 n rs hf hc hn hrs hl fun a h1 h2 => ?_;have := (h (getA a) (xN0 a 0 args h2)).2;unfold At atR wf0 at this;rw [hc, ← vY0 h1] at this;refine qu0 this fun e a H ⟨s, ha, q⟩ => ?_;subst ha;unfold zdC9;rw [vaR9];exact q
end
def St0 (w : World) : St := ⟨fun k => w.heap[k]?, fun _ => none, fun _ => none, w⟩
def EnvW (w : World) : Env := (St0 w).env []
theorem qdH9 (w : World) : (St0 w).Ok [] :=
 ⟨fun k o h => h, fun b s t es hb => by simp at hb, fun b ob0 hb => by simp at hb, fun b b' g hb => by simp [St.at] at hb⟩
theorem zcI9 {P : Program} {G : Glob} {f : FuncId} {args : List AV} {vals : List Value} {b : Bool} {w : World} (h : PC P G f args (.bool b)) (hG : Globs G (fun k => w.heap[k]?)) (ha : RelL (EnvW w) args vals) :
  Calls P f vals.toArray w fun e w' => e = .returned (.bool b) ∧ Below w.heap.size w w' := by
 refine (h (St0 w) vals (qdH9 w) hG ha).mono fun e w' hh => ?_;obtain ⟨v, S', rfl, rfl, hok, hext, hrel⟩ := hh;have hn : ∀ k, ¬ (St0 w).Owns [] k := fun k ⟨b, hb⟩ => by simp [St.at] at hb
 have hv : v = .bool b := by simpa [Rel] using hrel
 exact ⟨by rw [hv], ⟨hext.os, hext.tape, hext.output, hext.size, fun k hlt => hext.keep k hlt (hn k)⟩⟩
theorem zaJ9 {w w' : World} (hg : Below w.heap.size w w') {i : Nat} (hi : i < w.heap.size) : w'.heap[i]? = w.heap[i]? := hg.block i hi
theorem wbO9 {w w' : World} (hg : Below w.heap.size w w') {p : MemPlace} (hp : p.block < w.heap.size) : w.sameAt w' p := by
 cases p with
 | cell b off =>
  have hb : w'.heap[b]? = w.heap[b]? := zaJ9 hg hp;grind [World.sameAt, World.cell?]
 | map b => exact zaJ9 hg hp
theorem qZ0 {H : Type} {enc : TypeId × Value → H} {P : Program} (hl : laidOutB P = true) {w w' : World} (hg : Below w.heap.size w w') {sp : Nat → Bool} : ∀ {ts : List TypeId} {vs : List Value} {ds : List (DataW H)} {ps : List MemPlace},
  (ts.all fun t => P.readableRec t && decide (t < P.types.size)) = true → DataW.TrodAll enc P w 0 (fun _ => true) true ts vs ds ps → (∀ p ∈ ps, p.block < w.heap.size) → (∀ p ∈ ps, sp p.block = true) → DataW.TrodAll enc P w' 0 sp true ts vs ds ps
 | [], [], [], ps, _, h, _, _ => h
 | t :: ts, v :: vs, d :: ds, ps, ht, ⟨p, q, h1, h2, e⟩, hlt, hs => by
  subst e;simp only [List.all_cons, l'a, decide_eq_true_eq] at ht;refine ⟨p, q, Go.WideElems.Trod_stays hl ht.1.1 ht.1.2 h1 (fun x hx => wbO9 hg (hlt x (n's _ hx))) (fun x hx => hs x (n's _ hx)), ?_, rfl⟩;exact qZ0 hl hg (by simpa using ht.2) h2 (fun x hx => hlt x (n'J _ hx)) (fun x hx => hs x (n'J _ hx))
 | [], v :: vs, ds, ps, _, h, _, _ => h.elim
 | [], [], d :: ds, ps, _, h, _, _ => h.elim
 | t :: ts, [], ds, ps, _, h, _, _ => h.elim
 | t :: ts, v :: vs, [], ps, _, h, _, _ => h.elim
theorem vbO9 {w : World} {g off : Nat} {v : Value} (h : w.cell? ⟨g, off, none⟩ = some v) : qv0 (EnvW w).M g off = some v := by
 grind [World.cell?, qv0, EnvW, St.env, St0]
theorem zcf9 {w : World} {a : Addr} {v : Value} (h : w.cell? a = some v) : a.spot = none := by
 unfold World.cell? at h;split at h
 ·simp_all
 ·cases h
theorem vda9 {a : Addr} (h : a.spot = none) (n : Nat) : a.add n = ⟨a.block, a.off + n, none⟩ := by
 unfold Addr.add;split
 ·rename_i q; subst q;cases a; simp at h; subst h; rfl
 ·rfl
theorem kbc9 {α β : Type} {f : α → Option β} : ∀ {l : List α} {r : List β}, l.mapM f = some r → r.length = l.length ∧ ∀ (i : Nat) (x : α) (y : β), l[i]? = some x → r[i]? = some y → f x = some y
 | [], r, h => by
  simp at h; subst h; simp
 | a :: l, r, h => by
  rw [List.mapM_cons] at h;cases ha : f a with
  | none => rw [ha] at h; cases h
  | some b =>
   rw [ha] at h;cases hl : l.mapM f with
   | none => rw [hl] at h; cases h
   | some bs =>
    rw [hl] at h;injection h with h; subst h
    obtain ⟨h1, h2⟩ := kbc9 hl;refine ⟨by simp [h1], fun i x y hx hy => ?_⟩;cases i with
    | zero =>
     simp at hx hy;subst hx; subst hy; exact ha
    | succ i => exact h2 i x y (by simpa using hx) (by simpa using hy)
theorem waw9 {α : Type} {Pr : Nat → α → Prop} : ∀ (n : Nat), (∀ i, i < n → ∃ y, Pr i y) → ∃ ys : List α, ys.length = n ∧ ∀ (i : Nat) (y : α), ys[i]? = some y → Pr i y
 | 0, _ => ⟨[], rfl, fun i y h => by simp at h⟩
 | n + 1, h => by
  obtain ⟨ys, h1, h2⟩ := waw9 n fun i hi => h i (by omega);obtain ⟨y, hy⟩ := h n (by omega);refine ⟨ys ++ [y], by simp [h1], fun i z hz => ?_⟩;grind
structure View (P : Program) (t : TypeId) (α : Type) where
 to : α → List AV
 ok : α → Prop
 get : ∀ {H : Type} {enc : TypeId × Value → H} {w : World} {fuel : Nat} {cs : List Value} {x : DataW H × List MemPlace}, DataW.trod enc P w 0 (fun _ => true) true fuel t cs = some x → ∃ y, ok y ∧ RelL (EnvW w) (to y) cs ∧ ∀ u ∈ cs, u.oneCell' = true
def View.int {P : Program} {t : TypeId} (k : IntKind) (hu : P.underlying t = some (.int k)) : View P t Int where
 to n := [.int k n]
 ok n := (Lit.int k n).wf = true
 get h := by
  obtain ⟨n, rfl, _, hw⟩ := DataW.trod_int hu h;grind [RelL, Rel, Value.oneCell']
def View.bool {P : Program} {t : TypeId} (hu : P.underlying t = some .bool) : View P t Bool where
 to n := [.bool n]
 ok n := True
 get h := by
  obtain ⟨n, rfl, _⟩ := DataW.trod_bool hu h;simp_all [trivial, RelL, Rel, Value.oneCell']
def View.str {P : Program} {t : TypeId} (hu : P.underlying t = some .string) : View P t (List UInt8) where
 to n := [.str n]
 ok n := n.length ≤ maxLen
 get h := by
  obtain ⟨s, rfl, _, hw⟩ := DataW.trod_string hu h;exact ⟨s.data.toList, by simpa using hw, by simp [RelL, Rel], by simp [Value.oneCell']⟩
def View.slice {P : Program} {t e : TypeId} {α : Type} (s : Nat) (hu : P.underlying t = some (.slice e)) (hs : P.cellsOf e = s) (hpos : 0 < s) (v : View P e α) : View P t (List α × Nat) where
 to y := [.sl s (y.1.map v.to) (some y.2)]
 ok y := (∀ x ∈ y.1, v.ok x) ∧ y.1.length ≤ y.2 ∧ y.2 ≤ maxLen
 get {H enc w fuel cs x} h := by
  rcases DataW.trod_slice hu h with ⟨rfl, _⟩|⟨a, len, cap, elems, rest, n, rfl, rfl, hx, _, h1, h2, h3, h4, _⟩
  ·exact ⟨([], 0), ⟨by simp, by simp, by simp⟩, by simp [RelL, Rel], by simp [Value.oneCell']⟩
  ·have hcell : ∀ i, i < len → ∃ ci y, w.cells? 0 (a.add (i * s)) s = some ci ∧ v.ok y ∧ RelL (EnvW w) (v.to y) ci ∧ ∀ u ∈ ci, u.oneCell' = true := fun i hi => by
    have q := h4 i hi;have hlt : i < elems.length := by omega
    rw [l'e hlt, hs] at q;cases hc : w.cells? 0 (a.add (i * s)) s with
    | none => rw [hc] at q; cases q
    | some ci =>
     rw [hc] at q;obtain ⟨y, q1, q2, q3⟩ := v.get (H := H) q;exact ⟨ci, y, rfl, q1, q2, q3⟩
   have hparts : ∀ i ci, w.cells? 0 (a.add (i * s)) s = some ci → ci.length = s ∧ ∀ j u, ci[j]? = some u → w.cell? ((a.add (i * s)).add j) = some u := fun i ci hc => by
    unfold World.cells? at hc;rw [if_pos (n'b _)] at hc;obtain ⟨q1, q2⟩ := kbc9 hc;grind
   have hspot : 0 < len → a.spot = none := fun hl => by
    obtain ⟨ci, y, hc, _⟩ := hcell 0 hl;obtain ⟨q1, q2⟩ := hparts 0 ci hc;have h0 : 0 < ci.length := by omega
    have := q2 0 ci[0] (by simp [h0]);rw [Nat.zero_mul] at this;have e : (a.add 0).add 0 = a := rfl;grind [zcf9]
   obtain ⟨ys, g1, g2⟩ := waw9 (Pr := fun i y => v.ok y ∧ (v.to y).length = s ∧ RelC (EnvW w) (v.to y) a.block (a.off + i * s)) len fun i hi => by
    obtain ⟨ci, y, hc, q1, q2, q3⟩ := hcell i hi;obtain ⟨p1, p2⟩ := hparts i ci hc;refine ⟨y, q1, by have := q2.length; omega, RelC.mk fun j b hj => ?_⟩;obtain ⟨u, hu', hr⟩ := q2.get hj;refine ⟨u, ?_, q3 u (l'l hu'), hr⟩;have := p2 j u hu';rw [vda9 (hspot (by omega)), vda9 rfl] at this;exact vbO9 this
   refine ⟨(ys, cap), ⟨fun x hx => ?_, by simp [g1, h1], h2⟩, ?_, by simp [Value.oneCell']⟩
   ·grind [List.mem_iff_getElem?]
   ·refine ⟨_, [], rfl, ?_, rfl⟩;simp only [Rel];refine ⟨some a, cap, by simp [g1], by simp [g1, h1], h2, fun k hk => by injection hk, ?_⟩;rcases n'g len with q|q
    ·grind
    ·right
     have hs' := hspot q;refine ⟨a.block, a.off, by cases a; simp at hs'; subst hs'; rfl, RelE.mk fun i e he => ?_⟩;grind
structure FView (P : Program) (fs : List Field) (off tot : Nat) (β : Type) where
 to : β → List AV
 ok : β → Prop
 get : ∀ {H : Type} {enc : TypeId × Value → H} {w : World} {n : Nat} {cs : List Value}, cs.length = tot →
  (∀ (i : Nat) (f : Field), fs[i]? = some f → ∃ x : DataW H × List MemPlace, DataW.trod enc P w 0 (fun _ => true) true n f.type (List.take (P.cellsOf f.type) (List.drop f.offset cs)) = some x) → ∃ y, ok y ∧ RelL (EnvW w) (to y) (cs.drop off) ∧ ∀ u ∈ cs.drop off, u.oneCell' = true
def FView.nil {P : Program} {off tot : Nat} (h : tot ≤ off) : FView P [] off tot Unit where
 to _ := []
 ok _ := True
 get hc _ := by
  simp_all [trivial, l'M, RelL]
def FView.cons {P : Program} {f : Field} {fs : List Field} {off tot : Nat} {α β : Type} (c : Nat) (hf : f.offset = off) (hc : P.cellsOf f.type = c) (v : View P f.type α) (r : FView P fs (off + c) tot β) : FView P (f :: fs) off tot (α × β) where
 to y := v.to y.1 ++ r.to y.2
 ok y := v.ok y.1 ∧ r.ok y.2
 get {H enc w n cs} hl h := by
  obtain ⟨x, hx⟩ := h 0 f rfl;rw [hf, hc] at hx;obtain ⟨y1, q1, q2, q3⟩ := v.get hx;obtain ⟨y2, p1, p2, p3⟩ := r.get hl fun i f' hi => h (i + 1) f' hi;have e : cs.drop off = (cs.drop off).take c ++ cs.drop (off + c) := by
   rw [← n'p, n'x]
  refine ⟨(y1, y2), ⟨q1, p1⟩, ?_, ?_⟩
  ·rw [e]; exact q2.append p2
  grind
def View.struct {P : Program} {t : TypeId} {fs : Array Field} {β : Type} (tot : Nat) (hu : P.underlying t = some (.struct fs)) (ht : P.cellsOf t = tot) (r : FView P fs.toList 0 tot β) : View P t β where
 to := r.to
 ok := r.ok
 get {H enc w fuel cs x} h := by
  obtain ⟨xs, n, rfl, _, h1, h2, h3⟩ := DataW.trod_struct hu h;obtain ⟨y, q1, q2, q3⟩ := r.get (H := H) (h1.trans ht) fun i f hi => by
   have hi' : fs[i]? = some f := by simpa using hi
   have hlt : i < xs.length := by grind
   exact ⟨xs[i], by rw [h3 i f hi', l'e hlt]⟩
  grind
section
variable {P : Program} {H : Type} {enc : TypeId × Value → H} {w : World} {t : TypeId} {v : Value} {d : DataW H} {ps : List MemPlace} {α : Type}
end
section
variable {S : St} {H : List Blk}
def St.nil (S : St) (b : Nat) : St := { S with μ := upd S.μ b none }
theorem vbq9 (hok : S.Ok H) (s : Nat) (t : TypeId) : Ext H.length S H (S.nil H.length) (H ++ [.row s t []]) where
 os := rfl
 tape := rfl
 output := rfl
 size := l'd _
 keep i hi hno := rfl
 M i o h := h
 dom i h := .inl h
 own i h := by
  obtain ⟨x, hx⟩ := h;by_cases e : x < H.length
  ·left
   refine ⟨x, ?_⟩;simpa only [St.at, St.nil, l'f e, ve0 _ _ (show x ≠ H.length by omega)] using hx
  ·by_cases e2 : x = H.length
   ·subst e2;simp [St.at, St.nil, wc0] at hx
   ·have : (H ++ [Blk.row s t []])[x]? = none := l'p (by simp; omega);simp [St.at, this] at hx
 sh x s' cur hx hs := ⟨cur, l'd _, by rw [wB0 hx]; exact hs, fun _ => ve0 _ _ (show x ≠ H.length by omega)⟩
 ν x g' hx hs := by rw [vB0 hx]; exact hs
 len h := by simp
theorem kda9 (hok : S.Ok H) (s : Nat) (t : TypeId) : (S.nil H.length).Ok (H ++ [.row s t []]) := by
 have hle := (vbq9 hok s t).le (l'd _);have hat : ∀ x, x < H.length → (S.nil H.length).at (H ++ [.row s t []]) x = S.at H x := fun x e => by
  simp only [St.at, St.nil, l'f e, ve0 _ _ (show x ≠ H.length by omega)]
 have hlt : ∀ x g, (S.nil H.length).at (H ++ [.row s t []]) x = some g → x < H.length := fun x g hx => by
  by_cases e : x < H.length
  ·exact e
  ·by_cases e2 : x = H.length
   ·subst e2; simp [St.at, St.nil, wc0] at hx
   ·have : (H ++ [Blk.row s t []])[x]? = none := l'p (by simp; omega);simp [St.at, this] at hx
 refine ⟨hok.imm, fun x s' t' es hx => ?_, fun x ob0 hx => ?_, fun x y g hx hy => ?_⟩
 ·by_cases e : x < H.length
  ·rw [l'f e] at hx;rcases hok.row x s' t' es hx with q|⟨g, k, cs, h1, h2, h3, h4, h5, h6, h7⟩
   ·exact .inl ⟨(ve0 _ _ (by omega)).trans q.1, q.2⟩
   ·exact .inr ⟨g, k, cs, (ve0 _ _ (by omega)).trans h1, h2, h3, h4, h5, h6, h7.mono hle⟩
  ·have e2 : x = H.length := by
    have := (l'c.1 hx).1;simp at this; omega
   subst e2;simp at hx;exact .inl ⟨wc0 _ _ _, .inl hx.2.2⟩
 ·by_cases e : x < H.length
  ·rw [l'f e] at hx;obtain ⟨g, ob1, h1, h2, h3, h4⟩ := hok.ob x ob0 hx;exact ⟨g, ob1, h1, h2, h3, h4.mono hle⟩
  ·have e2 : x = H.length := by
    have := (l'c.1 hx).1;simp at this; omega
   subst e2;simp at hx
 ·have q1 := hlt x g hx;have q2 := hlt y g hy;rw [hat x q1] at hx; rw [hat y q2] at hy;exact hok.inj x y g hx hy
end
theorem qr0 {n0 n t z sz : Nat} {ty : TypeId} {s : Nat → AV} {H : List Blk} (h : s t = .sl z [] (some 0)) :
  Weak n0 (Lst n s) H (Lst n (updS s t (.own H.length 0 0 none))) (H ++ [.row sz ty []]) := fun S vs hok hn ha => by
 have hext := vbq9 hok sz ty;refine ⟨S.nil H.length, rfl, kda9 hok sz ty, hext.less hn (l'd _), ?_⟩;have hle := hext.le (l'd _);refine RelL.mk (by rw [← ha.length]; simp [wq0]) fun i a v hi hv => ?_;have hil : i < n := by have := (l'c.1 hi).1; simpa [wq0] using this
 simp only [Lst, l'k, n'Z hil, Option.map_some, Option.some.injEq] at hi;subst hi;obtain ⟨v', hv', hr⟩ := ha.get (i := i) (a := s i) (by simp [Lst, n'Z hil]);rw [hv] at hv'; injection hv' with hv'; subst hv'
 unfold updS;split
 ·rename_i e; subst e;rw [h] at hr;simp only [Rel] at hr;obtain ⟨a, cap, rfl, h1, h2, h3, h4⟩ := hr;have : cap = 0 := h3 0 rfl;subst this;simp only [Rel];refine ⟨sz, 0, by simp [St.env, shOf], l'd _, fun _ => ⟨l'd _, .inl ⟨wc0 _ _ _, ⟨a, rfl⟩, by simp⟩⟩⟩
 ·exact Rel.mono hle _ _ hr
end Go.V

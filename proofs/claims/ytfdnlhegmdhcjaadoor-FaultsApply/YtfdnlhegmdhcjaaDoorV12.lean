/- The library V, part 12: append; all operations that turn the own blocks. -/
import Derived.Test.YtfdnlhegmdhcjaaDoorV8
import Derived.Deep.Draws
set_option linter.unusedVariables false
set_option linter.unusedSimpArgs false
namespace Go.V
open Go Go.RowKit
section
variable {P : Program} {E : Env}
theorem beq_bytes (a c : List UInt8) : ((⟨a.toArray⟩ : ByteArray) == ⟨c.toArray⟩) = decide (a = c) := by
 have : ((⟨a.toArray⟩ : ByteArray) == ⟨c.toArray⟩) = (a.toArray == c.toArray) := rfl
 rw [this]
 simp only [List.beq_toArray]
 exact Bool.eq_iff_iff.2 (by simp)
theorem sameA_eq {a b : AV} {u v : Value} (h : sameA a b = true) (ha : Rel E a u) (hb : Rel E b v) : a = b ∧ u = v ∧ ∀ D, Instr.sameBits D u v = true := by
 unfold sameA at h
 split at h
 ·simp only [Bool.and_eq_true, beq_iff_eq] at h
  obtain ⟨rfl, rfl⟩ := h
  simp only [Rel] at ha hb
  subst ha; subst hb
  exact ⟨rfl, rfl, fun D => by cases D <;> simp [Instr.sameBits]⟩
 ·have h := beq_iff_eq.1 h; subst h
  simp only [Rel] at ha hb
  subst ha; subst hb
  exact ⟨rfl, rfl, fun D => by cases D <;> simp [Instr.sameBits]⟩
 ·have h := beq_iff_eq.1 h; subst h
  simp only [Rel] at ha hb
  subst ha; subst hb
  exact ⟨rfl, rfl, fun D => by cases D <;> simp [Instr.sameBits, beq_bytes]⟩
 ·cases h
theorem sameL_eq : ∀ {as bs : List AV} {us vs : List Value}, sameL as bs = true → RelL E as us → RelL E bs vs → as = bs ∧ us = vs ∧ ∀ D, ((us.zip vs).all fun (x, y) => Instr.sameBits D x y) = true
 | [], [], us, vs, _, ha, hb => by
  simp only [RelL] at ha hb; subst ha; subst hb; simp
 | [], _ :: _, _, _, h, _, _ => by cases h
 | _ :: _, [], _, _, h, _, _ => by cases h
 | a :: as, b :: bs, us, vs, h, ha, hb => by
  simp only [sameL, Bool.and_eq_true] at h
  simp only [RelL] at ha hb
  obtain ⟨u, us, rfl, h1, h2⟩ := ha
  obtain ⟨v, vs, rfl, k1, k2⟩ := hb
  obtain ⟨e1, e2, e3⟩ := sameA_eq h.1 h1 k1
  obtain ⟨f1, f2, f3⟩ := sameL_eq h.2 h2 k2
  subst e1; subst e2; subst f1; subst f2
  exact ⟨rfl, rfl, fun D => by simp only [List.zip_cons_cons, List.all_cons, e3, Bool.true_and]; exact f3 D⟩
theorem sameK_eq {a b : AV} {u v : Value} (h : sameK a b = true) (ha : Rel E a u) (hb : Rel E b v) : a = b ∧ u = v ∧ Instr.sameBits 10000 u v = true := by
 unfold sameK at h
 split at h
 ·simp only [Rel] at ha hb
  obtain ⟨us, rfl, hu, _⟩ := ha
  obtain ⟨vs, rfl, hv, _⟩ := hb
  obtain ⟨e1, e2, e3⟩ := sameL_eq h hu hv
  subst e1; subst e2
  refine ⟨rfl, rfl, ?_⟩
  simp only [Instr.sameBits, beq_self_eq_true, Bool.true_and]
  exact e3 9999
 ·obtain ⟨e1, e2, e3⟩ := sameA_eq h ha hb
  exact ⟨e1, e2, e3 _⟩
theorem run_checkKey_A (w : World) (em : Bool) : ∀ (d : Nat) (t : TypeId) (x : AV) (v : Value), Rel E x v → keyA P d t x = true → ∀ D, d ≤ D → (Instr.checkKey em D t v).run P w = .ok () w
 | 0, t, x, v, _, h, _, _ => by simp [keyA] at h
 | d + 1, t, x, v, hx, h, D, hD => by
  obtain ⟨D, rfl⟩ : ∃ D', D = D' + 1 := ⟨D - 1, by omega⟩
  unfold keyA at h
  split at h
  ·rename_i kk k a hs
   obtain ⟨T, hT, hsh⟩ := shp_some hs (by simp)
   have hu := und_int hT hsh
   have e1 : v = .int k a := by simpa [Rel] using hx
   subst e1
   simp [Instr.checkKey, run_underlying hu]
  ·rename_i a hs
   obtain ⟨T, hT, hsh⟩ := shp_some hs (by simp)
   have hu := und_bool hT hsh
   have e1 : v = .bool a := by simpa [Rel] using hx
   subst e1
   simp [Instr.checkKey, run_underlying hu]
  ·rename_i a hs
   obtain ⟨T, hT, hsh⟩ := shp_some hs (by simp)
   have hu := und_str hT hsh
   have e1 : v = .string ⟨a.toArray⟩ := by simpa [Rel] using hx
   subst e1
   simp [Instr.checkKey, run_underlying hu]
  ·rename_i n e cs hs
   obtain ⟨T, hT, hsh⟩ := shp_some hs (by simp)
   have hu := und_array hT hsh
   simp only [Rel] at hx
   obtain ⟨vs, rfl, hl, h1⟩ := hx
   split at h
   ·rename_i F hF
    have hi : ∃ i, P.info? e = some i ∧ i.size = F.sz := by
     obtain ⟨i, dd, z, hi, _, hz, _, hE⟩ := tinfo_some hF
     exact ⟨i, hi, by rw [hE]⟩
    obtain ⟨i, hi, his⟩ := hi
    rw [Instr.checkKey]
    simp only [Sem.run_bind, run_underlying hu, Result.andThen_ok]
    simp only [Std.Legacy.Range.forIn_eq_forIn_range', Std.Legacy.Range.size, Nat.sub_zero, Nat.add_one_sub_one, Nat.div_one]
    rw [List.range_eq_range'] at h
    have each := List.all_eq_true.1 h
    clear h
    generalize List.range' 0 n = is at each
    induction is with
    | nil => simp
    | cons j is ih =>
     have hj := each j (by simp)
     simp only [Bool.and_eq_true] at hj
     obtain ⟨p, hp, hrp⟩ := run_part_cut (P := P) (w := w) hF hl h1 hj.1
     have hc := run_checkKey_A w em d e _ p hrp hj.2 D (by omega)
     have hsz : (sizeOf e).run P w = .ok F.sz w := by simp [sizeOf, typeInfo, hi, his]
     simp only [List.forIn_cons, Sem.run_bind, hsz, Result.andThen_ok, Sem.run_pure, hp, hc]
     exact ih (fun y hy => each y (by simp [hy]))
   ·cases h
  ·rename_i fs cs hs
   obtain ⟨T, hT, hsh⟩ := shp_some hs (by simp)
   obtain ⟨F, hu, hfs⟩ := und_struct hT hsh
   simp only [Rel] at hx
   obtain ⟨vs, rfl, hl, h1⟩ := hx
   rw [Instr.checkKey]
   simp only [Sem.run_bind, run_underlying hu, Result.andThen_ok]
   subst hfs
   rw [← Array.forIn_toList]
   have each := List.all_eq_true.1 h
   clear h hu hsh hT hs
   generalize F.toList = fs at *
   induction fs with
   | nil => simp
   | cons f fs ih =>
    have hj := each (f.offset, f.type) (by simp)
    simp only at hj
    split at hj
    ·rename_i G hG
     simp only [Bool.and_eq_true] at hj
     obtain ⟨p, hp, hrp⟩ := run_part_cut (P := P) (w := w) hG hl h1 hj.1
     have hc := run_checkKey_A w em d f.type _ p hrp hj.2 D (by omega)
     have ih' := ih (fun y hy => each y (by simp at hy ⊢; exact .inr hy))
     by_cases hn : f.name = "_"
     ·simpa [List.forIn_cons, hn] using ih'
     ·simpa [List.forIn_cons, hn, Sem.run_bind, hp, hc] using ih'
    ·cases hj
  ·cases h
def findI (k : AV) : List (AV × AV) → List MapEntry → Nat → Option (Nat × Value)
 | p :: es, e :: ents, i => if sameK k p.1 = true then some (i, e.val) else findI k es ents (i + 1)
 | _, _, _ => none
def RelM (E : Env) : List (AV × AV) → List MapEntry → Prop
 | [], es => es = []
 | p :: ps, es => ∃ e r, es = e :: r ∧ Rel E p.1 e.key ∧ Rel E p.2 e.val ∧ RelM E ps r
theorem relM_of : ∀ {es : List (AV × AV)} {l : List MapEntry}, es.length = l.length → (∀ (i : Nat) (p : AV × AV), es[i]? = some p → ∃ e, l[i]? = some e ∧ Rel E p.1 e.key ∧ Rel E p.2 e.val) → RelM E es l
 | [], l, hl, _ => List.eq_nil_of_length_eq_zero hl.symm
 | p :: es, [], hl, _ => by simp at hl
 | p :: es, e :: l, hl, h => by
  obtain ⟨e', he, h1, h2⟩ := h 0 p rfl
  simp at he; subst he
  exact ⟨e, l, rfl, h1, h2, relM_of (by simpa using hl) fun i p hi => by simpa using h (i + 1) p (by simpa using hi)⟩
theorem relM_get : ∀ {es : List (AV × AV)} {l : List MapEntry}, RelM E es l → es.length = l.length ∧ ∀ (i : Nat) (p : AV × AV), es[i]? = some p → ∃ e, l[i]? = some e ∧ Rel E p.1 e.key ∧ Rel E p.2 e.val
 | [], l, h => by simp only [RelM] at h; subst h; simp
 | p :: es, l, h => by
  simp only [RelM] at h
  obtain ⟨e, r, rfl, h1, h2, h3⟩ := h
  obtain ⟨l1, l2⟩ := relM_get h3
  refine ⟨by simp [l1], fun i q hi => ?_⟩
  cases i with
  | zero => simp at hi; subst hi; exact ⟨e, rfl, h1, h2⟩
  | succ i => simpa using l2 i q (by simpa using hi)
theorem mapIn_iff {es : List (AV × AV)} {ents : Array MapEntry} : MapIn E es ents ↔ RelM E es ents.toList :=
 ⟨fun h => relM_of (by simpa using h.1) fun i p hi => by simpa using h.2 i p hi, fun h => ⟨by simpa using (relM_get h).1, fun i p hi => by simpa using (relM_get h).2 i p hi⟩⟩
theorem run_findAsking (w : World) {kT : TypeId} {k : AV} {kv : Value} (hk : Rel E k kv) (hT : eqTy P 8 kT = true) : ∀ (es : List (AV × AV)) (ents : List MapEntry) (i : Nat), RelM E es ents → (es.all fun p => (eqA P 8 kT k p.1).1 && ((eqA P 8 kT k p.1).2 == sameK k p.1)) = true →
  (Instr.findAsking kT kv ents i).run P w = .ok (findI k es ents i) w
 | [], ents, i, hr, _ => by simp only [RelM] at hr; subst hr; simp [Instr.findAsking, findI]
 | p :: es, ents, i, hr, h => by
  simp only [RelM] at hr
  obtain ⟨e, r, rfl, h1, h2, h3⟩ := hr
  simp only [List.all_cons, Bool.and_eq_true, beq_iff_eq] at h
  have he := eqA_ok (P := P) w 8 kT _ _ _ _ hk h1 hT h.1.1 10000 (by decide)
  have ih := run_findAsking w hk hT es r (i + 1) h3 (by simpa using h.2)
  unfold Instr.findAsking findI
  have he' : (Op.equal kT kv e.key).run P w = .ok (eqA P 8 kT k p.1).2 w := he
  simp only [Sem.run_bind, he', Result.andThen_ok, h.1.2]
  cases sameK k p.1
  ·simpa using ih
  ·simp
theorem findNow_eq {kT : TypeId} {kd : TypeDesc} {k : AV} {kv : Value} (hkd : P.underlying kT = some kd) (hk : Rel E k kv) : ∀ (es : List (AV × AV)) (ents : List MapEntry) (i : Nat) (r : Option (Nat × Value)), RelM E es ents → (es.all fun p => (eqA P 8 kT k p.1).1 && ((eqA P 8 kT k p.1).2 == sameK k p.1)) = true →
  Instr.findNow kd kv ents i = some r → r = findI k es ents i
 | [], ents, i, r, hr, _, hf => by
  simp only [RelM] at hr; subst hr
  simp only [Instr.findNow, Option.some.injEq] at hf
  subst hf; simp [findI]
 | p :: es, ents, i, r, hr, h, hf => by
  simp only [RelM] at hr
  obtain ⟨e, l, rfl, h1, h2, h3⟩ := hr
  simp only [List.all_cons, Bool.and_eq_true, beq_iff_eq] at h
  have key : ∀ b, Instr.sameNow kd kv e.key = some b → b = sameK k p.1 := by
   intro b hb
   have h11 := h.1.1
   rw [← h.1.2]
   unfold eqA at h11 ⊢
   split at h11
   ·rename_i kk k1 a k2 c hs hp
    rw [hp] at h1
    have e1 : kv = .int k1 a := by simpa [Rel] using hk
    have e2 : e.key = .int k2 c := by simpa [Rel] using h1
    rw [e1, e2] at hb
    have hkk : k1 = k2 := by simpa using h11
    subst hkk
    unfold Instr.sameNow at hb
    split at hb
    ·rename_i q1 q2 q3
     cases q2; cases q3
     simp at hb
     rw [← hb]
     exact Bool.eq_iff_iff.2 (by simp)
    ·cases ‹Value.int _ _ = .string _›
    ·cases ‹Value.int _ _ = .bool _›
    ·cases hb
   ·rename_i a c hs hp
    rw [hp] at h1
    have e1 : kv = .bool a := by simpa [Rel] using hk
    have e2 : e.key = .bool c := by simpa [Rel] using h1
    rw [e1, e2] at hb
    unfold Instr.sameNow at hb
    split at hb
    ·cases ‹Value.bool _ = .int _ _›
    ·cases ‹Value.bool _ = .string _›
    ·rename_i q2 q3
     cases q2; cases q3
     simp at hb
     rw [← hb]
    ·cases hb
   ·rename_i a c hs hp
    rw [hp] at h1
    have e1 : kv = .string ⟨a.toArray⟩ := by simpa [Rel] using hk
    have e2 : e.key = .string ⟨c.toArray⟩ := by simpa [Rel] using h1
    rw [e1, e2] at hb
    unfold Instr.sameNow at hb
    split at hb
    ·cases ‹Value.string _ = .int _ _›
    ·rename_i q2 q3
     cases q2; cases q3
     simp only [Option.some.injEq] at hb
     rw [← hb]
     exact beq_bytes a c
    ·cases ‹Value.string _ = .bool _›
    ·cases hb
   ·simp only [Rel] at hk
    obtain ⟨us, rfl, _⟩ := hk
    simp [Instr.sameNow] at hb
   ·simp only [Rel] at hk
    obtain ⟨us, rfl, _⟩ := hk
    simp [Instr.sameNow] at hb
   ·cases h11
  unfold Instr.findNow at hf
  split at hf
  ·rename_i hs
   have := key _ hs
   rw [findI, ← this, if_pos rfl]
   injection hf with hf; exact hf.symm
  ·rename_i hs
   have := key _ hs
   rw [findI, ← this, if_neg (by simp)]
   exact findNow_eq hkd hk es l (i + 1) r h3 (by simpa using h.2) hf
  ·cases hf
theorem run_findKey (w : World) {kT : TypeId} {k : AV} {kv : Value} {es : List (AV × AV)} {ents : List MapEntry} (hk : Rel E k kv) (hr : RelM E es ents) (h : mapOk P kT es k = true) :
  (Instr.findKey kT kv ents).run P w = .ok (findI k es ents 0) w := by
 simp only [mapOk, Bool.and_eq_true] at h
 have hu : ∃ kd, P.underlying kT = some kd := by
  have h1 := h.1.1
  unfold eqTy at h1
  split at h1 <;> first|exact ⟨_, by assumption⟩|cases h1
 obtain ⟨kd, hkd⟩ := hu
 unfold Instr.findKey
 simp only [Sem.run_bind, run_underlying hkd, Result.andThen_ok]
 split
 ·rename_i r hf
  rw [findNow_eq hkd hk es ents 0 r hr h.2 hf]; simp
 ·exact run_findAsking w hk h.1.1 es ents 0 hr h.2
theorem findI_look {k z : AV} : ∀ (es : List (AV × AV)) (ents : List MapEntry) (i : Nat), RelM E es ents →
  match findI k es ents i with
  | some q => hasA es k = true ∧ Rel E (lookA z es k) q.2
  | none => hasA es k = false ∧ lookA z es k = z
 | [], ents, i, hr => by simp [findI, hasA, lookA]
 | p :: es, ents, i, hr => by
  simp only [RelM] at hr
  obtain ⟨e, l, rfl, h1, h2, h3⟩ := hr
  simp only [findI]
  by_cases hs : sameK k p.1 = true
  ·rw [if_pos hs]
   simp only [hasA, lookA, List.any_cons, List.find?_cons, hs, Bool.true_or, true_and]
   exact h2
  ·rw [if_neg hs]
   have ih := findI_look (k := k) (z := z) es l (i + 1) h3
   have hs' : sameK k p.1 = false := by simpa using hs
   have e1 : hasA (p :: es) k = hasA es k := by simp [hasA, hs']
   have e2 : lookA z (p :: es) k = lookA z es k := by simp [lookA, List.find?_cons, hs']
   rw [e1, e2]
   exact ih
end
section
variable {P : Program} {S : St} {H : List Blk}
theorem mapOf_ok (hok : S.Ok H) {x : AV} {v : Value} {es : List (AV × AV)} (hx : Rel (S.env H) x v) (h : mapOf? H x = some es) :
  ∃ ents : Array MapEntry, RelM (S.env H) es ents.toList ∧ ((v = .map none ∧ ents = #[]) ∨ ∃ g clock, v = .map (some g) ∧ S.w.heap[g]? = some (.map ents clock)) := by
 unfold mapOf? at h
 split at h
 ·rename_i b
  split at h
  ·rename_i kt vt es' hb
   injection h with h; subst h
   simp only [Rel] at hx
   obtain ⟨g, hg, rfl⟩ := hx
   have hg : S.ν b = some g := by
    have : mpOf S.ν H b = some g := hg
    simpa [mpOf, hb] using this
   obtain ⟨g', o, h1, h2, h3, ents, clock, rfl, h5⟩ := hok.ob b _ hb
   rw [hg] at h1; injection h1 with h1; subst h1
   exact ⟨ents, mapIn_iff.1 h5, .inr ⟨g, clock, rfl, h3⟩⟩
  ·cases h
 ·injection h with h; subst h
  have : v = .map none := by simpa [Rel] using hx
  subst this
  exact ⟨#[], rfl, .inl ⟨rfl, rfl⟩⟩
 ·cases h
theorem zeroV_ok {t : TypeId} {T : TI} (hT : tinfo P t = some T) (w : World) (E : Env) : ∃ z, (zeroValue t).run P w = .ok z w ∧ Rel E (zeroV P t) z := by
 obtain ⟨i, d, z, hi, _, hz, _, _⟩ := tinfo_some hT
 refine ⟨z, ?_, ?_⟩
 ·simp [zeroValue, typeInfo, hi, hz]
 ·simp only [zeroV, hi, hz]; exact rel_ofVal E z
theorem pLookup_ok (hok : S.Ok H) {t : TypeId} {x ix : AV} {u v : Value} (hx : Rel (S.env H) x u) (hi : Rel (S.env H) ix v) (ok : Bool) (h : (pLookup P H t x ix ok).1 = true) :
  ∃ r, (Instr.lookup t u v ok).run P S.w = .ok r S.w ∧ Rel (S.env H) (pLookup P H t x ix ok).2 r := by
 unfold pLookup at h ⊢
 split at h
 ·rename_i kT eT hs
  obtain ⟨T, hT, hsh⟩ := shp_some hs (by simp)
  have hu := und_map hT hsh
  split at h
  ·rename_i F es hF hm
   obtain ⟨ents, hr, hv⟩ := mapOf_ok hok hx hm
   have hmk := h
   simp only [mapOk, Bool.and_eq_true] at h
   have hck := run_checkKey_A (P := P) S.w ents.isEmpty 8 kT ix v hi h.1.2 10000 (by decide)
   have hfk := run_findKey S.w hi hr hmk
   obtain ⟨z, hz, hzr⟩ := zeroV_ok hF S.w (S.env H)
   have hlook := findI_look (k := ix) (z := zeroV P eT) es ents.toList 0 hr
   have key : (Instr.lookup t u v ok).run P S.w = .ok (match findI ix es ents.toList 0 with|some q => (if ok = true then Value.tuple #[q.2, .bool true] else q.2)|none => (if ok = true then Value.tuple #[z, .bool false] else z)) S.w := by
    unfold Instr.lookup
    rcases hv with ⟨rfl, rfl⟩|⟨g, clock, rfl, hg⟩
    ·simp only [Sem.run_bind, Sem.run_pure, run_underlying hu, Result.andThen_ok, hck, hfk]
     cases findI ix es (#[] : Array MapEntry).toList 0 <;> simp only [Sem.run_bind, Sem.run_pure, Result.andThen_ok, hz]
    ·have hgo : (getObj g).run P S.w = .ok (.map ents clock) S.w := by simp [getObj, Sem.run, hg]
     simp only [Sem.run_bind, Sem.run_pure, run_underlying hu, Result.andThen_ok, hgo, hck, hfk]
     cases findI ix es ents.toList 0 <;> simp only [Sem.run_bind, Sem.run_pure, Result.andThen_ok, hz]
   refine ⟨_, key, ?_⟩
   simp only [hF, hm]
   cases hq : findI ix es ents.toList 0 with
   | none =>
    rw [hq] at hlook
    simp only [hlook.1, hlook.2]
    cases ok
    ·exact hzr
    ·simp only [cond_true, if_true, Rel]
     exact ⟨[z, .bool false], rfl, by simp only [RelL]; exact ⟨_, _, rfl, hzr, _, _, rfl, by simp [Rel], rfl⟩⟩
   | some q =>
    rw [hq] at hlook
    simp only [hlook.1]
    cases ok
    ·exact hlook.2
    ·simp only [cond_true, if_true, Rel]
     exact ⟨[q.2, .bool true], rfl, by simp only [RelL]; exact ⟨_, _, rfl, hlook.2, _, _, rfl, by simp [Rel], rfl⟩⟩
  ·cases h
 ·cases h
end
end Go.V
set_option linter.unusedVariables false
set_option linter.unusedSimpArgs false
namespace Go.V
open Go Go.RowKit
section
variable {P : Program} {S : St} {H : List Blk}
def Yields (P : Program) (S : St) (H : List Blk) (x : Sem Next) (r : AV) : Prop :=
 ∃ v S', x.run P S.w = .ok (.value v) S'.w ∧ S'.Ok H ∧ Ext H.length S H S' H ∧ Rel (S'.env H) r v
theorem Yields.same (hok : S.Ok H) {x : Sem Value} {r : AV} {v : Value} (h : x.run P S.w = .ok v S.w) (hr : Rel (S.env H) r v) : Yields P S H (do pure (.value (← x))) r :=
 ⟨v, S, by simp [h], hok, Ext.refl _ _ _, hr⟩
theorem Yields.of (hok : S.Ok H) {x : Sem Value} {r : AV} (h : ∃ v, x.run P S.w = .ok v S.w ∧ Rel (S.env H) r v) : Yields P S H (do pure (.value (← x))) r :=
 let ⟨_, h1, h2⟩ := h
 Yields.same hok h1 h2
theorem relO_map {E : Env} {ρ : Operand → AV} {ρv : Operand → Value} (hρ : ∀ x, Rel E (ρ x) (ρv x)) (x : Option Operand) (h : (x.all fun y => (ρ y).ok) = true) : RelO E (x.map fun y => (ρ y).strip) (x.map ρv) := by
 cases x with
 | none => rfl
 | some y => exact ⟨_, rfl, (hρ y).strip (by simpa using h)⟩
theorem pstep_ok (hok : S.Ok H) {ρ : Operand → AV} {ρv : Operand → Value} (hρ : ∀ x, Rel (S.env H) (ρ x) (ρv x)) (hconst : ∀ v, ρv (.const v) = v) (o : Oper) (h : (pstep P o.op ρ H).1 = true) :
  Yields P S H (execOp ρv o) (pstep P o.op ρ H).2 := by
 obtain ⟨dst, op, type, pos, after, guard⟩ := o
 simp only at h ⊢
 have st : ∀ x, (ρ x).ok = true → Rel (S.env H) (ρ x).strip (ρv x) := fun x hx => (hρ x).strip hx
 cases op with
 | move x => exact ⟨ρv x, S, rfl, hok, Ext.refl _ _ _, st x h⟩
 | assign x => exact ⟨ρv x, S, rfl, hok, Ext.refl _ _ _, st x h⟩
 | pick c x y =>
  simp only [pstep] at h ⊢
  split at h
  ·rename_i b hb
   simp only [Bool.and_eq_true] at h
   have hc := st c h.1
   rw [hb] at hc
   have hcv : ρv c = .bool b := by simpa [Rel] using hc
   refine ⟨if b = true then ρv x else ρv y, S, ?_, hok, Ext.refl _ _ _, ?_⟩
   ·simp [execOp, hcv, asBool]
   ·refine Rel.ite (fun hb' => ?_) fun hb' => ?_
    ·subst hb'; exact st x (by simpa using h.2)
    ·subst hb'; exact st y (by simpa using h.2)
  ·cases h
 | load t p =>
  simp only [pstep, Bool.and_eq_true] at h ⊢
  exact Yields.of hok (pLoad_ok hok (st p h.1) h.2)
 | nilCheck x =>
  simp only [pstep] at h ⊢
  split at h
  ·rename_i b i o hh hx
   simp only [Bool.and_eq_true] at h
   have hr := st x h.1
   rw [hx] at hr
   obtain ⟨s, g, k, hs, hg, hv⟩ := rel_ptr hr h.2
   exact ⟨ρv x, S, by simp [execOp, hv], hok, Ext.refl _ _ _, hr⟩
  ·rename_i cs o hx
   have hr := st x h
   rw [hx] at hr
   have hr' := hr
   simp only [Rel] at hr'
   obtain ⟨g, off, hv, _⟩ := hr'
   exact ⟨ρv x, S, by simp [execOp, hv], hok, Ext.refl _ _ _, hr⟩
  ·rename_i f c hx
   have hr := st x h
   rw [hx] at hr
   have hr' := hr
   simp only [Rel] at hr'
   obtain ⟨vs, hv, _⟩ := hr'
   exact ⟨ρv x, S, by simp [execOp, hv], hok, Ext.refl _ _ _, hr⟩
  ·cases h
 | fieldAddr s x f =>
  simp only [pstep, Bool.and_eq_true] at h ⊢
  exact Yields.of hok (pFieldAddr_ok hok (st x h.1) h.2)
 | field s x f =>
  simp only [pstep, Bool.and_eq_true] at h ⊢
  exact Yields.of hok (pField_ok (st x h.1) h.2)
 | indexAddr t x i =>
  simp only [pstep, Bool.and_eq_true] at h ⊢
  exact Yields.of hok (pIndexAddr_ok hok (st x h.1) (st i h.2.1) h.2.2)
 | index t x i =>
  simp only [pstep, Bool.and_eq_true] at h ⊢
  exact Yields.of hok (pIndex_ok (st x h.1) (st i h.2.1) h.2.2)
 | binOp op t x y yt =>
  simp only [pstep] at h ⊢
  split at h
  ·rename_i neg v hn
   simp only [Bool.and_eq_true] at h
   have hy := (nilTest_some hn).1
   have := pNil_ok op t x y hn (st x h.1) h.2
   have hv : ρv y = v := by rw [hy]; exact hconst v
   rw [← hv] at this
   rw [← hv]
   exact Yields.of hok this
  ·simp only [Bool.and_eq_true] at h
   exact Yields.of hok (pBin_ok op t x y (st x h.1) (st y h.2.1) h.2.2)
 | unOp op t x =>
  simp only [pstep, Bool.and_eq_true] at h ⊢
  exact Yields.of hok (pUn_ok (st x h.1) h.2)
 | convert src dst x =>
  simp only [pstep, Bool.and_eq_true] at h ⊢
  exact Yields.of hok (pConvert_ok hok (st x h.1) h.2)
 | extract x i =>
  simp only [pstep] at h ⊢
  split at h
  ·rename_i vs hx
   split at h
   ·rename_i v hv
    have hr := st x h
    rw [hx] at hr
    simp only [Rel] at hr
    obtain ⟨us, hu, hl⟩ := hr
    obtain ⟨u, hu2, hr2⟩ := hl.get hv
    exact ⟨u, S, by simp [execOp, hu, Instr.extract, hu2], hok, Ext.refl _ _ _, hr2⟩
   ·cases h
  ·cases h
 | slice t x lo hi mx =>
  simp only [pstep, Bool.and_eq_true] at h ⊢
  exact Yields.of hok (pSlice_ok (st x h.1.1.1.1) (relO_map hρ lo h.1.1.1.2) (relO_map hρ hi h.1.1.2) (relO_map hρ mx h.1.2) h.2)
 | build t parts =>
  simp only [pstep, Bool.and_eq_true, List.all_eq_true] at h ⊢
  refine Yields.of hok (pBuild_ok (by simp) (fun i p q hp hq => ?_) h.2)
  simp only [Array.toList_map, List.getElem?_map] at hp hq
  cases hx : parts.toList[i]? with
  | none => rw [hx] at hp; cases hp
  | some z =>
   rw [hx] at hp hq
   injection hp with hp; injection hq with hq; subst hp; subst hq
   exact ⟨rfl, st z.2 (h.1 z (List.mem_of_getElem? hx))⟩
 | buildSlice t len parts =>
  simp only [pstep, Bool.and_eq_true, List.all_eq_true] at h ⊢
  obtain ⟨r, C, ce, hr, hrr⟩ := pBuildSlice_ok (P := P) hok (t := t) (len := len) (parts := parts.toList.map fun p => (p.1, (ρ p.2).strip)) (pv := parts.map fun p => (p.1, ρv p.2)) (by simp) (fun i p q hp hq => by
   simp only [Array.toList_map, List.getElem?_map] at hp hq
   cases hx : parts.toList[i]? with
   | none => rw [hx] at hp; cases hp
   | some z =>
    rw [hx] at hp hq
    injection hp with hp; injection hq with hq; subst hp; subst hq
    exact ⟨rfl, st z.2 (h.1 z (List.mem_of_getElem? hx))⟩) h.2
  exact ⟨r, S.imm (.cells C ce), by simp [execOp, hr], imm_ok hok C ce, imm_ext hok C ce, hrr⟩
 | makeFunc fn first captured =>
  cases fn with
  | func f =>
   simp only [pstep, Bool.and_eq_true, List.all_eq_true, Array.isEmpty_iff] at h ⊢
   refine ⟨_, S, rfl, hok, Ext.refl _ _ _, ?_⟩
   simp only [Rel, h.1]
   refine ⟨captured.toList.map ρv, by simp; apply Array.ext'; simp, RelL.mk (by simp) fun i a v ha hv => ?_⟩
   simp only [List.getElem?_map] at ha hv
   cases hx : captured.toList[i]? with
   | none => rw [hx] at ha; cases ha
   | some z =>
    rw [hx] at ha hv
    injection ha with ha; injection hv with hv; subst ha; subst hv
    exact st z (h.2 z (List.mem_of_getElem? hx))
  | _ => cases h
 | lookup t x i ok =>
  simp only [pstep, Bool.and_eq_true] at h ⊢
  exact Yields.of hok (pLookup_ok hok (st x h.1) (st i h.2.1) ok h.2.2)
 | call c =>
  obtain ⟨callee, args, argTypes⟩ := c
  cases callee with
  | builtin b =>
   cases b with
   | len =>
    simp only [pstep] at h ⊢
    split at h
    ·rename_i x t ts ha ht
     simp only [Bool.and_eq_true] at h
     obtain ⟨u, hu, hr⟩ := pLen_ok (P := P) hok (ts := argTypes) (t := t) (by rw [← Array.getElem?_toList, ht]; rfl) type (st x h.1) h.2
     refine ⟨u, S, ?_, hok, Ext.refl _ _ _, hr⟩
     have : args.map ρv = #[ρv x] := by apply Array.ext'; simp [ha]
     simp [execOp, resolve, invoke, builtin, this, hu]
    ·cases h
   | cap =>
    simp only [pstep] at h ⊢
    split at h
    ·rename_i x t ts ha ht
     simp only [Bool.and_eq_true] at h
     obtain ⟨u, hu, hr⟩ := pCap_ok (P := P) (ts := argTypes) (t := t) (by rw [← Array.getElem?_toList, ht]; rfl) type (st x h.1) h.2
     refine ⟨u, S, ?_, hok, Ext.refl _ _ _, hr⟩
     have : args.map ρv = #[ρv x] := by apply Array.ext'; simp [ha]
     simp [execOp, resolve, invoke, builtin, this, hu]
    ·cases h
   | max =>
    simp only [pstep] at h ⊢
    split at h
    ·rename_i x y ha
     simp only [Bool.and_eq_true] at h
     obtain ⟨u, hu, hr⟩ := pMax_ok (P := P) (ts := argTypes) (ty := type) (st x h.1) (st y h.2.1) h.2.2
     refine ⟨u, S, ?_, hok, Ext.refl _ _ _, hr⟩
     have : args.map ρv = #[ρv x, ρv y] := by apply Array.ext'; simp [ha]
     simp [execOp, resolve, invoke, builtin, this, hu]
    ·cases h
   | min =>
    simp only [pstep] at h ⊢
    split at h
    ·rename_i x y ha
     simp only [Bool.and_eq_true] at h
     obtain ⟨u, hu, hr⟩ := pMin_ok (P := P) (ts := argTypes) (ty := type) (st x h.1) (st y h.2.1) h.2.2
     refine ⟨u, S, ?_, hok, Ext.refl _ _ _, hr⟩
     have : args.map ρv = #[ρv x, ρv y] := by apply Array.ext'; simp [ha]
     simp [execOp, resolve, invoke, builtin, this, hu]
    ·cases h
   | _ => cases h
  | _ => cases h
 | _ => cases h
end
end Go.V
set_option linter.unusedVariables false
set_option linter.unusedSimpArgs false
namespace Go.V
open Go Go.RowKit
def upd {α : Type} (f : Nat → α) (b : Nat) (v : α) : Nat → α := fun x => if x = b then v else f x
theorem upd_same {α : Type} (f : Nat → α) (b : Nat) (v : α) : upd f b v b = v := by simp [upd]
theorem upd_ne {α : Type} (f : Nat → α) {b x : Nat} (v : α) (h : x ≠ b) : upd f b v x = f x := by simp [upd, h]
section
variable {P : Program} {S : St} {H : List Blk}
theorem shOf_set_same {b s : Nat} {t : TypeId} {es : List (List AV)} (h : b < H.length) : shOf (H.set b (.row s t es)) b = some (s, es.length) := by
 simp [shOf, h]
theorem shOf_set_ne {b x : Nat} {B : Blk} (h : x ≠ b) : shOf (H.set b B) x = shOf H x := by
 simp only [shOf, List.getElem?_set_ne (Ne.symm h)]
theorem mpOf_set_ne {ν : Nat → Option Nat} {b x : Nat} {B : Blk} (h : x ≠ b) : mpOf ν (H.set b B) x = mpOf ν H x := by
 simp only [mpOf, List.getElem?_set_ne (Ne.symm h)]
theorem shOf_push_lt {b : Nat} {B : Blk} (h : b < H.length) : shOf (H ++ [B]) b = shOf H b := by
 simp only [shOf, List.getElem?_append_left h]
theorem shOf_push_new {s : Nat} {t : TypeId} {es : List (List AV)} : shOf (H ++ [.row s t es]) H.length = some (s, es.length) := by
 simp [shOf]
theorem mpOf_push_lt {ν : Nat → Option Nat} {b : Nat} {B : Blk} (h : b < H.length) : mpOf ν (H ++ [B]) b = mpOf ν H b := by
 simp only [mpOf, List.getElem?_append_left h]
def St.put (S : St) (g : Nat) (cs : Array Value) : St := { S with w := S.w.setRow g cs }
theorem put_at (g : Nat) (cs : Array Value) {b s : Nat} {t t' : TypeId} {s' : Nat} {es es' : List (List AV)} (hb : H[b]? = some (.row s t es)) (x : Nat) : (S.put g cs).at (H.set b (.row s' t' es')) x = S.at H x := by
 by_cases hx : x = b
 ·subst hx
  have hlt := (List.getElem?_eq_some_iff.1 hb).1
  simp only [St.at, St.put, List.getElem?_set_self hlt, hb]
 ·simp only [St.at, St.put, List.getElem?_set_ne (Ne.symm hx)]
theorem put_ext (hok : S.Ok H) {b s g k : Nat} {t : TypeId} {es es' : List (List AV)} {cs : Array Value} (cs' : Array Value) (hb : H[b]? = some (.row s t es)) (hg : S.μ b = some (g, k)) (hl : es.length ≤ es'.length) :
  Ext H.length S H (S.put g cs') (H.set b (.row s t es')) where
 os := rfl
 tape := rfl
 output := rfl
 size := by simp [St.put, World.setRow]
 keep i hi hno := by
  refine setRow_other S.w g i cs' fun e => hno ⟨b, ?_⟩
  subst e
  simp [St.at, hb, hg]
 M i o h := h
 dom i h := .inl h
 own i h := by
  obtain ⟨x, hx⟩ := h
  rw [put_at g cs' hb] at hx
  exact .inl ⟨x, hx⟩
 sh x s' cur hx hs := by
  by_cases e : x = b
  ·subst e
   rw [shOf_of hb] at hs
   injection hs with hs; injection hs with h1 h2; subst h1
   exact ⟨es'.length, by omega, shOf_set_same hx, fun _ => rfl⟩
  ·exact ⟨cur, Nat.le_refl _, by rw [shOf_set_ne e]; exact hs, fun _ => rfl⟩
 ν x g' hx hs := by
  by_cases e : x = b
  ·subst e; simp [mpOf, hb] at hs
  ·rw [mpOf_set_ne e]; exact hs
 len h := by simp
theorem put_ok (hok : S.Ok H) {b s g k : Nat} {t : TypeId} {es es' : List (List AV)} {cs' : Array Value} (hb : H[b]? = some (.row s t es)) (hg : S.μ b = some (g, k)) (hl : es.length ≤ es'.length) (hk : es'.length ≤ k)
  (hsz : cs'.size = k * s) (hrow : RowIn (S.env H) s es' cs') : (S.put g cs').Ok (H.set b (.row s t es')) := by
 have hext := put_ext hok cs' hb hg hl (cs := cs')
 have hle := hext.le (Nat.le_refl _)
 have hne : ∀ x, x ≠ b → ∀ g', S.at H x = some g' → g' ≠ g := fun x hx g' hx' e => hx (hok.inj x b g (by rw [← e]; exact hx') (by simp [St.at, hb, hg]))
 obtain ⟨g0, k0, cs, q1, q2, q3, q4, q5, q6, q7⟩ := (hok.row b s t es hb).resolve_left (fun h => by rw [h.1] at hg; cases hg)
 rw [hg] at q1; injection q1 with q1; injection q1 with e1 e2; subst e1; subst e2
 have hMg : ∀ i o, S.M i = some o → i ≠ g := fun i o hi e => by rw [e, q2] at hi; cases hi
 refine ⟨fun i o hi => ?_, fun x s' t' es2 hx => ?_, fun x ob0 hx => ?_, fun x y g' hx hy => ?_⟩
 ·show (S.w.setRow g cs').heap[i]? = some o
  rw [setRow_other S.w g i cs' (hMg i o hi)]
  exact hok.imm i o hi
 ·by_cases e : x = b
  ·subst e
   have hlt := (List.getElem?_eq_some_iff.1 hb).1
   rw [List.getElem?_set_self hlt] at hx
   injection hx with hx; injection hx with h1 h2 h3; subst h1; subst h2; subst h3
   exact .inr ⟨g, k, cs', hg, q2, setRow_heap S.w g cs cs' t (0, 0) q3, hsz, hk, q6, hrow.mono hle⟩
  ·rw [List.getElem?_set_ne (Ne.symm e)] at hx
   rcases hok.row x s' t' es2 hx with h|⟨g', k', cs2, h1, h2, h3, h4, h5, h6, h7⟩
   ·exact .inl h
   ·refine .inr ⟨g', k', cs2, h1, h2, ?_, h4, h5, h6, h7.mono hle⟩
    show (S.w.setRow g cs').heap[g']? = _
    rw [setRow_other S.w g g' cs' (hne x e g' (by simp [St.at, hx, h1]))]
    exact h3
 ·have e : x ≠ b := by
   rintro rfl
   have hlt := (List.getElem?_eq_some_iff.1 hb).1
   rw [List.getElem?_set_self hlt] at hx
   cases hx
  rw [List.getElem?_set_ne (Ne.symm e)] at hx
  obtain ⟨g', ob1, h1, h2, h3, h4⟩ := hok.ob x ob0 hx
  refine ⟨g', ob1, h1, h2, ?_, h4.mono hle⟩
  show (S.w.setRow g cs').heap[g']? = _
  rw [setRow_other S.w g g' cs' (hne x e g' (by simp [St.at, hx, h1]))]
  exact h3
 ·rw [put_at g cs' hb] at hx hy
  exact hok.inj x y g' hx hy
def St.fresh (S : St) (b k : Nat) (t : TypeId) (cs : Array Value) (n : Nat) : St := { S with μ := upd S.μ b (some (S.w.heap.size, k)), w := (S.w.drewN n).alloc (.cells cs t) }
theorem move_ext (hok : S.Ok H) {b s : Nat} {t : TypeId} {es es' : List (List AV)} (k : Nat) (cs : Array Value) (n : Nat) (hb : H[b]? = some (.row s t es)) (hl : es.length < es'.length) :
  Ext H.length S H (S.fresh b k t cs n) (H.set b (.row s t es')) where
 os := rfl
 tape := rfl
 output := rfl
 size := by simp [St.fresh]
 keep i hi hno := Below.heap_alloc (S.w.drewN n) (.cells cs t) i hi
 M i o h := h
 dom i h := .inl h
 own i h := by
  obtain ⟨x, hx⟩ := h
  by_cases e : x = b
  ·subst e
   have hlt := (List.getElem?_eq_some_iff.1 hb).1
   simp [St.at, St.fresh, upd_same, hlt] at hx
   exact .inr (by omega)
  ·left
   refine ⟨x, ?_⟩
   simpa only [St.at, St.fresh, List.getElem?_set_ne (Ne.symm e), upd_ne _ _ e] using hx
 sh x s' cur hx hs := by
  by_cases e : x = b
  ·subst e
   rw [shOf_of hb] at hs
   injection hs with hs; injection hs with h1 h2; subst h1
   exact ⟨es'.length, by omega, shOf_set_same hx, fun q => by omega⟩
  ·exact ⟨cur, Nat.le_refl _, by rw [shOf_set_ne e]; exact hs, fun _ => upd_ne _ _ e⟩
 ν x g' hx hs := by
  by_cases e : x = b
  ·subst e; simp [mpOf, hb] at hs
  ·rw [mpOf_set_ne e]; exact hs
 len h := by simp
theorem fresh_heap_old (b k : Nat) (t : TypeId) (cs : Array Value) (n : Nat) {i : Nat} {o : Obj} (h : S.w.heap[i]? = some o) : (S.fresh b k t cs n).w.heap[i]? = some o := by
 have hlt := (Array.getElem?_eq_some_iff.1 h).1
 show ((S.w.drewN n).alloc (.cells cs t)).heap[i]? = _
 rw [Below.heap_alloc (S.w.drewN n) (.cells cs t) i hlt]
 exact h
theorem fresh_heap_new (b k : Nat) (t : TypeId) (cs : Array Value) (n : Nat) : (S.fresh b k t cs n).w.heap[S.w.heap.size]? = some (.cells cs t (0, 0)) := heap_alloc_new (S.w.drewN n) _
theorem move_ok (hok : S.Ok H) {b s : Nat} {t : TypeId} {es es' : List (List AV)} {k : Nat} {cs : Array Value} (n : Nat) (hb : H[b]? = some (.row s t es)) (hl : es.length < es'.length) (hk : es'.length ≤ k) (hm : k ≤ maxLen)
  (hsz : cs.size = k * s) (hrow : RowIn (S.env H) s es' cs) : (S.fresh b k t cs n).Ok (H.set b (.row s t es')) := by
 have hle := (move_ext hok k cs n hb hl).le (Nat.le_refl _)
 have hnew : S.M S.w.heap.size = none := by
  cases ho : S.M S.w.heap.size with
  | none => rfl
  | some o => have := M_lt hok (k := S.w.heap.size) (by rw [ho]; simp); omega
 have hat : ∀ x, x ≠ b → (S.fresh b k t cs n).at (H.set b (.row s t es')) x = S.at H x := fun x e => by
  simp only [St.at, St.fresh, List.getElem?_set_ne (Ne.symm e), upd_ne _ _ e]
 have hatb : (S.fresh b k t cs n).at (H.set b (.row s t es')) b = some S.w.heap.size := by
  have hlt := (List.getElem?_eq_some_iff.1 hb).1
  simp [St.at, St.fresh, upd_same, hlt]
 refine ⟨fun i o hi => fresh_heap_old b k t cs n (hok.imm i o hi), fun x s' t' es2 hx => ?_, fun x ob0 hx => ?_, fun x y g' hx hy => ?_⟩
 ·by_cases e : x = b
  ·subst e
   have hlt := (List.getElem?_eq_some_iff.1 hb).1
   rw [List.getElem?_set_self hlt] at hx
   injection hx with hx; injection hx with h1 h2 h3; subst h1; subst h2; subst h3
   exact .inr ⟨S.w.heap.size, k, cs, upd_same _ _ _, hnew, fresh_heap_new x k t cs n, hsz, hk, hm, hrow.mono hle⟩
  ·rw [List.getElem?_set_ne (Ne.symm e)] at hx
   rcases hok.row x s' t' es2 hx with h|⟨g', k', cs2, h1, h2, h3, h4, h5, h6, h7⟩
   ·exact .inl ⟨(upd_ne _ _ e).trans h.1, h.2⟩
   ·exact .inr ⟨g', k', cs2, (upd_ne _ _ e).trans h1, h2, fresh_heap_old b k t cs n h3, h4, h5, h6, h7.mono hle⟩
 ·have e : x ≠ b := by
   rintro rfl
   have hlt := (List.getElem?_eq_some_iff.1 hb).1
   rw [List.getElem?_set_self hlt] at hx
   cases hx
  rw [List.getElem?_set_ne (Ne.symm e)] at hx
  obtain ⟨g', ob1, h1, h2, h3, h4⟩ := hok.ob x ob0 hx
  exact ⟨g', ob1, h1, h2, fresh_heap_old b k t cs n h3, h4.mono hle⟩
 ·by_cases ex : x = b
  ·by_cases ey : y = b
   ·rw [ex, ey]
   ·rw [ex, hatb] at hx; rw [hat y ey] at hy
    injection hx with hx
    have := own_lt hok hy
    omega
  ·by_cases ey : y = b
   ·rw [ey, hatb] at hy; rw [hat x ex] at hx
    injection hy with hy
    have := own_lt hok hx
    omega
   ·rw [hat x ex] at hx; rw [hat y ey] at hy
    exact hok.inj x y g' hx hy
theorem new_ext (hok : S.Ok H) {s : Nat} {t : TypeId} {es : List (List AV)} (k : Nat) (cs : Array Value) (n : Nat) : Ext H.length S H (S.fresh H.length k t cs n) (H ++ [.row s t es]) where
 os := rfl
 tape := rfl
 output := rfl
 size := by simp [St.fresh]
 keep i hi hno := Below.heap_alloc (S.w.drewN n) (.cells cs t) i hi
 M i o h := h
 dom i h := .inl h
 own i h := by
  obtain ⟨x, hx⟩ := h
  by_cases e : x < H.length
  ·left
   refine ⟨x, ?_⟩
   simpa only [St.at, St.fresh, List.getElem?_append_left e, upd_ne _ _ (show x ≠ H.length by omega)] using hx
  ·right
   by_cases e2 : x = H.length
   ·subst e2
    simp [St.at, St.fresh, upd_same] at hx
    omega
   ·have : (H ++ [Blk.row s t es])[x]? = none := List.getElem?_eq_none (by simp; omega)
    simp [St.at, this] at hx
 sh x s' cur hx hs := ⟨cur, Nat.le_refl _, by rw [shOf_push_lt hx]; exact hs, fun _ => upd_ne _ _ (show x ≠ H.length by omega)⟩
 ν x g' hx hs := by rw [mpOf_push_lt hx]; exact hs
 len h := by simp
theorem new_ok (hok : S.Ok H) {s : Nat} {t : TypeId} {es : List (List AV)} {k : Nat} {cs : Array Value} (n : Nat) (hk : es.length ≤ k) (hm : k ≤ maxLen)
  (hsz : cs.size = k * s) (hrow : RowIn (S.env H) s es cs) : (S.fresh H.length k t cs n).Ok (H ++ [.row s t es]) := by
 have hle := (new_ext hok (s := s) (t := t) (es := es) k cs n).le (Nat.le_refl _)
 have hnew : S.M S.w.heap.size = none := by
  cases ho : S.M S.w.heap.size with
  | none => rfl
  | some o => have := M_lt hok (k := S.w.heap.size) (by rw [ho]; simp); omega
 have hat : ∀ x, x < H.length → (S.fresh H.length k t cs n).at (H ++ [.row s t es]) x = S.at H x := fun x e => by
  simp only [St.at, St.fresh, List.getElem?_append_left e, upd_ne _ _ (show x ≠ H.length by omega)]
 have hatb : (S.fresh H.length k t cs n).at (H ++ [.row s t es]) H.length = some S.w.heap.size := by
  simp [St.at, St.fresh, upd_same]
 have hge : ∀ x g', (S.fresh H.length k t cs n).at (H ++ [.row s t es]) x = some g' → x < H.length ∨ x = H.length := fun x g' hx => by
  by_cases e : x ≤ H.length
  ·omega
  ·have : (H ++ [Blk.row s t es])[x]? = none := List.getElem?_eq_none (by simp; omega)
   simp [St.at, this] at hx
 refine ⟨fun i o hi => fresh_heap_old H.length k t cs n (hok.imm i o hi), fun x s' t' es2 hx => ?_, fun x ob0 hx => ?_, fun x y g' hx hy => ?_⟩
 ·by_cases e : x < H.length
  ·rw [List.getElem?_append_left e] at hx
   rcases hok.row x s' t' es2 hx with h|⟨g', k', cs2, h1, h2, h3, h4, h5, h6, h7⟩
   ·exact .inl ⟨(upd_ne _ _ (show x ≠ H.length by omega)).trans h.1, h.2⟩
   ·exact .inr ⟨g', k', cs2, (upd_ne _ _ (show x ≠ H.length by omega)).trans h1, h2, fresh_heap_old H.length k t cs n h3, h4, h5, h6, h7.mono hle⟩
  ·have e2 : x = H.length := by
    have := (List.getElem?_eq_some_iff.1 hx).1
    simp at this
    omega
   subst e2
   simp at hx
   obtain ⟨h1, h2, h3⟩ := hx
   subst h1; subst h2; subst h3
   exact .inr ⟨S.w.heap.size, k, cs, upd_same _ _ _, hnew, fresh_heap_new _ k t cs n, hsz, hk, hm, hrow.mono hle⟩
 ·by_cases e : x < H.length
  ·rw [List.getElem?_append_left e] at hx
   obtain ⟨g', ob1, h1, h2, h3, h4⟩ := hok.ob x ob0 hx
   exact ⟨g', ob1, h1, h2, fresh_heap_old H.length k t cs n h3, h4.mono hle⟩
  ·have e2 : x = H.length := by
    have := (List.getElem?_eq_some_iff.1 hx).1
    simp at this
    omega
   subst e2
   simp at hx
 ·rcases hge x g' hx with ex|ex
  ·rcases hge y g' hy with ey|ey
   ·rw [hat x ex] at hx; rw [hat y ey] at hy
    exact hok.inj x y g' hx hy
   ·rw [ey, hatb] at hy; rw [hat x ex] at hx
    injection hy with hy
    have := own_lt hok hx
    omega
  ·rcases hge y g' hy with ey|ey
   ·rw [ex, hatb] at hx; rw [hat y ey] at hy
    injection hx with hx
    have := own_lt hok hy
    omega
   ·rw [ex, ey]
end
end Go.V
set_option linter.unusedVariables false
set_option linter.unusedSimpArgs false
namespace Go.V
open Go Go.RowKit
def bad3 : Bool × AV × List Blk := (false, .top, [])
def srcElems (H : List Blk) (sz : Nat) : AV → Option (List (List AV))
 | .sl s es _ => if (es.isEmpty || s == sz) = true then some es else none
 | .own b n h _ =>
  match H[b]? with
  | some (.row s _ es) => if (decide (h = es.length) && s == sz) = true then some (es.take n) else none
  | _ => none
 | .str l => if sz = 1 then some (l.map fun b => [.int .u8 b.toNat]) else none
 | _ => none
def eAlloc (P : Program) (H : List Blk) (t : TypeId) : Bool × AV × List Blk :=
 match tinfo P t with
 | some T => (T.zero.length == T.sz, .ptr H.length 0 0 1, H ++ [.row T.sz t [T.zero]])
 | none => bad3
def eBox (H : List Blk) (t : TypeId) (x : AV) : Bool × AV × List Blk :=
 match x.cells? H with
 | some cs => (true, .ptr H.length 0 0 1, H ++ [.row cs.length t [cs]])
 | none => bad3
def eStore (P : Program) (H : List Blk) (t : TypeId) (p x : AV) : Bool × AV × List Blk :=
 match tinfo P t, p, x.cells? H with
 | some T, .ptr b i o h, some cs =>
  match H[b]? with
  | some (.row s bt es) =>
   (decide (h = es.length) && decide (i < es.length) && cs.length == T.sz && decide (o + cs.length ≤ s), .tup [],
    H.set b (.row s bt (es.set i ((es.getD i []).take o ++ cs ++ (es.getD i []).drop (o + cs.length)))))
  | _ => bad3
 | _, _, _ => bad3
def eMake (P : Program) (H : List Blk) (t : TypeId) (l c : AV) : Bool × AV × List Blk :=
 match shp P t, l, c with
 | .slice e, .int _ l, .int _ c =>
  match tinfo P e with
  | some E => (decide (0 ≤ l) && decide (l ≤ c) && decide ((E.bytes : Int) * c ≤ 281474976710656) && decide (c ≤ maxLen) && E.zero.length == E.sz,
    .own H.length l.toNat l.toNat (some c.toNat), H ++ [.row E.sz e (List.replicate l.toNat E.zero)])
  | none => bad3
 | _, _, _ => bad3
def isSrc (P : Program) (t : TypeId) : Bool := match shp P t with|.slice _|.str => true|_ => false
def eAppend (P : Program) (H : List Blk) (t t1 : TypeId) (d x : AV) : Bool × AV × List Blk :=
 match shp P t with
 | .slice e =>
  match tinfo P e with
  | some E =>
   match srcElems H E.sz x with
   | some news =>
    match d with
    | .own b n h c =>
     match H[b]? with
     | some (.row s bt es) =>
      let es' := es.take n ++ news ++ es.drop (n + news.length)
      let ok := isSrc P t1 && decide (0 < E.sz) && E.zero.length == E.sz && decide (h = es.length) && s == E.sz && bt == e && decide (n + news.length ≤ maxLen) && decide ((n + news.length) * E.bytes ≤ 140737488355328) && bt != deadT
      match c with
      | none => (ok, .own b (n + news.length) es'.length none, H.set b (.row s bt es'))
      | some k =>
       if n + news.length ≤ k then (ok, .own b (n + news.length) es'.length (some k), H.set b (.row s bt es'))
       else (ok, .own H.length (n + news.length) (n + news.length) none, H ++ [.row E.sz e (es.take n ++ news)])
     | _ => bad3
    | .sl s es c =>
     match news with
     | [] => (isSrc P t1, .sl s es c, H)
     | _ :: _ =>
     match c with
     | some k =>
      (isSrc P t1 && decide (0 < E.sz) && E.zero.length == E.sz && (es.isEmpty || s == E.sz) && decide (k < es.length + news.length) && decide (es.length + news.length ≤ maxLen) && decide ((es.length + news.length) * E.bytes ≤ 140737488355328),
       .own H.length (es.length + news.length) (es.length + news.length) none, H ++ [.row E.sz e (es ++ news)])
     | none => bad3
    | _ => bad3
   | none => bad3
  | none => bad3
 | _ => bad3
def eMakeMap (P : Program) (H : List Blk) (t : TypeId) (r : Option AV) : Bool × AV × List Blk :=
 match shp P t with
 | .map kT eT => (match r with|none => true|some (.int _ _) => true|_ => false, .mp H.length, H ++ [.ob (.map kT eT [])])
 | _ => bad3
def eMapSet (P : Program) (H : List Blk) (t : TypeId) (m k x : AV) : Bool × AV × List Blk :=
 match shp P t, m with
 | .map kT _, .mp b =>
  match H[b]? with
  | some (.ob (.map k0 v0 es)) => (mapOk P kT es k, .tup [], H.set b (.ob (.map k0 v0 (updA es k x))))
  | _ => bad3
 | _, _ => bad3
def isEff : Op → Bool
 | .alloc _|.box _ _|.store _ _ _|.makeSlice _ _ _|.makeMap _ _|.mapUpdate _ _ _ _ => true
 | .call { callee := .builtin .append, .. } => true
 | _ => false
def estep (P : Program) (o : Op) (ρ : Operand → AV) (H : List Blk) : Bool × AV × List Blk :=
 let on (x : Operand) (r : Bool × AV × List Blk) : Bool × AV × List Blk := ((ρ x).ok && r.1, r.2)
 match o with
 | .alloc t => eAlloc P H t
 | .box t x => on x (eBox H t (ρ x).strip)
 | .store t p x => on p (on x (eStore P H t (ρ p).strip (ρ x).strip))
 | .makeSlice t l c => on l (on c (eMake P H t (ρ l).strip (ρ c).strip))
 | .makeMap t r => ((r.all fun y => (ρ y).ok) && (eMakeMap P H t (r.map fun y => (ρ y).strip)).1, (eMakeMap P H t (r.map fun y => (ρ y).strip)).2)
 | .mapUpdate t m k x => on m (on k (on x (eMapSet P H t (ρ m).strip (ρ k).strip (ρ x).strip)))
 | .call { callee := .builtin .append, args, argTypes } =>
  match args.toList, argTypes.toList with
  | [d, x], [t, t1] => on d (on x (eAppend P H t t1 (ρ d).strip (ρ x).strip))
  | _, _ => bad3
 | _ => bad3
def Turns (P : Program) (S : St) (H : List Blk) (x : Sem Next) (r : AV) (H' : List Blk) : Prop :=
 ∃ nx v S', x.run P S.w = .ok nx S'.w ∧ (nx = .value v ∨ (nx = .skip ∧ v = undef)) ∧ S'.Ok H' ∧ Ext H.length S H S' H' ∧ Rel (S'.env H') r v
theorem splice_get {α : Type} (l vs : List α) (off q : Nat) (h : off + vs.length ≤ l.length) :
  (l.take off ++ vs ++ l.drop (off + vs.length))[q]? = if q < off then l[q]? else if q < off + vs.length then vs[q - off]? else l[q]? := by
 have ht : (l.take off).length = off := by simp; omega
 by_cases h1 : q < off
 ·rw [if_pos h1, List.append_assoc, List.getElem?_append_left (by omega), List.getElem?_take, if_pos h1]
 ·rw [if_neg h1, List.append_assoc, List.getElem?_append_right (by omega), ht]
  by_cases h2 : q < off + vs.length
  ·rw [if_pos h2, List.getElem?_append_left (by omega)]
  ·rw [if_neg h2, List.getElem?_append_right (by omega), List.getElem?_drop]
   congr 1
   omega
section
variable {P : Program} {S : St} {H : List Blk}
theorem rowIn_one {E : Env} {cs : List AV} {C : Array Value} (h : RelL E cs C.toList) (h1 : ∀ u ∈ C.toList, u.oneCell' = true) : RowIn E cs.length [cs] C := by
 intro i e hi
 cases i with
 | zero =>
  simp at hi; subst hi
  refine ⟨rfl, fun j a hj => ?_⟩
  obtain ⟨v, hv, hr⟩ := h.get hj
  exact ⟨v, by simpa using hv, h1 v (List.mem_of_getElem? hv), hr⟩
 | succ i => simp at hi
theorem fresh_env (b k : Nat) (t : TypeId) (cs : Array Value) (n : Nat) : (S.fresh b k t cs n).μ b = some (S.w.heap.size, k) := upd_same _ _ _
theorem eAlloc_ok (hok : S.Ok H) {t : TypeId} (h : (eAlloc P H t).1 = true) : Turns P S H (do pure (.value (← Instr.alloc t true (.tuple #[])))) (eAlloc P H t).2.1 (eAlloc P H t).2.2 := by
 unfold eAlloc at *
 cases hT : tinfo P t with
 | none => rw [hT] at h; cases h
 | some T =>
  obtain ⟨i, d, z, hi, hd, hz, h1, hTT⟩ := tinfo_some hT
  simp only [hT, beq_iff_eq] at h ⊢
  have hzr : RelL (S.env H) T.zero z.cells.toList := by rw [hTT]; exact relL_ofCell _ _
  have hsz : z.cells.size = T.sz := by rw [← h, hzr.length]; simp
  refine ⟨_, .pointer (some ⟨S.w.heap.size, 0, none⟩), S.fresh H.length 1 t z.cells 0, ?_, .inl rfl, new_ok hok 0 (by simp) (by simp [maxLen]) (by omega) (by rw [← h]; exact rowIn_one hzr h1), new_ext hok _ _ _, ?_⟩
  ·simp [Instr.alloc, zeroValue, typeInfo, hi, hz, newVar, newRow, St.fresh]; rfl
  ·exact rel_ptr_mk shOf_push_new (fresh_env _ _ _ _ _) (by simp)
theorem eBox_ok (hok : S.Ok H) {t : TypeId} {x : AV} {v : Value} (hx : Rel (S.env H) x v) (h : (eBox H t x).1 = true) : Turns P S H (do pure (.value (← Instr.box t v))) (eBox H t x).2.1 (eBox H t x).2.2 := by
 unfold eBox at *
 cases hc : x.cells? H with
 | none => rw [hc] at h; cases h
 | some cs =>
  simp only
  obtain ⟨hr, h1⟩ := oneCell_of_rel hx hc
  have hl : cs.length = v.cells.size := by rw [hr.length]; simp
  refine ⟨_, .pointer (some ⟨S.w.heap.size, 0, none⟩), S.fresh H.length 1 t v.cells 0, ?_, .inl rfl, new_ok hok 0 (by simp) (by simp [maxLen]) (by omega) (rowIn_one hr h1), new_ext hok _ _ _, ?_⟩
  ·simp [Instr.box, newVar, newRow, St.fresh]; rfl
  ·exact rel_ptr_mk shOf_push_new (fresh_env _ _ _ _ _) (by simp)
theorem splice_row {E : Env} {s i o : Nat} {es : List (List AV)} {C : Array Value} {e cs : List AV} {vs : List Value} (hrow : RowIn E s es C) (hi : es[i]? = some e) (hr : RelL E cs vs) (h1 : ∀ u ∈ vs, u.oneCell' = true)
  (ho : o + cs.length ≤ s) (hC : (i + 1) * s ≤ C.size) :
  RowIn E s (es.set i (e.take o ++ cs ++ e.drop (o + cs.length))) (C.toList.take (i * s + o) ++ vs ++ C.toList.drop (i * s + o + vs.length)).toArray := by
 obtain ⟨hl, hce⟩ := hrow i e hi
 have hlv := hr.length
 have hil := (List.getElem?_eq_some_iff.1 hi).1
 have hC' : i * s + o + vs.length ≤ C.toList.length := by rw [Nat.add_mul] at hC; simp; omega
 intro i' e' hi'
 have key : ∀ q, ((C.toList.take (i * s + o) ++ vs ++ C.toList.drop (i * s + o + vs.length)).toArray)[q]? = if q < i * s + o then C[q]? else if q < i * s + o + vs.length then vs[q - (i * s + o)]? else C[q]? := fun q => by
  have := splice_get C.toList vs (i * s + o) q hC'
  simpa using this
 by_cases e1 : i' = i
 ·subst e1
  rw [List.getElem?_set_self hil] at hi'
  injection hi' with hi'; subst hi'
  refine ⟨by simp; omega, fun j a hj => ?_⟩
  rw [key]
  rw [splice_get e cs o j (by omega)] at hj
  by_cases c1 : j < o
  ·rw [if_pos c1] at hj
   rw [if_pos (by omega)]
   exact hce j a hj
  ·rw [if_neg c1] at hj
   rw [if_neg (by omega)]
   by_cases c2 : j < o + cs.length
   ·rw [if_pos c2] at hj
    rw [if_pos (by omega), show i' * s + j - (i' * s + o) = j - o from by omega]
    obtain ⟨v, hv, hrv⟩ := hr.get hj
    exact ⟨v, hv, h1 v (List.mem_of_getElem? hv), hrv⟩
   ·rw [if_neg c2] at hj
    rw [if_neg (by omega)]
    exact hce j a hj
 ·rw [List.getElem?_set_ne (Ne.symm e1)] at hi'
  obtain ⟨hl', hce'⟩ := hrow i' e' hi'
  refine ⟨hl', fun j a hj => ?_⟩
  have hjs : j < s := by rw [← hl']; exact (List.getElem?_eq_some_iff.1 hj).1
  rw [key]
  rcases Nat.lt_or_gt_of_ne e1 with c|c
  ·have : (i' + 1) * s ≤ i * s := Nat.mul_le_mul_right _ c
   rw [Nat.add_mul] at this
   rw [if_pos (by omega)]
   exact hce' j a hj
  ·have : (i + 1) * s ≤ i' * s := Nat.mul_le_mul_right _ c
   rw [Nat.add_mul] at this
   rw [if_neg (by omega), if_neg (by omega)]
   exact hce' j a hj
theorem eStore_ok (hok : S.Ok H) {t : TypeId} {p x : AV} {u v : Value} (hp : Rel (S.env H) p u) (hx : Rel (S.env H) x v) (h : (eStore P H t p x).1 = true) :
  Turns P S H (do Instr.storeAt t u v; pure .skip) (eStore P H t p x).2.1 (eStore P H t p x).2.2 := by
 unfold eStore at *
 split at h
 ·rename_i T b i o hh cs hT hc
  cases hb : H[b]? with
  | none => rw [hb] at h; cases h
  | some B =>
   cases B with
   | ob _ => rw [hb] at h; cases h
   | row s bt es =>
    simp only [hb, Bool.and_eq_true, decide_eq_true_eq, beq_iff_eq] at h ⊢
    obtain ⟨⟨⟨h1, h2⟩, h3⟩, h4⟩ := h
    have hl : isLen H b hh = true := by simp [isLen, shOf_of hb, h1]
    obtain ⟨s', g, k, hs, hg, hv⟩ := rel_ptr hp hl
    rw [shOf_of hb] at hs; injection hs with hs; injection hs with hs _; subst hs
    obtain ⟨hr, ho⟩ := oneCell_of_rel hx hc
    have hlen : cs.length = v.cells.size := by rw [hr.length]; simp
    obtain ⟨g0, k0, C, q1, q2, q3, q4, q5, q6, q7⟩ := (hok.row b s bt es hb).resolve_left (fun q => by rw [q.1] at hg; cases hg)
    rw [hg] at q1; injection q1 with q1; injection q1 with e1 e2; subst e1; subst e2
    have he : es[i]? = some es[i] := List.getElem?_eq_getElem h2
    have hd : es.getD i [] = es[i] := by rw [List.getD_eq_getElem?_getD, he]; rfl
    have hik : (i + 1) * s ≤ k * s := Nat.mul_le_mul_right _ (by omega)
    have hik2 := hik
    rw [Nat.add_mul] at hik2
    have hst := run_storeCells_at P g (i * s + o) bt v.cells.toList 0 C S.w q3 (by simp; omega) ho
    simp only [Nat.add_zero] at hst
    rw [hd]
    refine ⟨.skip, undef, S.put g (C.toList.take (i * s + o) ++ v.cells.toList ++ C.toList.drop (i * s + o + v.cells.toList.length)).toArray, ?_, .inr ⟨rfl, rfl⟩, ?_, put_ext hok _ hb hg (by simp) (cs := C), by simp [Rel, RelL, undef]⟩
    ·subst hv
     have c1 : ¬ (v.cells.size ≠ T.sz) := by omega
     simp only [Instr.storeAt, Instr.sureAddr, Sem.run_bind, Sem.run_pure, Result.andThen_ok, storeVar, run_sizeOf hT, Sem.run_ite, c1, if_false]
     rw [hst]
     rfl
    ·refine put_ok hok hb hg (by simp) (by simp; omega) ?_ ?_
     ·simp; omega
     ·exact splice_row q7 he hr ho h4 (by omega)
 ·cases h
theorem eMake_ok (hok : S.Ok H) {t : TypeId} {l c : AV} {u v : Value} (hl : Rel (S.env H) l u) (hc : Rel (S.env H) c v) (h : (eMake P H t l c).1 = true) :
  Turns P S H (do pure (.value (← Instr.makeSlice t u v))) (eMake P H t l c).2.1 (eMake P H t l c).2.2 := by
 unfold eMake at *
 split at h
 ·rename_i e k1 l k2 c hs
  obtain ⟨TT, hTT, hsh⟩ := shp_some hs (by simp)
  have hu := und_slice hTT hsh
  have e1 := hl; simp only [Rel] at e1; subst e1
  have e2 := hc; simp only [Rel] at e2; subst e2
  cases hE : tinfo P e with
  | none => rw [hE] at h; cases h
  | some E =>
   obtain ⟨i, d, z, hi, hd, hz, h1, hEE⟩ := tinfo_some hE
   have hzr : RelL (S.env H) E.zero z.cells.toList := by rw [hEE]; exact relL_ofCell _ _
   simp only [hE, Bool.and_eq_true, decide_eq_true_eq, beq_iff_eq] at h ⊢
   obtain ⟨⟨⟨⟨h0, hlc⟩, hb⟩, hm⟩, hzl⟩ := h
   have hzs : z.cells.size = E.sz := by rw [← hzl, hzr.length]; simp
   have hEsz : E.sz = i.size := by rw [hEE]
   have hEb : E.bytes = i.bytes := by rw [hEE]
   have hm' : c ≤ 9223372036854775807 := by simp only [maxLen] at hm; omega
   have hr := run_make (P := P) S.w t e i z hu hi hz k1 k2 l c h0 hlc (by rw [← hEb]; exact hb) hm'
   have hcm : c.toNat ≤ maxLen := by simp only [maxLen] at hm ⊢; omega
   refine ⟨_, .slice (some ⟨S.w.heap.size, 0, none⟩) l.toNat c.toNat, S.fresh H.length c.toNat e (madeCells z.cells (c.toNat * i.size)) 0, ?_, .inl rfl, new_ok hok 0 (by simp; omega) hcm (by rw [size_madeCells, hEsz]) ?_, new_ext hok _ _ _, ?_⟩
   ·simp only [Sem.run_bind, hr, Result.andThen_ok, Sem.run_pure]
    rfl
   ·have hfl := relL_flatten_replicate hzr E.sz hzs c.toNat
    intro q el hq
    rw [List.getElem?_replicate] at hq
    split at hq
    ·rename_i hql
     injection hq with hq; subst hq
     refine ⟨hzl, fun j a hj => ?_⟩
     have hjs : j < E.sz := by rw [← hzl]; exact (List.getElem?_eq_some_iff.1 hj).1
     have hpos : 0 < z.cells.size := by omega
     have hqj : q * E.sz + j < c.toNat * i.size := by
      rw [← hEsz]
      have : (q + 1) * E.sz ≤ c.toNat * E.sz := Nat.mul_le_mul_right _ (by omega)
      rw [Nat.add_mul] at this
      omega
     have hmod : (q * E.sz + j) % z.cells.size = j := by
      rw [hzs, Nat.add_comm, Nat.add_mul_mod_self_right, Nat.mod_eq_of_lt hjs]
     obtain ⟨v, hv, hrv⟩ := hzr.get hj
     refine ⟨v, ?_, h1 v (List.mem_of_getElem? hv), hrv⟩
     have hjz : j < z.cells.size := by omega
     simp only [madeCells, Array.getElem?_map, Array.getElem?_range, hqj, if_true, Option.map_some, hmod]
     rw [getElem!_pos z.cells j hjz]
     simpa [hjz] using hv
    ·cases hq
   ·have hsh' : shOf (H ++ [.row E.sz e (List.replicate l.toNat E.zero)]) H.length = some (E.sz, l.toNat) := by rw [shOf_push_new]; simp
    refine rel_own_mk hsh' (Nat.le_refl _) (.inr ⟨S.w.heap.size, c.toNat, c.toNat, fresh_env _ _ _ _ _, rfl, by omega, Nat.le_refl _, fun q => (by cases q), fun j hj => ?_⟩)
    injection hj
 ·cases h
end
end Go.V
set_option linter.unusedVariables false
set_option linter.unusedSimpArgs false
namespace Go.V
open Go Go.RowKit
section
variable {P : Program} {S : St} {H : List Blk}
theorem relE_cells {E : Env} {s : Nat} : ∀ (es : List (List AV)) (g off : Nat), RelE E s es g off →
  ∃ C : List Value, C.length = es.length * s ∧ RowIn E s es C.toArray ∧ (∀ u ∈ C, u.oneCell' = true) ∧ ∀ (j : Nat) (u : Value), C[j]? = some u → mcell E.M g (off + j) = some u
 | [], g, off, _ => ⟨[], by simp, fun i e hi => by simp at hi, by simp, by simp⟩
 | e :: es, g, off, h => by
  have h0 := h.get (i := 0) rfl
  simp only [RelE] at h
  obtain ⟨h1, h2, h3⟩ := h
  obtain ⟨C, c1, c2, c3, c4⟩ := relE_cells es g (off + s) h3
  have hx : ∃ vs : List Value, RelL E e vs ∧ (∀ u ∈ vs, u.oneCell' = true) ∧ ∀ (j : Nat) (v : Value), vs[j]? = some v → mcell E.M g (off + j) = some v := by
   clear h0 h3 c1 c2 c3 c4
   have aux : ∀ (as : List AV) (off : Nat), RelC E as g off → ∃ vs : List Value, RelL E as vs ∧ (∀ u ∈ vs, u.oneCell' = true) ∧ ∀ (j : Nat) (v : Value), vs[j]? = some v → mcell E.M g (off + j) = some v := by
    intro as
    induction as with
    | nil => intro off _; exact ⟨[], by simp [RelL], by simp, by simp⟩
    | cons a as ih =>
     intro off hc
     simp only [RelC] at hc
     obtain ⟨⟨u, hu, ho, hr⟩, hc2⟩ := hc
     obtain ⟨vs, v1, v2, v3⟩ := ih (off + 1) hc2
     refine ⟨u :: vs, ?_, ?_, ?_⟩
     ·simp only [RelL]; exact ⟨u, vs, rfl, hr, v1⟩
     ·intro x hx
      rcases List.mem_cons.1 hx with rfl|hx
      ·exact ho
      ·exact v2 x hx
     ·intro j v hj
      cases j with
      | zero => simp at hj; subst hj; simpa using hu
      | succ j =>
       have := v3 j v (by simpa using hj)
       rwa [show off + 1 + j = off + (j + 1) from by omega] at this
   exact aux e off h2
  obtain ⟨vs, v1, v2, v3⟩ := hx
  have hvl : vs.length = s := by rw [← v1.length, h1]
  refine ⟨vs ++ C, ?_, ?_, ?_, ?_⟩
  ·simp [hvl, c1, Nat.add_mul]; omega
  ·intro i el hi
   cases i with
   | zero =>
    simp at hi; subst hi
    refine ⟨h1, fun j a hj => ?_⟩
    have hjs : j < s := by rw [← h1]; exact (List.getElem?_eq_some_iff.1 hj).1
    obtain ⟨v, hv, hr⟩ := v1.get hj
    refine ⟨v, ?_, v2 v (List.mem_of_getElem? hv), hr⟩
    simp only [Nat.zero_mul, Nat.zero_add, List.getElem?_toArray]
    rw [List.getElem?_append_left (by omega)]
    exact hv
   | succ i =>
    obtain ⟨l1, l2⟩ := c2 i el (by simpa using hi)
    refine ⟨l1, fun j a hj => ?_⟩
    obtain ⟨v, hv, ho, hr⟩ := l2 j a hj
    refine ⟨v, ?_, ho, hr⟩
    simp only [List.getElem?_toArray] at hv ⊢
    rw [List.getElem?_append_right (by rw [hvl, Nat.add_mul]; omega), hvl, show (i + 1) * s + j - s = i * s + j from by rw [Nat.add_mul]; omega]
    exact hv
  ·intro u hu
   rcases List.mem_append.1 hu with hu|hu
   ·exact v2 u hu
   ·exact c3 u hu
  ·intro j u hj
   by_cases hjs : j < vs.length
   ·rw [List.getElem?_append_left hjs] at hj
    exact v3 j u hj
   ·rw [List.getElem?_append_right (by omega), hvl] at hj
    have := c4 (j - s) u hj
    rwa [show off + s + (j - s) = off + j from by omega] at this
theorem srcElems_ok (hok : S.Ok H) {sz : Nat} {x : AV} {v : Value} {es : List (List AV)} (hr : Rel (S.env H) x v) (h : srcElems H sz x = some es) :
  ∃ C : List Value, (∀ W : World, (Builtin.lenOf v).run P W = .ok es.length W) ∧ (∀ W : World, (∀ a, W.cell? a = S.w.cell? a) → (Builtin.firstCells sz es.length v).run P W = .ok C.toArray W) ∧
   C.length = es.length * sz ∧ (∀ u ∈ C, u.oneCell' = true) ∧ RowIn (S.env H) sz es C.toArray := by
 unfold srcElems at h
 split at h
 ·rename_i s es' c
  split at h
  ·rename_i hc
   injection h with h; subst h
   have hr' := hr
   simp only [Rel] at hr'
   obtain ⟨a, cap, rfl, h1, h2, h3, h4⟩ := hr'
   by_cases he : es' = []
   ·subst he
    refine ⟨[], fun W => by simp [Builtin.lenOf], fun W _ => ?_, by simp, by simp, fun i e hi => by simp at hi⟩
    cases a <;> simp [Builtin.firstCells, loadCells, loadCellsFrom]
   ·obtain ⟨g, off, rfl, hre⟩ := h4.resolve_left he
    have hs : s = sz := by
     have : es'.isEmpty = false := by simpa using he
     simpa [this] using hc
    subst hs
    obtain ⟨C, c1, c2, c3, c4⟩ := relE_cells es' g off hre
    refine ⟨C, fun W => by simp [Builtin.lenOf], fun W hW => ?_, c1, c3, c2⟩
    refine run_firstCells_some W s es'.length ⟨g, off, none⟩ _ _ C c1 fun j u hu => ?_
    rw [hW, add_none]
    exact imm_cell hok (c4 j u hu)
  ·cases h
 ·rename_i b n hh c
  split at h
  ·rename_i s t es' hb
   split at h
   ·rename_i hc
    injection h with h; subst h
    simp only [Bool.and_eq_true, decide_eq_true_eq, beq_iff_eq] at hc
    obtain ⟨hc1, hc2⟩ := hc
    subst hc2
    have hl : isLen H b hh = true := by simp [isLen, shOf_of hb, hc1]
    obtain ⟨s', hs, hn, hcase⟩ := rel_own hr hl
    have hlen : (es'.take n).length = n := by simp; omega
    rcases hcase with ⟨_, ⟨a0, rfl⟩, rfl, _⟩|⟨g, k, cap, hg, rfl, _, _, _, _⟩
    ·refine ⟨[], fun W => by simp [Builtin.lenOf], fun W _ => ?_, by simp, by simp, fun i e hi => by simp at hi⟩
     cases a0 <;> simp [Builtin.firstCells, loadCells, loadCellsFrom]
    ·obtain ⟨g0, k0, C, q1, q2, q3, q4, q5, q6, q7⟩ := (hok.row b s t es' hb).resolve_left (fun q => by rw [q.1] at hg; cases hg)
     rw [hg] at q1; injection q1 with q1; injection q1 with e1 e2; subst e1; subst e2
     have hnk : n * s ≤ C.size := by rw [q4]; exact Nat.mul_le_mul_right _ (by omega)
     refine ⟨C.toList.take (n * s), fun W => by simp [Builtin.lenOf, hlen], fun W hW => ?_, by rw [hlen]; simp; omega, ?_, ?_⟩
     ·rw [hlen]
      refine run_firstCells_some W s n ⟨g, 0, none⟩ _ _ _ (by simp; omega) fun j u hu => ?_
      rw [hW, add_none]
      rw [List.getElem?_take] at hu
      split at hu
      ·simp [World.cell?, q3]
       simpa using hu
      ·cases hu
     ·intro u hu
      obtain ⟨j, hj⟩ := List.mem_iff_getElem?.1 hu
      rw [List.getElem?_take] at hj
      split at hj
      ·rename_i hjn
       have hs0 : 0 < s := by
        rcases Nat.eq_zero_or_pos s with h0|h0
        ·subst h0; simp at hjn
        ·exact h0
       have hi : j / s < n := Nat.div_lt_of_lt_mul (by rwa [Nat.mul_comm] at hjn)
       have hi2 : j / s < es'.length := by omega
       obtain ⟨l1, l2⟩ := q7 (j / s) es'[j / s] (List.getElem?_eq_getElem hi2)
       have hm : j % s < es'[j / s].length := by rw [l1]; exact Nat.mod_lt _ hs0
       obtain ⟨w, hw, ho, _⟩ := l2 (j % s) _ (List.getElem?_eq_getElem hm)
       rw [show j / s * s + j % s = j from by rw [Nat.mul_comm]; exact Nat.div_add_mod j s] at hw
       have : u = w := by
        have h5 : C[j]? = some u := by simpa using hj
        rw [hw] at h5; injection h5 with h5; exact h5.symm
       rw [this]; exact ho
      ·cases hj
     ·intro i e hi
      rw [List.getElem?_take] at hi
      split at hi
      ·rename_i hin
       obtain ⟨l1, l2⟩ := q7 i e hi
       refine ⟨l1, fun j a hj => ?_⟩
       obtain ⟨w, hw, ho, hrr⟩ := l2 j a hj
       refine ⟨w, ?_, ho, hrr⟩
       have hjs : j < s := by rw [← l1]; exact (List.getElem?_eq_some_iff.1 hj).1
       have : (i + 1) * s ≤ n * s := Nat.mul_le_mul_right _ hin
       rw [Nat.add_mul] at this
       simp only [List.getElem?_toArray, List.getElem?_take]
       rw [if_pos (by omega)]
       simpa using hw
      ·cases hi
   ·cases h
  ·cases h
 ·rename_i l
  split at h
  ·rename_i hz
   injection h with h; subst h; subst hz
   have e1 := hr; simp only [Rel] at e1; subst e1
   refine ⟨l.map fun b => .int .u8 b.toNat, fun W => by simp [Builtin.lenOf]; rfl, fun W _ => ?_, by simp, by simp [Value.oneCell'], ?_⟩
   ·simp only [Builtin.firstCells, List.length_map, Sem.run_pure]
    congr 1
    apply Array.ext'
    simp [ByteArray.data_extract]
   ·intro i e hi
    rw [List.getElem?_map] at hi
    cases hli : l[i]? with
    | none => rw [hli] at hi; cases hi
    | some b =>
     rw [hli] at hi
     injection hi with hi; subst hi
     refine ⟨rfl, fun j a hj => ?_⟩
     cases j with
     | zero =>
      simp at hj; subst hj
      exact ⟨.int .u8 b.toNat, by simp [hli], rfl, by simp [Rel]⟩
     | succ j => simp at hj
  ·cases h
 ·cases h
end
end Go.V

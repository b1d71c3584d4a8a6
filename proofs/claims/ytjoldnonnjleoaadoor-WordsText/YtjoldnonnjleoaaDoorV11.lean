/- The library V, part 11: the operations that turn the own blocks. -/
import Derived.Test.YtjoldnonnjleoaaDoorV10
set_option linter.unusedVariables false
set_option linter.unusedSimpArgs false
namespace Go.V
open Go Go.RowKit

def bad3 : Bool × AV × List Blk := (false, .top, [])

def srcElems (H : List Blk) (sz : Nat) : AV → Option (List (List AV))
  | .sl s es _ => if (es.isEmpty || s == sz) = true then some es else none
  | .own b n h _ =>
    match H[b]? with
    | some (.row s _ es) => if (decide (h = es.length) && s == sz) = true then some (es.take n) else none
    | _ => none
  | .str l => if sz = 1 then some (l.map fun b => [.int .u8 b.toNat]) else none
  | _ => none

def eAlloc (P : Program) (H : List Blk) (t : TypeId) : Bool × AV × List Blk :=
  match tinfo P t with
  | some T => (T.zero.length == T.sz, .ptr H.length 0 0 1, H ++ [.row T.sz t [T.zero]])
  | none => bad3
def eBox (H : List Blk) (t : TypeId) (x : AV) : Bool × AV × List Blk :=
  match x.cells? H with
  | some cs => (true, .ptr H.length 0 0 1, H ++ [.row cs.length t [cs]])
  | none => bad3
def eStore (P : Program) (H : List Blk) (t : TypeId) (p x : AV) : Bool × AV × List Blk :=
  match tinfo P t, p, x.cells? H with
  | some T, .ptr b i o h, some cs =>
    match H[b]? with
    | some (.row s bt es) =>
      (decide (h = es.length) && decide (i < es.length) && cs.length == T.sz && decide (o + cs.length ≤ s), .tup [],
        H.set b (.row s bt (es.set i ((es.getD i []).take o ++ cs ++ (es.getD i []).drop (o + cs.length)))))
    | _ => bad3
  | _, _, _ => bad3
def eMake (P : Program) (H : List Blk) (t : TypeId) (l c : AV) : Bool × AV × List Blk :=
  match shp P t, l, c with
  | .slice e, .int _ l, .int _ c =>
    match tinfo P e with
    | some E => (decide (0 ≤ l) && decide (l ≤ c) && decide ((E.bytes : Int) * c ≤ 281474976710656) && decide (c ≤ maxLen) && E.zero.length == E.sz,
        .own H.length l.toNat l.toNat (some c.toNat), H ++ [.row E.sz e (List.replicate l.toNat E.zero)])
    | none => bad3
  | _, _, _ => bad3
def isSrc (P : Program) (t : TypeId) : Bool := match shp P t with | .slice _ | .str => true | _ => false
def eAppend (P : Program) (H : List Blk) (t t1 : TypeId) (d x : AV) : Bool × AV × List Blk :=
  match shp P t with
  | .slice e =>
    match tinfo P e with
    | some E =>
      match srcElems H E.sz x with
      | some news =>
        match d with
        | .own b n h c =>
          match H[b]? with
          | some (.row s bt es) =>
            let es' := es.take n ++ news ++ es.drop (n + news.length)
            let ok := isSrc P t1 && decide (0 < E.sz) && E.zero.length == E.sz && decide (h = es.length) && s == E.sz && bt == e && decide (n + news.length ≤ maxLen) && decide ((n + news.length) * E.bytes ≤ 140737488355328)
            match c with
            | none => (ok, .own b (n + news.length) es'.length none, H.set b (.row s bt es'))
            | some k =>
              if n + news.length ≤ k then (ok, .own b (n + news.length) es'.length (some k), H.set b (.row s bt es'))
              else (ok, .own H.length (n + news.length) (n + news.length) none, H ++ [.row E.sz e (es.take n ++ news)])
          | _ => bad3
        | .sl s es c =>
          match news with
          | [] => (isSrc P t1, .sl s es c, H)
          | _ :: _ =>
          match c with
          | some k =>
            (isSrc P t1 && decide (0 < E.sz) && E.zero.length == E.sz && (es.isEmpty || s == E.sz) && decide (k < es.length + news.length) && decide (es.length + news.length ≤ maxLen) && decide ((es.length + news.length) * E.bytes ≤ 140737488355328),
              .own H.length (es.length + news.length) (es.length + news.length) none, H ++ [.row E.sz e (es ++ news)])
          | none => bad3
        | _ => bad3
      | none => bad3
    | none => bad3
  | _ => bad3

def isEff : Op → Bool
  | .alloc _ | .box _ _ | .store _ _ _ | .makeSlice _ _ _ => true
  | .call { callee := .builtin .append, .. } => true
  | _ => false
def estep (P : Program) (o : Op) (ρ : Operand → AV) (H : List Blk) : Bool × AV × List Blk :=
  let on (x : Operand) (r : Bool × AV × List Blk) : Bool × AV × List Blk := ((ρ x).ok && r.1, r.2)
  match o with
  | .alloc t => eAlloc P H t
  | .box t x => on x (eBox H t (ρ x).strip)
  | .store t p x => on p (on x (eStore P H t (ρ p).strip (ρ x).strip))
  | .makeSlice t l c => on l (on c (eMake P H t (ρ l).strip (ρ c).strip))
  | .call { callee := .builtin .append, args, argTypes } =>
    match args.toList, argTypes.toList with
    | [d, x], [t, t1] => on d (on x (eAppend P H t t1 (ρ d).strip (ρ x).strip))
    | _, _ => bad3
  | _ => bad3

/-- What an operation comes to that turns the own blocks from H to H'. -/
def Turns (P : Program) (S : St) (H : List Blk) (x : Sem Next) (r : AV) (H' : List Blk) : Prop :=
  ∃ nx v S', x.run P S.w = .ok nx S'.w ∧ (nx = .value v ∨ (nx = .skip ∧ v = undef)) ∧ S'.Ok H' ∧ Ext H.length S H S' H' ∧ Rel (S'.env H') r v

theorem splice_get {α : Type} (l vs : List α) (off q : Nat) (h : off + vs.length ≤ l.length) :
    (l.take off ++ vs ++ l.drop (off + vs.length))[q]? = if q < off then l[q]? else if q < off + vs.length then vs[q - off]? else l[q]? := by
  have ht : (l.take off).length = off := by simp; omega
  by_cases h1 : q < off
  · rw [if_pos h1, List.append_assoc, List.getElem?_append_left (by omega), List.getElem?_take, if_pos h1]
  · rw [if_neg h1, List.append_assoc, List.getElem?_append_right (by omega), ht]
    by_cases h2 : q < off + vs.length
    · rw [if_pos h2, List.getElem?_append_left (by omega)]
    · rw [if_neg h2, List.getElem?_append_right (by omega), List.getElem?_drop]
      congr 1
      omega

section
variable {P : Program} {S : St} {H : List Blk}

theorem rowIn_one {E : Env} {cs : List AV} {C : Array Value} (h : RelL E cs C.toList) (h1 : ∀ u ∈ C.toList, u.oneCell' = true) : RowIn E cs.length [cs] C := by
  intro i e hi
  cases i with
  | zero =>
    simp at hi; subst hi
    refine ⟨rfl, fun j a hj => ?_⟩
    obtain ⟨v, hv, hr⟩ := h.get hj
    exact ⟨v, by simpa using hv, h1 v (List.mem_of_getElem? hv), hr⟩
  | succ i => simp at hi

theorem fresh_env (b k : Nat) (t : TypeId) (cs : Array Value) (n : Nat) : (S.fresh b k t cs n).μ b = some (S.w.heap.size, k) := upd_same _ _ _

theorem eAlloc_ok (hok : S.Ok H) {t : TypeId} (h : (eAlloc P H t).1 = true) : Turns P S H (do pure (.value (← Instr.alloc t true (.tuple #[])))) (eAlloc P H t).2.1 (eAlloc P H t).2.2 := by
  unfold eAlloc at *
  cases hT : tinfo P t with
  | none => rw [hT] at h; cases h
  | some T =>
    obtain ⟨i, d, z, hi, hd, hz, h1, hTT⟩ := tinfo_some hT
    simp only [hT, beq_iff_eq] at h ⊢
    have hzr : RelL (S.env H) T.zero z.cells.toList := by rw [hTT]; exact relL_ofCell _ _
    have hsz : z.cells.size = T.sz := by rw [← h, hzr.length]; simp
    refine ⟨_, .pointer (some ⟨S.w.heap.size, 0, none⟩), S.fresh H.length 1 t z.cells 0, ?_, .inl rfl, new_ok hok 0 (by simp) (by simp [maxLen]) (by omega) (by rw [← h]; exact rowIn_one hzr h1), new_ext hok _ _ _, ?_⟩
    · simp [Instr.alloc, zeroValue, typeInfo, hi, hz, newVar, newRow, St.fresh]; rfl
    · exact rel_ptr_mk shOf_push_new (fresh_env _ _ _ _ _) (by simp)

theorem eBox_ok (hok : S.Ok H) {t : TypeId} {x : AV} {v : Value} (hx : Rel (S.env H) x v) (h : (eBox H t x).1 = true) : Turns P S H (do pure (.value (← Instr.box t v))) (eBox H t x).2.1 (eBox H t x).2.2 := by
  unfold eBox at *
  cases hc : x.cells? H with
  | none => rw [hc] at h; cases h
  | some cs =>
    simp only
    obtain ⟨hr, h1⟩ := oneCell_of_rel hx hc
    have hl : cs.length = v.cells.size := by rw [hr.length]; simp
    refine ⟨_, .pointer (some ⟨S.w.heap.size, 0, none⟩), S.fresh H.length 1 t v.cells 0, ?_, .inl rfl, new_ok hok 0 (by simp) (by simp [maxLen]) (by omega) (rowIn_one hr h1), new_ext hok _ _ _, ?_⟩
    · simp [Instr.box, newVar, newRow, St.fresh]; rfl
    · exact rel_ptr_mk shOf_push_new (fresh_env _ _ _ _ _) (by simp)

theorem splice_row {E : Env} {s i o : Nat} {es : List (List AV)} {C : Array Value} {e cs : List AV} {vs : List Value} (hrow : RowIn E s es C) (hi : es[i]? = some e) (hr : RelL E cs vs) (h1 : ∀ u ∈ vs, u.oneCell' = true)
    (ho : o + cs.length ≤ s) (hC : (i + 1) * s ≤ C.size) :
    RowIn E s (es.set i (e.take o ++ cs ++ e.drop (o + cs.length))) (C.toList.take (i * s + o) ++ vs ++ C.toList.drop (i * s + o + vs.length)).toArray := by
  obtain ⟨hl, hce⟩ := hrow i e hi
  have hlv := hr.length
  have hil := (List.getElem?_eq_some_iff.1 hi).1
  have hC' : i * s + o + vs.length ≤ C.toList.length := by rw [Nat.add_mul] at hC; simp; omega
  intro i' e' hi'
  have key : ∀ q, ((C.toList.take (i * s + o) ++ vs ++ C.toList.drop (i * s + o + vs.length)).toArray)[q]? = if q < i * s + o then C[q]? else if q < i * s + o + vs.length then vs[q - (i * s + o)]? else C[q]? := fun q => by
    have := splice_get C.toList vs (i * s + o) q hC'
    simpa using this
  by_cases e1 : i' = i
  · subst e1
    rw [List.getElem?_set_self hil] at hi'
    injection hi' with hi'; subst hi'
    refine ⟨by simp; omega, fun j a hj => ?_⟩
    rw [key]
    rw [splice_get e cs o j (by omega)] at hj
    by_cases c1 : j < o
    · rw [if_pos c1] at hj
      rw [if_pos (by omega)]
      exact hce j a hj
    · rw [if_neg c1] at hj
      rw [if_neg (by omega)]
      by_cases c2 : j < o + cs.length
      · rw [if_pos c2] at hj
        rw [if_pos (by omega), show i' * s + j - (i' * s + o) = j - o from by omega]
        obtain ⟨v, hv, hrv⟩ := hr.get hj
        exact ⟨v, hv, h1 v (List.mem_of_getElem? hv), hrv⟩
      · rw [if_neg c2] at hj
        rw [if_neg (by omega)]
        exact hce j a hj
  · rw [List.getElem?_set_ne (Ne.symm e1)] at hi'
    obtain ⟨hl', hce'⟩ := hrow i' e' hi'
    refine ⟨hl', fun j a hj => ?_⟩
    have hjs : j < s := by rw [← hl']; exact (List.getElem?_eq_some_iff.1 hj).1
    rw [key]
    rcases Nat.lt_or_gt_of_ne e1 with c | c
    · have : (i' + 1) * s ≤ i * s := Nat.mul_le_mul_right _ c
      rw [Nat.add_mul] at this
      rw [if_pos (by omega)]
      exact hce' j a hj
    · have : (i + 1) * s ≤ i' * s := Nat.mul_le_mul_right _ c
      rw [Nat.add_mul] at this
      rw [if_neg (by omega), if_neg (by omega)]
      exact hce' j a hj

theorem eStore_ok (hok : S.Ok H) {t : TypeId} {p x : AV} {u v : Value} (hp : Rel (S.env H) p u) (hx : Rel (S.env H) x v) (h : (eStore P H t p x).1 = true) :
    Turns P S H (do Instr.storeAt t u v; pure .skip) (eStore P H t p x).2.1 (eStore P H t p x).2.2 := by
  unfold eStore at *
  split at h
  · rename_i T b i o hh cs hT hc
    cases hb : H[b]? with
    | none => rw [hb] at h; cases h
    | some B =>
      cases B with
      | map _ _ _ => rw [hb] at h; cases h
      | row s bt es =>
        simp only [hb, Bool.and_eq_true, decide_eq_true_eq, beq_iff_eq] at h ⊢
        obtain ⟨⟨⟨h1, h2⟩, h3⟩, h4⟩ := h
        have hl : isLen H b hh = true := by simp [isLen, shOf_of hb, h1]
        obtain ⟨s', g, k, hs, hg, hv⟩ := rel_ptr hp hl
        rw [shOf_of hb] at hs; injection hs with hs; injection hs with hs _; subst hs
        obtain ⟨hr, ho⟩ := oneCell_of_rel hx hc
        have hlen : cs.length = v.cells.size := by rw [hr.length]; simp
        obtain ⟨g0, k0, C, q1, q2, q3, q4, q5, q6, q7⟩ := (hok.row b s bt es hb).resolve_left (fun q => by rw [q.1] at hg; cases hg)
        rw [hg] at q1; injection q1 with q1; injection q1 with e1 e2; subst e1; subst e2
        have he : es[i]? = some es[i] := List.getElem?_eq_getElem h2
        have hd : es.getD i [] = es[i] := by rw [List.getD_eq_getElem?_getD, he]; rfl
        have hik : (i + 1) * s ≤ k * s := Nat.mul_le_mul_right _ (by omega)
        have hik2 := hik
        rw [Nat.add_mul] at hik2
        have hst := run_storeCells_at P g (i * s + o) bt v.cells.toList 0 C S.w q3 (by simp; omega) ho
        simp only [Nat.add_zero] at hst
        rw [hd]
        refine ⟨.skip, undef, S.put g (C.toList.take (i * s + o) ++ v.cells.toList ++ C.toList.drop (i * s + o + v.cells.toList.length)).toArray, ?_, .inr ⟨rfl, rfl⟩, ?_, put_ext hok _ hb hg (by simp) (cs := C), by simp [Rel, RelL, undef]⟩
        · subst hv
          have c1 : ¬ (v.cells.size ≠ T.sz) := by omega
          simp only [Instr.storeAt, Instr.sureAddr, Sem.run_bind, Sem.run_pure, Result.andThen_ok, storeVar, run_sizeOf hT, Sem.run_ite, c1, if_false]
          rw [hst]
          rfl
        · refine put_ok hok hb hg (by simp) (by simp; omega) ?_ ?_
          · simp; omega
          · exact splice_row q7 he hr ho h4 (by omega)
  · cases h

theorem eMake_ok (hok : S.Ok H) {t : TypeId} {l c : AV} {u v : Value} (hl : Rel (S.env H) l u) (hc : Rel (S.env H) c v) (h : (eMake P H t l c).1 = true) :
    Turns P S H (do pure (.value (← Instr.makeSlice t u v))) (eMake P H t l c).2.1 (eMake P H t l c).2.2 := by
  unfold eMake at *
  split at h
  · rename_i e k1 l k2 c hs
    obtain ⟨TT, hTT, hsh⟩ := shp_some hs (by simp)
    have hu := und_slice hTT hsh
    have e1 := hl; simp only [Rel] at e1; subst e1
    have e2 := hc; simp only [Rel] at e2; subst e2
    cases hE : tinfo P e with
    | none => rw [hE] at h; cases h
    | some E =>
      obtain ⟨i, d, z, hi, hd, hz, h1, hEE⟩ := tinfo_some hE
      have hzr : RelL (S.env H) E.zero z.cells.toList := by rw [hEE]; exact relL_ofCell _ _
      simp only [hE, Bool.and_eq_true, decide_eq_true_eq, beq_iff_eq] at h ⊢
      obtain ⟨⟨⟨⟨h0, hlc⟩, hb⟩, hm⟩, hzl⟩ := h
      have hzs : z.cells.size = E.sz := by rw [← hzl, hzr.length]; simp
      have hEsz : E.sz = i.size := by rw [hEE]
      have hEb : E.bytes = i.bytes := by rw [hEE]
      have hm' : c ≤ 9223372036854775807 := by simp only [maxLen] at hm; omega
      have hr := run_make (P := P) S.w t e i z hu hi hz k1 k2 l c h0 hlc (by rw [← hEb]; exact hb) hm'
      have hcm : c.toNat ≤ maxLen := by simp only [maxLen] at hm ⊢; omega
      refine ⟨_, .slice (some ⟨S.w.heap.size, 0, none⟩) l.toNat c.toNat, S.fresh H.length c.toNat e (madeCells z.cells (c.toNat * i.size)) 0, ?_, .inl rfl, new_ok hok 0 (by simp; omega) hcm (by rw [size_madeCells, hEsz]) ?_, new_ext hok _ _ _, ?_⟩
      · simp only [Sem.run_bind, hr, Result.andThen_ok, Sem.run_pure]
        rfl
      · have hfl := relL_flatten_replicate hzr E.sz hzs c.toNat
        intro q el hq
        rw [List.getElem?_replicate] at hq
        split at hq
        · rename_i hql
          injection hq with hq; subst hq
          refine ⟨hzl, fun j a hj => ?_⟩
          have hjs : j < E.sz := by rw [← hzl]; exact (List.getElem?_eq_some_iff.1 hj).1
          have hpos : 0 < z.cells.size := by omega
          have hqj : q * E.sz + j < c.toNat * i.size := by
            rw [← hEsz]
            have : (q + 1) * E.sz ≤ c.toNat * E.sz := Nat.mul_le_mul_right _ (by omega)
            rw [Nat.add_mul] at this
            omega
          have hmod : (q * E.sz + j) % z.cells.size = j := by
            rw [hzs, Nat.add_comm, Nat.add_mul_mod_self_right, Nat.mod_eq_of_lt hjs]
          obtain ⟨v, hv, hrv⟩ := hzr.get hj
          refine ⟨v, ?_, h1 v (List.mem_of_getElem? hv), hrv⟩
          have hjz : j < z.cells.size := by omega
          simp only [madeCells, Array.getElem?_map, Array.getElem?_range, hqj, if_true, Option.map_some, hmod]
          rw [getElem!_pos z.cells j hjz]
          simpa [hjz] using hv
        · cases hq
      · have hsh' : shOf (H ++ [.row E.sz e (List.replicate l.toNat E.zero)]) H.length = some (E.sz, l.toNat) := by rw [shOf_push_new]; simp
        refine rel_own_mk hsh' (Nat.le_refl _) (.inr ⟨S.w.heap.size, c.toNat, c.toNat, fresh_env _ _ _ _ _, rfl, by omega, Nat.le_refl _, fun q => (by cases q), fun j hj => ?_⟩)
        injection hj
  · cases h
end
end Go.V

/- The library V, part 8: composite values, cuts; all pure operations. -/
import Derived.Test.YtjoldnonnjleoaaDoorV7
set_option linter.unusedVariables false
set_option linter.unusedSimpArgs false
namespace Go.V
open Go Go.RowKit

section
variable {P : Program} {S : St} {H : List Blk}

theorem mapM_places : ∀ (fs : List Field) (ps : List (Nat × Nat)), structPlaces P (fs.map fun f => (f.offset, f.type)) = some ps →
    fs.mapM (fun f => (P.info? f.type).map fun i => (f.offset, i.size)) = some ps
  | [], ps, h => by simpa [structPlaces] using h
  | f :: fs, ps, h => by
    simp only [structPlaces, List.map_cons, List.mapM_cons, Option.bind_eq_bind, Option.pure_def] at h ⊢
    cases hT : tinfo P f.type with
    | none => rw [hT] at h; cases h
    | some T =>
      obtain ⟨i, d, z, hi, hd, hz, _, hTT⟩ := tinfo_some hT
      rw [hT] at h
      simp only [Option.map_some, Option.bind_some] at h
      cases hr : (fs.map fun f => (f.offset, f.type)).mapM (fun f => (tinfo P f.2).map fun T => (f.1, T.sz)) with
      | none => rw [hr] at h; cases h
      | some rest =>
        rw [hr] at h
        have := mapM_places fs rest hr
        rw [hi]
        simp only [Option.map_some, Option.bind_some, this]
        simp only [Option.bind_some, Option.some.injEq] at h ⊢
        rw [← h, hTT]

theorem pBuild_ok {t : TypeId} {parts : List (Nat × AV)} {pv : Array (Nat × Value)} (hl : parts.length = pv.size)
    (hp : ∀ (i : Nat) (p : Nat × AV) (q : Nat × Value), parts[i]? = some p → pv.toList[i]? = some q → p.1 = q.1 ∧ Rel (S.env H) p.2 q.2) (h : (pBuild P H t parts).1 = true) :
    ∃ r, (Instr.build t pv).run P S.w = .ok r S.w ∧ Rel (S.env H) (pBuild P H t parts).2 r := by
  unfold pBuild at *
  cases hT : tinfo P t with
  | none => rw [hT] at h; cases h
  | some T =>
    obtain ⟨i, d, z, hi, hd, hz, h1, hTT⟩ := tinfo_some hT
    have hzr : RelL (S.env H) T.zero z.cells.toList := by rw [hTT]; exact relL_ofCell _ _
    simp only [hT] at h ⊢
    cases hs : T.shape with
    | struct fs =>
      obtain ⟨F, hu, hfs⟩ := und_struct hT hs
      simp only [hs] at h ⊢
      cases hps : structPlaces P fs with
      | none => rw [hps] at h; cases h
      | some ps =>
        simp only [hps] at h ⊢
        cases hf : fillA H (fun i => ps[i]?) T.zero parts with
        | none => rw [hf] at h; cases h
        | some cs =>
          simp only
          subst hfs
          have hpl := run_places (P := P) S.w F.toList ps (mapM_places _ _ hps)
          obtain ⟨C', hC', g1, g2, _⟩ := fillA_ok parts pv.toList T.zero z.cells cs (by simpa using hl) hp hzr h1 hf
          refine ⟨.agg C', ?_, ?_⟩
          · simp [Instr.build, run_underlying hu, typeInfo, zeroValue, hi, hz, Array.mapM_eq_mapM_toList, hpl, hC']
          · simp only [Rel]; exact ⟨C'.toList, by simp, g1, g2⟩
    | array n e =>
      have hu := und_array hT hs
      simp only [hs] at h ⊢
      cases hE : tinfo P e with
      | none => rw [hE] at h; cases h
      | some E =>
        simp only [hE] at h ⊢
        cases hf : fillA H (fun i => some (i * E.sz, E.sz)) T.zero parts with
        | none => rw [hf] at h; cases h
        | some cs =>
          simp only
          obtain ⟨C', hC', g1, g2, _⟩ := fillA_ok parts pv.toList T.zero z.cells cs (by simpa using hl) hp hzr h1 hf
          refine ⟨.agg C', ?_, ?_⟩
          · simp [Instr.build, run_underlying hu, typeInfo, zeroValue, hi, hz, run_sizeOf hE, hC']
          · simp only [Rel]; exact ⟨C'.toList, by simp, g1, g2⟩
    | _ => simp only [hs] at h; cases h

theorem chunks_length (s : Nat) : ∀ (n : Nat) (cs : List AV), (chunks s n cs).length = n
  | 0, _ => rfl
  | n + 1, cs => by simp [chunks, chunks_length s n]
theorem chunks_get (s : Nat) : ∀ (n : Nat) (cs : List AV) (i : Nat), i < n → (chunks s n cs)[i]? = some ((cs.drop (i * s)).take s)
  | n + 1, cs, 0, _ => by simp [chunks]
  | n + 1, cs, i + 1, h => by
    simp only [chunks, List.getElem?_cons_succ]
    rw [chunks_get s n _ i (by omega), List.drop_drop]
    congr 3
    rw [Nat.add_mul]; omega

theorem relL_flatten_replicate {E : Env} {zs : List AV} {z : Array Value} (hz : RelL E zs z.toList) (s : Nat) (hs : z.size = s) : ∀ n, RelL E (List.replicate n zs).flatten (madeCells z (n * s)).toList
  | 0 => by simp [madeCells, RelL]
  | n + 1 => by
    have ih := relL_flatten_replicate hz s hs n
    have e : (madeCells z ((n + 1) * s)).toList = z.toList ++ (madeCells z (n * s)).toList := by
      apply List.ext_getElem?
      intro i
      simp only [madeCells, Array.toList_map, Array.toList_range, List.getElem?_map, List.getElem?_range]
      by_cases hi : i < s
      · have hi2 : i < (n + 1) * s := by rw [Nat.add_mul]; omega
        rw [List.getElem?_append_left (by simp; omega), List.getElem?_range hi2]
        have hi3 : i < z.size := by omega
        simp [Nat.mod_eq_of_lt hi3, hi3]
      · rw [List.getElem?_append_right (by simp; omega)]
        simp only [Array.length_toList, List.getElem?_map]
        by_cases hi2 : i < (n + 1) * s
        · have hi3 : i - z.size < n * s := by rw [Nat.add_mul] at hi2; omega
          rw [List.getElem?_range hi2, List.getElem?_range hi3]
          simp only [Option.map_some]
          have : i % z.size = (i - z.size) % z.size := by
            have h1 : z.size ≤ i := by omega
            rw [← Nat.mod_eq_sub_mod h1]
          rw [this]
        · have hi3 : ¬ i - z.size < n * s := by rw [Nat.add_mul] at hi2; omega
          rw [List.getElem?_eq_none (by simp; omega), List.getElem?_eq_none (by simp; omega)]
    rw [e, List.replicate_succ, List.flatten_cons]
    exact hz.append ih

theorem pBuildSlice_ok (hok : S.Ok H) {t : TypeId} {len : Nat} {parts : List (Nat × AV)} {pv : Array (Nat × Value)} (hl : parts.length = pv.size)
    (hp : ∀ (i : Nat) (p : Nat × AV) (q : Nat × Value), parts[i]? = some p → pv.toList[i]? = some q → p.1 = q.1 ∧ Rel (S.env H) p.2 q.2) (h : (pBuildSlice P H t len parts).1 = true) :
    ∃ r C ce, (Instr.buildSlice t len pv).run P S.w = .ok r (S.imm (.cells C ce)).w ∧ Rel ((S.imm (.cells C ce)).env H) (pBuildSlice P H t len parts).2 r := by
  unfold pBuildSlice at *
  cases hs : shp P t with
  | slice e =>
    obtain ⟨TT, hTT, hsh⟩ := shp_some hs (by simp)
    have hu := und_slice hTT hsh
    simp only [hs] at h ⊢
    cases hE : tinfo P e with
    | none => rw [hE] at h; cases h
    | some E =>
      obtain ⟨i, d, z, hi, hd, hz, h1, hEE⟩ := tinfo_some hE
      have hzr : RelL (S.env H) E.zero z.cells.toList := by rw [hEE]; exact relL_ofCell _ _
      simp only [hE] at h ⊢
      cases hf : fillA H (fun i => some (i * E.sz, E.sz)) (List.replicate len E.zero).flatten parts with
      | none => rw [hf] at h; cases h
      | some cs =>
        simp only [hf, Bool.and_eq_true, decide_eq_true_eq, beq_iff_eq] at h ⊢
        obtain ⟨⟨hb0, hb⟩, hzl⟩ := h
        have hzs : z.cells.size = E.sz := by rw [← hzl, hzr.length]; simp
        have hrel := relL_flatten_replicate hzr E.sz hzs len
        have hone : ∀ u ∈ (madeCells z.cells (len * E.sz)).toList, u.oneCell' = true := by
          intro u hu
          simp only [madeCells, Array.toList_map, Array.toList_range, List.mem_map, List.mem_range] at hu
          obtain ⟨q, hq, rfl⟩ := hu
          have hpos : 0 < z.cells.size := by
            rcases Nat.eq_zero_or_pos z.cells.size with h0 | h0
            · rw [← hzs, h0] at hq; simp at hq
            · exact h0
          have hlt : q % z.cells.size < z.cells.size := Nat.mod_lt _ hpos
          rw [getElem!_pos z.cells _ hlt]
          exact h1 _ (by simp)
        obtain ⟨C', hC', g1, g2, g3⟩ := fillA_ok parts pv.toList _ (madeCells z.cells (len * E.sz)) cs (by simpa using hl) hp hrel hone hf
        have hcl : cs.length = len * E.sz := by rw [g1.length, Array.length_toList, g3, size_madeCells]
        have hEsz : E.sz = i.size := by rw [hEE]
        refine ⟨.slice (some ⟨S.w.heap.size, 0, none⟩) len len, C', e, ?_, ?_⟩
        · have c1 : ¬ (len * E.sz > 2 ^ 24) := by omega
          by_cases h0 : len * E.sz = 0
          · have hC0 : madeCells z.cells (len * E.sz) = (Array.range 0).map (fun x => (#[] : Array Value)[x % (#[] : Array Value).size]!) := by
              rw [h0]; simp [madeCells]
            rw [hC0] at hC'
            simp only [Instr.buildSlice, Sem.run_bind, run_underlying hu, run_sizeOf hE, Result.andThen_ok, c1, if_false, h0, if_true, Sem.run_pure, newRow, run_newObj, Sem.run_ite]
            simp at hC'
            simp [hC', St.imm]
          · simp only [Instr.buildSlice, Sem.run_bind, run_underlying hu, run_sizeOf hE, Result.andThen_ok, c1, if_false, h0, Sem.run_ite, Sem.run_pure]
            simp only [madeCells] at hC'
            simp [hC', St.imm, zeroValue, typeInfo, hi, hz, newRow]
        · cases len with
          | zero => simp [Rel, chunks, maxLen]
          | succ len0 =>
          show Rel _ (.sl E.sz (chunks E.sz (len0 + 1) cs) (some (len0 + 1))) _
          generalize len0 + 1 = len at *
          simp only [Rel]
          refine ⟨some ⟨S.w.heap.size, 0, none⟩, len, by rw [chunks_length], by rw [chunks_length]; exact Nat.le_refl _, ?_, fun k hk => by injection hk, ?_⟩
          · simp only [maxLen]; omega
          · refine .inr ⟨S.w.heap.size, 0, rfl, RelE.mk fun j el hj => ?_⟩
            have hjl : j < len := by
              have := (List.getElem?_eq_some_iff.1 hj).1
              rwa [chunks_length] at this
            rw [chunks_get _ _ _ _ hjl] at hj
            injection hj with hj
            subst hj
            have hb2 : j * E.sz + E.sz ≤ len * E.sz := by
              rw [← Nat.succ_mul]; exact Nat.mul_le_mul_right _ hjl
            refine ⟨by simp; omega, RelC.mk fun q a hq => ?_⟩
            rw [List.getElem?_take] at hq
            split at hq
            · rw [List.getElem?_drop] at hq
              obtain ⟨v, hv, hr⟩ := g1.get hq
              refine ⟨v, ?_, g2 v (List.mem_of_getElem? hv), hr.mono ((imm_ext hok _ _).le (Nat.le_refl _))⟩
              rw [show ((S.imm (.cells C' e)).env H).M = (S.imm (.cells C' e)).M from rfl, imm_cell_new]
              simpa using hv
            · cases hq
  | _ => simp only [hs] at h; cases h


theorem run_bounds {isS : Bool} {len cap : Nat} {lo hi mx : Option Value} {l h m : Int} (hlo : (lo = none ∧ l = 0) ∨ ∃ k, lo = some (.int k l)) (hhi : (hi = none ∧ mx = none ∧ h = len) ∨ ∃ k, hi = some (.int k h))
    (hmx : (mx = none ∧ m = cap) ∨ ∃ k, mx = some (.int k m)) (h0 : 0 ≤ l) (h1 : l ≤ h) (h2 : h ≤ m) (h3 : m ≤ cap) (w : World) :
    (Instr.sliceBounds isS len cap lo hi mx).run P w = .ok (l.toNat, h.toNat, m.toNat) w := by
  have bd : ∀ (k : IntKind) (i : Int) (y : Nat) (code : BoundsCode), 0 ≤ i → i ≤ y → (Instr.sliceBound (.int k i) y code).run P w = .ok i.toNat w :=
    fun k i y code a b => run_sliceBound w k i y code a b
  have hm' : ((m.toNat : Nat) : Int) = m := Int.toNat_of_nonneg (by omega)
  have hh' : ((h.toNat : Nat) : Int) = h := Int.toNat_of_nonneg (by omega)
  rcases hmx with ⟨rfl, rfl⟩ | ⟨km, rfl⟩
  · rcases hhi with ⟨rfl, _, rfl⟩ | ⟨kh, rfl⟩
    · rcases hlo with ⟨rfl, rfl⟩ | ⟨kl, rfl⟩
      · simp [Instr.sliceBounds]
      · simp [Instr.sliceBounds, bd kl l len _ h0 h1]
    · rcases hlo with ⟨rfl, rfl⟩ | ⟨kl, rfl⟩
      · simp [Instr.sliceBounds, bd kh h cap _ (by omega) h2]
      · simp [Instr.sliceBounds, bd kh h cap _ (by omega) h2, bd kl l h.toNat _ h0 (by omega)]
  · rcases hhi with ⟨_, h, _⟩ | ⟨kh, rfl⟩
    · cases h
    · rcases hlo with ⟨rfl, rfl⟩ | ⟨kl, rfl⟩
      · simp [Instr.sliceBounds, bd km m cap _ (by omega) h3, bd kh h m.toNat _ (by omega) (by omega)]
      · simp [Instr.sliceBounds, bd km m cap _ (by omega) h3, bd kh h m.toNat _ (by omega) (by omega), bd kl l h.toNat _ h0 (by omega)]

/-- An optional bound and its value. -/
def RelO (E : Env) : Option AV → Option Value → Prop
  | none, v => v = none
  | some a, v => ∃ u, v = some u ∧ Rel E a u
theorem relO_int {E : Env} {k : IntKind} {n : Int} {v : Option Value} (h : RelO E (some (.int k n)) v) : v = some (.int k n) := by
  obtain ⟨u, rfl, hr⟩ := h
  simp only [Rel] at hr
  rw [hr]
theorem isLow_some {E : Env} {x : Option AV} {v : Option Value} {l : Int} (h : isLow x = some l) (hr : RelO E x v) : (v = none ∧ l = 0) ∨ ∃ k, v = some (.int k l) := by
  unfold isLow at h
  split at h
  · injection h with h; exact .inl ⟨hr, h.symm⟩
  · injection h with h; subst h; exact .inr ⟨_, relO_int hr⟩
  · cases h
theorem isHigh_some {E : Env} {x : Option AV} {v : Option Value} {n : Nat} {h : Int} (hh : isHigh x n = some h) (hr : RelO E x v) :
    (v = none ∧ x = none ∧ h = n) ∨ ∃ k, v = some (.int k h) := by
  unfold isHigh at hh
  split at hh
  · injection hh with hh; exact .inl ⟨hr, rfl, hh.symm⟩
  · injection hh with hh; subst hh; exact .inr ⟨_, relO_int hr⟩
  · cases hh

theorem rel_sl_cut {E : Env} {s : Nat} {es : List (List AV)} {c : Option Nat} {a : Option Addr} {cap : Nat} (hr : Rel E (.sl s es c) (.slice a es.length cap)) {l h m : Nat} (hlh : l ≤ h) (hn : h ≤ es.length) (hhm : h ≤ m) (hm : m ≤ cap) (c' : Option Nat)
    (hc : ∀ k, c' = some k → m - l = k) (sz : Nat) (hsz : es = [] ∨ s = sz) :
    Rel E (.sl s ((es.take h).drop l) c') (.slice (if m = l then a else a.map (·.add (l * sz))) (h - l) (m - l)) := by
  simp only [Rel] at hr ⊢
  obtain ⟨a', cap', e, h1, h2, h3, h4⟩ := hr
  injection e with e1 _ e3; subst e1; subst e3
  have hlen : ((es.take h).drop l).length = h - l := by simp; omega
  refine ⟨_, _, by rw [hlen], by rw [hlen]; omega, by omega, fun k hk => hc k hk, ?_⟩
  by_cases hne : h = l
  · left
    apply List.eq_nil_of_length_eq_zero
    omega
  · right
    have hes : es ≠ [] := by intro e; subst e; simp at hn; omega
    obtain ⟨g, off, ha, he⟩ := h4.resolve_left hes
    have hs := hsz.resolve_left hes
    subst hs; subst ha
    refine ⟨g, off + l * s, ?_, RelE.mk fun i e hi => ?_⟩
    · rw [if_neg (by omega)]; simp [add_none]
    · rw [List.getElem?_drop, List.getElem?_take] at hi
      split at hi
      · have := he.get hi
        refine ⟨this.1, ?_⟩
        have h5 := this.2
        rwa [Nat.add_mul, ← Nat.add_assoc] at h5
      · cases hi

theorem pSlice_ok {t : TypeId} {x : AV} {lo hi mx : Option AV} {u : Value} {vl vh vm : Option Value} (hx : Rel (S.env H) x u) (hl : RelO (S.env H) lo vl) (hh : RelO (S.env H) hi vh) (hm : RelO (S.env H) mx vm) (h : (pSlice P H t x lo hi mx).1 = true) :
    ∃ r, (Instr.sliceAt t u vl vh vm).run P S.w = .ok r S.w ∧ Rel (S.env H) (pSlice P H t x lo hi mx).2 r := by
  unfold pSlice at *
  cases hlo : isLow lo with
  | none => rw [hlo] at h; cases h
  | some l =>
    have hlv := isLow_some hlo hl
    simp only [hlo] at h ⊢
    split at h
    · rename_i e s es c hs
      obtain ⟨T0, hT0, hsh⟩ := shp_some hs (by simp)
      have hu := und_slice hT0 hsh
      cases hT : tinfo P e with
      | none => rw [hT] at h; cases h
      | some T =>
        simp only [hT] at h ⊢
        have hx' := hx
        simp only [Rel] at hx'
        obtain ⟨a, cap, rfl, hcap, _, hck, _⟩ := hx'
        have hrun : ∀ (l h m : Int), (Instr.sliceBounds true es.length cap vl vh vm).run P S.w = .ok (l.toNat, h.toNat, m.toNat) S.w →
            (Instr.sliceAt t (.slice a es.length cap) vl vh vm).run P S.w = .ok (.slice (if m.toNat = l.toNat then a else a.map (·.add (l.toNat * T.sz))) (h.toNat - l.toNat) (m.toNat - l.toNat)) S.w := by
          intro l h m hb
          simp [Instr.sliceAt, run_underlying hu, Instr.slice, hb, run_sizeOf hT]
        cases hhi : isHigh hi es.length with
        | none => simp only [hhi] at h; first | cases h | (split at h <;> cases h)
        | some hv =>
          have hhv := isHigh_some hhi hh
          simp only [hhi] at h ⊢
          cases mx with
          | none =>
            have hvm : vm = none := hm
            subst hvm
            simp only [Bool.and_eq_true, decide_eq_true_eq, Bool.or_eq_true, List.isEmpty_iff, beq_iff_eq] at h ⊢
            obtain ⟨⟨⟨h1, h2⟩, h3⟩, h4⟩ := h
            have hb := run_bounds (P := P) (isS := true) (len := es.length) (cap := cap) (m := cap) hlv (hhv.imp (fun q => ⟨q.1, rfl, q.2.2⟩) id) (.inl ⟨rfl, rfl⟩) h2 h3 (by omega) (Int.le_refl _) S.w
            refine ⟨_, hrun _ _ _ hb, ?_⟩
            refine rel_sl_cut hx (by omega) (by omega) (by omega) (by omega) _ (fun k hk => ?_) T.sz h1
            cases c with
            | none => cases hk
            | some c =>
              have := hck c rfl
              simp only [Option.map_some, Option.some.injEq] at hk
              omega
          | some mv =>
            cases mv with
            | int km m =>
              have hvm := relO_int hm
              subst hvm
              simp only [Bool.and_eq_true, decide_eq_true_eq, Bool.or_eq_true, List.isEmpty_iff, beq_iff_eq] at h ⊢
              obtain ⟨⟨⟨⟨⟨⟨h0, h1⟩, h2⟩, h3⟩, h4⟩, h5⟩, h6⟩ := h
              have hb := run_bounds (P := P) (isS := true) (len := es.length) (cap := cap) (m := m) hlv (hhv.imp (fun q => by rw [q.2.1] at h0; cases h0) id) (.inr ⟨km, rfl⟩) h2 h3 h5 (by omega) S.w
              refine ⟨_, hrun _ _ _ hb, ?_⟩
              exact rel_sl_cut hx (by omega) (by omega) (by omega) (by omega) _ (fun k hk => by injection hk) T.sz h1
            | _ => simp only at h; cases h
    · rename_i e b n h0 c hs
      obtain ⟨T0, hT0, hsh⟩ := shp_some hs (by simp)
      have hu := und_slice hT0 hsh
      cases hT : tinfo P e with
      | none => rw [hT] at h; cases h
      | some T =>
        simp only [hT] at h ⊢
        cases hhi : isHigh hi n with
        | none => simp only [hhi] at h; first | cases h | (split at h <;> cases h)
        | some hv =>
          have hhv := isHigh_some hhi hh
          simp only [hhi] at h ⊢
          have fin : ∀ (m : Option Int) (c' : Option Nat), isLen H b h0 = true → l = 0 → 0 ≤ hv → hv ≤ n → (vm = none ∧ m = none ∧ c' = c) ∨ (∃ km mm, vm = some (.int km mm) ∧ m = some mm ∧ hv ≤ mm ∧ mm ≤ n ∧ c' = some mm.toNat ∧ hi.isSome = true) →
              ∃ r, (Instr.sliceAt t u vl vh vm).run P S.w = .ok r S.w ∧ Rel (S.env H) (.own b hv.toNat h0 c') r := by
            intro m c' hlen hl0 hv0 hvn hcase
            obtain ⟨s, hs', hnh, hc⟩ := rel_own hx hlen
            subst hl0
            rcases hc with ⟨hμ, ⟨a0, rfl⟩, rfl, hcc⟩ | ⟨g, k, cap, hg, rfl, hncap, hcapk, hcn, hcs⟩
            · have hv00 : hv = 0 := by omega
              subst hv00
              have hb : (Instr.sliceBounds true 0 0 vl vh vm).run P S.w = .ok (0, 0, 0) S.w := by
                rcases hcase with ⟨rfl, _, _⟩ | ⟨km, mm, rfl, _, q1, q2, _, hsome⟩
                · exact run_bounds (P := P) (isS := true) (len := 0) (cap := 0) (m := 0) hlv (hhv.imp (fun q => ⟨q.1, rfl, by simp⟩) id) (.inl ⟨rfl, rfl⟩) (by omega) (by omega) (by omega) (by omega) S.w
                · have : mm = 0 := by omega
                  subst this
                  exact run_bounds (P := P) (isS := true) (len := 0) (cap := 0) (m := 0) hlv (hhv.imp (fun q => by rw [q.2.1] at hsome; cases hsome) id) (.inr ⟨km, rfl⟩) (by omega) (by omega) (by omega) (by omega) S.w
              refine ⟨_, by simp [Instr.sliceAt, run_underlying hu, Instr.slice, hb, run_sizeOf hT]; rfl, ?_⟩
              refine rel_own_mk hs' (by simp) (.inl ⟨hμ, ⟨_, rfl⟩, rfl, ?_⟩)
              rcases hcase with ⟨_, _, rfl⟩ | ⟨km, mm, _, _, q1, q2, rfl, _⟩
              · exact hcc
              · right; congr 1; omega
            · rcases hcase with ⟨rfl, _, rfl⟩ | ⟨km, mm, rfl, _, q1, q2, rfl, hsome⟩
              · have hb := run_bounds (P := P) (isS := true) (len := n) (cap := cap) (m := cap) hlv (hhv.imp (fun q => ⟨q.1, rfl, q.2.2⟩) id) (.inl ⟨rfl, rfl⟩) (by omega) hv0 (by omega) (Int.le_refl _) S.w
                refine ⟨.slice (some ⟨g, 0, none⟩) hv.toNat cap, ?_, ?_⟩
                · simp only [Instr.sliceAt, Sem.run_bind, run_underlying hu, Result.andThen_ok, Instr.slice, hb, run_sizeOf hT, Sem.run_pure]
                  by_cases hc0 : cap = 0
                  · simp [hc0]
                  · simp [add_none]
                · exact rel_own_mk hs' (by omega) (.inr ⟨g, k, cap, hg, rfl, by omega, hcapk, hcn, hcs⟩)
              · have hb := run_bounds (P := P) (isS := true) (len := n) (cap := cap) (m := mm) hlv (hhv.imp (fun q => by rw [q.2.1] at hsome; cases hsome) id) (.inr ⟨km, rfl⟩) (by omega) hv0 q1 (by omega) S.w
                refine ⟨.slice (some ⟨g, 0, none⟩) hv.toNat mm.toNat, ?_, ?_⟩
                · simp only [Instr.sliceAt, Sem.run_bind, run_underlying hu, Result.andThen_ok, Instr.slice, hb, run_sizeOf hT, Sem.run_pure]
                  by_cases hc0 : mm.toNat = 0
                  · simp [hc0]
                  · simp [add_none]
                · exact rel_own_mk hs' (by omega) (.inr ⟨g, k, mm.toNat, hg, rfl, by omega, by omega, fun q => (by cases q), fun j hj => (by injection hj)⟩)
          cases mx with
          | none =>
            have hvm : vm = none := hm
            simp only [Bool.and_eq_true, decide_eq_true_eq] at h ⊢
            exact fin none c h.1.1.1 h.1.1.2 h.1.2 h.2 (.inl ⟨hvm, rfl, rfl⟩)
          | some mv =>
            cases mv with
            | int km m =>
              have hvm := relO_int hm
              simp only [Bool.and_eq_true, decide_eq_true_eq] at h ⊢
              obtain ⟨⟨⟨⟨⟨q0, q1⟩, q2⟩, q3⟩, q4⟩, q5⟩ := h
              exact fin (some m) (some m.toNat) q1 q2 q3 (by omega) (.inr ⟨km, m, hvm, rfl, q4, q5, rfl, q0⟩)
            | _ => simp only at h; cases h
    · rename_i s hs
      obtain ⟨T0, hT0, hsh⟩ := shp_some hs (by simp)
      have hu := und_str hT0 hsh
      cases mx with
      | some _ => simp only at h; cases h
      | none =>
        have hvm : vm = none := hm
        subst hvm
        simp only at h ⊢
        cases hhi : isHigh hi s.length with
        | none => simp only [hhi] at h; first | cases h | (split at h <;> cases h)
        | some hv =>
          have hhv := isHigh_some hhi hh
          simp only [hhi] at h ⊢
          simp only [Bool.and_eq_true, decide_eq_true_eq] at h ⊢
          have e1 := hx; simp only [Rel] at e1; subst e1
          have hsz : (ByteArray.mk s.toArray).size = s.length := rfl
          have hb := run_bounds (P := P) (isS := false) (len := s.length) (cap := s.length) (m := s.length) hlv (hhv.imp (fun q => ⟨q.1, rfl, q.2.2⟩) id) (.inl ⟨rfl, rfl⟩) h.1.1 h.1.2 h.2 (Int.le_refl _) S.w
          refine ⟨.string ((ByteArray.mk s.toArray).extract l.toNat hv.toNat), ?_, ?_⟩
          · simp [Instr.sliceAt, run_underlying hu, Instr.slice, hsz, hb]
          · simp only [Rel]
            congr 1
            apply ByteArray.ext
            apply Array.ext'
            simp [ByteArray.data_extract, List.extract, List.drop_take]
    · cases h
end
end Go.V

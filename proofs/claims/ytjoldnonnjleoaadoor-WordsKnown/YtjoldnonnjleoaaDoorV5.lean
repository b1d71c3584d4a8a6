/- The library V, part 5: the pure operations yield what V4 says. -/
import Derived.Test.YtjoldnonnjleoaaDoorV4
set_option linter.unusedVariables false
set_option linter.unusedSimpArgs false
namespace Go.V
open Go Go.RowKit

theorem add_none (g off n : Nat) : (⟨g, off, none⟩ : Addr).add n = ⟨g, off + n, none⟩ := by
  unfold Addr.add; split <;> simp_all

section
variable {P : Program} {S : St} {H : List Blk}

theorem imm_cell (hok : S.Ok H) {g off : Nat} {u : Value} (h : mcell S.M g off = some u) : S.w.cell? ⟨g, off, none⟩ = some u := by
  unfold mcell at h
  split at h
  · rename_i c t fr ho
    have := hok.imm g _ ho
    simp [World.cell?, this, h]
  · cases h
theorem own_cell (hok : S.Ok H) {b s i : Nat} {t : TypeId} {es : List (List AV)} {e : List AV} (hb : H[b]? = some (.row s t es)) (he : es[i]? = some e) :
    ∃ g k, S.μ b = some (g, k) ∧ e.length = s ∧ ∀ (j : Nat) (a : AV), e[j]? = some a → ∃ u, S.w.cell? ⟨g, i * s + j, none⟩ = some u ∧ u.oneCell' = true ∧ Rel (S.env H) a u := by
  rcases hok.row b s t es hb with ⟨_, h⟩ | ⟨g, k, cs, h1, h2, h3, h4, h5, h6, h7⟩
  · subst h; simp at he
  · obtain ⟨hl, hc⟩ := h7 i e he
    refine ⟨g, k, h1, hl, fun j a hj => ?_⟩
    obtain ⟨u, hu, ho, hr⟩ := hc j a hj
    exact ⟨u, by simp [World.cell?, h3, hu], ho, hr⟩

theorem cells_exist {E : Env} {w : World} {g : Nat} : ∀ (as : List AV) (off : Nat), (∀ (j : Nat) (a : AV), as[j]? = some a → ∃ u, w.cell? ⟨g, off + j, none⟩ = some u ∧ u.oneCell' = true ∧ Rel E a u) →
    ∃ vs : List Value, RelL E as vs ∧ (∀ u ∈ vs, u.oneCell' = true) ∧ ∀ (j : Nat) (v : Value), vs[j]? = some v → w.cell? ⟨g, off + j, none⟩ = some v
  | [], off, _ => ⟨[], by simp [RelL], by simp, by simp⟩
  | a :: as, off, h => by
    obtain ⟨u, hu, ho, hr⟩ := h 0 a rfl
    obtain ⟨vs, h1, h2, h3⟩ := cells_exist as (off + 1) fun j x hj => by
      have := h (j + 1) x (by simpa using hj)
      rwa [show off + (j + 1) = off + 1 + j from by omega] at this
    refine ⟨u :: vs, ?_, ?_, ?_⟩
    · simp only [RelL]; exact ⟨u, vs, rfl, hr, h1⟩
    · intro x hx
      rcases List.mem_cons.1 hx with rfl | hx
      · exact ho
      · exact h2 x hx
    · intro j v hj
      cases j with
      | zero => simp at hj; subst hj; simpa using hu
      | succ j =>
        have := h3 j v (by simpa using hj)
        rwa [show off + 1 + j = off + (j + 1) from by omega] at this

theorem run_isAgg {t : TypeId} {T : TI} (h : tinfo P t = some T) (w : World) : (isAgg t).run P w = .ok T.agg w := by
  obtain ⟨i, d, z, hi, hd, hz, _, rfl⟩ := tinfo_some h
  unfold isAgg
  simp only [Sem.run_bind, run_underlying hd, Result.andThen_ok]
  cases d <;> simp
theorem run_sizeOf {t : TypeId} {T : TI} (h : tinfo P t = some T) (w : World) : (sizeOf t).run P w = .ok T.sz w := by
  obtain ⟨i, d, z, hi, hd, hz, _, rfl⟩ := tinfo_some h
  simp [Go.sizeOf, typeInfo, hi]
theorem shp_some {t : TypeId} {s : Shape} (h : shp P t = s) (hs : s ≠ .other) : ∃ T, tinfo P t = some T ∧ T.shape = s := by
  unfold shp at h
  cases hT : tinfo P t with
  | none => rw [hT] at h; exact absurd h.symm hs
  | some T => rw [hT] at h; exact ⟨T, rfl, h⟩
theorem und_slice {t : TypeId} {T : TI} {e : TypeId} (h : tinfo P t = some T) (hs : T.shape = .slice e) : P.underlying t = some (.slice e) := by
  obtain ⟨i, d, z, hi, hd, hz, _, rfl⟩ := tinfo_some h
  simp only at hs
  cases d <;> simp only [shapeOf] at hs <;> first | cases hs | skip
  exact hd
theorem und_array {t : TypeId} {T : TI} {n : Nat} {e : TypeId} (h : tinfo P t = some T) (hs : T.shape = .array n e) : P.underlying t = some (.array n e) := by
  obtain ⟨i, d, z, hi, hd, hz, _, rfl⟩ := tinfo_some h
  simp only at hs
  cases d <;> simp only [shapeOf] at hs <;> first | cases hs | skip
  exact hd
theorem und_str {t : TypeId} {T : TI} (h : tinfo P t = some T) (hs : T.shape = .str) : P.underlying t = some .string := by
  obtain ⟨i, d, z, hi, hd, hz, _, rfl⟩ := tinfo_some h
  simp only at hs
  cases d <;> simp only [shapeOf] at hs <;> first | cases hs | skip
  exact hd
theorem und_bool {t : TypeId} {T : TI} (h : tinfo P t = some T) (hs : T.shape = .bool) : P.underlying t = some .bool := by
  obtain ⟨i, d, z, hi, hd, hz, _, rfl⟩ := tinfo_some h
  simp only at hs
  cases d <;> simp only [shapeOf] at hs <;> first | cases hs | skip
  exact hd
theorem und_int {t : TypeId} {T : TI} {k : IntKind} (h : tinfo P t = some T) (hs : T.shape = .int k) : P.underlying t = some (.int k) := by
  obtain ⟨i, d, z, hi, hd, hz, _, rfl⟩ := tinfo_some h
  simp only at hs
  cases d <;> simp only [shapeOf] at hs <;> first | cases hs | skip
  exact hd
theorem und_struct {t : TypeId} {T : TI} {fs : List (Nat × TypeId)} (h : tinfo P t = some T) (hs : T.shape = .struct fs) : ∃ F, P.underlying t = some (.struct F) ∧ fs = F.toList.map fun f => (f.offset, f.type) := by
  obtain ⟨i, d, z, hi, hd, hz, _, rfl⟩ := tinfo_some h
  simp only at hs
  cases d <;> simp only [shapeOf] at hs <;> first | cases hs | skip
  exact ⟨_, hd, rfl⟩
theorem und_iface {t : TypeId} {T : TI} (h : tinfo P t = some T) (hs : T.shape = .iface) : ∃ ms, P.underlying t = some (.interface ms) := by
  obtain ⟨i, d, z, hi, hd, hz, _, rfl⟩ := tinfo_some h
  simp only at hs
  cases d <;> simp only [shapeOf] at hs <;> first | cases hs | skip
  exact ⟨_, hd⟩
theorem und_ptr {t e : TypeId} {T : TI} (h : tinfo P t = some T) (hs : T.shape = .ptr e) : P.underlying t = some (.pointer e) := by
  obtain ⟨i, d, z, hi, hd, hz, _, rfl⟩ := tinfo_some h
  simp only at hs
  cases d <;> simp only [shapeOf] at hs <;> first | cases hs | skip
  exact hd
theorem und_map {t k e : TypeId} {T : TI} (h : tinfo P t = some T) (hs : T.shape = .map k e) : P.underlying t = some (.map k e) := by
  obtain ⟨i, d, z, hi, hd, hz, _, rfl⟩ := tinfo_some h
  simp only at hs
  cases d <;> simp only [shapeOf] at hs <;> first | cases hs | skip
  exact hd
theorem und_func {t : TypeId} {T : TI} (h : tinfo P t = some T) (hs : T.shape = .func) : ∃ a b c, P.underlying t = some (.func a b c) := by
  obtain ⟨i, d, z, hi, hd, hz, _, rfl⟩ := tinfo_some h
  simp only at hs
  cases d <;> simp only [shapeOf] at hs <;> first | cases hs | skip
  exact ⟨_, _, _, hd⟩
theorem und_some {t : TypeId} (h : (tinfo P t).isSome = true) : ∃ d, P.underlying t = some d := by
  cases hT : tinfo P t with
  | none => rw [hT] at h; cases h
  | some T => obtain ⟨i, d, z, hi, hd, hz, _, rfl⟩ := tinfo_some hT; exact ⟨d, hd⟩

/-- A part of a row of cells that lies at off, read as a variable of type t. -/
theorem run_loadVar_cut {E : Env} {w : World} {t : TypeId} {T : TI} (hT : tinfo P t = some T) {cs : List AV} {g off o : Nat} (hf : fitsAt T cs.length o = true)
    (h : ∀ (j : Nat) (a : AV), cs[j]? = some a → ∃ u, w.cell? ⟨g, off + j, none⟩ = some u ∧ u.oneCell' = true ∧ Rel E a u) :
    ∃ v, (loadVar t ⟨g, off + o, none⟩).run P w = .ok v w ∧ Rel E (cut T cs o) v := by
  simp only [fitsAt, Bool.and_eq_true, decide_eq_true_eq, Bool.or_eq_true, beq_iff_eq] at hf
  obtain ⟨hlen, hone⟩ := hf
  unfold loadVar cut
  simp only [Sem.run_bind, run_isAgg hT, Result.andThen_ok]
  by_cases ha : T.agg = true
  · simp only [ha, if_true, Sem.run_bind, run_sizeOf hT, Result.andThen_ok]
    obtain ⟨vs, h1, h2, h3⟩ := cells_exist (E := E) (w := w) (g := g) ((cs.drop o).take T.sz) (off + o) fun j a hj => by
      rw [List.getElem?_take] at hj
      split at hj
      · rw [List.getElem?_drop] at hj
        have := h (o + j) a hj
        rwa [← Nat.add_assoc] at this
      · cases hj
    have hl : vs.length = T.sz := by
      rw [← h1.length]
      simp
      omega
    have hr := run_loadCells_list (P := P) w ⟨g, off + o, none⟩ vs fun j v hj => by rw [add_none]; exact h3 j v hj
    rw [hl] at hr
    rw [hr]
    exact ⟨_, rfl, by simp only [Rel]; exact ⟨vs, rfl, h1, h2⟩⟩
  · have hs : T.sz = 1 := hone.resolve_left ha
    simp only [ha, if_false, Bool.false_eq_true]
    have hlt : o < cs.length := by omega
    obtain ⟨u, hu, _, hr⟩ := h o cs[o] (List.getElem?_eq_getElem hlt)
    refine ⟨u, ?_, ?_⟩
    · simp [run_load, hu]
    · rw [List.getD_eq_getElem?_getD, List.getElem?_eq_getElem hlt]; exact hr

theorem pLoad_ok (hok : S.Ok H) {t : TypeId} {p : AV} {v : Value} (hr : Rel (S.env H) p v) (h : (pLoad P H t p).1 = true) :
    ∃ u, (Instr.loadAt t v).run P S.w = .ok u S.w ∧ Rel (S.env H) (pLoad P H t p).2 u := by
  unfold pLoad at *
  cases hT : tinfo P t with
  | none => rw [hT] at h; cases h
  | some T =>
    simp only [hT] at h ⊢
    cases p with
    | ptr b i o hh =>
      simp only at h ⊢
      cases hb : H[b]? with
      | none => rw [hb] at h; cases h
      | some B =>
        cases B with
        | ob _ => rw [hb] at h; cases h
        | row s bt es =>
          simp only [hb, Bool.and_eq_true, decide_eq_true_eq] at h ⊢
          obtain ⟨⟨h1, h2⟩, h3⟩ := h
          have hl : isLen H b hh = true := by simp [isLen, shOf_of hb, h1]
          obtain ⟨s', g, k, hs, hg, hv⟩ := rel_ptr hr hl
          rw [shOf_of hb] at hs; injection hs with hs; injection hs with hs _; subst hs
          have he : es[i]? = some es[i] := List.getElem?_eq_getElem h2
          obtain ⟨g', k', hg', hlen, hc⟩ := own_cell hok hb he
          rw [hg] at hg'; injection hg' with hg'; injection hg' with e1 e2; subst e1
          have hd : es.getD i [] = es[i] := by rw [List.getD_eq_getElem?_getD, he]; rfl
          rw [hd]
          rw [← hlen] at h3
          obtain ⟨u, hu, hru⟩ := run_loadVar_cut (P := P) hT h3 hc
          refine ⟨u, ?_, hru⟩
          subst hv
          simpa [Instr.loadAt, Instr.sureAddr] using hu
    | iptr cs o =>
      simp only at h ⊢
      simp only [Rel] at hr
      obtain ⟨g, off, hv, hc⟩ := hr
      obtain ⟨u, hu, hru⟩ := run_loadVar_cut (P := P) (E := S.env H) (w := S.w) (g := g) (off := off) hT h fun j a hj => by
        obtain ⟨x, hx, ho, hrx⟩ := hc.get hj
        exact ⟨x, imm_cell hok hx, ho, hrx⟩
      refine ⟨u, ?_, hru⟩
      subst hv
      simpa [Instr.loadAt, Instr.sureAddr] using hu
    | _ => simp only at h; cases h

theorem fieldOf_some {s : TypeId} {f off : Nat} {F : TI} (h : fieldOf P s f = some (off, F)) :
    ∃ fs fd, P.underlying s = some (.struct fs) ∧ fs[f]? = some fd ∧ fd.offset = off ∧ tinfo P fd.type = some F := by
  unfold fieldOf at h
  split at h
  · rename_i T hT
    split at h
    · rename_i l hl
      obtain ⟨fs, hd, rfl⟩ := und_struct hT hl
      split at h
      · rename_i off' ft hf
        rw [List.getElem?_map] at hf
        cases hq : fs.toList[f]? with
        | none => rw [hq] at hf; cases hf
        | some fd =>
          rw [hq] at hf
          simp only [Option.map_some, Option.some.injEq, Prod.mk.injEq] at hf
          obtain ⟨h1, h2⟩ := hf
          cases hF : tinfo P ft with
          | none => rw [hF] at h; cases h
          | some F' =>
            rw [hF] at h
            simp only [Option.map_some, Option.some.injEq, Prod.mk.injEq] at h
            exact ⟨fs, fd, hd, by simpa using hq, by rw [h1]; exact h.1, by rw [h2, hF, h.2]⟩
      · cases h
    · cases h
  · cases h

theorem pFieldAddr_ok (hok : S.Ok H) {s : TypeId} {p : AV} {f : Nat} {v : Value} (hr : Rel (S.env H) p v) (h : (pFieldAddr P H s p f).1 = true) :
    ∃ u, (Instr.fieldAt s v f).run P S.w = .ok u S.w ∧ Rel (S.env H) (pFieldAddr P H s p f).2 u := by
  unfold pFieldAddr at *
  cases hf : fieldOf P s f with
  | none => rw [hf] at h; cases h
  | some q =>
    obtain ⟨off, F⟩ := q
    obtain ⟨fs, fd, hd, hfd, hoff, hF⟩ := fieldOf_some hf
    simp only [hf] at h ⊢
    cases p with
    | ptr b i o hh =>
      simp only [Bool.and_eq_true, bne_iff_ne, ne_eq] at h ⊢
      obtain ⟨s', g, k, hs, hg, hv⟩ := rel_ptr hr h.1
      subst hv
      refine ⟨.pointer (some ⟨g, i * s' + (o + off), none⟩), ?_, ?_⟩
      · simp [Instr.fieldAt, run_underlying hd, hfd, Instr.sureAddr, fieldPlace, run_sizeOf hF, h.2, add_none, hoff, Nat.add_assoc]
      · simp only [Rel]
        exact ⟨s', hh, hs, Nat.le_refl _, fun _ => ⟨g, k, hg, rfl⟩⟩
    | iptr cs o =>
      simp only [bne_iff_ne, ne_eq] at h ⊢
      simp only [Rel] at hr
      obtain ⟨g, b, hv, hc⟩ := hr
      subst hv
      refine ⟨.pointer (some ⟨g, b + (o + off), none⟩), ?_, ?_⟩
      · simp [Instr.fieldAt, run_underlying hd, hfd, Instr.sureAddr, fieldPlace, run_sizeOf hF, h, add_none, hoff, Nat.add_assoc]
      · simp only [Rel]
        exact ⟨g, b, rfl, hc⟩
    | _ => simp only at h; cases h

theorem run_part_cut {E : Env} {w : World} {t : TypeId} {T : TI} (hT : tinfo P t = some T) {cs : List AV} {vs : List Value} (h : RelL E cs vs) (h1 : ∀ u ∈ vs, u.oneCell' = true) {o : Nat} (hf : fitsAt T cs.length o = true) :
    ∃ v, (part t vs.toArray o).run P w = .ok v w ∧ Rel E (cut T cs o) v := by
  simp only [fitsAt, Bool.and_eq_true, decide_eq_true_eq, Bool.or_eq_true, beq_iff_eq] at hf
  obtain ⟨hlen, hone⟩ := hf
  unfold part cut
  simp only [Sem.run_bind, run_isAgg hT, Result.andThen_ok]
  by_cases ha : T.agg = true
  · simp only [ha, if_true, Sem.run_bind, run_sizeOf hT, Result.andThen_ok, Sem.run_pure]
    refine ⟨_, rfl, ?_⟩
    simp only [Rel]
    refine ⟨(vs.drop o).take T.sz, ?_, (h.drop o).take T.sz, fun u hu => h1 u (List.mem_of_mem_drop (List.mem_of_mem_take hu))⟩
    congr 1
    apply Array.ext'
    simp [List.extract]
  · have hs : T.sz = 1 := hone.resolve_left ha
    simp only [ha, if_false, Bool.false_eq_true]
    have hlt : o < cs.length := by omega
    obtain ⟨u, hu, hr⟩ := h.get (List.getElem?_eq_getElem hlt)
    refine ⟨u, ?_, ?_⟩
    · simp [hu]
    · rw [List.getD_eq_getElem?_getD, List.getElem?_eq_getElem hlt]; exact hr

theorem pField_ok {s : TypeId} {p : AV} {f : Nat} {v : Value} (hr : Rel (S.env H) p v) (h : (pField P s p f).1 = true) :
    ∃ u, (Instr.field s v f).run P S.w = .ok u S.w ∧ Rel (S.env H) (pField P s p f).2 u := by
  unfold pField at *
  cases hf : fieldOf P s f with
  | none => rw [hf] at h; cases h
  | some q =>
    obtain ⟨off, F⟩ := q
    obtain ⟨fs, fd, hd, hfd, hoff, hF⟩ := fieldOf_some hf
    simp only [hf] at h ⊢
    cases p with
    | agg cs =>
      simp only at h ⊢
      simp only [Rel] at hr
      obtain ⟨vs, rfl, hl, h1⟩ := hr
      obtain ⟨u, hu, hru⟩ := run_part_cut (P := P) (w := S.w) hF hl h1 h
      refine ⟨u, ?_, hru⟩
      simpa [Instr.field, run_underlying hd, hfd, asAgg, hoff] using hu
    | _ => simp only at h; cases h

theorem pIndexAddr_ok (hok : S.Ok H) {t : TypeId} {x i : AV} {vx vi : Value} (hx : Rel (S.env H) x vx) (hi : Rel (S.env H) i vi) (h : (pIndexAddr P H t x i).1 = true) :
    ∃ u, (Instr.indexAt t vx vi).run P S.w = .ok u S.w ∧ Rel (S.env H) (pIndexAddr P H t x i).2 u := by
  unfold pIndexAddr at *
  cases i with
  | int k n =>
    have hvi : vi = .int k n := by simpa [Rel] using hi
    subst hvi
    simp only at h ⊢
    cases hs : shp P t with
    | slice e =>
      obtain ⟨TT, hTT, hsh⟩ := shp_some hs (by simp)
      have hu := und_slice hTT hsh
      simp only [hs] at h ⊢
      cases hT : tinfo P e with
      | none => rw [hT] at h; cases h
      | some T =>
        simp only [hT] at h ⊢
        cases x with
        | sl s es c =>
          simp only [Bool.and_eq_true, decide_eq_true_eq, beq_iff_eq] at h ⊢
          obtain ⟨⟨h0, h1⟩, h2⟩ := h
          simp only [Rel] at hx
          obtain ⟨a, cap, hv, _, _, _, h4⟩ := hx
          have hn : n.toNat < es.length := by omega
          have hne : es ≠ [] := by intro e; simp [e] at hn
          obtain ⟨g, off, ha, he⟩ := h4.resolve_left hne
          subst hv; subst ha
          refine ⟨.pointer (some ⟨g, off + n.toNat * T.sz, none⟩), ?_, ?_⟩
          · simp [Instr.indexAt, run_underlying hu, asIntOf, h0, h1, run_sizeOf hT, add_none]
          · simp only [Rel]
            have hg := he.get (List.getElem?_eq_getElem hn)
            refine ⟨g, off + n.toNat * T.sz, by simp, ?_⟩
            rw [List.getD_eq_getElem?_getD, List.getElem?_eq_getElem hn, ← h2]
            exact hg.2
        | own b m hh c =>
          simp only at h ⊢
          cases hsb : shOf H b with
          | none => rw [hsb] at h; cases h
          | some q =>
            obtain ⟨s, cur⟩ := q
            simp only [hsb, Bool.and_eq_true, decide_eq_true_eq, beq_iff_eq] at h ⊢
            obtain ⟨⟨⟨h0, h1⟩, h2⟩, h3⟩ := h
            have hl : isLen H b hh = true := by simp [isLen, hsb, h0]
            obtain ⟨s', hs', hmn, hcase⟩ := rel_own hx hl
            rw [hsb] at hs'; injection hs' with hs'; injection hs' with e1 e2; subst e1
            rcases hcase with ⟨_, _, hz, _⟩ | ⟨g, k', cap, hg, hv, _⟩
            · omega
            · subst hv
              refine ⟨.pointer (some ⟨g, n.toNat * s + 0, none⟩), ?_, ?_⟩
              · simp [Instr.indexAt, run_underlying hu, asIntOf, h1, h2, run_sizeOf hT, add_none, h3]
              · simp only [Rel]
                exact ⟨s, cur, hsb, by omega, fun _ => ⟨g, k', hg, rfl⟩⟩
        | _ => simp only at h; cases h
    | array len e =>
      obtain ⟨TT, hTT, hsh⟩ := shp_some hs (by simp)
      have hu := und_array hTT hsh
      simp only [hs] at h ⊢
      cases hT : tinfo P e with
      | none => rw [hT] at h; cases h
      | some T =>
        simp only [hT] at h ⊢
        cases x with
        | ptr b i o hh =>
          simp only [Bool.and_eq_true, decide_eq_true_eq] at h ⊢
          obtain ⟨⟨hl, h0⟩, h1⟩ := h
          obtain ⟨s', g, k', hs', hg, hv⟩ := rel_ptr hx hl
          subst hv
          refine ⟨.pointer (some ⟨g, i * s' + (o + n.toNat * T.sz), none⟩), ?_, ?_⟩
          · simp [Instr.indexAt, run_underlying hu, asIntOf, Instr.sureAddr, h0, h1, run_sizeOf hT, add_none, Nat.add_assoc]
          · simp only [Rel]
            exact ⟨s', hh, hs', Nat.le_refl _, fun _ => ⟨g, k', hg, rfl⟩⟩
        | iptr cs o =>
          simp only [Bool.and_eq_true, decide_eq_true_eq] at h ⊢
          simp only [Rel] at hx
          obtain ⟨g, b, hv, hc⟩ := hx
          subst hv
          refine ⟨.pointer (some ⟨g, b + (o + n.toNat * T.sz), none⟩), ?_, ?_⟩
          · simp [Instr.indexAt, run_underlying hu, asIntOf, Instr.sureAddr, h.1, h.2, run_sizeOf hT, add_none, Nat.add_assoc]
          · simp only [Rel]
            exact ⟨g, b, rfl, hc⟩
        | _ => simp only at h; cases h
    | _ => simp only [hs] at h; cases h
  | _ => simp only at h; cases h

theorem pIndex_ok {t : TypeId} {x i : AV} {vx vi : Value} (hx : Rel (S.env H) x vx) (hi : Rel (S.env H) i vi) (h : (pIndex P t x i).1 = true) :
    ∃ u, (Instr.index t vx vi).run P S.w = .ok u S.w ∧ Rel (S.env H) (pIndex P t x i).2 u := by
  unfold pIndex at *
  cases i with
  | int k n =>
    have hvi : vi = .int k n := by simpa [Rel] using hi
    subst hvi
    simp only at h ⊢
    cases hs : shp P t with
    | array len e =>
      obtain ⟨TT, hTT, hsh⟩ := shp_some hs (by simp)
      have hu := und_array hTT hsh
      cases x with
      | agg cs =>
        simp only [hs] at h ⊢
        cases hT : tinfo P e with
        | none => rw [hT] at h; cases h
        | some T =>
          simp only [hT, Bool.and_eq_true, decide_eq_true_eq] at h ⊢
          simp only [Rel] at hx
          obtain ⟨vs, rfl, hl, h1⟩ := hx
          obtain ⟨u, hru, hrr⟩ := run_part_cut (P := P) (w := S.w) hT hl h1 h.2
          refine ⟨u, ?_, hrr⟩
          simpa [Instr.index, run_underlying hu, asIntOf, h.1.1, h.1.2, run_sizeOf hT] using hru
      | _ => simp only [hs] at h; cases h
    | str =>
      obtain ⟨TT, hTT, hsh⟩ := shp_some hs (by simp)
      have hu := und_str hTT hsh
      cases x with
      | str l =>
        simp only [hs, Bool.and_eq_true, decide_eq_true_eq] at h ⊢
        have hv : vx = .string ⟨l.toArray⟩ := by simpa [Rel] using hx
        subst hv
        have hn : n.toNat < l.length := by omega
        refine ⟨.int .u8 (l.getD n.toNat 0).toNat, ?_, by simp [Rel]⟩
        have hg : (ByteArray.mk l.toArray)[n.toNat]? = some (l.getD n.toNat 0) := by
          have hsz : n.toNat < (ByteArray.mk l.toArray).size := hn
          rw [ByteArray.getElem?_lt' _ _ hsz]
          rw [List.getD_eq_getElem?_getD, List.getElem?_eq_getElem hn]
          rfl
        simp [Instr.index, run_underlying hu, asIntOf, h.1, hg]
      | _ => simp only [hs] at h; cases h
    | _ => simp only [hs] at h; cases h
  | _ => simp only at h; cases h
end
end Go.V

/- The library V, part 24: contracts of the kit's shelf as contracts of V. -/
import Derived.Test.YtbgdagokjfmcbaaGreatDoorV34
import Derived.Lib.LaidTab
import Derived.Lib.ItoaNum
import Derived.Lib.AtoiAll
import Derived.Lib.AtoiErrMem
import Derived.Lib.Split
import Derived.Lib.SplitLaws
import Derived.Lib.Join
import Derived.Sort.Grow
import Derived.Below
set_option linter.unusedVariables false
set_option linter.unusedSimpArgs false
namespace Go.V
open Go Go.RowKit
section
variable {P : Program} {G : Glob}
theorem acalls_of_calls {f : FuncId} {args : List AV} {H : List Blk} {r : AV} (h : ∀ (S : St) (vals : List Value), S.Ok H → Globs G S.M → RelL (S.env H) args vals →
  Calls P f vals.toArray S.w fun e w' => ∃ v, e = .returned v ∧ Below S.w.heap.size S.w w' ∧
   ∀ E : Env, (∀ k o, S.M k = some o → E.M k = some o) → (∀ k o, S.w.heap.size ≤ k → w'.heap[k]? = some o → E.M k = some o) → Rel E r v) : ACalls P G f args H r H := fun S vals hok hG ha => by
 refine (h S vals hok hG ha).mono fun e w' ⟨v, he, hb, hr⟩ => ?_
 let S' : St := ⟨fun k => if k < S.w.heap.size then S.M k else w'.heap[k]?, S.μ, S.ν, w'⟩
 have hlt : ∀ k, S.M k ≠ none → k < S.w.heap.size := fun k hk => by
  cases ho : S.M k with
  | none => exact absurd ho hk
  | some o => exact (Array.getElem?_eq_some_iff.1 (hok.imm k o ho)).1
 have hM : ∀ k o, S.M k = some o → S'.M k = some o := fun k o hk => by
  show (if k < S.w.heap.size then S.M k else w'.heap[k]?) = some o
  rw [if_pos (hlt k (by rw [hk]; simp)), hk]
 have hMl : ∀ k, k < S.w.heap.size → S'.M k = S.M k := fun k hk => if_pos hk
 have hle : (S.env H).le (S'.env H) := ⟨hM, fun b s cur hs => ⟨cur, Nat.le_refl _, hs, fun _ => rfl⟩, fun b g hs => hs⟩
 refine ⟨v, S', he, rfl, ⟨fun k o hk => ?_, fun b s t es hbb => ?_, fun b ob0 hbb => ?_, hok.inj⟩, ⟨hb.os, hb.tape, hb.output, hb.size, fun k hk _ => hb.block k hk, hM, fun k hk => ?_, fun k hk => .inl hk, fun b s cur _ hs => ⟨cur, Nat.le_refl _, hs, fun _ => rfl⟩, fun b g _ hs => hs, id⟩, hr _ hM fun k o h1 h2 => ?_⟩
 ·by_cases hk' : k < S.w.heap.size
  ·have : S.M k = some o := by rw [← hMl k hk']; exact hk
   show w'.heap[k]? = some o
   rw [hb.block k hk']; exact hok.imm k o this
  ·have e : S'.M k = w'.heap[k]? := if_neg hk'
   rw [e] at hk; exact hk
 ·rcases hok.row b s t es hbb with q|⟨g, k, cs, h1, h2, h3, h4, h5, h6, h7⟩
  ·exact .inl q
  ·have hg : g < S.w.heap.size := (Array.getElem?_eq_some_iff.1 h3).1
   exact .inr ⟨g, k, cs, h1, by rw [hMl g hg]; exact h2, (hb.block g hg).trans h3, h4, h5, h6, h7.mono hle⟩
 ·obtain ⟨g, ob1, h1, h2, h3, h4⟩ := hok.ob b ob0 hbb
  have hg : g < S.w.heap.size := (Array.getElem?_eq_some_iff.1 h3).1
  exact ⟨g, ob1, h1, by rw [hMl g hg]; exact h2, (hb.block g hg).trans h3, h4.mono hle⟩
 ·by_cases hk' : k < S.w.heap.size
  ·left; rw [← hMl k hk']; exact hk
  ·exact .inr (.inr (by omega))
 ·show (if k < S.w.heap.size then S.M k else w'.heap[k]?) = some o
  rw [if_neg (by omega)]; exact h2
theorem tabIs_of_globs {S : St} {H : List Blk} {name : String} {k : IntKind} {zs : List Int} {g : Nat} (hok : S.Ok H) (hG : Globs G S.M) (hn : P.globalNamed name = some g) (hg : G g = some (zs.map fun z => .int k z)) : Lib.TabIs P S.w name k zs := by
 obtain ⟨vs, t, fr, h1, h2, h3⟩ := hG g _ hg
 have hv : vs = zs.map fun z => Value.int k z := by
  clear h1 h3 hg
  induction zs generalizing vs with
  | nil => simpa [RelL] using h2
  | cons z zs ih =>
   simp only [List.map_cons, RelL, Rel] at h2
   obtain ⟨u, us, rfl, rfl, h2⟩ := h2
   rw [ih us h2, List.map_cons]
 unfold Lib.TabIs World.var?
 rw [hn, Option.bind_some, hok.imm g _ h1, hv]
theorem cell_of_globs {S : St} {H : List Blk} {a : AV} {cs : List AV} {g : Nat} (hok : S.Ok H) (hG : Globs G S.M) (hg : G g = some (a :: cs)) : ∃ v, S.w.cell? ⟨g, 0, none⟩ = some v ∧ Rel (Env0 S.M) a v := by
 obtain ⟨vs, t, fr, h1, h2, h3⟩ := hG g _ hg
 simp only [RelL] at h2
 obtain ⟨u, us, rfl, h2, _⟩ := h2
 exact ⟨u, by simp [World.cell?, hok.imm g _ h1], h2⟩
theorem below_grow (w : World) (k : Nat) (os : Array Obj) : Below w.heap.size w (Sort.grow (w.drewN k) os) where
 os := rfl
 tape := rfl
 output := rfl
 size := by simp [Sort.grow, World.drewN]
 block i hi := by simp [Sort.grow, World.drewN, Array.getElem?_append_left hi]
abbrev pow10G : List AV := Lib.pow10Tab.map fun z => .int .u64 z
theorem itoa_ac {f : FuncId} {H : List Blk} {g : Nat} (hn : P.globalNamed "internal/strconv.uint64pow10" = some g) (hg : G g = some pow10G)
  (hc : ∀ (n : Int), -9223372036854775808 ≤ n → n ≤ 9223372036854775807 → ∀ w : World, Lib.TabIs P w "internal/strconv.uint64pow10" .u64 Lib.pow10Tab →
   Calls P f #[.int .i64 n] w fun e w' => e = .returned (.string ⟨(Lib.itoa n).toArray⟩) ∧ ∃ k os, w' = Sort.grow (w.drewN k) os)
  (n : Int) (h0 : -9223372036854775808 ≤ n) (h1 : n ≤ 9223372036854775807) : ACalls P G f [.int .i64 n] H (.str (Lib.itoa n)) H :=
 acalls_of_calls fun S vals hok hG ha => by
  simp only [RelL, Rel] at ha
  obtain ⟨u, us, rfl, rfl, rfl⟩ := ha
  refine (hc n h0 h1 S.w (tabIs_of_globs hok hG hn hg)).mono fun e w' ⟨he, k, os, hw⟩ => ⟨_, he, hw ▸ below_grow _ _ _, fun E _ _ => ?_⟩
  simp [Rel]
def atoiM (s : List UInt8) : Int × Bool :=
 match Lib.atoiAll s with
 | .ok v => (v, true)
 | Lib.NumEnd.syntax => (0, false)
 | .range => (Lib.atoiSat s, false)
def errA (ok : Bool) : AV := if ok = true then .lit .nilIface else .err
def strs (xs : List (List UInt8)) : List (List AV) := xs.map fun x => [.str x]
def splitM (s sep : List UInt8) : List (List UInt8) := (Lib.splitB ⟨sep.toArray⟩ 0 (Lib.countB ⟨s.toArray⟩ ⟨sep.toArray⟩) ⟨s.toArray⟩).map (·.data.toList)
theorem split_ac {f : FuncId} {H : List Blk} {t9 : TypeId} {gm : Nat} (hm : G gm = some [.anyi .i64])
  (hc : ∀ (s sep : ByteArray) (m : Int) (w : World), s.size < 4294967281 → w.cell? ⟨gm, 0, none⟩ = some (.int .i64 m) → 1 ≤ sep.size → Calls P f #[.string s, .string sep] w fun e w' =>
   e = .returned (.slice (some ⟨w.heap.size, 0, none⟩) (Lib.countB s sep + 1) (Lib.countB s sep + 1)) ∧ w' = w.alloc (.cells ((Lib.splitB sep 0 (Lib.countB s sep) s).map Value.string).toArray t9))
  (s sep : List UInt8) (hs : s.length < 4294967281) (h1 : 1 ≤ sep.length) : ACalls P G f [.str s, .str sep] H (.sl 1 (strs (splitM s sep)) (some (splitM s sep).length)) H :=
 acalls_of_calls fun S vals hS hG ha => by
  have hlen : (splitM s sep).length = Lib.countB ⟨s.toArray⟩ ⟨sep.toArray⟩ + 1 := by
   unfold splitM; rw [List.length_map]; exact Lib.splitB_all ⟨sep.toArray⟩ h1 0 _ ⟨s.toArray⟩ rfl
  simp only [RelL, Rel] at ha
  obtain ⟨u, us, rfl, rfl, u2, us2, rfl, rfl, rfl⟩ := ha
  obtain ⟨v, hv, hvr⟩ := cell_of_globs hS hG hm
  simp only [Rel] at hvr
  obtain ⟨m0, rfl⟩ := hvr
  refine (hc ⟨s.toArray⟩ ⟨sep.toArray⟩ m0 S.w hs hv h1).mono fun e w' ⟨he, hw⟩ => ⟨_, he, ?_, fun E h2 h3 => ?_⟩
  ·subst hw; exact (Below.refl _ _).alloc (Nat.le_refl _) _
  ·have hN := h3 S.w.heap.size (.cells ((Lib.splitB ⟨sep.toArray⟩ 0 (Lib.countB ⟨s.toArray⟩ ⟨sep.toArray⟩) ⟨s.toArray⟩).map Value.string).toArray t9) (Nat.le_refl _) (by subst hw; exact heap_alloc_new S.w _)
   have hl1 : (strs (splitM s sep)).length = Lib.countB ⟨s.toArray⟩ ⟨sep.toArray⟩ + 1 := by rw [← hlen]; simp [strs]
   simp only [Rel]
   refine ⟨some ⟨S.w.heap.size, 0, none⟩, Lib.countB ⟨s.toArray⟩ ⟨sep.toArray⟩ + 1, by rw [hl1], by omega, ?_, fun k hk => by injection hk with hk; omega, .inr ⟨S.w.heap.size, 0, rfl, RelE.mk fun i el hi => ?_⟩⟩
   ·have : Lib.countB ⟨s.toArray⟩ ⟨sep.toArray⟩ ≤ s.length + 1 := by
     have := Lib.countB_le ⟨sep.toArray⟩ h1 s.length ⟨s.toArray⟩ (Nat.le_refl _)
     have hsz : (ByteArray.mk s.toArray).size = s.length := rfl
     omega
    simp only [maxLen]; omega
   ·simp only [strs, splitM, List.getElem?_map] at hi
    cases hx : (Lib.splitB ⟨sep.toArray⟩ 0 (Lib.countB ⟨s.toArray⟩ ⟨sep.toArray⟩) ⟨s.toArray⟩)[i]? with
    | none => rw [hx] at hi; cases hi
    | some x =>
     rw [hx] at hi
     simp only [Option.map_some, Option.some.injEq] at hi
     subst hi
     refine ⟨rfl, RelC.mk fun j a hj => ?_⟩
     cases j with
     | succ j => simp at hj
     | zero =>
      simp at hj
      subst hj
      refine ⟨.string x, ?_, rfl, by simp [Rel]⟩
      simp [mcell, hN, hx]
def strSrc (H : List Blk) (x : AV) (xs : List (List UInt8)) : Prop :=
 (∃ c, x = .sl 1 (strs xs) c) ∨ ∃ b n c t es, x = .own b n es.length c ∧ H[b]? = some (.row 1 t es) ∧ n ≤ es.length ∧ es.take n = strs xs
end
end Go.V

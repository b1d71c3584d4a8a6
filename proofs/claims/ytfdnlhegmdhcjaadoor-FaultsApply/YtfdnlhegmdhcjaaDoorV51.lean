/- The library V, part 51: rows of bytes, turned into texts. -/
import Derived.Test.YtfdnlhegmdhcjaaDoorV34
import Derived.Lib.LaidTab
import Derived.Lib.ItoaNum
import Derived.Lib.AtoiAll
import Derived.Lib.AtoiErrMem
import Derived.Lib.Split
import Derived.Lib.SplitLaws
import Derived.Lib.Join
import Derived.Sort.Grow
import Derived.Below
import Derived.Test.YtfdnlhegmdhcjaaDoorV47
import Derived.Lib.LastIndexByte
import Derived.Lib.SlTrimSet
import Derived.Lib.Strings
import Derived.Lib.IndexLaws
set_option linter.unusedVariables false
set_option linter.unusedSimpArgs false
namespace Go.V
open Go Go.RowKit
section
variable {P : Program} {G : Glob}
theorem acalls_of_calls {f : FuncId} {args : List AV} {H : List Blk} {r : AV} (h : ∀ (S : St) (vals : List Value), S.Ok H → Globs G S.M → RelL (S.env H) args vals →
  Calls P f vals.toArray S.w fun e w' => ∃ v, e = .returned v ∧ Below S.w.heap.size S.w w' ∧
   ∀ E : Env, (∀ k o, S.M k = some o → E.M k = some o) → (∀ k o, S.w.heap.size ≤ k → w'.heap[k]? = some o → E.M k = some o) → Rel E r v) : ACalls P G f args H r H := fun S vals hok hG ha => by
 refine (h S vals hok hG ha).mono fun e w' ⟨v, he, hb, hr⟩ => ?_
 let S' : St := ⟨fun k => if k < S.w.heap.size then S.M k else w'.heap[k]?, S.μ, S.ν, w'⟩
 have hlt : ∀ k, S.M k ≠ none → k < S.w.heap.size := fun k hk => by
  cases ho : S.M k with
  | none => exact absurd ho hk
  | some o => exact (Array.getElem?_eq_some_iff.1 (hok.imm k o ho)).1
 have hM : ∀ k o, S.M k = some o → S'.M k = some o := fun k o hk => by
  show (if k < S.w.heap.size then S.M k else w'.heap[k]?) = some o
  rw [if_pos (hlt k (by rw [hk]; simp)), hk]
 have hMl : ∀ k, k < S.w.heap.size → S'.M k = S.M k := fun k hk => if_pos hk
 have hle : (S.env H).le (S'.env H) := ⟨hM, fun b s cur hs => ⟨cur, Nat.le_refl _, hs, fun _ => rfl⟩, fun b g hs => hs⟩
 refine ⟨v, S', he, rfl, ⟨fun k o hk => ?_, fun b s t es hbb => ?_, fun b ob0 hbb => ?_, hok.inj⟩, ⟨hb.os, hb.tape, hb.output, hb.size, fun k hk _ => hb.block k hk, hM, fun k hk => ?_, fun k hk => .inl hk, fun b s cur _ hs => ⟨cur, Nat.le_refl _, hs, fun _ => rfl⟩, fun b g _ hs => hs, id⟩, hr _ hM fun k o h1 h2 => ?_⟩
 ·by_cases hk' : k < S.w.heap.size
  ·have : S.M k = some o := by rw [← hMl k hk']; exact hk
   show w'.heap[k]? = some o
   rw [hb.block k hk']; exact hok.imm k o this
  ·have e : S'.M k = w'.heap[k]? := if_neg hk'
   rw [e] at hk; exact hk
 ·rcases hok.row b s t es hbb with q|⟨g, k, cs, h1, h2, h3, h4, h5, h6, h7⟩
  ·exact .inl q
  ·have hg : g < S.w.heap.size := (Array.getElem?_eq_some_iff.1 h3).1
   exact .inr ⟨g, k, cs, h1, by rw [hMl g hg]; exact h2, (hb.block g hg).trans h3, h4, h5, h6, h7.mono hle⟩
 ·obtain ⟨g, ob1, h1, h2, h3, h4⟩ := hok.ob b ob0 hbb
  have hg : g < S.w.heap.size := (Array.getElem?_eq_some_iff.1 h3).1
  exact ⟨g, ob1, h1, by rw [hMl g hg]; exact h2, (hb.block g hg).trans h3, h4.mono hle⟩
 ·by_cases hk' : k < S.w.heap.size
  ·left; rw [← hMl k hk']; exact hk
  ·exact .inr (.inr (by omega))
 ·show (if k < S.w.heap.size then S.M k else w'.heap[k]?) = some o
  rw [if_neg (by omega)]; exact h2
theorem tabIs_of_globs {S : St} {H : List Blk} {name : String} {k : IntKind} {zs : List Int} {g : Nat} (hok : S.Ok H) (hG : Globs G S.M) (hn : P.globalNamed name = some g) (hg : G g = some (zs.map fun z => .int k z)) : Lib.TabIs P S.w name k zs := by
 obtain ⟨vs, t, fr, h1, h2, h3⟩ := hG g _ hg
 have hv : vs = zs.map fun z => Value.int k z := by
  clear h1 h3 hg
  induction zs generalizing vs with
  | nil => simpa [RelL] using h2
  | cons z zs ih =>
   simp only [List.map_cons, RelL, Rel] at h2
   obtain ⟨u, us, rfl, rfl, h2⟩ := h2
   rw [ih us h2, List.map_cons]
 unfold Lib.TabIs World.var?
 rw [hn, Option.bind_some, hok.imm g _ h1, hv]
theorem cell_of_globs {S : St} {H : List Blk} {a : AV} {cs : List AV} {g : Nat} (hok : S.Ok H) (hG : Globs G S.M) (hg : G g = some (a :: cs)) : ∃ v, S.w.cell? ⟨g, 0, none⟩ = some v ∧ Rel (Env0 S.M) a v := by
 obtain ⟨vs, t, fr, h1, h2, h3⟩ := hG g _ hg
 simp only [RelL] at h2
 obtain ⟨u, us, rfl, h2, _⟩ := h2
 exact ⟨u, by simp [World.cell?, hok.imm g _ h1], h2⟩
theorem below_grow (w : World) (k : Nat) (os : Array Obj) : Below w.heap.size w (Sort.grow (w.drewN k) os) where
 os := rfl
 tape := rfl
 output := rfl
 size := by simp [Sort.grow, World.drewN]
 block i hi := by simp [Sort.grow, World.drewN, Array.getElem?_append_left hi]
theorem below_bytes {w w' : World} {t : TypeId} (h : w' = w ∨ ∃ s, w' = Lib.bytesWorld w t s) : Below w.heap.size w w' := by
 rcases h with rfl|⟨s, rfl⟩
 ·exact Below.refl _ _
 ·exact Lib.bytesWorld_below _ _ _
abbrev pow10G : List AV := Lib.pow10Tab.map fun z => .int .u64 z
theorem itoa_ac {f : FuncId} {H : List Blk} {g : Nat} (hn : P.globalNamed "internal/strconv.uint64pow10" = some g) (hg : G g = some pow10G)
  (hc : ∀ (n : Int), -9223372036854775808 ≤ n → n ≤ 9223372036854775807 → ∀ w : World, Lib.TabIs P w "internal/strconv.uint64pow10" .u64 Lib.pow10Tab →
   Calls P f #[.int .i64 n] w fun e w' => e = .returned (.string ⟨(Lib.itoa n).toArray⟩) ∧ ∃ k os, w' = Sort.grow (w.drewN k) os)
  (n : Int) (h0 : -9223372036854775808 ≤ n) (h1 : n ≤ 9223372036854775807) : ACalls P G f [.int .i64 n] H (.str (Lib.itoa n)) H :=
 acalls_of_calls fun S vals hok hG ha => by
  simp only [RelL, Rel] at ha
  obtain ⟨u, us, rfl, rfl, rfl⟩ := ha
  refine (hc n h0 h1 S.w (tabIs_of_globs hok hG hn hg)).mono fun e w' ⟨he, k, os, hw⟩ => ⟨_, he, hw ▸ below_grow _ _ _, fun E _ _ => ?_⟩
  simp [Rel]
def atoiM (s : List UInt8) : Int × Bool :=
 match Lib.atoiAll s with
 | .ok v => (v, true)
 | Lib.NumEnd.syntax => (0, false)
 | .range => (Lib.atoiSat s, false)
def errA (ok : Bool) : AV := if ok = true then .lit .nilIface else .err
theorem atoi_ac {f : FuncId} {H : List Blk} {t5 t168 t210 : TypeId} {gs gr : Nat} (hs : G gs = some [.err]) (hr : G gr = some [.err])
  (hok : ∀ (s : ByteArray), s.size ≤ 9223372036854775806 → ∀ v : Int, Lib.atoiAll s.data.toList = .ok v → ∀ w : World, Calls P f #[.string s] w fun e w' => e = .returned (.tuple #[.int .i64 v, .nilIface]) ∧ (w' = w ∨ ∃ t, w' = Lib.bytesWorld w t5 t))
  (hsyn : ∀ (s : ByteArray), s.size ≤ 281474976710656 → Lib.atoiAll s.data.toList = Lib.NumEnd.syntax → ∀ (ev : Value) (w : World), w.cell? ⟨gs, 0, none⟩ = some ev → (ev = .nilIface ∨ ∃ te pe, ev = .iface te pe) →
   Calls P f #[.string s] w fun e w' => ∃ N, e = .returned (.tuple #[.int .i64 (0), .iface t168 (.pointer (some ⟨N, 0, none⟩))]) ∧ w.heap.size ≤ N ∧ w'.heap[N]? = some (.cells #[.string ⟨#[65, 116, 111, 105]⟩, .string s, ev] t210 (0, 0)) ∧ Below w.heap.size w w')
  (hran : ∀ (s : ByteArray), s.size ≤ 281474976710656 → Lib.atoiAll s.data.toList = .range → ∀ (ev : Value) (w : World), w.cell? ⟨gr, 0, none⟩ = some ev → (ev = .nilIface ∨ ∃ te pe, ev = .iface te pe) →
   Calls P f #[.string s] w fun e w' => ∃ N, e = .returned (.tuple #[.int .i64 (Lib.atoiSat s.data.toList), .iface t168 (.pointer (some ⟨N, 0, none⟩))]) ∧ w.heap.size ≤ N ∧ w'.heap[N]? = some (.cells #[.string ⟨#[65, 116, 111, 105]⟩, .string s, ev] t210 (0, 0)) ∧ Below w.heap.size w w')
  (s : List UInt8) (hl : s.length ≤ 281474976710656) : ACalls P G f [.str s] H (.tup [.int .i64 (atoiM s).1, errA (atoiM s).2]) H :=
 acalls_of_calls fun S vals hS hG ha => by
  simp only [RelL, Rel] at ha
  obtain ⟨u, us, rfl, rfl, rfl⟩ := ha
  have hsz : (ByteArray.mk s.toArray).size = s.length := rfl
  have hd : (ByteArray.mk s.toArray).data.toList = s := by simp
  unfold atoiM
  rcases hA : Lib.atoiAll s with v|_|_
  ·refine (hok ⟨s.toArray⟩ (by rw [hsz]; omega) v (by rw [hd]; exact hA) S.w).mono fun e w' ⟨he, hw⟩ => ⟨_, he, below_bytes hw, fun E _ _ => ?_⟩
   simp [Rel, RelL, errA]
  ·obtain ⟨ev, h1, h2⟩ := cell_of_globs hS hG hs
   refine (hsyn ⟨s.toArray⟩ (by rw [hsz]; omega) (by rw [hd]; exact hA) ev S.w h1 (.inr (by simpa only [Rel] using h2))).mono fun e w' ⟨N, he, _, _, hb⟩ => ⟨_, he, hb, fun E _ _ => ?_⟩
   simp only [Rel]
   exact ⟨_, rfl, _, _, rfl, by simp [Rel], _, _, rfl, ⟨_, _, rfl⟩, rfl⟩
  ·obtain ⟨ev, h1, h2⟩ := cell_of_globs hS hG hr
   refine (hran ⟨s.toArray⟩ (by rw [hsz]; omega) (by rw [hd]; exact hA) ev S.w h1 (.inr (by simpa only [Rel] using h2))).mono fun e w' ⟨N, he, _, _, hb⟩ => ⟨_, he, hb, fun E _ _ => ?_⟩
   simp only [Rel]
   exact ⟨_, rfl, _, _, rfl, by simp [Rel, hd], _, _, rfl, ⟨_, _, rfl⟩, rfl⟩
def strs (xs : List (List UInt8)) : List (List AV) := xs.map fun x => [.str x]
def splitM (s sep : List UInt8) : List (List UInt8) := (Lib.splitB ⟨sep.toArray⟩ 0 (Lib.countB ⟨s.toArray⟩ ⟨sep.toArray⟩) ⟨s.toArray⟩).map (·.data.toList)
theorem split_ac {f : FuncId} {H : List Blk} {t9 : TypeId} {gm : Nat} (hm : G gm = some [.anyi .i64])
  (hc : ∀ (s sep : ByteArray) (m : Int) (w : World), s.size < 4294967281 → w.cell? ⟨gm, 0, none⟩ = some (.int .i64 m) → 1 ≤ sep.size → Calls P f #[.string s, .string sep] w fun e w' =>
   e = .returned (.slice (some ⟨w.heap.size, 0, none⟩) (Lib.countB s sep + 1) (Lib.countB s sep + 1)) ∧ w' = w.alloc (.cells ((Lib.splitB sep 0 (Lib.countB s sep) s).map Value.string).toArray t9))
  (s sep : List UInt8) (hs : s.length < 4294967281) (h1 : 1 ≤ sep.length) : ACalls P G f [.str s, .str sep] H (.sl 1 (strs (splitM s sep)) (some (splitM s sep).length)) H :=
 acalls_of_calls fun S vals hS hG ha => by
  have hlen : (splitM s sep).length = Lib.countB ⟨s.toArray⟩ ⟨sep.toArray⟩ + 1 := by
   unfold splitM; rw [List.length_map]; exact Lib.splitB_all ⟨sep.toArray⟩ h1 0 _ ⟨s.toArray⟩ rfl
  simp only [RelL, Rel] at ha
  obtain ⟨u, us, rfl, rfl, u2, us2, rfl, rfl, rfl⟩ := ha
  obtain ⟨v, hv, hvr⟩ := cell_of_globs hS hG hm
  simp only [Rel] at hvr
  obtain ⟨m0, rfl⟩ := hvr
  refine (hc ⟨s.toArray⟩ ⟨sep.toArray⟩ m0 S.w hs hv h1).mono fun e w' ⟨he, hw⟩ => ⟨_, he, ?_, fun E h2 h3 => ?_⟩
  ·subst hw; exact (Below.refl _ _).alloc (Nat.le_refl _) _
  ·have hN := h3 S.w.heap.size (.cells ((Lib.splitB ⟨sep.toArray⟩ 0 (Lib.countB ⟨s.toArray⟩ ⟨sep.toArray⟩) ⟨s.toArray⟩).map Value.string).toArray t9) (Nat.le_refl _) (by subst hw; exact heap_alloc_new S.w _)
   have hl1 : (strs (splitM s sep)).length = Lib.countB ⟨s.toArray⟩ ⟨sep.toArray⟩ + 1 := by rw [← hlen]; simp [strs]
   simp only [Rel]
   refine ⟨some ⟨S.w.heap.size, 0, none⟩, Lib.countB ⟨s.toArray⟩ ⟨sep.toArray⟩ + 1, by rw [hl1], by omega, ?_, fun k hk => by injection hk with hk; omega, .inr ⟨S.w.heap.size, 0, rfl, RelE.mk fun i el hi => ?_⟩⟩
   ·have : Lib.countB ⟨s.toArray⟩ ⟨sep.toArray⟩ ≤ s.length + 1 := by
     have := Lib.countB_le ⟨sep.toArray⟩ h1 s.length ⟨s.toArray⟩ (Nat.le_refl _)
     have hsz : (ByteArray.mk s.toArray).size = s.length := rfl
     omega
    simp only [maxLen]; omega
   ·simp only [strs, splitM, List.getElem?_map] at hi
    cases hx : (Lib.splitB ⟨sep.toArray⟩ 0 (Lib.countB ⟨s.toArray⟩ ⟨sep.toArray⟩) ⟨s.toArray⟩)[i]? with
    | none => rw [hx] at hi; cases hi
    | some x =>
     rw [hx] at hi
     simp only [Option.map_some, Option.some.injEq] at hi
     subst hi
     refine ⟨rfl, RelC.mk fun j a hj => ?_⟩
     cases j with
     | succ j => simp at hj
     | zero =>
      simp at hj
      subst hj
      refine ⟨.string x, ?_, rfl, by simp [Rel]⟩
      simp [mcell, hN, hx]
def strSrc (H : List Blk) (x : AV) (xs : List (List UInt8)) : Prop :=
 (∃ c, x = .sl 1 (strs xs) c) ∨ ∃ b n c t es, x = .own b n es.length c ∧ H[b]? = some (.row 1 t es) ∧ n ≤ es.length ∧ es.take n = strs xs
theorem join_ac {f : FuncId} {H : List Blk} {xs : List (List UInt8)} {x : AV} (hx : strSrc H x xs)
  (hnone : ∀ (a : Option Addr) (c : Nat) (sep : ByteArray) (w : World), Calls P f #[.slice a 0 c, .string sep] w fun e w' => e = .returned (.string ⟨#[]⟩) ∧ w' = w)
  (hc : ∀ (bk o c : Nat) (xs : List ByteArray) (sep : ByteArray) (w : World), (∀ (j : Nat) x, xs[j]? = some x → w.cell? ⟨bk, o + j, none⟩ = some (.string x)) → bk < w.heap.size → xs.length ≤ 140737488355328 → xs.length ≤ c →
   (Lib.join (xs.map (·.data.toList)) sep.data.toList).length ≤ 140737488355328 → Calls P f #[.slice (some ⟨bk, o, none⟩) xs.length c, .string sep] w fun e w' => e = .returned (.string ⟨(Lib.join (xs.map (·.data.toList)) sep.data.toList).toArray⟩) ∧ Below w.heap.size w w')
  (sep : List UInt8) (hlen : (Lib.join xs sep).length ≤ 140737488355328) (hN : xs.length ≤ 140737488355328) : ACalls P G f [x, .str sep] H (.str (Lib.join xs sep)) H :=
 acalls_of_calls fun S vals hS hG ha => by
  simp only [RelL] at ha
  obtain ⟨u, us, rfl, hu, u2, us2, rfl, h2, rfl⟩ := ha
  simp only [Rel] at h2
  subst h2
  have hz : (xs.map fun y => ByteArray.mk y.toArray).map (·.data.toList) = xs := by
   rw [List.map_map]; conv => rhs; rw [← List.map_id xs]
   exact List.map_congr_left fun y _ => by simp
  have key : ∀ (bk o c : Nat), u = .slice (some ⟨bk, o, none⟩) xs.length c → xs.length ≤ c → bk < S.w.heap.size → (∀ (j : Nat) y, xs[j]? = some y → S.w.cell? ⟨bk, o + j, none⟩ = some (.string ⟨y.toArray⟩)) → Calls P f (#[u, .string ⟨sep.toArray⟩] : Array Value) S.w fun e w' => ∃ v, e = .returned v ∧ Below S.w.heap.size S.w w' ∧
    ∀ E : Env, (∀ k o, S.M k = some o → E.M k = some o) → (∀ k o, S.w.heap.size ≤ k → w'.heap[k]? = some o → E.M k = some o) → Rel E (.str (Lib.join xs sep)) v := fun bk o c hu hcap hbk hcell => by
   subst hu
   have := hc bk o c (xs.map fun y => ByteArray.mk y.toArray) ⟨sep.toArray⟩ S.w (fun j y hj => by
    rw [List.getElem?_map] at hj
    cases hy : xs[j]? with
    | none => rw [hy] at hj; cases hj
    | some z =>
     rw [hy] at hj
     simp only [Option.map_some, Option.some.injEq] at hj
     subst hj
     exact hcell j z hy) hbk (by simpa using hN) (by simpa using hcap) (by rw [hz]; simpa using hlen)
   rw [hz] at this
   simp only [List.length_map] at this
   refine this.mono fun e w' ⟨he, hb⟩ => ⟨_, he, hb, fun E _ _ => ?_⟩
   simp [Rel]
  have nil : ∀ a c, u = .slice a 0 c → xs = [] → Calls P f (#[u, .string ⟨sep.toArray⟩] : Array Value) S.w fun e w' => ∃ v, e = .returned v ∧ Below S.w.heap.size S.w w' ∧
    ∀ E : Env, (∀ k o, S.M k = some o → E.M k = some o) → (∀ k o, S.w.heap.size ≤ k → w'.heap[k]? = some o → E.M k = some o) → Rel E (.str (Lib.join xs sep)) v := fun a c hu hxs => by
   subst hu; subst hxs
   refine (hnone a c ⟨sep.toArray⟩ S.w).mono fun e w' ⟨he, hw⟩ => ⟨_, he, hw ▸ Below.refl _ _, fun E _ _ => ?_⟩
   simp [Rel, Lib.join]
  rcases hx with ⟨c, rfl⟩|⟨b, n, c, t, es, rfl, hb, hn, hes⟩
  ·simp only [Rel] at hu
   obtain ⟨a, cap, hv, h1, _, _, h4⟩ := hu
   have hl : (strs xs).length = xs.length := by simp [strs]
   rw [hl] at hv h1
   rcases h4 with h4|⟨g, off, ha, he⟩
   ·have : xs = [] := by simpa [strs] using h4
    subst this
    exact nil a cap hv rfl
   ·subst ha
    rcases Nat.eq_zero_or_pos xs.length with h0|h0
    ·have : xs = [] := List.eq_nil_of_length_eq_zero h0
     subst this
     exact nil _ cap hv rfl
    ·have hcell : ∀ (j : Nat) y, xs[j]? = some y → S.w.cell? ⟨g, off + j, none⟩ = some (.string ⟨y.toArray⟩) := fun j y hj => by
      have hsj : (strs xs)[j]? = some [.str y] := by simp [strs, hj]
      obtain ⟨_, hC⟩ := he.get hsj
      obtain ⟨v, hv, _, hr⟩ := hC.get (j := 0) rfl
      simp only [Rel] at hr
      subst hr
      simpa using imm_cell hS hv
     refine key g off cap hv h1 ?_ hcell
     have := hcell 0 xs[0] (by simp [h0])
     exact Lib.lt_of_cell this
  ·have hlv : isLen H b es.length = true := by simp [isLen, shOf_of hb]
   obtain ⟨s, hs, hnh, hcase⟩ := rel_own hu hlv
   have hl : n = xs.length := by
    have := congrArg List.length hes
    simp [strs] at this; omega
   subst hl
   rcases hcase with ⟨_, ⟨a0, hv⟩, h0, _⟩|⟨g, k, cap, hg, hv, hncap, _⟩
   ·have hxs : xs = [] := List.eq_nil_of_length_eq_zero h0
    exact nil a0 0 hv hxs
   ·rcases Nat.eq_zero_or_pos xs.length with h0|h0
    ·rw [h0] at hv
     exact nil _ cap hv (List.eq_nil_of_length_eq_zero h0)
    ·have hcell : ∀ (j : Nat) y, xs[j]? = some y → S.w.cell? ⟨g, 0 + j, none⟩ = some (.string ⟨y.toArray⟩) := fun j y hj => by
      have hjl := (List.getElem?_eq_some_iff.1 hj).1
      have hej : es[j]? = some [.str y] := by
       have : (es.take xs.length)[j]? = some [.str y] := by rw [hes]; simp [strs, hj]
       rwa [List.getElem?_take, if_pos hjl] at this
      obtain ⟨g', k', hg', _, hC⟩ := own_cell hS hb (by rw [hg]; simp) hej
      rw [hg] at hg'; injection hg' with hg'; injection hg' with e1 e2; subst e1
      obtain ⟨v, hv, _, hr⟩ := hC 0 _ rfl
      simp only [Rel] at hr
      subst hr
      simpa using hv
     refine key g 0 cap hv hncap ?_ hcell
     exact Lib.lt_of_cell (hcell 0 xs[0] (by simp [h0]))
end
end Go.V
set_option linter.unusedVariables false
set_option linter.unusedSimpArgs false
set_option autoImplicit false
namespace Go.V
open Go Go.RowKit
end Go.V
set_option linter.unusedVariables false
set_option linter.unusedSimpArgs false
namespace Go.V
open Go Go.RowKit
section
variable {P : Program} {G : Glob}
end
end Go.V
set_option linter.unusedVariables false
set_option linter.unusedSimpArgs false
namespace Go.V
open Go Go.RowKit Go.Lib
def strData {H : Type} (zs : List (List UInt8)) : DataW H := .agg (zs.map fun z => .lit (.string z))
end Go.V
set_option linter.unusedVariables false
set_option linter.unusedSimpArgs false
namespace Go.V
open Go Go.RowKit
def bytesL (bs : List UInt8) : List (List AV) := bs.map fun b => [.int .u8 ((b.toNat : Nat) : Int)]
theorem bytesA_bytesL : ∀ bs : List UInt8, bytesA (bytesL bs) = some bs
 | [] => rfl
 | b :: r => by
  show (bytesA (bytesL r)).map (UInt8.ofNat ((b.toNat : Nat) : Int).toNat :: ·) = _
  rw [bytesA_bytesL r, Int.toNat_natCast, UInt8.ofNat_toNat]; rfl
theorem length_bytesL (bs : List UInt8) : (bytesL bs).length = bs.length := by simp [bytesL]
theorem idsE_bytesL (p : Nat → Bool) (bs : List UInt8) : idsE p (bytesL bs) = true := idsE_map _ _ fun x => by simp [idsL, AV.ids]
attribute [simp] idsE_bytesL
attribute [push_cast] bytesA_bytesL length_bytesL idsE_bytesL
end Go.V

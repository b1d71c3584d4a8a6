import Derived.Test.YtcoakjnmnommpaaGreatDoorV31
import Derived.Lib.LaidTab
import Derived.Lib.ItoaNum
import Derived.Lib.AtoiAll
import Derived.Lib.AtoiErrMem
import Derived.Lib.Split
import Derived.Lib.SplitLaws
import Derived.Lib.Join
import Derived.Sort.Grow
import Derived.Below
set_option linter.unusedVariables false
set_option linter.unusedSimpArgs false
namespace Go.V
open Go Go.RowKit
section
variable {P : Program} {G : Glob}
theorem kz0 {f : FuncId} {args : List AV} {H : List Blk} {r : AV} (h : ∀ (S : St) (vals : List Value), S.Ok H → Globs G S.M → RelL (S.env H) args vals →
  Calls P f vals.toArray S.w fun e w' => ∃ v, e = .returned v ∧ Below S.w.heap.size S.w w' ∧
   ∀ E : Env, (∀ k o, S.M k = some o → E.M k = some o) → (∀ k o, S.w.heap.size ≤ k → w'.heap[k]? = some o → E.M k = some o) → Rel E r v) : qe0 P G f args H r H := fun S vals hok hG ha => by
 refine (h S vals hok hG ha).mono fun e w' ⟨v, he, hb, hr⟩ => ?_
 let S' : St := ⟨fun k => if k < S.w.heap.size then S.M k else w'.heap[k]?, S.μ, S.ν, w'⟩
 have hlt : ∀ k, S.M k ≠ none → k < S.w.heap.size := fun k hk => by
  cases ho : S.M k with
  | none => exact absurd ho hk
  | some o => exact (Array.getElem?_eq_some_iff.1 (hok.imm k o ho)).1
 have hM : ∀ k o, S.M k = some o → S'.M k = some o := fun k o hk => by
  show (if k < S.w.heap.size then S.M k else w'.heap[k]?) = some o
  rw [if_pos (hlt k (by rw [hk]; simp)), hk]
 have hMl : ∀ k, k < S.w.heap.size → S'.M k = S.M k := fun k hk => if_pos hk
 have hle : (S.env H).le (S'.env H) := ⟨hM, fun b s cur hs => ⟨cur, Nat.le_refl _, hs, fun _ => rfl⟩, fun b g hs => hs⟩
 refine ⟨v, S', he, rfl, ⟨fun k o hk => ?_, fun b s t es hbb => ?_, fun b ob0 hbb => ?_, hok.inj⟩, ⟨hb.os, hb.tape, hb.output, hb.size, fun k hk _ => hb.block k hk, hM, fun k hk => ?_, fun k hk => .inl hk, fun b s cur _ hs => ⟨cur, Nat.le_refl _, hs, fun _ => rfl⟩, fun b g _ hs => hs, id⟩, hr _ hM fun k o h1 h2 => ?_⟩
 ·by_cases hk' : k < S.w.heap.size
  ·have : S.M k = some o := by rw [← hMl k hk']; exact hk
   show w'.heap[k]? = some o
   rw [hb.block k hk']; exact hok.imm k o this
  ·have e : S'.M k = w'.heap[k]? := if_neg hk'
   rw [e] at hk; exact hk
 ·rcases hok.row b s t es hbb with q|⟨g, k, cs, h1, h2, h3, h4, h5, h6, h7⟩
  ·exact .inl q
  ·have hg : g < S.w.heap.size := (Array.getElem?_eq_some_iff.1 h3).1
   exact .inr ⟨g, k, cs, h1, by rw [hMl g hg]; exact h2, (hb.block g hg).trans h3, h4, h5, h6, h7.mono hle⟩
 ·obtain ⟨g, ob1, h1, h2, h3, h4⟩ := hok.ob b ob0 hbb
  have hg : g < S.w.heap.size := (Array.getElem?_eq_some_iff.1 h3).1
  exact ⟨g, ob1, h1, by rw [hMl g hg]; exact h2, (hb.block g hg).trans h3, h4.mono hle⟩
 ·by_cases hk' : k < S.w.heap.size
  ·left; rw [← hMl k hk']; exact hk
  ·exact .inr (.inr (by omega))
 ·show (if k < S.w.heap.size then S.M k else w'.heap[k]?) = some o
  rw [if_neg (by omega)]; exact h2
theorem waH9 {S : St} {H : List Blk} {name : String} {k : IntKind} {zs : List Int} {g : Nat} (hok : S.Ok H) (hG : Globs G S.M) (hn : P.globalNamed name = some g) (hg : G g = some (zs.map fun z => .int k z)) : Lib.TabIs P S.w name k zs := by
 obtain ⟨vs, t, fr, h1, h2, h3⟩ := hG g _ hg
 have hv : vs = zs.map fun z => Value.int k z := by
  clear h1 h3 hg
  induction zs generalizing vs with
  | nil => simpa [RelL] using h2
  | cons z zs ih =>
   simp only [List.map_cons, RelL, Rel] at h2
   obtain ⟨u, us, rfl, rfl, h2⟩ := h2
   rw [ih us h2, List.map_cons]
 unfold Lib.TabIs World.var?
 rw [hn, Option.bind_some, hok.imm g _ h1, hv]
theorem wI0 {S : St} {H : List Blk} {a : AV} {cs : List AV} {g : Nat} (hok : S.Ok H) (hG : Globs G S.M) (hg : G g = some (a :: cs)) : ∃ v, S.w.cell? ⟨g, 0, none⟩ = some v ∧ Rel (Env0 S.M) a v := by
 obtain ⟨vs, t, fr, h1, h2, h3⟩ := hG g _ hg
 simp only [RelL] at h2
 obtain ⟨u, us, rfl, h2, _⟩ := h2
 exact ⟨u, by simp [World.cell?, hok.imm g _ h1], h2⟩
theorem wbV9 (w : World) (k : Nat) (os : Array Obj) : Below w.heap.size w (Sort.grow (w.drewN k) os) where
 os := rfl
 tape := rfl
 output := rfl
 size := by simp [Sort.grow, World.drewN]
 block i hi := by simp [Sort.grow, World.drewN, Array.getElem?_append_left hi]
theorem vbu9 {w w' : World} {t : TypeId} (h : w' = w ∨ ∃ s, w' = Lib.bytesWorld w t s) : Below w.heap.size w w' := by
 rcases h with rfl|⟨s, rfl⟩
 ·exact Below.refl _ _
 ·exact Lib.bytesWorld_below _ _ _
abbrev wdg9 : List AV := Lib.pow10Tab.map fun z => .int .u64 z
theorem vdt9 {f : FuncId} {H : List Blk} {g : Nat} (hn : P.globalNamed "internal/strconv.uint64pow10" = some g) (hg : G g = some wdg9)
  (hc : ∀ (n : Int), -9223372036854775808 ≤ n → n ≤ 9223372036854775807 → ∀ w : World, Lib.TabIs P w "internal/strconv.uint64pow10" .u64 Lib.pow10Tab →
   Calls P f #[.int .i64 n] w fun e w' => e = .returned (.string ⟨(Lib.itoa n).toArray⟩) ∧ ∃ k os, w' = Sort.grow (w.drewN k) os)
  (n : Int) (h0 : -9223372036854775808 ≤ n) (h1 : n ≤ 9223372036854775807) : qe0 P G f [.int .i64 n] H (.str (Lib.itoa n)) H :=
 kz0 fun S vals hok hG ha => by
  simp only [RelL, Rel] at ha
  obtain ⟨u, us, rfl, rfl, rfl⟩ := ha
  refine (hc n h0 h1 S.w (waH9 hok hG hn hg)).mono fun e w' ⟨he, k, os, hw⟩ => ⟨_, he, hw ▸ wbV9 _ _ _, fun E _ _ => ?_⟩
  simp [Rel]
def qZ0 (s : List UInt8) : Int × Bool :=
 match Lib.atoiAll s with
 | .ok v => (v, true)
 | Lib.NumEnd.syntax => (0, false)
 | .range => (Lib.atoiSat s, false)
def errA (ok : Bool) : AV := if ok = true then .lit .nilIface else .err
theorem kdt9 {f : FuncId} {H : List Blk} {t5 t168 t210 : TypeId} {gs gr : Nat} (hs : G gs = some [.err]) (hr : G gr = some [.err])
  (hok : ∀ (s : ByteArray), s.size ≤ 9223372036854775806 → ∀ v : Int, Lib.atoiAll s.data.toList = .ok v → ∀ w : World, Calls P f #[.string s] w fun e w' => e = .returned (.tuple #[.int .i64 v, .nilIface]) ∧ (w' = w ∨ ∃ t, w' = Lib.bytesWorld w t5 t))
  (hsyn : ∀ (s : ByteArray), s.size ≤ 281474976710656 → Lib.atoiAll s.data.toList = Lib.NumEnd.syntax → ∀ (ev : Value) (w : World), w.cell? ⟨gs, 0, none⟩ = some ev → (ev = .nilIface ∨ ∃ te pe, ev = .iface te pe) →
   Calls P f #[.string s] w fun e w' => ∃ N, e = .returned (.tuple #[.int .i64 (0), .iface t168 (.pointer (some ⟨N, 0, none⟩))]) ∧ w.heap.size ≤ N ∧ w'.heap[N]? = some (.cells #[.string ⟨#[65, 116, 111, 105]⟩, .string s, ev] t210 (0, 0)) ∧ Below w.heap.size w w')
  (hran : ∀ (s : ByteArray), s.size ≤ 281474976710656 → Lib.atoiAll s.data.toList = .range → ∀ (ev : Value) (w : World), w.cell? ⟨gr, 0, none⟩ = some ev → (ev = .nilIface ∨ ∃ te pe, ev = .iface te pe) →
   Calls P f #[.string s] w fun e w' => ∃ N, e = .returned (.tuple #[.int .i64 (Lib.atoiSat s.data.toList), .iface t168 (.pointer (some ⟨N, 0, none⟩))]) ∧ w.heap.size ≤ N ∧ w'.heap[N]? = some (.cells #[.string ⟨#[65, 116, 111, 105]⟩, .string s, ev] t210 (0, 0)) ∧ Below w.heap.size w w')
  (s : List UInt8) (hl : s.length ≤ 281474976710656) : qe0 P G f [.str s] H (.tup [.int .i64 (qZ0 s).1, errA (qZ0 s).2]) H :=
 kz0 fun S vals hS hG ha => by
  simp only [RelL, Rel] at ha
  obtain ⟨u, us, rfl, rfl, rfl⟩ := ha
  have hsz : (ByteArray.mk s.toArray).size = s.length := rfl
  have hd : (ByteArray.mk s.toArray).data.toList = s := by simp
  unfold qZ0
  rcases hA : Lib.atoiAll s with v|_|_
  ·refine (hok ⟨s.toArray⟩ (by rw [hsz]; omega) v (by rw [hd]; exact hA) S.w).mono fun e w' ⟨he, hw⟩ => ⟨_, he, vbu9 hw, fun E _ _ => ?_⟩
   simp [Rel, RelL, errA]
  ·obtain ⟨ev, h1, h2⟩ := wI0 hS hG hs
   refine (hsyn ⟨s.toArray⟩ (by rw [hsz]; omega) (by rw [hd]; exact hA) ev S.w h1 (.inr (by simpa only [Rel] using h2))).mono fun e w' ⟨N, he, _, _, hb⟩ => ⟨_, he, hb, fun E _ _ => ?_⟩
   simp only [Rel]
   exact ⟨_, rfl, _, _, rfl, by simp [Rel], _, _, rfl, ⟨_, _, rfl⟩, rfl⟩
  ·obtain ⟨ev, h1, h2⟩ := wI0 hS hG hr
   refine (hran ⟨s.toArray⟩ (by rw [hsz]; omega) (by rw [hd]; exact hA) ev S.w h1 (.inr (by simpa only [Rel] using h2))).mono fun e w' ⟨N, he, _, _, hb⟩ => ⟨_, he, hb, fun E _ _ => ?_⟩
   simp only [Rel]
   exact ⟨_, rfl, _, _, rfl, by simp [Rel, hd], _, _, rfl, ⟨_, _, rfl⟩, rfl⟩
def strs (xs : List (List UInt8)) : List (List AV) := xs.map fun x => [.str x]
def vv0 (s sep : List UInt8) : List (List UInt8) := (Lib.splitB ⟨sep.toArray⟩ 0 (Lib.countB ⟨s.toArray⟩ ⟨sep.toArray⟩) ⟨s.toArray⟩).map (·.data.toList)
theorem zcR9 {f : FuncId} {H : List Blk} {t9 : TypeId} {gm : Nat} (hm : G gm = some [.anyi .i64])
  (hc : ∀ (s sep : ByteArray) (m : Int) (w : World), s.size < 4294967281 → w.cell? ⟨gm, 0, none⟩ = some (.int .i64 m) → 1 ≤ sep.size → Calls P f #[.string s, .string sep] w fun e w' =>
   e = .returned (.slice (some ⟨w.heap.size, 0, none⟩) (Lib.countB s sep + 1) (Lib.countB s sep + 1)) ∧ w' = w.alloc (.cells ((Lib.splitB sep 0 (Lib.countB s sep) s).map Value.string).toArray t9))
  (s sep : List UInt8) (hs : s.length < 4294967281) (h1 : 1 ≤ sep.length) : qe0 P G f [.str s, .str sep] H (.sl 1 (strs (vv0 s sep)) (some (vv0 s sep).length)) H :=
 kz0 fun S vals hS hG ha => by
  have hlen : (vv0 s sep).length = Lib.countB ⟨s.toArray⟩ ⟨sep.toArray⟩ + 1 := by
   unfold vv0; rw [List.length_map]; exact Lib.splitB_all ⟨sep.toArray⟩ h1 0 _ ⟨s.toArray⟩ rfl
  simp only [RelL, Rel] at ha
  obtain ⟨u, us, rfl, rfl, u2, us2, rfl, rfl, rfl⟩ := ha
  obtain ⟨v, hv, hvr⟩ := wI0 hS hG hm
  simp only [Rel] at hvr
  obtain ⟨m0, rfl⟩ := hvr
  refine (hc ⟨s.toArray⟩ ⟨sep.toArray⟩ m0 S.w hs hv h1).mono fun e w' ⟨he, hw⟩ => ⟨_, he, ?_, fun E h2 h3 => ?_⟩
  ·subst hw; exact (Below.refl _ _).alloc (Nat.le_refl _) _
  ·have hN := h3 S.w.heap.size (.cells ((Lib.splitB ⟨sep.toArray⟩ 0 (Lib.countB ⟨s.toArray⟩ ⟨sep.toArray⟩) ⟨s.toArray⟩).map Value.string).toArray t9) (Nat.le_refl _) (by subst hw; exact heap_alloc_new S.w _)
   have hl1 : (strs (vv0 s sep)).length = Lib.countB ⟨s.toArray⟩ ⟨sep.toArray⟩ + 1 := by rw [← hlen]; simp [strs]
   simp only [Rel]
   refine ⟨some ⟨S.w.heap.size, 0, none⟩, Lib.countB ⟨s.toArray⟩ ⟨sep.toArray⟩ + 1, by rw [hl1], by omega, ?_, fun k hk => by injection hk with hk; omega, .inr ⟨S.w.heap.size, 0, rfl, RelE.mk fun i el hi => ?_⟩⟩
   ·have : Lib.countB ⟨s.toArray⟩ ⟨sep.toArray⟩ ≤ s.length + 1 := by
     have := Lib.countB_le ⟨sep.toArray⟩ h1 s.length ⟨s.toArray⟩ (Nat.le_refl _)
     have hsz : (ByteArray.mk s.toArray).size = s.length := rfl
     omega
    simp only [maxLen]; omega
   ·simp only [strs, vv0, List.getElem?_map] at hi
    cases hx : (Lib.splitB ⟨sep.toArray⟩ 0 (Lib.countB ⟨s.toArray⟩ ⟨sep.toArray⟩) ⟨s.toArray⟩)[i]? with
    | none => rw [hx] at hi; cases hi
    | some x =>
     rw [hx] at hi
     simp only [Option.map_some, Option.some.injEq] at hi
     subst hi
     refine ⟨rfl, RelC.mk fun j a hj => ?_⟩
     cases j with
     | succ j => simp at hj
     | zero =>
      simp at hj
      subst hj
      refine ⟨.string x, ?_, rfl, by simp [Rel]⟩
      simp [zv0, hN, hx]
def qdL9 (H : List Blk) (x : AV) (xs : List (List UInt8)) : Prop :=
 (∃ c, x = .sl 1 (strs xs) c) ∨ ∃ b n c t es, x = .own b n es.length c ∧ H[b]? = some (.row 1 t es) ∧ n ≤ es.length ∧ es.take n = strs xs
end
end Go.V
set_option linter.unusedVariables false
set_option linter.unusedSimpArgs false
namespace Go.V
open Go Go.RowKit
structure zdL9 where
 itoa : FuncId
 atoi : FuncId
 split : FuncId
 join : FuncId
 clone : List FuncId
section
variable {P : Program} {G : Glob}
structure keh9 (P : Program) (G : Glob) (L : zdL9) : Prop where
 itoa : ∀ (H : List Blk) (n : Int), -9223372036854775808 ≤ n → n ≤ 9223372036854775807 → qe0 P G L.itoa [.int .i64 n] H (.str (Lib.itoa n)) H
 atoi : ∀ (H : List Blk) (s : List UInt8), s.length ≤ 281474976710656 → qe0 P G L.atoi [.str s] H (.tup [.int .i64 (qZ0 s).1, errA (qZ0 s).2]) H
 split : ∀ (H : List Blk) (s sep : List UInt8), s.length < 4294967281 → 1 ≤ sep.length → qe0 P G L.split [.str s, .str sep] H (.sl 1 (strs (vv0 s sep)) (some (vv0 s sep).length)) H
 join : ∀ (H : List Blk) (x : AV) (xs : List (List UInt8)) (sep : List UInt8), qdL9 H x xs → (Lib.join xs sep).length ≤ 140737488355328 → xs.length ≤ 140737488355328 → qe0 P G L.join [x, .str sep] H (.str (Lib.join xs sep)) H
 clone : ∀ f ∈ L.clone, ∀ (H : List Blk) (k : Nat) (c : Option Nat), qe0 P G f [.sl k [] c] H (.sl 0 [] (some 0)) H
end
end Go.V
namespace Go.V
open Go
set_option autoImplicit false
end Go.V
set_option linter.unusedVariables false
set_option linter.unusedSimpArgs false
set_option autoImplicit false
namespace Go.V
open Go Go.RowKit
section
variable {P : Program} {G : Glob} {q : Operand → Bool}
def aft (o : Oper) : List Nat := (o.after.toList.filter fun e => Region.binds .any e).map (·.on)
theorem qA0 {o : Oper} {e : Edge} (he : e ∈ o.after) (hb : Region.binds .any e = true) : e.on ∈ aft o :=
 List.mem_map.2 ⟨e, List.mem_filter.2 ⟨by simpa using he, hb⟩, rfl⟩
theorem xco9 {o : Oper} {k : Nat} (h : k ∈ aft o) : ∃ e ∈ o.after, Region.binds .any e = true ∧ e.on = k := by
 obtain ⟨e, he, rfl⟩ := List.mem_map.1 h
 obtain ⟨h1, h2⟩ := List.mem_filter.1 he
 exact ⟨e, by simpa using h1, h2, rfl⟩
def vr0 (dl : List (Nat × Nat)) (ops : List Oper) (i : Nat) (o : Oper) : Oper :=
 match dl.lookup i with
 | some js => match ops[js]? with
  | some s => { o with after := o.after ++ s.after.filter fun e => e.on != i }
  | none => o
 | none => o
theorem kag9 (dl : List (Nat × Nat)) (ops : List Oper) (i : Nat) (o : Oper) : (vr0 dl ops i o).op = o.op ∧ (vr0 dl ops i o).dst = o.dst ∧ (vr0 dl ops i o).guard = o.guard := by
 unfold vr0
 split
 ·split <;> exact ⟨rfl, rfl, rfl⟩
 ·exact ⟨rfl, rfl, rfl⟩
def xp0 (dl : List (Nat × Nat)) (ops : List Oper) : Nat → List Oper → List Oper
 | _, [] => []
 | i, o :: l => vr0 dl ops i o :: xp0 dl ops (i + 1) l
def delays (dl : List (Nat × Nat)) (ops : List Oper) : List Oper := xp0 dl ops 0 ops
theorem qT0 (dl : List (Nat × Nat)) (ops : List Oper) : ∀ (l : List Oper) (i j : Nat), (xp0 dl ops i l)[j]? = l[j]?.map (vr0 dl ops (i + j))
 | [], i, j => by simp [xp0]
 | o :: l, i, 0 => by simp [xp0]
 | o :: l, i, j + 1 => by
  rw [xp0, List.getElem?_cons_succ, qT0 dl ops l (i + 1) j, List.getElem?_cons_succ, Nat.add_assoc, Nat.add_comm 1 j]
theorem zk0 (dl : List (Nat × Nat)) (ops : List Oper) (j : Nat) : (delays dl ops)[j]? = ops[j]?.map (vr0 dl ops j) := by rw [delays, qT0, Nat.zero_add]
theorem wF0 (dl : List (Nat × Nat)) (ops : List Oper) : ∀ (l : List Oper) (i : Nat), (xp0 dl ops i l).length = l.length
 | [], _ => rfl
 | _ :: l, i => by rw [xp0, List.length_cons, wF0 dl ops l (i + 1), List.length_cons]
theorem vI0 (dl : List (Nat × Nat)) (ops : List Oper) : (delays dl ops).length = ops.length := wF0 dl ops ops 0
theorem kbg9 (dl : List (Nat × Nat)) (ops : List Oper) (a : List AV) (j : Nat) (want : Bool) : zU0 (delays dl ops) a j want = zU0 ops a j want := by
 unfold zU0
 rw [zk0]
 cases ops[j]? with
 | none => rfl
 | some o => simp only [Option.map_some, (kag9 dl ops j o).2.1]
theorem kC0 (dl : List (Nat × Nat)) {ops : List Oper} {o o' : Oper} (ho : o'.op = o.op) (hg : o'.guard = o.guard) {a : List AV} {H H' : List Blk} {r : AV} : kn0 P G (delays dl ops) o' a H r H' ↔ kn0 P G ops o a H r H' := by
 unfold kn0
 rw [hg, ho]
 cases o.guard with
 | none => exact Iff.rfl
 | some jw => simp only [kbg9]
theorem zZ0 (dl : List (Nat × Nat)) {ops : List Oper} {K : List AV → List Blk → Prop} : ∀ (l : List Oper) (i : Nat) (a : List AV) (H : List Blk), ChainK P G q ops K l a H → ChainK P G q (delays dl ops) K (xp0 dl ops i l) a H
 | [], _, a, H, h => h
 | o :: l, i, a, H, h => by
  obtain ⟨r, H', ⟨hs, hkk, hmm, hmn, hpp⟩, hc⟩ := h
  obtain ⟨e1, e2, e3⟩ := kag9 dl ops i o
  refine ⟨r, H', ⟨⟨(kC0 dl e1 e3).2 hs.1, fun hq => hs.2 (by rw [← e1]; exact hq)⟩, fun p w v => hkk p (by rw [← e3]; exact w) (by rw [← e1]; exact v), fun p => (by rw [e1]; exact hmm (by simpa only [mFlag, e1, e3] using p)), fun p w v => hmn p (by rw [← e1]; exact w) (by rw [← e3]; exact v), fun p w v H2 => (kC0 dl e1 e3).2 (hpp p (by rw [← e3]; exact w) (by rw [← e1]; exact v) H2)⟩, ?_⟩
  rw [e2]
  exact zZ0 dl l (i + 1) _ _ hc
def qah9 (o : Oper) : Option (TypeId × Tmp) :=
 match o.op, o.dst, o.guard with
 | .alloc t, some d, none => some (t, d)
 | _, _, _ => none
theorem kv0 {o : Oper} {t : TypeId} {d : Tmp} (h : qah9 o = some (t, d)) : o.op = .alloc t ∧ o.dst = some d ∧ o.guard = none := by
 unfold qah9 at h
 split at h
 ·rename_i e1 e2 e3
  injection h with h; injection h with h1 h2; subst h1; subst h2
  exact ⟨e1, e2, e3⟩
 ·cases h
def delayOkA (P : Program) (dl : List (Nat × Nat)) (ops : List Oper) : Bool :=
 dl.all fun p => dl.lookup p.1 == some p.2 && (dl.lookup p.2).isNone && (match ops[p.1]?, ops[p.2]? with
  | some oa, some os => (match qah9 oa with|some (t, _) => (match qc0 P t with|some T => T.zero.length == T.sz|none => false)|none => false) &&
    (aft os).contains p.1 && ((aft oa ++ aft os).all fun k => k == p.1 || (match dl.lookup k with|some js' => (aft os).contains js'|none => true))
  | _, _ => false)
def delayOkB (dl : List (Nat × Nat)) (ops : List Oper) : Bool :=
 (List.range ops.length).all fun i => match (delays dl ops)[i]? with|some o => (aft o).all fun k => decide (k < i)|none => true
def xdL9 (dl : List (Nat × Nat)) (ops : List Oper) (i : Nat) (o : Oper) (p : Nat × Nat) : Bool :=
 match ops[p.1]? with
 | some oa => match oa.dst with
  | some d => p.1 == i || (if (dl.lookup i).isSome = true then o.dst != some d else ((aft o).contains p.1 && (p.2 == i || (aft o).contains p.2)) || (!(aft o).contains p.1 && !(o.looksAt ops.toArray).contains d && o.dst != some d))
  | none => false
 | none => false
def delayOkC (dl : List (Nat × Nat)) (ops : List Oper) : Bool :=
 (List.range ops.length).all fun i => match ops[i]? with|some o => dl.all (xdL9 dl ops i o)|none => true
structure Pend where
 ja : Nat
 js : Nat
 at_ : Nat
 d : Tmp
 t : TypeId
def wco9 (P : Program) (dl : List (Nat × Nat)) (ops : List Oper) (S0 S : St) (H : List Blk) (act : Act) (listed : Array Bool) (p : Pend) : Prop :=
 (p.ja, p.js) ∈ dl ∧ (∃ oa, ops[p.ja]? = some oa ∧ qah9 oa = some (p.t, p.d)) ∧ listed.getD p.ja true = false ∧ listed.getD p.js true = false ∧
  S0.w.heap.size ≤ p.at_ ∧ p.at_ < S.w.heap.size ∧ S.Free H p.at_ ∧ (∀ v, act.tmps[p.d]? = some v → v = .pointer (some ⟨p.at_, 0, none⟩)) ∧
  ∃ T cs, qc0 P p.t = some T ∧ T.zero.length = T.sz ∧ T.zero = cs.toList.map qF0 ∧ (∀ u ∈ cs.toList, u.oneCell' = true) ∧ S.w.heap[p.at_]? = some (.cells cs p.t (0, 0))
def scr (ps : List Pend) (a : List AV) : List AV := ps.foldr (fun p a => putA a (some p.d) .top) a
def LRel (n : Nat) (ps : List Pend) (listed lr : Array Bool) : Prop :=
 listed.size = n ∧ lr.size = n ∧ ∀ j, j < n → lr.getD j true = (listed.getD j true || ps.any fun p => p.ja == j)
theorem zA0 {l : Array Bool} {j n : Nat} (hs : l.size = n) (hj : j < n) : l.getD j false = l.getD j true := by
 have : j < l.size := by omega
 simp [this]
theorem kax9 (a : List AV) : ∀ (ps : List Pend) (t : Nat), (scr ps a)[t]? = a[t]?.map fun v => if (ps.any fun p => p.d == t) = true then .top else v
 | [], t => by cases h : a[t]? <;> simp [scr, h]
 | p :: ps, t => by
  show (putA (scr ps a) (some p.d) .top)[t]? = _
  simp only [putA, List.getElem?_set]
  have ih := kax9 a ps t
  by_cases h : p.d = t
  ·subst h
   rw [if_pos rfl]
   have hl : (scr ps a).length = a.length := by
    have : ∀ ps : List Pend, (scr ps a).length = a.length := fun ps => by
     induction ps with
     | nil => rfl
     | cons p ps ih => show (putA (scr ps a) (some p.d) .top).length = _; simp [putA, ih]
    exact this ps
   rw [hl]
   split
   ·rename_i hlt; simp [hlt]
   ·rename_i hlt; simp [hlt]
  ·rw [if_neg h, ih]
   have : (p.d == t) = false := by simp [h]
   simp [this]
theorem wO0 (a : List AV) : ∀ ps : List Pend, (scr ps a).length = a.length
 | [] => rfl
 | p :: ps => by show (putA (scr ps a) (some p.d) .top).length = _; simp [putA, wO0 a ps]
theorem qbh9 {ops : List Oper} {o : Oper} {a : List AV} {H H' : List Blk} {r : AV} : ∀ (ps : List Pend), (∀ p ∈ ps, p.d ∉ o.looksAt ops.toArray) → kn0 P G ops o a H r H' → kn0 P G ops o (scr ps a) H r H'
 | [], _, h => h
 | p :: ps, hd, h => (vb0 (d := some p.d) (v := .top) fun t ht => by injection ht with ht; subst ht; exact hd p (List.mem_cons_self ..)).2 (qbh9 ps (fun x hx => hd x (List.mem_cons_of_mem _ hx)) h)
def St.made (S : St) (t : TypeId) (cs : Array Value) : St := { S with w := (S.w.drewN 0).alloc (.cells cs t) }
theorem qdu9 {S : St} {H : List Blk} (hok : S.Ok H) (t : TypeId) (cs : Array Value) : (S.made t cs).Ok H := by
 refine ⟨fun i o hi => wh0 H.length 1 t cs 0 (hok.imm i o hi), fun b s t' es hb => ?_, fun b ob hb => ?_, hok.inj⟩
 ·rcases hok.row b s t' es hb with h|⟨g, k, cs2, h1, h2, h3, h4⟩
  ·exact .inl h
  ·exact .inr ⟨g, k, cs2, h1, h2, wh0 H.length 1 t cs 0 h3, h4⟩
 ·obtain ⟨g, o, h1, h2, h3, h4⟩ := hok.ob b ob hb
  exact ⟨g, o, h1, h2, wh0 H.length 1 t cs 0 h3, h4⟩
theorem qay9 (S : St) (t : TypeId) (cs : Array Value) : (S.made t cs).w.heap.size = S.w.heap.size + 1 := by simp [St.made, World.alloc]
theorem vaW9 {n0 : Nat} (S : St) (H : List Blk) (t : TypeId) (cs : Array Value) : Ext n0 S H (S.made t cs) H where
 os := rfl
 tape := rfl
 output := rfl
 size := by rw [qay9]; omega
 keep i hi hno := Below.heap_alloc (S.w.drewN 0) (.cells cs t) i hi
 M i o h := h
 dom i h := .inl h
 own i h := .inl h
 sh x s' cur hx hs := ⟨cur, Nat.le_refl _, hs, fun _ => rfl⟩
 ν x g' hx hs := hs
 len := id
def St.take (S : St) (b L : Nat) : St := { S with μ := upd S.μ b (some (L, 1)) }
theorem vco9 {S : St} {H : List Blk} {L s : Nat} {t : TypeId} {es : List (List AV)} : (S.env H).le ((S.take H.length L).env (H ++ [.row s t es])) := by
 refine ⟨fun k o h => h, fun b s' cur hs => ?_, fun b g h => ?_⟩
 ·have hlt : b < H.length := by
   obtain ⟨t', es', hb, _⟩ := qcJ9 (show shOf H b = some (s', cur) from hs)
   exact (List.getElem?_eq_some_iff.1 hb).1
  exact ⟨cur, Nat.le_refl _, by show shOf (H ++ _) b = _; rw [qC0 hlt]; exact hs, fun _ => qh0 _ _ (show b ≠ H.length by omega)⟩
 ·have hlt : b < H.length := by
   have h : mpOf S.ν H b = some g := h
   unfold mpOf at h
   split at h
   ·rename_i hb; exact (List.getElem?_eq_some_iff.1 hb).1
   ·cases h
  show mpOf S.ν (H ++ _) b = _
  rw [zC0 hlt]; exact h
theorem xcR9 {S : St} {H : List Blk} (hok : S.Ok H) {s : Nat} {t : TypeId} {es : List (List AV)} {cs : Array Value} {L : Nat} (hfree : S.Free H L) (hcell : S.w.heap[L]? = some (.cells cs t (0, 0))) (hk : es.length ≤ 1) (hsz : cs.size = 1 * s) (hrow : RowIn (S.env H) s es cs) : (S.take H.length L).Ok (H ++ [.row s t es]) := by
 have hle := vco9 (S := S) (H := H) (L := L) (s := s) (t := t) (es := es)
 have hat : ∀ x, x < H.length → (S.take H.length L).at (H ++ [.row s t es]) x = S.at H x := fun x e => by
  simp only [St.at, St.take, List.getElem?_append_left e, qh0 _ _ (show x ≠ H.length by omega)]
 have hatb : (S.take H.length L).at (H ++ [.row s t es]) H.length = some L := by simp [St.at, St.take, ve0]
 have hge : ∀ x g', (S.take H.length L).at (H ++ [.row s t es]) x = some g' → x < H.length ∨ x = H.length := fun x g' hx => by
  by_cases e : x ≤ H.length
  ·omega
  ·have : (H ++ [Blk.row s t es])[x]? = none := List.getElem?_eq_none (by simp; omega)
   simp [St.at, this] at hx
 refine ⟨hok.imm, fun x s' t' es2 hx => ?_, fun x ob0 hx => ?_, fun x y g' hx hy => ?_⟩
 ·by_cases e : x < H.length
  ·rw [List.getElem?_append_left e] at hx
   rcases hok.row x s' t' es2 hx with h|⟨g', k', cs2, h1, h2, h3, h4, h5, h6, h7⟩
   ·exact .inl ⟨(qh0 _ _ (show x ≠ H.length by omega)).trans h.1, h.2⟩
   ·exact .inr ⟨g', k', cs2, (qh0 _ _ (show x ≠ H.length by omega)).trans h1, h2, h3, h4, h5, h6, h7.mono hle⟩
  ·have e2 : x = H.length := by
    have := (List.getElem?_eq_some_iff.1 hx).1
    simp at this
    omega
   subst e2
   simp at hx
   obtain ⟨h1, h2, h3⟩ := hx
   subst h1; subst h2; subst h3
   exact .inr ⟨L, 1, cs, ve0 _ _ _, hfree.2, hcell, hsz, hk, by simp [maxLen], hrow.mono hle⟩
 ·by_cases e : x < H.length
  ·rw [List.getElem?_append_left e] at hx
   obtain ⟨g', ob1, h1, h2, h3, h4⟩ := hok.ob x ob0 hx
   exact ⟨g', ob1, h1, h2, h3, h4.mono hle⟩
  ·have e2 : x = H.length := by
    have := (List.getElem?_eq_some_iff.1 hx).1
    simp at this
    omega
   subst e2
   simp at hx
 ·rcases hge x g' hx with ex|ex
  ·rcases hge y g' hy with ey|ey
   ·rw [hat x ex] at hx; rw [hat y ey] at hy
    exact hok.inj x y g' hx hy
   ·rw [ey, hatb] at hy; rw [hat x ex] at hx
    injection hy with hy
    subst hy
    exact absurd ⟨x, hx⟩ hfree.1
  ·rcases hge y g' hy with ey|ey
   ·rw [ex, hatb] at hx; rw [hat y ey] at hy
    injection hx with hx
    subst hx
    exact absurd ⟨y, hy⟩ hfree.1
   ·rw [ex, ey]
theorem zay9 {S : St} {H : List Blk} {L s k : Nat} {t : TypeId} {es : List (List AV)} (h : (S.take H.length L).Owns (H ++ [.row s t es]) k) : S.Owns H k ∨ k = L := by
 obtain ⟨x, hx⟩ := h
 by_cases e : x < H.length
 ·left
  refine ⟨x, ?_⟩
  simpa only [St.at, St.take, List.getElem?_append_left e, qh0 _ _ (show x ≠ H.length by omega)] using hx
 ·by_cases e2 : x = H.length
  ·subst e2
   simp [St.at, St.take, ve0] at hx
   exact .inr hx.symm
  ·have : (H ++ [Blk.row s t es])[x]? = none := List.getElem?_eq_none (by simp; omega)
   simp [St.at, this] at hx
theorem wcR9 {n0 : Nat} {S0 S : St} {H0 H : List Blk} {L s : Nat} {t : TypeId} {es : List (List AV)} (h : Ext n0 S0 H0 S H) (hn : n0 ≤ H.length) (hL : S0.w.heap.size ≤ L) : Ext n0 S0 H0 (S.take H.length L) (H ++ [.row s t es]) where
 os := h.os
 tape := h.tape
 output := h.output
 size := h.size
 keep := h.keep
 M := h.M
 dom := h.dom
 own k hk := by
  rcases zay9 hk with q|q
  ·exact h.own k q
  ·exact .inr (by omega)
 sh x s' cur hx hs := by
  obtain ⟨c, h1, h2, h3⟩ := h.sh x s' cur hx hs
  exact ⟨c, h1, by rw [qC0 (by omega)]; exact h2, fun e => (qh0 _ _ (show x ≠ H.length by omega)).trans (h3 e)⟩
 ν x g' hx hs := by rw [zC0 (by omega)]; exact h.ν x g' hx hs
 len q := by have := h.len q; simp; omega
theorem vbV9 {S0 S : St} {H : List Blk} {L s : Nat} {t : TypeId} {es : List (List AV)} {ds ds' : List Deferred} (h : Marks S0 ds S H ds') (hc : ∃ cs, S.w.heap[L]? = some (.cells cs t (0, 0))) : Marks S0 ds (S.take H.length L) (H ++ [.row s t es]) ds' := by
 obtain ⟨D, e, p, q⟩ := h
 refine ⟨D, e, p, fun g hg => ?_⟩
 obtain ⟨q1, q2, q3⟩ := q g hg
 refine ⟨q1, ⟨fun ho => ?_, q2.2⟩, q3⟩
 rcases zay9 ho with r|r
 ·exact q2.1 r
 ·subst r
  obtain ⟨cs, hc⟩ := hc
  rw [q3] at hc; cases hc
theorem kco9 {S : St} {H : List Blk} {L s g : Nat} {t : TypeId} {es : List (List AV)} (h : S.Free H g) (hne : g ≠ L) : (S.take H.length L).Free (H ++ [.row s t es]) g := ⟨fun ho => by
 rcases zay9 ho with r|r
 ·exact h.1 r
 ·exact hne r, h.2⟩
end
end Go.V
set_option linter.unusedVariables false
set_option linter.unusedSimpArgs false
set_option autoImplicit false
namespace Go.V
open Go Go.RowKit
section
variable {P : Program} {G : Glob} {q : Operand → Bool}
structure PInv (P : Program) (G : Glob) (dl : List (Nat × Nat)) (ops : List Oper) (n0 : Nat) (S0 : St) (H0 : List Blk) (ds : List Deferred) (ps : List Pend) (listed lr : Array Bool) (a : List AV) (H : List Blk) (S : St) (act : Act) : Prop where
 ok : S.Ok H
 g : Globs G S.M
 n : n0 ≤ H.length
 ext : Ext n0 S0 H0 S H
 rel : RelL (S.env H) (scr ps a) act.tmps.toList
 marks : Marks S0 ds S H act.defers
 l : LRel ops.length ps listed lr
 cl : wS0 .any ops lr
 pd : ∀ p ∈ ps, wco9 P dl ops S0 S H act listed p
 pw : ps.Pairwise fun x y => x.ja ≠ y.ja ∧ x.at_ ≠ y.at_
theorem wy0 {dl : List (Nat × Nat)} {ops : List Oper} (h : delayOkA P dl ops = true) {ja js : Nat} (hm : (ja, js) ∈ dl) : dl.lookup ja = some js ∧ dl.lookup js = none ∧ ∃ oa os t d T, ops[ja]? = some oa ∧ ops[js]? = some os ∧ qah9 oa = some (t, d) ∧ qc0 P t = some T ∧ T.zero.length = T.sz ∧ ja ∈ aft os ∧ ∀ k ∈ aft oa ++ aft os, k = ja ∨ ∀ js', dl.lookup k = some js' → js' ∈ aft os := by
 have := List.all_eq_true.1 h _ hm
 simp only [Bool.and_eq_true, beq_iff_eq, Option.isNone_iff_eq_none] at this
 obtain ⟨⟨h1, h2⟩, h3⟩ := this
 refine ⟨h1, h2, ?_⟩
 cases ha : ops[ja]? with
 | none => simp [ha] at h3
 | some oa =>
  cases hs : ops[js]? with
  | none => simp [ha, hs] at h3
  | some os =>
   simp only [ha, hs, Bool.and_eq_true, List.all_eq_true, Bool.or_eq_true, beq_iff_eq] at h3
   obtain ⟨⟨h4, h5⟩, h6⟩ := h3
   cases hal : qah9 oa with
   | none => simp [hal] at h4
   | some td =>
    obtain ⟨t, d⟩ := td
    simp only [hal] at h4
    cases hT : qc0 P t with
    | none => simp [hT] at h4
    | some T =>
     simp only [hT, beq_iff_eq] at h4
     refine ⟨oa, os, t, d, T, rfl, rfl, hal, hT, h4, by simpa using h5, fun k hk => ?_⟩
     rcases h6 k hk with q|q
     ·exact .inl q
     ·refine .inr fun js' hj => ?_
      rw [hj] at q
      simpa using q
theorem vO0 {dl : List (Nat × Nat)} {ops : List Oper} (h : delayOkB dl ops = true) {i : Nat} {o : Oper} (ho : (delays dl ops)[i]? = some o) : ∀ k ∈ aft o, k < i := by
 have hlt : i < ops.length := by rw [← vI0 dl ops]; exact (List.getElem?_eq_some_iff.1 ho).1
 have := List.all_eq_true.1 h i (List.mem_range.2 hlt)
 rw [ho] at this
 intro k hk
 simpa using List.all_eq_true.1 this k hk
theorem kaW9 {dl : List (Nat × Nat)} {ops : List Oper} (h : delayOkC dl ops = true) {i : Nat} {o : Oper} (ho : ops[i]? = some o) {ja js : Nat} (hm : (ja, js) ∈ dl) {oa : Oper} {d : Tmp} (ha : ops[ja]? = some oa) (hd : oa.dst = some d) (hne : ja ≠ i) :
  ((dl.lookup i).isSome = true → o.dst ≠ some d) ∧ ((dl.lookup i).isSome = false → (ja ∈ aft o ∧ (js = i ∨ js ∈ aft o)) ∨ (ja ∉ aft o ∧ d ∉ o.looksAt ops.toArray ∧ o.dst ≠ some d)) := by
 have hlt := (List.getElem?_eq_some_iff.1 ho).1
 have := List.all_eq_true.1 h i (List.mem_range.2 hlt)
 rw [ho] at this
 have := List.all_eq_true.1 this _ hm
 have hne' : (ja == i) = false := by simp [hne]
 simp only [xdL9, ha, hd, hne', Bool.false_or] at this
 constructor
 ·intro hs
  rw [if_pos hs] at this
  simpa using this
 ·intro hs
  rw [hs, if_neg (by simp)] at this
  simpa [and_assoc] using this
theorem xZ0 {dl : List (Nat × Nat)} {ops : List Oper} {i : Nat} {o : Oper} {k : Nat} (h : k ∈ aft o) : k ∈ aft (vr0 dl ops i o) := by
 obtain ⟨e, he, hb, rfl⟩ := xco9 h
 refine qA0 ?_ hb
 unfold vr0
 split
 ·split
  ·simp [he]
  ·exact he
 ·exact he
theorem kbV9 {dl : List (Nat × Nat)} {i js : Nat} (h : dl.lookup i = some js) : (i, js) ∈ dl := by
 induction dl with
 | nil => cases h
 | cons p dl ih =>
  obtain ⟨x, y⟩ := p
  rw [List.lookup_cons] at h
  split at h
  ·rename_i e
   injection h with h; subst h
   have : i = x := by simpa using e
   subst this
   exact List.mem_cons_self ..
  ·exact List.mem_cons_of_mem _ (ih h)
section
variable {dl : List (Nat × Nat)} {ops : List Oper} {n0 : Nat} {S0 : St} {H0 : List Blk} {ds : List Deferred} {ps : List Pend} {listed lr : Array Bool} {a : List AV} {H : List Blk} {S : St} {act : Act} {K : List AV → List Blk → Prop}
theorem vy0 {l : Array Bool} {i j n : Nat} (hs : l.size = n) (hj : j < n) : (l.setIfInBounds i true).getD j true = (l.getD j true || i == j) := by
 have h1 : j < l.size := by omega
 by_cases e : i = j
 ·subst e; simp [h1]
 ·simp [h1, e]
theorem zbh9 (hl : LRel ops.length ps listed lr) {p : Pend} (hp : p ∈ ps) (hj : p.ja < ops.length) : lr.getD p.ja true = true := by
 rw [hl.2.2 p.ja hj]
 have : (ps.any fun x => x.ja == p.ja) = true := List.any_eq_true.2 ⟨p, hp, by simp⟩
 rw [this, Bool.or_true]
theorem xbh9 (hckA : delayOkA P dl ops = true) {l1 l2 : List Pend} {p : Pend} (hps : ps = l1 ++ p :: l2) (hI : PInv P G dl ops n0 S0 H0 ds ps listed lr a H S act) {f : Nat} (hr : p.ja ∈ Region.ready .any (delays dl ops).toArray listed)
  (hA : AAny P G q (delays dl ops) .any K (f + 1) listed a H) :
  ∃ a' H' S', AAny P G q (delays dl ops) .any K f (listed.setIfInBounds p.ja true) a' H' ∧ S'.w = S.w ∧ PInv P G dl ops n0 S0 H0 ds (l1 ++ l2) (listed.setIfInBounds p.ja true) lr a' H' S' act := by
 have hp : p ∈ ps := by rw [hps]; simp
 obtain ⟨hm, ⟨oa, hoa, hal⟩, hu1, hu2, hsz0, hlt, hfree, htmp, T, cs, hT, hTl, hTz, h1c, hcell⟩ := hI.pd p hp
 obtain ⟨hop, hdst, hgd⟩ := kv0 hal
 obtain ⟨o', ho', r, H', hs, hA'⟩ := hA.2 _ hr
 rw [zk0, hoa] at ho'
 simp only [Option.map_some, Option.some.injEq] at ho'
 subst ho'
 obtain ⟨e1, e2, e3⟩ := kag9 dl ops p.ja oa
 have hs1 := (kC0 dl e1 e3).1 hs.1
 rw [e2, hdst] at hA'
 unfold kn0 at hs1
 rw [hgd] at hs1
 simp only [hop] at hs1
 have key : r = .ptr H.length 0 0 1 ∧ H' = H ++ [.row T.sz p.t [T.zero]] := by
  cases hs1 with
  | pure h => simp [ze0, bad] at h
  | eff he h => simp [wf0, xS0, hT]
  | made he r h => cases he
  | mkat he b r H' h => cases he
  | call c f g cap ho => cases ho
  | yield c f b ho => cases ho
 obtain ⟨rfl, rfl⟩ := key
 have hja : p.ja < ops.length := (List.getElem?_eq_some_iff.1 hoa).1
 have hrow : RowIn (S.env H) T.sz [T.zero] cs := by
  rw [← hTl]
  exact kau9 (by rw [hTz]; exact xl0 _ _) h1c
 have hcs : cs.size = 1 * T.sz := by rw [← hTl, hTz]; simp
 have hle := vco9 (S := S) (H := H) (L := p.at_) (s := T.sz) (t := p.t) (es := [T.zero])
 refine ⟨_, _, S.take H.length p.at_, hA', rfl, xcR9 hI.ok hfree hcell (by simp) hcs hrow, hI.g, by have := hI.n; simp; omega, wcR9 hI.ext hI.n hsz0, ?_, vbV9 hI.marks ⟨cs, hcell⟩, ?_, hI.cl, ?_, ?_⟩
 ·refine RelL.mk (by rw [wO0]; have := hI.rel.length; rw [wO0] at this; simpa [putA] using this) fun t x v hx hv => ?_
  rw [kax9] at hx
  cases hy : (putA a (some p.d) (.ptr H.length 0 0 1))[t]? with
  | none => rw [hy] at hx; cases hx
  | some y =>
   rw [hy] at hx
   simp only [Option.map_some, Option.some.injEq] at hx
   by_cases hany : ((l1 ++ l2).any fun x => x.d == t) = true
   ·rw [if_pos hany] at hx; subst hx; simp [Rel]
   ·rw [if_neg hany] at hx; subst hx
    by_cases hd : p.d = t
    ·subst hd
     have hlt2 : p.d < a.length := by
      have := (List.getElem?_eq_some_iff.1 hy).1
      simpa [putA] using this
     simp [putA, hlt2] at hy
     subst hy
     have := htmp v (by simpa using hv)
     exact kae9 (k := 1) vk0 (by exact ve0 _ _ _) (by rw [this]; simp)
    ·have hy2 : a[t]? = some y := by
      simpa [putA, List.getElem?_set, hd] using hy
     have hx2 : (scr ps a)[t]? = some y := by
      rw [kax9, hy2, hps]
      have : ((l1 ++ p :: l2).any fun x => x.d == t) = false := by
       rw [Bool.not_eq_true] at hany
       simp only [List.any_append, List.any_cons, Bool.or_eq_false_iff] at hany ⊢
       exact ⟨hany.1, by simp [hd], hany.2⟩
      simp only [Option.map_some, this, Bool.false_eq_true, if_false]
     obtain ⟨v', hv', hrel⟩ := hI.rel.get hx2
     rw [hv] at hv'; injection hv' with hv'; subst hv'
     exact Rel.mono hle _ _ hrel
 ·obtain ⟨q1, q2, q3⟩ := hI.l
  refine ⟨by simpa using q1, q2, fun j hj => ?_⟩
  rw [q3 j hj, vy0 q1 hj, hps]
  simp only [List.any_append, List.any_cons]
  cases listed.getD j true <;> cases (p.ja == j) <;> cases (l1.any fun p => p.ja == j) <;> cases (l2.any fun p => p.ja == j) <;> rfl
 ·intro p' hp'
  have hp2 : p' ∈ ps := by rw [hps]; rcases List.mem_append.1 hp' with h|h <;> simp [h]
  have hne : p'.ja ≠ p.ja ∧ p'.at_ ≠ p.at_ := by
   have hpw := hI.pw
   rw [hps, List.pairwise_append] at hpw
   rcases List.mem_append.1 hp' with h|h
   ·exact hpw.2.2 p' h p (List.mem_cons_self ..)
   ·have := (List.pairwise_cons.1 hpw.2.1).1 p' h
    exact ⟨Ne.symm this.1, Ne.symm this.2⟩
  obtain ⟨g1, ⟨oa', g2, g3⟩, g4, g5, g6, g7, g8, g9, T', cs', g10⟩ := hI.pd p' hp2
  obtain ⟨f1, f2, oa2, os2, t2, d2, T2, f3, f4, _⟩ := wy0 hckA g1
  have hj1 : p'.ja < ops.length := (List.getElem?_eq_some_iff.1 g2).1
  have hj2 : p'.js < ops.length := (List.getElem?_eq_some_iff.1 f4).1
  refine ⟨g1, ⟨oa', g2, g3⟩, ?_, ?_, g6, g7, kco9 g8 hne.2, g9, T', cs', g10⟩
  ·rw [vy0 hI.l.1 hj1, g4]; simp; exact Ne.symm hne.1
  ·rw [vy0 hI.l.1 hj2, g5]; simp
   intro e
   have := (wy0 hckA hm).1
   rw [e, f2] at this; cases this
 ·rw [hps] at hI
  exact hI.pw.sublist (by simp)
theorem qbF9 {n : Nat} {l : Array Bool} : ∀ j, j < n → l.getD j true = false → ∃ m, m ≤ j ∧ l.getD m true = false ∧ ∀ k, k < m → l.getD k true = true := by
 intro j
 induction j using Nat.strongRecOn with
 | ind j ih =>
  intro hj hu
  by_cases h : ∃ k, k < j ∧ l.getD k true = false
  ·obtain ⟨k, hk, hku⟩ := h
   obtain ⟨m, h1, h2, h3⟩ := ih k hk (by omega) hku
   exact ⟨m, by omega, h2, h3⟩
  ·refine ⟨j, Nat.le_refl _, hu, fun k hk => ?_⟩
   cases hv : l.getD k true with
   | true => rfl
   | false => exact absurd ⟨k, hk, hv⟩ h
theorem vM0 (l : List Oper) (j : Nat) : l.toArray[j]? = l[j]? := by simp
theorem qcp9 (hckA : delayOkA P dl ops = true) (hckB : delayOkB dl ops = true) : ∀ (k : Nat) (ps : List Pend) (listed : Array Bool) (a : List AV) (H : List Blk) (S : St) (m : Nat), ps.length = k → Region.ready .any ops.toArray lr = [] → AAny P G q (delays dl ops) .any K (m + ps.length) listed a H → PInv P G dl ops n0 S0 H0 ds ps listed lr a H S act → Ends G n0 S0 H0 ds K act S.w := by
 intro k
 induction k with
 | zero =>
  intro ps listed a H S m hk hr hA hI
  have e : ps = [] := List.eq_nil_of_length_eq_zero hk
  subst e
  have hre : Region.ready .any (delays dl ops).toArray listed = [] := by
   refine List.eq_nil_iff_forall_not_mem.2 fun j hj => ?_
   obtain ⟨hu, o, ho, hd⟩ := mem_ready.1 hj
   rw [vM0] at ho
   have hjl : j < ops.length := by rw [← vI0 dl ops]; exact (List.getElem?_eq_some_iff.1 ho).1
   obtain ⟨mm, h1, h2, h3⟩ := qbF9 (n := ops.length) j hjl hu
   have hml : mm < ops.length := by omega
   have hom : ops[mm]? = some ops[mm] := by simp [hml]
   have : mm ∈ Region.ready .any ops.toArray lr := by
    refine mem_ready.2 ⟨by rw [hI.l.2.2 mm hml, h2]; rfl, ops[mm], by rw [vM0]; exact hom, fun e he hb => ?_⟩
    have hlt : e.on < mm := vO0 hckB (by rw [zk0, hom]; rfl) e.on (xZ0 (qA0 he hb))
    rw [zA0 hI.l.2.1 (by omega), hI.l.2.2 _ (by omega), h3 _ hlt]; rfl
   rw [hr] at this; cases this
  have hK : K a H := by
   cases m with
   | zero => exact hA.2
   | succ m => exact hA.1 hre
  exact ⟨a, H, S, rfl, hK, hI.ok, hI.ext, hI.rel, hI.marks⟩
 | succ k ih =>
  intro ps listed a H S m hk hr hA hI
  have hne : ps ≠ [] := fun e => by rw [e] at hk; cases hk
  obtain ⟨p0, hp0⟩ := List.exists_mem_of_ne_nil _ hne
  obtain ⟨g1, ⟨oa, g2, g3⟩, g4, _⟩ := hI.pd p0 hp0
  obtain ⟨mm, h1, h2, h3⟩ := qbF9 (n := ops.length) p0.ja (List.getElem?_eq_some_iff.1 g2).1 g4
  have hml : mm < ops.length := by have := (List.getElem?_eq_some_iff.1 g2).1; omega
  have hom : ops[mm]? = some ops[mm] := by simp [hml]
  by_cases hany : ∃ p ∈ ps, p.ja = mm
  ·obtain ⟨p, hp, rfl⟩ := hany
   obtain ⟨l1, l2, hps⟩ := List.append_of_mem hp
   have hlen : ps.length = (l1 ++ l2).length + 1 := by rw [hps]; simp; omega
   have hr2 : p.ja ∈ Region.ready .any (delays dl ops).toArray listed := by
    refine mem_ready.2 ⟨h2, vr0 dl ops p.ja ops[p.ja], by rw [vM0, zk0, hom]; rfl, fun e he hb => ?_⟩
    have hlt : e.on < p.ja := vO0 hckB (by rw [zk0, hom]; rfl) e.on (qA0 he hb)
    rw [zA0 hI.l.1 (by omega)]; exact h3 _ hlt
   rw [hlen, ← Nat.add_assoc] at hA
   obtain ⟨a', H', S', hA', hw, hI'⟩ := xbh9 hckA hps hI hr2 hA
   have := ih (l1 ++ l2) _ a' H' S' m (by omega) hr hA' hI'
   rw [hw] at this; exact this
  ·exfalso
   have : mm ∈ Region.ready .any ops.toArray lr := by
    have hno : (ps.any fun p => p.ja == mm) = false := by
     rw [Bool.eq_false_iff]; intro hh
     obtain ⟨p, hp, e⟩ := List.any_eq_true.1 hh
     exact hany ⟨p, hp, by simpa using e⟩
    refine mem_ready.2 ⟨by rw [hI.l.2.2 mm hml, h2, hno]; rfl, ops[mm], by rw [vM0]; exact hom, fun e he hb => ?_⟩
    have hlt : e.on < mm := vO0 hckB (by rw [zk0, hom]; rfl) e.on (xZ0 (qA0 he hb))
    rw [zA0 hI.l.2.1 (by omega), hI.l.2.2 _ (by omega), h3 _ hlt]; rfl
   rw [hr] at this; cases this
theorem zcp9 (p : Nat → Bool) (i : Nat) : ∀ n, (List.range n).countP (fun j => p j && j != i) + (if i < n ∧ p i = true then 1 else 0) = (List.range n).countP p
 | 0 => by simp
 | n + 1 => by
  have ih := zcp9 p i n
  rw [List.range_succ, List.countP_append, List.countP_append]
  simp only [List.countP_cons, List.countP_nil]
  by_cases e : n = i
  ·subst e
   simp only [bne_self_eq_false, Bool.and_false, Nat.lt_irrefl, false_and, if_false, Nat.lt_succ_self, true_and] at ih ⊢
   cases p n <;> simp_all
  ·have h1 : (n != i) = true := by simp [e]
   have h2 : (i < n + 1) ↔ (i < n) := by omega
   simp only [h1, Bool.and_true, h2]
   omega
theorem zdu9 {n i : Nat} {l : Array Bool} (hs : l.size = n) (hi : i < n) (hu : l.getD i true = false) {f : Nat} (h : (List.range n).countP (fun j => !l.getD j true) = f + 1) : (List.range n).countP (fun j => !(l.setIfInBounds i true).getD j true) = f := by
 have h1 := zcp9 (fun j => !l.getD j true) i n
 rw [if_pos ⟨hi, by simp [hu]⟩, h] at h1
 have h2 : (List.range n).countP (fun j => !(l.setIfInBounds i true).getD j true) = (List.range n).countP (fun j => !l.getD j true && j != i) := by
  refine List.countP_congr fun j hj => ?_
  rw [vy0 hs (List.mem_range.1 hj)]
  by_cases e : i = j
  ·subst e; simp
  ·have e1 : (i == j) = false := by simp [e]
   have e2 : (j != i) = true := by simp [Ne.symm e]
   rw [e1, e2]; simp
 omega
theorem wbh9 {p : Pend} {S' : St} {H' : List Blk} {act' : Act} {listed' : Array Bool} (h : wco9 P dl ops S0 S H act listed p) (hsz : S.w.heap.size ≤ S'.w.heap.size) (hf : S.Free H p.at_ → S'.Free H' p.at_ ∧ S'.w.heap[p.at_]? = S.w.heap[p.at_]?)
  (hact : act'.tmps[p.d]? = act.tmps[p.d]?) (h1 : listed'.getD p.ja true = false) (h2 : listed'.getD p.js true = false) : wco9 P dl ops S0 S' H' act' listed' p := by
 obtain ⟨g1, g2, g3, g4, g5, g6, g7, g8, T, cs, t1, t2, t3, t4, t5⟩ := h
 obtain ⟨f1, f2⟩ := hf g7
 exact ⟨g1, g2, h1, h2, g5, by omega, f1, fun v hv => g8 v (by rw [← hact]; exact hv), T, cs, t1, t2, t3, t4, by rw [f2]; exact t5⟩
theorem vbh9 {act : Act} {d : Option Tmp} {v : Value} {t : Tmp} (h : d ≠ some t) : (act.put d v).tmps[t]? = act.tmps[t]? := by
 cases d with
 | none => rfl
 | some d =>
  have : d ≠ t := fun e => h (by rw [e])
  simp [Act.put, this]
theorem xdu9 {d : Option Tmp} {r : AV} (h : ∀ p ∈ ps, d ≠ some p.d) : scr ps (putA a d r) = putA (scr ps a) d r := by
 cases d with
 | none => rfl
 | some d =>
  refine List.ext_getElem? fun t => ?_
  rw [kax9]
  simp only [putA, List.getElem?_set]
  by_cases e : d = t
  ·subst e
   have hno : (ps.any fun p => p.d == d) = false := by
    rw [Bool.eq_false_iff]; intro hh
    obtain ⟨p, hp, e⟩ := List.any_eq_true.1 hh
    have e : p.d = d := by simpa using e
    exact h p hp (by rw [e])
   rw [if_pos rfl, if_pos rfl, wO0]
   by_cases hlt : d < a.length
   ·rw [if_pos hlt, Option.map_some, if_neg (by rw [hno]; simp)]
   ·rw [if_neg hlt]; rfl
  ·rw [if_neg e, if_neg e, kax9]
theorem xcp9 {o : Oper} {t : TypeId} {T : TI} (hop : o.op = .alloc t) (hT : qc0 P t = some T) (hz : T.zero.length = T.sz) (S : St) (ρ : Operand → Value) : ∃ cs : Array Value, T.zero = cs.toList.map qF0 ∧ (∀ u ∈ cs.toList, u.oneCell' = true) ∧
  (execOp ρ o).run P S.w = .ok (.value (.pointer (some ⟨S.w.heap.size, 0, none⟩))) (S.made t cs).w := by
 obtain ⟨i, d, z, hi, hd, hz', h1, hTT⟩ := zd0 hT
 refine ⟨z.cells, by rw [hTT], h1, ?_⟩
 obtain ⟨dst, op, type, pos, after, guard⟩ := o
 simp only at hop
 subst hop
 simp [execOp, Instr.alloc, zeroValue, typeInfo, hi, hz', newVar, newRow, St.made]; rfl
theorem vcR9 {Q : Exit → Act → World → Prop} {ro : Option Nat} (hckA : delayOkA P dl ops = true) (hckB : delayOkB dl ops = true) (hckC : delayOkC dl ops = true) (hQ : ∀ act w, Ends G n0 S0 H0 ds K act w → Q .normal act w) :
  ∀ (f : Nat) (ps : List Pend) (listed lr : Array Bool) (a : List AV) (H : List Blk) (S : St) (act : Act), AAny P G q (delays dl ops) .any K (f + ps.length) listed a H → PInv P G dl ops n0 S0 H0 ds ps listed lr a H S act →
   (List.range ops.length).countP (fun j => !lr.getD j true) = f → wpAnyIn (fen ro) 0 P .any ops.toArray Q f lr act S.w := by
 intro f
 induction f with
 | zero =>
  intro ps listed lr a H S act hA hI hc
  have hr : Region.ready .any ops.toArray lr = [] := by
   refine List.eq_nil_iff_forall_not_mem.2 fun j hj => ?_
   obtain ⟨hu, o, ho, hd⟩ := mem_ready.1 hj
   rw [vM0] at ho
   have hjl : j < ops.length := (List.getElem?_eq_some_iff.1 ho).1
   have := List.countP_eq_zero.1 hc j (List.mem_range.2 hjl)
   rw [hu] at this; exact this rfl
  exact ⟨hr, hQ _ _ (qcp9 hckA hckB _ ps listed a H S 0 rfl hr hA hI)⟩
 | succ f ihf =>
  intro ps listed lr a H S act hA hI hc
  refine ⟨fun hr => hQ _ _ (qcp9 hckA hckB _ ps listed a H S (f + 1) rfl hr hA hI), fun i hi => ?_⟩
  suffices hmain : ∀ (k : Nat) (ps : List Pend) (listed : Array Bool) (a : List AV) (H : List Blk) (S : St), ps.length = k → AAny P G q (delays dl ops) .any K (f + 1 + ps.length) listed a H → PInv P G dl ops n0 S0 H0 ds ps listed lr a H S act → wpOpIn (fen ro) 0 P ops.toArray Q i (wpAnyIn (fen ro) 0 P .any ops.toArray Q f (lr.setIfInBounds i true)) act S.w from hmain _ ps listed a H S rfl hA hI
  clear hA hI ps listed a H S
  intro k
  induction k using Nat.strongRecOn with
  | ind k ihk =>
  intro ps listed a H S hk hA hI
  obtain ⟨hu, o, ho, hdep⟩ := mem_ready.1 hi
  have ho2 := ho
  rw [vM0] at ho2
  have hil : i < ops.length := (List.getElem?_eq_some_iff.1 ho2).1
  have hlri := hI.l.2.2 i hil
  rw [hu] at hlri
  have hli : listed.getD i true = false := by
   cases h : listed.getD i true with
   | false => rfl
   | true => rw [h] at hlri; cases hlri
  have hnp : ∀ p ∈ ps, p.ja ≠ i := fun p hp e => by
   have : (ps.any fun x => x.ja == i) = true := List.any_eq_true.2 ⟨p, hp, by simp [e]⟩
   rw [this, Bool.or_true] at hlri; cases hlri
  have hc2 := zdu9 hI.l.2.1 hil hu hc
  have hcl2 := xF0 hI.cl hi
  have hjl : ∀ p ∈ ps, p.ja < ops.length := fun p hp => by
   obtain ⟨_, ⟨oa, g2, _⟩, _⟩ := hI.pd p hp
   exact (List.getElem?_eq_some_iff.1 g2).1
  have hsl : ∀ p ∈ ps, p.js < ops.length := fun p hp => by
   obtain ⟨g1, _⟩ := hI.pd p hp
   obtain ⟨_, _, _, _, _, _, _, _, f4, _⟩ := wy0 hckA g1
   exact (List.getElem?_eq_some_iff.1 f4).1
  -- a store's operation is not done while its allocation waits
  have hjs : ∀ p ∈ ps, lr.getD p.js true = false := fun p hp => by
   obtain ⟨g1, _, _, g4, _⟩ := hI.pd p hp
   rw [hI.l.2.2 _ (hsl p hp), g4, Bool.false_or, Bool.eq_false_iff]
   intro hh
   obtain ⟨p', hp', e⟩ := List.any_eq_true.1 hh
   have e : p'.ja = p.js := by simpa using e
   have h1 := (wy0 hckA (hI.pd p' hp').1).1
   rw [e, (wy0 hckA g1).2.1] at h1; cases h1
  unfold wpOpIn
  simp only [ho]
  by_cases hdl : (dl.lookup i).isSome = true
  ·-- an allocation: it waits
   obtain ⟨js, hjs0⟩ := Option.isSome_iff_exists.1 hdl
   have hmem := kbV9 hjs0
   obtain ⟨_, _, oa, os, t, d, T, f3, f4, f5, f6, f7, f8, f9⟩ := wy0 hckA hmem
   rw [ho2] at f3; injection f3 with f3; subst f3
   obtain ⟨hop, hdst, hgd⟩ := kv0 f5
   have hw : Region.wanted o (yielded ops.toArray act.tmps) = true := by simp [Region.wanted, hgd]
   rw [if_pos hw]
   refine ⟨fun _ _ => trivial, ?_⟩
   obtain ⟨cs, hz1, hz2, hrun⟩ := xcp9 (P := P) hop f6 f7 S act.eval
   rw [Oper.semAt_eq _ _ _ (fun c hc => by rw [hop] at hc; cases hc), hrun]
   show wpAnyIn (fen ro) 0 P .any ops.toArray Q f (lr.setIfInBounds i true) (act.put o.dst (.pointer (some ⟨S.w.heap.size, 0, none⟩))) (S.made t cs).w
   have hdd : ∀ p ∈ ps, o.dst ≠ some p.d := fun p hp => by
    obtain ⟨g1, ⟨oa', g2, g3⟩, _⟩ := hI.pd p hp
    exact (kaW9 hckC ho2 g1 g2 (kv0 g3).2.1 (hnp p hp)).1 hdl
   have hfr : S.Free H S.w.heap.size := ⟨fun ⟨x, hx⟩ => by have := qal9 hI.ok hx; omega, by
    cases h : S.M S.w.heap.size with
    | none => rfl
    | some x => have := M_lt hI.ok (k := S.w.heap.size) (by rw [h]; simp); omega⟩
   refine ihf (⟨i, js, S.w.heap.size, d, t⟩ :: ps) listed (lr.setIfInBounds i true) a H (S.made t cs) (act.put o.dst (.pointer (some ⟨S.w.heap.size, 0, none⟩))) (by rw [List.length_cons]; rwa [show f + (ps.length + 1) = f + 1 + ps.length from by omega]) ?_ hc2
   refine ⟨qdu9 hI.ok t cs, hI.g, hI.n, hI.ext.trans (vaW9 S H t cs), ?_, ?_, ⟨hI.l.1, by simpa using hI.l.2.1, fun j hj => ?_⟩, hcl2, fun p hp => ?_, List.pairwise_cons.2 ⟨fun p hp => ⟨fun e => hnp p hp e.symm, fun e => ?_⟩, hI.pw⟩⟩
   ·show RelL (S.env H) (putA (scr ps a) (some d) .top) _
    rw [hdst]
    exact qaq9 hI.rel (some d) (by simp [Rel])
   ·have e : (act.put o.dst (.pointer (some ⟨S.w.heap.size, 0, none⟩))).defers = act.defers := by cases o.dst <;> rfl
    rw [e]; exact hI.marks.mono (vaW9 (n0 := 0) S H t cs)
   ·rw [vy0 hI.l.2.1 hj, hI.l.2.2 j hj, List.any_cons]
    cases listed.getD j true <;> cases (i == j) <;> cases (ps.any fun p => p.ja == j) <;> rfl
   ·rcases List.mem_cons.1 hp with rfl|hp
    ·refine ⟨hmem, ⟨o, ho2, f5⟩, hli, ?_, hI.ext.size, by rw [qay9]; exact Nat.lt_succ_self _, hfr, fun v hv => ?_, T, cs, f6, f7, hz1, hz2, heap_alloc_new (S.w.drewN 0) _⟩
     ·cases h : listed.getD js true with
      | false => rfl
      | true =>
       have hjl2 : js < ops.length := (List.getElem?_eq_some_iff.1 f4).1
       have h1 : lr.getD js false = true := by rw [zA0 hI.l.2.1 hjl2, hI.l.2.2 _ hjl2, h]; rfl
       obtain ⟨e, he, hb, hon⟩ := xco9 f8
       have := hI.cl js os f4 h1 e he hb
       rw [hon, zA0 hI.l.2.1 hil, hu] at this; cases this
     ·rw [hdst] at hv
      have hlt : d < act.tmps.size := by
       have := (Array.getElem?_eq_some_iff.1 hv).1
       simpa [Act.put] using this
      simp [Act.put, hlt] at hv
      exact hv.symm
    ·obtain ⟨g1, g2, g3, g4, g5, g6, g7, g8, g9⟩ := hI.pd p hp
     exact wbh9 (hI.pd p hp) (by rw [qay9]; omega) (fun hf => St.Free.ext hf g6 (vaW9 (n0 := 0) S H t cs)) (vbh9 (hdd p hp)) g3 g4
   ·have := hI.pd p hp
    obtain ⟨_, _, _, _, _, g6, _⟩ := this
    have e : S.w.heap.size = p.at_ := e
    omega
  ·have hdl' : (dl.lookup i).isSome = false := Bool.eq_false_iff.2 hdl
   by_cases hpe : ∃ p ∈ ps, p.ja ∈ aft o
   ·-- the allocation is taken over
    obtain ⟨p, hp, hpa⟩ := hpe
    obtain ⟨g1, ⟨oa, g2, g3⟩, g4, g5, g6⟩ := hI.pd p hp
    have hdn : ∀ x ∈ aft o, lr.getD x true = true := fun x hx => by
     obtain ⟨e, he, hb, rfl⟩ := xco9 hx
     have h1 := hdep e he hb
     have hlt : e.on < i := vO0 hckB (by rw [zk0, ho2]; rfl) e.on (xZ0 (qA0 he hb))
     rwa [zA0 hI.l.2.1 (by omega)] at h1
    have hji : p.js = i := by
     rcases (kaW9 hckC ho2 g1 g2 (kv0 g3).2.1 (hnp p hp)).2 hdl' with ⟨_, h|h⟩|⟨h, _⟩
     ·exact h
     ·exact absurd (hdn _ h) (by rw [hjs p hp]; simp)
     ·exact absurd hpa h
    obtain ⟨f1, f2, oa', os, t, d, T, f3, f4, f5, f6, f7, f8, f9⟩ := wy0 hckA g1
    rw [g2] at f3; injection f3 with f3; subst f3
    rw [hji, ho2] at f4; injection f4 with f4; subst f4
    obtain ⟨l1, l2, hps⟩ := List.append_of_mem hp
    have hlen : ps.length = (l1 ++ l2).length + 1 := by rw [hps]; simp; omega
    have hla : lr.getD p.ja true = true := zbh9 hI.l hp (hjl p hp)
    have hr2 : p.ja ∈ Region.ready .any (delays dl ops).toArray listed := by
     refine mem_ready.2 ⟨g4, vr0 dl ops p.ja oa, by rw [vM0, zk0, g2]; rfl, fun e he hb => ?_⟩
     have hlt : e.on < p.ja := vO0 hckB (by rw [zk0, g2]; rfl) e.on (qA0 he hb)
     have hpl := hjl p hp
     rw [zA0 hI.l.1 (by omega)]
     -- it is listed for the machine
     have h12 : lr.getD e.on true = true ∧ e.on ∈ aft oa ++ aft o := by
      have hin : e ∈ oa.after ∨ e ∈ o.after := by
       unfold vr0 at he
       rw [f1] at he
       simp only [hji, ho2] at he
       rcases Array.mem_append.1 he with h|h
       ·exact .inl h
       ·exact .inr (Array.mem_filter.1 h).1
      rcases hin with h|h
      ·have h1 := hI.cl p.ja oa g2 (by rw [zA0 hI.l.2.1 hpl]; exact hla) e h hb
       rw [zA0 hI.l.2.1 (by omega)] at h1
       exact ⟨h1, List.mem_append_left _ (qA0 h hb)⟩
      ·exact ⟨hdn _ (qA0 h hb), List.mem_append_right _ (qA0 h hb)⟩
     rw [hI.l.2.2 _ (by omega)] at h12
     cases hv : listed.getD e.on true with
     | true => rfl
     | false =>
      exfalso
      rw [hv, Bool.false_or] at h12
      obtain ⟨p', hp', e1⟩ := List.any_eq_true.1 h12.1
      have e1 : p'.ja = e.on := by simpa using e1
      have hl' := (wy0 hckA (hI.pd p' hp').1).1
      rcases f9 e.on h12.2 with q|q
      ·omega
      ·have := hdn _ (q p'.js (by rw [← e1]; exact hl'))
       rw [hjs p' hp'] at this; cases this
    rw [hlen, ← Nat.add_assoc] at hA
    obtain ⟨a', H', S', hA', hw, hI'⟩ := xbh9 hckA hps hI hr2 hA
    have := ihk (l1 ++ l2).length (by omega) (l1 ++ l2) _ a' H' S' rfl hA' hI'
    unfold wpOpIn at this
    simp only [ho] at this
    rw [hw] at this; exact this
   ·-- any other operation
    have hno : ∀ p ∈ ps, p.ja ∉ aft o := fun p hp h => hpe ⟨p, hp, h⟩
    have hap : ∀ p ∈ ps, p.d ∉ o.looksAt ops.toArray ∧ o.dst ≠ some p.d := fun p hp => by
     obtain ⟨g1, ⟨oa, g2, g3⟩, _⟩ := hI.pd p hp
     rcases (kaW9 hckC ho2 g1 g2 (kv0 g3).2.1 (hnp p hp)).2 hdl' with ⟨h, _⟩|⟨_, h⟩
     ·exact absurd h (hno p hp)
     ·exact h
    have hdo : vr0 dl ops i o = o := by
     unfold vr0
     have : dl.lookup i = none := by
      cases h : dl.lookup i with
      | none => rfl
      | some x => rw [h] at hdl'; cases hdl'
     rw [this]
    have hr2 : i ∈ Region.ready .any (delays dl ops).toArray listed := by
     refine mem_ready.2 ⟨hli, o, by rw [vM0, zk0, ho2, Option.map_some, hdo], fun e he hb => ?_⟩
     have hlt : e.on < i := vO0 hckB (by rw [zk0, ho2]; rfl) e.on (xZ0 (qA0 he hb))
     have h1 := hdep e he hb
     rw [zA0 hI.l.2.1 (by omega), hI.l.2.2 _ (by omega)] at h1
     rw [zA0 hI.l.1 (by omega)]
     cases hv : listed.getD e.on true with
     | true => rfl
     | false =>
      rw [hv, Bool.false_or] at h1
      obtain ⟨p', hp', e1⟩ := List.any_eq_true.1 h1
      have e1 : p'.ja = e.on := by simpa using e1
      exact absurd (qA0 he hb) (by rw [← e1]; exact hno p' hp')
    rw [show f + 1 + ps.length = f + ps.length + 1 from by omega] at hA
    obtain ⟨o', ho', r, H', hs, hA'⟩ := hA.2 i hr2
    rw [zk0, ho2, Option.map_some, hdo] at ho'
    injection ho' with ho'; subst ho'
    have hs1 := (kC0 dl rfl rfl).1 hs.1
    have hs2 := qbh9 (ops := ops) ps (fun p hp => (hap p hp).1) hs1
    refine vaT9 hs2 hI.ok hI.g hI.rel fun v S' h1 h2 h3 => ?_
    refine ihf ps (listed.setIfInBounds i true) (lr.setIfInBounds i true) (putA a o.dst r) H' S' (act.put o.dst v) hA' ?_ hc2
    refine ⟨h1, hI.g.mono h2.M, Nat.le_trans hI.n (h2.len (Nat.le_refl _)), hI.ext.trans (h2.less hI.n (Nat.le_refl _)), ?_, ?_, ⟨by simpa using hI.l.1, by simpa using hI.l.2.1, fun j hj => ?_⟩, hcl2, fun p hp => ?_, hI.pw⟩
    ·rw [xdu9 fun p hp => (hap p hp).2]
     exact qaq9 (RelL.mono (h2.le (Nat.le_refl _)) _ _ hI.rel) _ h3
    ·have e : (act.put o.dst v).defers = act.defers := by cases o.dst <;> rfl
     rw [e]; exact hI.marks.mono h2
    ·rw [vy0 hI.l.2.1 hj, vy0 hI.l.1 hj, hI.l.2.2 j hj]
     cases listed.getD j true <;> cases (i == j) <;> cases (ps.any fun p => p.ja == j) <;> rfl
    ·obtain ⟨g1, g2, g3, g4, g5, g6, g7, g8, g9⟩ := hI.pd p hp
     have hne2 : p.js ≠ i := fun e => by
      obtain ⟨_, _, _, os, _, _, _, _, f4, _, _, _, f8, _⟩ := wy0 hckA g1
      rw [e, ho2] at f4; injection f4 with f4; subst f4
      exact hno p hp f8
     refine wbh9 (hI.pd p hp) h2.size (fun hf => St.Free.ext hf g6 h2) (vbh9 (hap p hp).2) ?_ ?_
     ·rw [vy0 hI.l.1 (hjl p hp), g3]; simp; exact fun e => hnp p hp e.symm
     ·rw [vy0 hI.l.1 (hsl p hp), g4]; simp; exact fun e => hne2 e.symm
end
end
end Go.V

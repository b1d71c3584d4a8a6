import Derived.Test.YtbgdagokjfmcbaaGreatDoorDShelf
import Derived.Test.YtbgdagokjfmcbaaGreatDoorDB
import Derived.Test.YtbgdagokjfmcbaaGreatDoorNUM
import Derived.WalkSmall
namespace Go.Proofs
open Go Go.V Go.RowKit
set_option linter.unusedVariables false
set_option linter.unusedSimpArgs false
set_option maxHeartbeats 0
def splitS (sv : Nat) (s sep : Bs) : List Bs := (Lib.splitB ⟨sep.toArray⟩ sv (Lib.countB ⟨s.toArray⟩ ⟨sep.toArray⟩) ⟨s.toArray⟩).map (·.data.toList)
theorem splitS_ac {P : Program} {G : Glob} {f : FuncId} {args : List AV} {vals0 : List Value} {H : List Blk} {t9 : TypeId} {gm sv : Nat} (hm : G gm = some [.anyi .i64]) (s sep : List UInt8) (hs : s.length < 4294967281) (h1 : 1 ≤ sep.length)
  (hv0 : ∀ (E : Env) (vals : List Value), RelL E args vals → vals = vals0)
  (hc : ∀ (m : Int) (w : World), w.cell? ⟨gm, 0, none⟩ = some (.int .i64 m) → Calls P f vals0.toArray w fun e w' =>
   e = .returned (.slice (some ⟨w.heap.size, 0, none⟩) (Lib.countB ⟨s.toArray⟩ ⟨sep.toArray⟩ + 1) (Lib.countB ⟨s.toArray⟩ ⟨sep.toArray⟩ + 1)) ∧ w' = w.alloc (.cells ((Lib.splitB ⟨sep.toArray⟩ sv (Lib.countB ⟨s.toArray⟩ ⟨sep.toArray⟩) ⟨s.toArray⟩).map Value.string).toArray t9)) :
  ACalls P G f args H (.sl 1 (strs (splitS sv s sep)) (some (splitS sv s sep).length)) H :=
 acalls_of_calls fun S vals hS hG ha => by
  have hlen : (splitS sv s sep).length = Lib.countB ⟨s.toArray⟩ ⟨sep.toArray⟩ + 1 := by
   unfold splitS; rw [List.length_map]; exact Lib.splitB_all ⟨sep.toArray⟩ h1 sv _ ⟨s.toArray⟩ rfl
  obtain rfl := hv0 _ _ ha
  obtain ⟨v, hv, hvr⟩ := cell_of_globs hS hG hm
  simp only [Rel] at hvr
  obtain ⟨m0, rfl⟩ := hvr
  refine (hc m0 S.w hv).mono fun e w' ⟨he, hw⟩ => ⟨_, he, ?_, fun E h2 h3 => ?_⟩
  ·subst hw; exact (Below.refl _ _).alloc (Nat.le_refl _) _
  ·have hN := h3 S.w.heap.size (.cells ((Lib.splitB ⟨sep.toArray⟩ sv (Lib.countB ⟨s.toArray⟩ ⟨sep.toArray⟩) ⟨s.toArray⟩).map Value.string).toArray t9) (Nat.le_refl _) (by subst hw; exact heap_alloc_new S.w _)
   have hl1 : (strs (splitS sv s sep)).length = Lib.countB ⟨s.toArray⟩ ⟨sep.toArray⟩ + 1 := by rw [← hlen]; simp [strs]
   simp only [Rel]
   refine ⟨some ⟨S.w.heap.size, 0, none⟩, Lib.countB ⟨s.toArray⟩ ⟨sep.toArray⟩ + 1, by rw [hl1], by omega, ?_, fun k hk => by injection hk with hk; omega, .inr ⟨S.w.heap.size, 0, rfl, RelE.mk fun i el hi => ?_⟩⟩
   ·have : Lib.countB ⟨s.toArray⟩ ⟨sep.toArray⟩ ≤ s.length + 1 := by
     have := Lib.countB_le ⟨sep.toArray⟩ h1 s.length ⟨s.toArray⟩ (Nat.le_refl _)
     have hsz : (ByteArray.mk s.toArray).size = s.length := rfl
     omega
    simp only [maxLen]; omega
   ·simp only [strs, splitS, List.getElem?_map] at hi
    cases hx : (Lib.splitB ⟨sep.toArray⟩ sv (Lib.countB ⟨s.toArray⟩ ⟨sep.toArray⟩) ⟨s.toArray⟩)[i]? with
    | none => rw [hx] at hi; cases hi
    | some x =>
     rw [hx] at hi
     simp only [Option.map_some, Option.some.injEq] at hi
     subst hi
     refine ⟨rfl, RelC.mk fun j a hj => ?_⟩
     cases j with
     | succ j => simp at hj
     | zero =>
      simp at hj
      subst hj
      refine ⟨.string x, ?_, rfl, by simp [Rel]⟩
      simp [mcell, hN, hx]
theorem split53 (s sep : Bs) (hs : s.length < 4294967281) (h1 : 1 ≤ sep.length) (H : List Blk) : ACalls Tryz.prog G0 53 [.str s, .str sep] H (.sl 1 (strs (splitM s sep)) (some (splitM s sep).length)) H :=
 split_ac (gm := 2) rfl (fun s sep m w hs hm h1 => Tryz.strings_Split s sep m w hs hm h1) s sep hs h1
theorem after_eq (s : Bs) (c : UInt8) : splitS 1 s [c] = Lib.splitK [c] 1 (Lib.count s [c]) s := by
 unfold splitS
 rw [Lib.splitB_data]
theorem genSplit50 (s : Bs) (c : UInt8) (hs : s.length < 4294967281) (H : List Blk) : ACalls Tryz.prog G0 50 [.str s, .str [c], .int .i64 1, .int .i64 (-1)] H (.sl 1 (strs (Lib.splitK [c] 1 (Lib.count s [c]) s)) (some (Lib.splitK [c] 1 (Lib.count s [c]) s).length)) H := by
 rw [← after_eq]
 refine splitS_ac (gm := 2) (vals0 := [.string ⟨s.toArray⟩, .string ⟨#[c]⟩, .int .i64 1, .int .i64 (-1)]) (t9 := 9) rfl s [c] hs (by simp) (fun E vals ha => ?_) fun m w hm => ?_
 ·simp only [RelL, Rel] at ha
  obtain ⟨u, us, rfl, rfl, u2, us2, rfl, rfl, u3, us3, rfl, rfl, u4, us4, rfl, rfl, rfl⟩ := ha
  rfl
 ·have hsz : (ByteArray.mk s.toArray).size = s.length := rfl
  have hle := Lib.countB_le ⟨#[c]⟩ (by show 1 ≤ 1; omega) s.length ⟨s.toArray⟩ (Nat.le_refl _)
  have hN : ((Lib.countB ⟨s.toArray⟩ ⟨#[c]⟩ + 1 : Nat) : Int) = min (if (-1 : Int) < 0 then (Lib.countB ⟨s.toArray⟩ ⟨#[c]⟩ : Int) + 1 else -1) (((ByteArray.mk s.toArray).size : Int) + 1) := by
   rw [if_pos (by omega)]; omega
  refine (Tryz.strings_genSplit ⟨s.toArray⟩ ⟨#[c]⟩ 1 (-1) (Lib.countB ⟨s.toArray⟩ ⟨#[c]⟩ + 1) m w hs hm (by show 1 ≤ 1; omega) (by show 1 ≤ 1; omega) (by omega) (by omega) hN).mono fun e w' ⟨he, hw⟩ => ?_
  have hall := Lib.splitB_all ⟨#[c]⟩ (by show 1 ≤ 1; omega) 1 _ ⟨s.toArray⟩ rfl
  rw [Nat.add_sub_cancel] at he hw
  rw [hall] at he
  refine ⟨he, ?_⟩
  rw [hw]
  congr 1
  have := Lib.cellsOf_full (Lib.splitB ⟨#[c]⟩ 1 (Lib.countB ⟨s.toArray⟩ ⟨#[c]⟩) ⟨s.toArray⟩)
  rw [hall] at this
  rw [this]
theorem cut54 (s sep : Bs) (hs : s.length < 4294967281) (H : List Blk) : ACalls Tryz.prog G0 54 [.str s, .str sep] H (.tup [.str (Lib.cut s sep).1, .str (Lib.cut s sep).2.1, .bool (Lib.cut s sep).2.2]) H :=
 acalls_of_calls fun S vals hS hG ha => by
  simp only [RelL, Rel] at ha
  obtain ⟨u, us, rfl, rfl, u2, us2, rfl, rfl, rfl⟩ := ha
  obtain ⟨v, hv, hvr⟩ := cell_of_globs (g := 2) (G := G0) hS hG rfl
  simp only [Rel] at hvr
  obtain ⟨m0, rfl⟩ := hvr
  refine (Tryz.strings_Cut ⟨s.toArray⟩ ⟨sep.toArray⟩ m0 S.w hs hv).mono fun e w' ⟨he, n, hw⟩ => ⟨_, he, ?_, fun E h2 h3 => ?_⟩
  ·subst hw; exact below_drewN (Below.refl _ _) n
  ·simp [Rel, RelL]
set_option maxRecDepth 100000 in
theorem after24 (s : Bs) (c : UInt8) (hs : s.length < 4294967281) (H : List Blk) : ACalls Tryz.prog G0 24 [.str s, .str [c]] H (.sl 1 (strs (Lib.splitK [c] 1 (Lib.count s [c]) s)) (some (Lib.splitK [c] 1 (Lib.count s [c]) s).length)) H := by
 have h := genSplit50 s c hs
 generalize Lib.splitK [c] 1 (Lib.count s [c]) s = L at *
 refine ac_go 10 [.tmp 4] Tryz.func24 rfl rfl rfl (by simp) ?_
 intro s ⟨a0, a1, hz⟩
 simp only [Nat.zero_add, Nat.reduceAdd] at a1
 clear hz
 repeat' (first|(first|(refine a0_ ?_; first|refine a1_ rfl rfl ?_|refine a2_ rfl ?_|refine a3_ rfl rfl ?_|refine a4_ rfl ?_|refine a5_ rfl rfl rfl ?_|refine a6_ rfl rfl ?_)|(refine g0_ ?_; first|refine g1_ rfl ?_|refine g2_ rfl rfl ?_|refine go_draw (dr := allQ) rfl rfl mixed (by first|assumption|kernel_rfl) ?_|refine g4_ rfl ?_|refine g5_ rfl ?_|refine g6_ rfl ?_|refine g7_ rfl ?_|refine g8_ rfl ?_)|(refine o0_ ?_; first|refine o1_ ?_|refine o2_ ?_|refine o3_ ?_|refine o4_ ?_|refine o5_ ?_|refine o6_ rfl ?_|refine o7_ rfl ?_|refine o8_ ?_|refine o9_ ?_|refine oa_ ?_|refine ob_ ?_|refine oc_ ?_|refine od_ ?_|refine oe_ ?_|refine of_ ?_|refine og_ ?_))|refine at_go ?_|(with_reducible refine And.intro (at_go ?_) (at_go ?_))|((with_reducible refine And.intro (fun h => ?_) (fun h => ?_)) <;> try (exfalso; omega))|(with_reducible refine And.intro (by first|omega|(simp only [maxLen]; omega)) ?_)|(first|(refine ⟨_, _, h _, ?_⟩)|(refine ⟨_, h _, ?_⟩)|(refine ⟨_, fun _ => h _, ?_⟩))|simp (disch := first|omega|(simp only [List.length_nil, List.length_set, List.length_reverse, List.length_replicate, List.length_append, List.length_cons, List.length_nil, List.length_map]; omega)) only [push_cast, ↓reduceIte, reduceIte, reduceCtorEq, Nat.reduceAdd, Nat.reduceLT, Nat.reduceEqDiff, Nat.reduceLeDiff, Int.reduceAdd, Int.reduceLT, Int.reduceLE, Nat.reduceMul, a0, a1])
theorem suffix_iff (s p : Bs) : p.isSuffixOf s = (decide (p.length ≤ s.length) && decide (s.drop (s.length - p.length) = p)) := by
 rw [Bool.eq_iff_iff, List.isSuffixOf_iff_suffix, Bool.and_eq_true, decide_eq_true_eq, decide_eq_true_eq]
 constructor
 ·rintro ⟨t, rfl⟩; simp
 ·rintro ⟨h1, h2⟩; exact ⟨s.take (s.length - p.length), by have := List.take_append_drop (s.length - p.length) s; rwa [h2] at this⟩
theorem prefix_iff (s p : Bs) : p.isPrefixOf s = (decide (p.length ≤ s.length) && decide (s.take p.length = p)) := by
 rw [Bool.eq_iff_iff, List.isPrefixOf_iff_prefix, Bool.and_eq_true, decide_eq_true_eq, decide_eq_true_eq]
 constructor
 ·rintro ⟨t, rfl⟩; simp
 ·rintro ⟨h1, h2⟩; exact ⟨s.drop p.length, by have := List.take_append_drop p.length s; rwa [h2] at this⟩
set_option maxRecDepth 100000 in
theorem hasSuffix72 (s p : Bs) (hs : s.length ≤ 1000000) (hp : p.length ≤ 1000000) : PC Tryz.prog G0 72 [.str s, .str p] (.bool (p.isSuffixOf s)) := by
 rw [suffix_iff]
 by_cases h : p.length ≤ s.length
 ·have e1 : ((s.length : Int) - p.length).toNat = s.length - p.length := by omega
  refine pc_go 0 21 [.tmp 4] Tryz.func72 rfl rfl rfl (by simp) ?_
  intro s ⟨a0, a1, hz⟩
  simp only [Nat.zero_add, Nat.reduceAdd] at a1
  clear hz
  repeat' (first|(first|(refine a0_ ?_; first|refine a1_ rfl rfl ?_|refine a2_ rfl ?_|refine a3_ rfl rfl ?_|refine a4_ rfl ?_|refine a5_ rfl rfl rfl ?_|refine a6_ rfl rfl ?_)|(refine g0_ ?_; first|refine g1_ rfl ?_|refine g2_ rfl rfl ?_|refine go_draw (dr := allQ) rfl rfl mixed (by first|assumption|kernel_rfl) ?_|refine g4_ rfl ?_|refine g5_ rfl ?_|refine g6_ rfl ?_|refine g7_ rfl ?_|refine g8_ rfl ?_)|(refine o0_ ?_; first|refine o1_ ?_|refine o2_ ?_|refine o3_ ?_|refine o4_ ?_|refine o5_ ?_|refine o6_ rfl ?_|refine o7_ rfl ?_|refine o8_ ?_|refine o9_ ?_|refine oa_ ?_|refine ob_ ?_|refine oc_ ?_|refine od_ ?_|refine oe_ ?_|refine of_ ?_|refine og_ ?_))|refine at_go ?_|(with_reducible refine And.intro (at_go ?_) (at_go ?_))|((with_reducible refine And.intro (fun h => ?_) (fun h => ?_)) <;> try (exfalso; omega))|(with_reducible refine And.intro (by first|omega|(simp only [maxLen]; omega)) ?_)|fail|simp (disch := first|omega|(simp only [List.length_nil, List.length_set, List.length_reverse, List.length_replicate, List.length_append, List.length_cons, List.length_nil, List.length_map]; omega)) only [push_cast, ↓reduceIte, reduceIte, reduceCtorEq, Nat.reduceAdd, Nat.reduceLT, Nat.reduceEqDiff, Nat.reduceLeDiff, Int.reduceAdd, Int.reduceLT, Int.reduceLE, Nat.reduceMul, a0, a1, h, e1])
 ·have e1 : ¬ (p.length : Int) ≤ s.length := by omega
  refine pc_go 0 21 [.tmp 4] Tryz.func72 rfl rfl rfl (by simp) ?_
  intro s ⟨a0, a1, hz⟩
  simp only [Nat.zero_add, Nat.reduceAdd] at a1
  clear hz
  repeat' (first|(first|(refine a0_ ?_; first|refine a1_ rfl rfl ?_|refine a2_ rfl ?_|refine a3_ rfl rfl ?_|refine a4_ rfl ?_|refine a5_ rfl rfl rfl ?_|refine a6_ rfl rfl ?_)|(refine g0_ ?_; first|refine g1_ rfl ?_|refine g2_ rfl rfl ?_|refine go_draw (dr := allQ) rfl rfl mixed (by first|assumption|kernel_rfl) ?_|refine g4_ rfl ?_|refine g5_ rfl ?_|refine g6_ rfl ?_|refine g7_ rfl ?_|refine g8_ rfl ?_)|(refine o0_ ?_; first|refine o1_ ?_|refine o2_ ?_|refine o3_ ?_|refine o4_ ?_|refine o5_ ?_|refine o6_ rfl ?_|refine o7_ rfl ?_|refine o8_ ?_|refine o9_ ?_|refine oa_ ?_|refine ob_ ?_|refine oc_ ?_|refine od_ ?_|refine oe_ ?_|refine of_ ?_|refine og_ ?_))|refine at_go ?_|(with_reducible refine And.intro (at_go ?_) (at_go ?_))|((with_reducible refine And.intro (fun h => ?_) (fun h => ?_)) <;> try (exfalso; omega))|(with_reducible refine And.intro (by first|omega|(simp only [maxLen]; omega)) ?_)|fail|simp (disch := first|omega|(simp only [List.length_nil, List.length_set, List.length_reverse, List.length_replicate, List.length_append, List.length_cons, List.length_nil, List.length_map]; omega)) only [push_cast, ↓reduceIte, reduceIte, reduceCtorEq, Nat.reduceAdd, Nat.reduceLT, Nat.reduceEqDiff, Nat.reduceLeDiff, Int.reduceAdd, Int.reduceLT, Int.reduceLE, Nat.reduceMul, a0, a1, h, e1])
set_option maxRecDepth 100000 in
theorem hasPrefix73 (s p : Bs) (hs : s.length ≤ 1000000) (hp : p.length ≤ 1000000) : PC Tryz.prog G0 73 [.str s, .str p] (.bool (p.isPrefixOf s)) := by
 rw [prefix_iff]
 by_cases h : p.length ≤ s.length
 ·refine pc_go 0 18 [.tmp 4] Tryz.func73 rfl rfl rfl (by simp) ?_
  intro s ⟨a0, a1, hz⟩
  simp only [Nat.zero_add, Nat.reduceAdd] at a1
  clear hz
  repeat' (first|(first|(refine a0_ ?_; first|refine a1_ rfl rfl ?_|refine a2_ rfl ?_|refine a3_ rfl rfl ?_|refine a4_ rfl ?_|refine a5_ rfl rfl rfl ?_|refine a6_ rfl rfl ?_)|(refine g0_ ?_; first|refine g1_ rfl ?_|refine g2_ rfl rfl ?_|refine go_draw (dr := allQ) rfl rfl mixed (by first|assumption|kernel_rfl) ?_|refine g4_ rfl ?_|refine g5_ rfl ?_|refine g6_ rfl ?_|refine g7_ rfl ?_|refine g8_ rfl ?_)|(refine o0_ ?_; first|refine o1_ ?_|refine o2_ ?_|refine o3_ ?_|refine o4_ ?_|refine o5_ ?_|refine o6_ rfl ?_|refine o7_ rfl ?_|refine o8_ ?_|refine o9_ ?_|refine oa_ ?_|refine ob_ ?_|refine oc_ ?_|refine od_ ?_|refine oe_ ?_|refine of_ ?_|refine og_ ?_))|refine at_go ?_|(with_reducible refine And.intro (at_go ?_) (at_go ?_))|((with_reducible refine And.intro (fun h => ?_) (fun h => ?_)) <;> try (exfalso; omega))|(with_reducible refine And.intro (by first|omega|(simp only [maxLen]; omega)) ?_)|fail|simp (disch := first|omega|(simp only [List.length_nil, List.length_set, List.length_reverse, List.length_replicate, List.length_append, List.length_cons, List.length_nil, List.length_map]; omega)) only [push_cast, ↓reduceIte, reduceIte, reduceCtorEq, Nat.reduceAdd, Nat.reduceLT, Nat.reduceEqDiff, Nat.reduceLeDiff, Int.reduceAdd, Int.reduceLT, Int.reduceLE, Nat.reduceMul, a0, a1, h])
 ·have e1 : ¬ (p.length : Int) ≤ s.length := by omega
  refine pc_go 0 18 [.tmp 4] Tryz.func73 rfl rfl rfl (by simp) ?_
  intro s ⟨a0, a1, hz⟩
  simp only [Nat.zero_add, Nat.reduceAdd] at a1
  clear hz
  repeat' (first|(first|(refine a0_ ?_; first|refine a1_ rfl rfl ?_|refine a2_ rfl ?_|refine a3_ rfl rfl ?_|refine a4_ rfl ?_|refine a5_ rfl rfl rfl ?_|refine a6_ rfl rfl ?_)|(refine g0_ ?_; first|refine g1_ rfl ?_|refine g2_ rfl rfl ?_|refine go_draw (dr := allQ) rfl rfl mixed (by first|assumption|kernel_rfl) ?_|refine g4_ rfl ?_|refine g5_ rfl ?_|refine g6_ rfl ?_|refine g7_ rfl ?_|refine g8_ rfl ?_)|(refine o0_ ?_; first|refine o1_ ?_|refine o2_ ?_|refine o3_ ?_|refine o4_ ?_|refine o5_ ?_|refine o6_ rfl ?_|refine o7_ rfl ?_|refine o8_ ?_|refine o9_ ?_|refine oa_ ?_|refine ob_ ?_|refine oc_ ?_|refine od_ ?_|refine oe_ ?_|refine of_ ?_|refine og_ ?_))|refine at_go ?_|(with_reducible refine And.intro (at_go ?_) (at_go ?_))|((with_reducible refine And.intro (fun h => ?_) (fun h => ?_)) <;> try (exfalso; omega))|(with_reducible refine And.intro (by first|omega|(simp only [maxLen]; omega)) ?_)|fail|simp (disch := first|omega|(simp only [List.length_nil, List.length_set, List.length_reverse, List.length_replicate, List.length_append, List.length_cons, List.length_nil, List.length_map]; omega)) only [push_cast, ↓reduceIte, reduceIte, reduceCtorEq, Nat.reduceAdd, Nat.reduceLT, Nat.reduceEqDiff, Nat.reduceLeDiff, Int.reduceAdd, Int.reduceLT, Int.reduceLE, Nat.reduceMul, a0, a1, h, e1])
def cutSuf (s p : Bs) : Bs × Bool := if p.isSuffixOf s = true then (s.take (s.length - p.length), true) else (s, false)
def cutPre (s p : Bs) : Bs × Bool := if p.isPrefixOf s = true then (s.drop p.length, true) else (s, false)
set_option maxRecDepth 100000 in
theorem cutSuffix51 (s p : Bs) (hs : s.length ≤ 1000000) (hp : p.length ≤ 1000000) : PC Tryz.prog G0 51 [.str s, .str p] (.tup [.str (cutSuf s p).1, .bool (cutSuf s p).2]) := by
 have h1 := hasSuffix72 s p hs hp
 unfold cutSuf
 cases h : p.isSuffixOf s with
 | true =>
  rw [h] at h1
  have hl : p.length ≤ s.length := by
   rw [suffix_iff, Bool.and_eq_true] at h; simpa using h.1
  have e1 : ((s.length : Int) - p.length).toNat = s.length - p.length := by omega
  refine pc_go 0 18 [.tmp 4, .tmp 5] Tryz.func51 rfl rfl rfl (by simp) ?_
  intro s ⟨a0, a1, hz⟩
  simp only [Nat.zero_add, Nat.reduceAdd] at a1
  clear hz
  repeat' (first|(first|(refine a0_ ?_; first|refine a1_ rfl rfl ?_|refine a2_ rfl ?_|refine a3_ rfl rfl ?_|refine a4_ rfl ?_|refine a5_ rfl rfl rfl ?_|refine a6_ rfl rfl ?_)|(refine g0_ ?_; first|refine g1_ rfl ?_|refine g2_ rfl rfl ?_|refine go_draw (dr := allQ) rfl rfl mixed (by first|assumption|kernel_rfl) ?_|refine g4_ rfl ?_|refine g5_ rfl ?_|refine g6_ rfl ?_|refine g7_ rfl ?_|refine g8_ rfl ?_)|(refine o0_ ?_; first|refine o1_ ?_|refine o2_ ?_|refine o3_ ?_|refine o4_ ?_|refine o5_ ?_|refine o6_ rfl ?_|refine o7_ rfl ?_|refine o8_ ?_|refine o9_ ?_|refine oa_ ?_|refine ob_ ?_|refine oc_ ?_|refine od_ ?_|refine oe_ ?_|refine of_ ?_|refine og_ ?_))|refine at_go ?_|(with_reducible refine And.intro (at_go ?_) (at_go ?_))|((with_reducible refine And.intro (fun h => ?_) (fun h => ?_)) <;> try (exfalso; omega))|(with_reducible refine And.intro (by first|omega|(simp only [maxLen]; omega)) ?_)|(first|(refine ⟨_, _, pc_lift (h1) (by (simp [idsL, idsE, AV.ids, Nat.add_zero])) _, ?_⟩)|(refine ⟨_, pc_lift (h1) (by (simp [idsL, idsE, AV.ids, Nat.add_zero])) _, ?_⟩)|(refine ⟨_, fun _ => pc_lift (h1) (by (simp [idsL, idsE, AV.ids, Nat.add_zero])) _, ?_⟩))|simp (disch := first|omega|(simp only [List.length_nil, List.length_set, List.length_reverse, List.length_replicate, List.length_append, List.length_cons, List.length_nil, List.length_map]; omega)) only [push_cast, ↓reduceIte, reduceIte, reduceCtorEq, Nat.reduceAdd, Nat.reduceLT, Nat.reduceEqDiff, Nat.reduceLeDiff, Int.reduceAdd, Int.reduceLT, Int.reduceLE, Nat.reduceMul, a0, a1, e1])
  all_goals omega
 | false =>
  rw [h] at h1
  refine pc_go 0 18 [.tmp 4, .tmp 5] Tryz.func51 rfl rfl rfl (by simp) ?_
  intro s ⟨a0, a1, hz⟩
  simp only [Nat.zero_add, Nat.reduceAdd] at a1
  clear hz
  repeat' (first|(first|(refine a0_ ?_; first|refine a1_ rfl rfl ?_|refine a2_ rfl ?_|refine a3_ rfl rfl ?_|refine a4_ rfl ?_|refine a5_ rfl rfl rfl ?_|refine a6_ rfl rfl ?_)|(refine g0_ ?_; first|refine g1_ rfl ?_|refine g2_ rfl rfl ?_|refine go_draw (dr := allQ) rfl rfl mixed (by first|assumption|kernel_rfl) ?_|refine g4_ rfl ?_|refine g5_ rfl ?_|refine g6_ rfl ?_|refine g7_ rfl ?_|refine g8_ rfl ?_)|(refine o0_ ?_; first|refine o1_ ?_|refine o2_ ?_|refine o3_ ?_|refine o4_ ?_|refine o5_ ?_|refine o6_ rfl ?_|refine o7_ rfl ?_|refine o8_ ?_|refine o9_ ?_|refine oa_ ?_|refine ob_ ?_|refine oc_ ?_|refine od_ ?_|refine oe_ ?_|refine of_ ?_|refine og_ ?_))|refine at_go ?_|(with_reducible refine And.intro (at_go ?_) (at_go ?_))|((with_reducible refine And.intro (fun h => ?_) (fun h => ?_)) <;> try (exfalso; omega))|(with_reducible refine And.intro (by first|omega|(simp only [maxLen]; omega)) ?_)|(first|(refine ⟨_, _, pc_lift (h1) (by (simp [idsL, idsE, AV.ids, Nat.add_zero])) _, ?_⟩)|(refine ⟨_, pc_lift (h1) (by (simp [idsL, idsE, AV.ids, Nat.add_zero])) _, ?_⟩)|(refine ⟨_, fun _ => pc_lift (h1) (by (simp [idsL, idsE, AV.ids, Nat.add_zero])) _, ?_⟩))|simp (disch := first|omega|(simp only [List.length_nil, List.length_set, List.length_reverse, List.length_replicate, List.length_append, List.length_cons, List.length_nil, List.length_map]; omega)) only [push_cast, ↓reduceIte, reduceIte, reduceCtorEq, Nat.reduceAdd, Nat.reduceLT, Nat.reduceEqDiff, Nat.reduceLeDiff, Int.reduceAdd, Int.reduceLT, Int.reduceLE, Nat.reduceMul, a0, a1])
set_option maxRecDepth 100000 in
theorem cutPrefix52 (s p : Bs) (hs : s.length ≤ 1000000) (hp : p.length ≤ 1000000) : PC Tryz.prog G0 52 [.str s, .str p] (.tup [.str (cutPre s p).1, .bool (cutPre s p).2]) := by
 have h1 := hasPrefix73 s p hs hp
 unfold cutPre
 cases h : p.isPrefixOf s with
 | true =>
  rw [h] at h1
  have hl : p.length ≤ s.length := by
   rw [prefix_iff, Bool.and_eq_true] at h; simpa using h.1
  refine pc_go 0 15 [.tmp 4, .tmp 5] Tryz.func52 rfl rfl rfl (by simp) ?_
  intro s ⟨a0, a1, hz⟩
  simp only [Nat.zero_add, Nat.reduceAdd] at a1
  clear hz
  repeat' (first|(first|(refine a0_ ?_; first|refine a1_ rfl rfl ?_|refine a2_ rfl ?_|refine a3_ rfl rfl ?_|refine a4_ rfl ?_|refine a5_ rfl rfl rfl ?_|refine a6_ rfl rfl ?_)|(refine g0_ ?_; first|refine g1_ rfl ?_|refine g2_ rfl rfl ?_|refine go_draw (dr := allQ) rfl rfl mixed (by first|assumption|kernel_rfl) ?_|refine g4_ rfl ?_|refine g5_ rfl ?_|refine g6_ rfl ?_|refine g7_ rfl ?_|refine g8_ rfl ?_)|(refine o0_ ?_; first|refine o1_ ?_|refine o2_ ?_|refine o3_ ?_|refine o4_ ?_|refine o5_ ?_|refine o6_ rfl ?_|refine o7_ rfl ?_|refine o8_ ?_|refine o9_ ?_|refine oa_ ?_|refine ob_ ?_|refine oc_ ?_|refine od_ ?_|refine oe_ ?_|refine of_ ?_|refine og_ ?_))|refine at_go ?_|(with_reducible refine And.intro (at_go ?_) (at_go ?_))|((with_reducible refine And.intro (fun h => ?_) (fun h => ?_)) <;> try (exfalso; omega))|(with_reducible refine And.intro (by first|omega|(simp only [maxLen]; omega)) ?_)|(first|(refine ⟨_, _, pc_lift (h1) (by (simp [idsL, idsE, AV.ids, Nat.add_zero])) _, ?_⟩)|(refine ⟨_, pc_lift (h1) (by (simp [idsL, idsE, AV.ids, Nat.add_zero])) _, ?_⟩)|(refine ⟨_, fun _ => pc_lift (h1) (by (simp [idsL, idsE, AV.ids, Nat.add_zero])) _, ?_⟩))|simp (disch := first|omega|(simp only [List.length_nil, List.length_set, List.length_reverse, List.length_replicate, List.length_append, List.length_cons, List.length_nil, List.length_map]; omega)) only [push_cast, ↓reduceIte, reduceIte, reduceCtorEq, Nat.reduceAdd, Nat.reduceLT, Nat.reduceEqDiff, Nat.reduceLeDiff, Int.reduceAdd, Int.reduceLT, Int.reduceLE, Nat.reduceMul, a0, a1])
  all_goals omega
 | false =>
  rw [h] at h1
  refine pc_go 0 15 [.tmp 4, .tmp 5] Tryz.func52 rfl rfl rfl (by simp) ?_
  intro s ⟨a0, a1, hz⟩
  simp only [Nat.zero_add, Nat.reduceAdd] at a1
  clear hz
  repeat' (first|(first|(refine a0_ ?_; first|refine a1_ rfl rfl ?_|refine a2_ rfl ?_|refine a3_ rfl rfl ?_|refine a4_ rfl ?_|refine a5_ rfl rfl rfl ?_|refine a6_ rfl rfl ?_)|(refine g0_ ?_; first|refine g1_ rfl ?_|refine g2_ rfl rfl ?_|refine go_draw (dr := allQ) rfl rfl mixed (by first|assumption|kernel_rfl) ?_|refine g4_ rfl ?_|refine g5_ rfl ?_|refine g6_ rfl ?_|refine g7_ rfl ?_|refine g8_ rfl ?_)|(refine o0_ ?_; first|refine o1_ ?_|refine o2_ ?_|refine o3_ ?_|refine o4_ ?_|refine o5_ ?_|refine o6_ rfl ?_|refine o7_ rfl ?_|refine o8_ ?_|refine o9_ ?_|refine oa_ ?_|refine ob_ ?_|refine oc_ ?_|refine od_ ?_|refine oe_ ?_|refine of_ ?_|refine og_ ?_))|refine at_go ?_|(with_reducible refine And.intro (at_go ?_) (at_go ?_))|((with_reducible refine And.intro (fun h => ?_) (fun h => ?_)) <;> try (exfalso; omega))|(with_reducible refine And.intro (by first|omega|(simp only [maxLen]; omega)) ?_)|(first|(refine ⟨_, _, pc_lift (h1) (by (simp [idsL, idsE, AV.ids, Nat.add_zero])) _, ?_⟩)|(refine ⟨_, pc_lift (h1) (by (simp [idsL, idsE, AV.ids, Nat.add_zero])) _, ?_⟩)|(refine ⟨_, fun _ => pc_lift (h1) (by (simp [idsL, idsE, AV.ids, Nat.add_zero])) _, ?_⟩))|simp (disch := first|omega|(simp only [List.length_nil, List.length_set, List.length_reverse, List.length_replicate, List.length_append, List.length_cons, List.length_nil, List.length_map]; omega)) only [push_cast, ↓reduceIte, reduceIte, reduceCtorEq, Nat.reduceAdd, Nat.reduceLT, Nat.reduceEqDiff, Nat.reduceLeDiff, Int.reduceAdd, Int.reduceLT, Int.reduceLE, Nat.reduceMul, a0, a1])
set_option maxRecDepth 100000 in
theorem cutSuffix25 (s p : Bs) (hs : s.length ≤ 1000000) (hp : p.length ≤ 1000000) : PC Tryz.prog G0 25 [.str s, .str p] (.tup [.str (cutSuf s p).1, .bool (cutSuf s p).2]) := by
 have h1 := cutSuffix51 s p hs hp
 generalize cutSuf s p = c at *
 refine pc_go 0 11 [.tmp 4, .tmp 5] Tryz.func25 rfl rfl rfl (by simp) ?_
 intro s ⟨a0, a1, hz⟩
 simp only [Nat.zero_add, Nat.reduceAdd] at a1
 clear hz
 repeat' (first|(first|(refine a0_ ?_; first|refine a1_ rfl rfl ?_|refine a2_ rfl ?_|refine a3_ rfl rfl ?_|refine a4_ rfl ?_|refine a5_ rfl rfl rfl ?_|refine a6_ rfl rfl ?_)|(refine g0_ ?_; first|refine g1_ rfl ?_|refine g2_ rfl rfl ?_|refine go_draw (dr := allQ) rfl rfl mixed (by first|assumption|kernel_rfl) ?_|refine g4_ rfl ?_|refine g5_ rfl ?_|refine g6_ rfl ?_|refine g7_ rfl ?_|refine g8_ rfl ?_)|(refine o0_ ?_; first|refine o1_ ?_|refine o2_ ?_|refine o3_ ?_|refine o4_ ?_|refine o5_ ?_|refine o6_ rfl ?_|refine o7_ rfl ?_|refine o8_ ?_|refine o9_ ?_|refine oa_ ?_|refine ob_ ?_|refine oc_ ?_|refine od_ ?_|refine oe_ ?_|refine of_ ?_|refine og_ ?_))|refine at_go ?_|(with_reducible refine And.intro (at_go ?_) (at_go ?_))|((with_reducible refine And.intro (fun h => ?_) (fun h => ?_)) <;> try (exfalso; omega))|(with_reducible refine And.intro (by first|omega|(simp only [maxLen]; omega)) ?_)|(first|(refine ⟨_, _, pc_lift (h1) (by (simp [idsL, idsE, AV.ids, Nat.add_zero])) _, ?_⟩)|(refine ⟨_, pc_lift (h1) (by (simp [idsL, idsE, AV.ids, Nat.add_zero])) _, ?_⟩)|(refine ⟨_, fun _ => pc_lift (h1) (by (simp [idsL, idsE, AV.ids, Nat.add_zero])) _, ?_⟩))|simp (disch := first|omega|(simp only [List.length_nil, List.length_set, List.length_reverse, List.length_replicate, List.length_append, List.length_cons, List.length_nil, List.length_map]; omega)) only [push_cast, ↓reduceIte, reduceIte, reduceCtorEq, Nat.reduceAdd, Nat.reduceLT, Nat.reduceEqDiff, Nat.reduceLeDiff, Int.reduceAdd, Int.reduceLT, Int.reduceLE, Nat.reduceMul, a0, a1])
set_option maxRecDepth 100000 in
theorem cutPrefix26 (s p : Bs) (hs : s.length ≤ 1000000) (hp : p.length ≤ 1000000) : PC Tryz.prog G0 26 [.str s, .str p] (.tup [.str (cutPre s p).1, .bool (cutPre s p).2]) := by
 have h1 := cutPrefix52 s p hs hp
 generalize cutPre s p = c at *
 refine pc_go 0 11 [.tmp 4, .tmp 5] Tryz.func26 rfl rfl rfl (by simp) ?_
 intro s ⟨a0, a1, hz⟩
 simp only [Nat.zero_add, Nat.reduceAdd] at a1
 clear hz
 repeat' (first|(first|(refine a0_ ?_; first|refine a1_ rfl rfl ?_|refine a2_ rfl ?_|refine a3_ rfl rfl ?_|refine a4_ rfl ?_|refine a5_ rfl rfl rfl ?_|refine a6_ rfl rfl ?_)|(refine g0_ ?_; first|refine g1_ rfl ?_|refine g2_ rfl rfl ?_|refine go_draw (dr := allQ) rfl rfl mixed (by first|assumption|kernel_rfl) ?_|refine g4_ rfl ?_|refine g5_ rfl ?_|refine g6_ rfl ?_|refine g7_ rfl ?_|refine g8_ rfl ?_)|(refine o0_ ?_; first|refine o1_ ?_|refine o2_ ?_|refine o3_ ?_|refine o4_ ?_|refine o5_ ?_|refine o6_ rfl ?_|refine o7_ rfl ?_|refine o8_ ?_|refine o9_ ?_|refine oa_ ?_|refine ob_ ?_|refine oc_ ?_|refine od_ ?_|refine oe_ ?_|refine of_ ?_|refine og_ ?_))|refine at_go ?_|(with_reducible refine And.intro (at_go ?_) (at_go ?_))|((with_reducible refine And.intro (fun h => ?_) (fun h => ?_)) <;> try (exfalso; omega))|(with_reducible refine And.intro (by first|omega|(simp only [maxLen]; omega)) ?_)|(first|(refine ⟨_, _, pc_lift (h1) (by (simp [idsL, idsE, AV.ids, Nat.add_zero])) _, ?_⟩)|(refine ⟨_, pc_lift (h1) (by (simp [idsL, idsE, AV.ids, Nat.add_zero])) _, ?_⟩)|(refine ⟨_, fun _ => pc_lift (h1) (by (simp [idsL, idsE, AV.ids, Nat.add_zero])) _, ?_⟩))|simp (disch := first|omega|(simp only [List.length_nil, List.length_set, List.length_reverse, List.length_replicate, List.length_append, List.length_cons, List.length_nil, List.length_map]; omega)) only [push_cast, ↓reduceIte, reduceIte, reduceCtorEq, Nat.reduceAdd, Nat.reduceLT, Nat.reduceEqDiff, Nat.reduceLeDiff, Int.reduceAdd, Int.reduceLT, Int.reduceLE, Nat.reduceMul, a0, a1])
end Go.Proofs

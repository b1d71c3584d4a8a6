import Derived.Test.YtnlbodnipgkpaaaDoorC16
/- Classes: law 5 (the lattice), walked. -/
namespace Go.Proofs
open Go Go.V
set_option linter.unusedVariables false
set_option linter.unusedSimpArgs false
set_option maxHeartbeats 0
set_option maxRecDepth 100000
theorem count_ok {p : List Int} {c : Option Nat} (hp : Valid p) (hl : p.length ≤ 256) : PC Tryd.prog G0 22 [.sl 1 (ints p) c] (.int .i64 (countM p)) :=
  refCount22 p c (by omega) fun x hx => by have := valid_small hp hl x hx; omega
/-- The law of the lattice. -/
theorem law7 (x y w : Bt) (z1 z2 z3 : Nat) (c1 c2 c3 : Option Nat) (hz1 : x = [] ∨ z1 = 1) (hz2 : y = [] ∨ z2 = 1) (hz3 : w = [] ∨ z3 = 1) (hx : ∀ b ∈ x, b < 256) (hy : ∀ b ∈ y, b < 256) (hw : ∀ b ∈ w, b < 256) (hlx : x.length ≤ maxLen) (hly : y.length ≤ maxLen) (hlw : w.length ≤ maxLen) :
    PC Tryd.prog G0 7 [pA z1 x c1, pA z2 y c2, pA z3 w c3] (.bool true) := by
  have h15 := lives15
  have h25 := size25 x z1 c1
  have hn := sizeP_le x
  have o1 := of26 x z1 c1 (sizeP x) hz1 hx hlx (by omega)
  have o2 := of26 y z2 c2 (sizeP x) hz2 hy hly (by omega)
  have o3 := of26 w z3 c3 (sizeP x) hz3 hw hlw (by omega)
  have hp := ofP_valid x (sizeP x)
  have hq := ofP_valid y (sizeP x)
  have hr := ofP_valid w (sizeP x)
  have lp := ofP_len x (sizeP x)
  have lq := ofP_len y (sizeP x)
  have lr := ofP_len w (sizeP x)
  generalize ofP x (sizeP x) = p at *
  generalize ofP y (sizeP x) = q at *
  generalize ofP w (sizeP x) = r at *
  generalize sizeP x = n at *
  have e1 : p.length = q.length := by omega
  have e2 : q.length = r.length := by omega
  have la := length_meetM e1
  have lb := length_joinM p q
  have lmq := length_meetM e2
  have ljq := length_joinM q r
  have ha := meet_valid p q
  have hb := join_valid p q
  have hmq := meet_valid q r
  have hjq := join_valid q r
  have lma := length_meetM (p := meetM p q) (q := r) (by omega)
  have ljb := length_joinM (joinM p q) r
  have m1 := fun c d => meet_ok (c := c) (d := d) hp hq (by omega) (by omega)
  have m2 := fun c d => meet_ok (c := c) (d := d) hq hp (by omega) (by omega)
  rw [← meet_comm e1] at m2
  have m3 := fun c d => meet_ok (c := c) (d := d) hp hb (by omega) (by omega)
  rw [meet_join hp (q := q)] at m3
  have m4 := fun c d => meet_ok (c := c) (d := d) ha hr (by omega) (by omega)
  have m5 := fun c d => meet_ok (c := c) (d := d) hq hr (by omega) (by omega)
  have m6 := fun c d => meet_ok (c := c) (d := d) hp hmq (by omega) (by omega)
  rw [← meet_assoc e1 e2] at m6
  have j1 := fun c d => join_ok (c := c) (d := d) hp hq (by omega) (by omega)
  have j2 := fun c d => join_ok (c := c) (d := d) hq hp (by omega) (by omega)
  rw [← join_comm e1] at j2
  have j3 := fun c d => join_ok (c := c) (d := d) hp ha (by omega) (by omega)
  rw [join_meet hp e1] at j3
  have j4 := fun c d => join_ok (c := c) (d := d) hb hr (by omega) (by omega)
  have j5 := fun c d => join_ok (c := c) (d := d) hq hr (by omega) (by omega)
  have j6 := fun c d => join_ok (c := c) (d := d) hp hjq (by omega) (by omega)
  rw [← join_assoc e1 e2] at j6
  have f1 := fun c d => finer_ok (c := c) (d := d) hp hq (by omega) (by omega)
  have f2 := fun c d => finer_ok (c := c) (d := d) ha hp (by omega) (by omega)
  have f3 := fun c d => finer_ok (c := c) (d := d) hp hb (by omega) (by omega)
  rw [(finB_iff ha).2 (finer_low e1)] at f2
  rw [(finB_iff hp).2 finer_high] at f3
  have hf : finB p q = decide (meetM p q = p) := by
    rw [Bool.eq_iff_iff, finB_iff hp, finer_meet hp e1, decide_eq_true_eq]
  have hf2 : finB p q = decide (joinM p q = q) := by
    rw [Bool.eq_iff_iff, finB_iff hp, finer_join hq e1, decide_eq_true_eq]
  have s1 := fun c d => refSame30 (meetM p q) p c d (by omega) (by omega)
  have s2 := fun c d => refSame30 (joinM p q) q c d (by omega) (by omega)
  rw [← hf] at s1
  rw [← hf2] at s2
  have k1 := fun c => count_ok (c := c) ha (by omega)
  have k2 := fun c => count_ok (c := c) hb (by omega)
  have k3 := fun c => count_ok (c := c) hp (by omega)
  have c1' := count_finer ha hp (by omega) (finer_low e1)
  have c2' := count_finer hp hb (by omega) finer_high
  have t1 := fun d => list_same (meetM p q) 1 d (.inr rfl) (by omega)
  have t2 := fun d => list_same (joinM p q) 1 d (.inr rfl) (by omega)
  have t3 := fun d => list_same p 1 d (.inr rfl) (by omega)
  have t4 := fun d => list_same (meetM (meetM p q) r) 1 d (.inr rfl) (by omega)
  have t5 := fun d => list_same (joinM (joinM p q) r) 1 d (.inr rfl) (by omega)
  generalize finB p q = fb at *
  generalize meetM (meetM p q) r = mm at *
  generalize joinM (joinM p q) r = jj at *
  generalize meetM p q = a at *
  generalize joinM p q = b at *
  generalize meetM q r = mq at *
  generalize joinM q r = jq at *
  have g1 : (countM p : Int) ≤ countM a := by omega
  have g2 : (countM b : Int) ≤ countM p := by omega
  have gb : (fb == fb) = true := by simp
  unfold pA lstA at *
  refine pc_go 0 245 [.tmp 6] Tryd.func7 rfl rfl rfl (by simp) ?_
  intro s ⟨a0, a1, a2, hz⟩
  simp only [Nat.zero_add, Nat.reduceAdd] at a1 a2
  clear hz
  repeat' (first | (first | (refine a0_ ?_; first | refine a1_ rfl rfl ?_ | refine a2_ rfl ?_ | refine a3_ rfl rfl ?_ | refine a4_ rfl ?_ | refine a5_ rfl rfl rfl ?_ | refine a6_ rfl rfl ?_ | refine a7_ rfl rfl ?_ | refine a8_ rfl rfl ?_ | refine a9_ rfl rfl rfl ?_) | (refine g0_ ?_; first | refine g1_ rfl ?_ | refine g2_ rfl rfl ?_ | refine go_draw (dr := allQ) rfl rfl mixed (by first | assumption | kernel_rfl) ?_ | refine g4_ rfl ?_ | refine g5_ rfl ?_ | refine g6_ rfl ?_ | refine g7_ rfl ?_ | refine g8_ rfl ?_ | refine ga_ rfl ?_ | refine gb_ rfl ?_) | (refine o0_ ?_; first | refine o1_ ?_ | refine o2_ ?_ | refine o3_ ?_ | refine o4_ ?_ | refine o5_ ?_ | refine o6_ rfl ?_ | refine o7_ rfl ?_ | refine o8_ ?_ | refine o9_ ?_ | refine oa_ ?_ | refine ob_ ?_ | refine oc_ ?_ | refine od_ ?_ | refine oe_ ?_ | refine of_ ?_ | refine og_ ?_ | refine oh_ ?_ | refine oi_ ?_ | refine oj_ ?_ | refine ok_ ?_)) | refine at_go ?_ | (with_reducible refine And.intro (at_go ?_) (at_go ?_)) | ((with_reducible refine And.intro (fun h => ?_) (fun h => ?_)) <;> try (exfalso; omega)) | (with_reducible refine And.intro (by first | omega | (simp only [maxLen]; omega)) ?_) | (first | (refine ⟨_, _, pc_lift (h25) (by (simp [idsL, idsE, AV.ids, Nat.add_zero])) _, ?_⟩) | (refine ⟨_, pc_lift (h25) (by (simp [idsL, idsE, AV.ids, Nat.add_zero])) _, ?_⟩) | (refine ⟨_, fun _ => pc_lift (h25) (by (simp [idsL, idsE, AV.ids, Nat.add_zero])) _, ?_⟩) | (refine ⟨_, _, pc_lift (o1) (by (simp [idsL, idsE, AV.ids, Nat.add_zero])) _, ?_⟩) | (refine ⟨_, pc_lift (o1) (by (simp [idsL, idsE, AV.ids, Nat.add_zero])) _, ?_⟩) | (refine ⟨_, fun _ => pc_lift (o1) (by (simp [idsL, idsE, AV.ids, Nat.add_zero])) _, ?_⟩) | (refine ⟨_, _, pc_lift (o2) (by (simp [idsL, idsE, AV.ids, Nat.add_zero])) _, ?_⟩) | (refine ⟨_, pc_lift (o2) (by (simp [idsL, idsE, AV.ids, Nat.add_zero])) _, ?_⟩) | (refine ⟨_, fun _ => pc_lift (o2) (by (simp [idsL, idsE, AV.ids, Nat.add_zero])) _, ?_⟩) | (refine ⟨_, _, pc_lift (o3) (by (simp [idsL, idsE, AV.ids, Nat.add_zero])) _, ?_⟩) | (refine ⟨_, pc_lift (o3) (by (simp [idsL, idsE, AV.ids, Nat.add_zero])) _, ?_⟩) | (refine ⟨_, fun _ => pc_lift (o3) (by (simp [idsL, idsE, AV.ids, Nat.add_zero])) _, ?_⟩) | (refine ⟨_, _, pc_lift (m1 _ _) (by (simp [idsL, idsE, AV.ids, Nat.add_zero])) _, ?_⟩) | (refine ⟨_, pc_lift (m1 _ _) (by (simp [idsL, idsE, AV.ids, Nat.add_zero])) _, ?_⟩) | (refine ⟨_, fun _ => pc_lift (m1 _ _) (by (simp [idsL, idsE, AV.ids, Nat.add_zero])) _, ?_⟩) | (refine ⟨_, _, pc_lift (m2 _ _) (by (simp [idsL, idsE, AV.ids, Nat.add_zero])) _, ?_⟩) | (refine ⟨_, pc_lift (m2 _ _) (by (simp [idsL, idsE, AV.ids, Nat.add_zero])) _, ?_⟩) | (refine ⟨_, fun _ => pc_lift (m2 _ _) (by (simp [idsL, idsE, AV.ids, Nat.add_zero])) _, ?_⟩) | (refine ⟨_, _, pc_lift (m3 _ _) (by (simp [idsL, idsE, AV.ids, Nat.add_zero])) _, ?_⟩) | (refine ⟨_, pc_lift (m3 _ _) (by (simp [idsL, idsE, AV.ids, Nat.add_zero])) _, ?_⟩) | (refine ⟨_, fun _ => pc_lift (m3 _ _) (by (simp [idsL, idsE, AV.ids, Nat.add_zero])) _, ?_⟩) | (refine ⟨_, _, pc_lift (m4 _ _) (by (simp [idsL, idsE, AV.ids, Nat.add_zero])) _, ?_⟩) | (refine ⟨_, pc_lift (m4 _ _) (by (simp [idsL, idsE, AV.ids, Nat.add_zero])) _, ?_⟩) | (refine ⟨_, fun _ => pc_lift (m4 _ _) (by (simp [idsL, idsE, AV.ids, Nat.add_zero])) _, ?_⟩) | (refine ⟨_, _, pc_lift (m5 _ _) (by (simp [idsL, idsE, AV.ids, Nat.add_zero])) _, ?_⟩) | (refine ⟨_, pc_lift (m5 _ _) (by (simp [idsL, idsE, AV.ids, Nat.add_zero])) _, ?_⟩) | (refine ⟨_, fun _ => pc_lift (m5 _ _) (by (simp [idsL, idsE, AV.ids, Nat.add_zero])) _, ?_⟩) | (refine ⟨_, _, pc_lift (m6 _ _) (by (simp [idsL, idsE, AV.ids, Nat.add_zero])) _, ?_⟩) | (refine ⟨_, pc_lift (m6 _ _) (by (simp [idsL, idsE, AV.ids, Nat.add_zero])) _, ?_⟩) | (refine ⟨_, fun _ => pc_lift (m6 _ _) (by (simp [idsL, idsE, AV.ids, Nat.add_zero])) _, ?_⟩) | (refine ⟨_, _, pc_lift (j1 _ _) (by (simp [idsL, idsE, AV.ids, Nat.add_zero])) _, ?_⟩) | (refine ⟨_, pc_lift (j1 _ _) (by (simp [idsL, idsE, AV.ids, Nat.add_zero])) _, ?_⟩) | (refine ⟨_, fun _ => pc_lift (j1 _ _) (by (simp [idsL, idsE, AV.ids, Nat.add_zero])) _, ?_⟩) | (refine ⟨_, _, pc_lift (j2 _ _) (by (simp [idsL, idsE, AV.ids, Nat.add_zero])) _, ?_⟩) | (refine ⟨_, pc_lift (j2 _ _) (by (simp [idsL, idsE, AV.ids, Nat.add_zero])) _, ?_⟩) | (refine ⟨_, fun _ => pc_lift (j2 _ _) (by (simp [idsL, idsE, AV.ids, Nat.add_zero])) _, ?_⟩) | (refine ⟨_, _, pc_lift (j3 _ _) (by (simp [idsL, idsE, AV.ids, Nat.add_zero])) _, ?_⟩) | (refine ⟨_, pc_lift (j3 _ _) (by (simp [idsL, idsE, AV.ids, Nat.add_zero])) _, ?_⟩) | (refine ⟨_, fun _ => pc_lift (j3 _ _) (by (simp [idsL, idsE, AV.ids, Nat.add_zero])) _, ?_⟩) | (refine ⟨_, _, pc_lift (j4 _ _) (by (simp [idsL, idsE, AV.ids, Nat.add_zero])) _, ?_⟩) | (refine ⟨_, pc_lift (j4 _ _) (by (simp [idsL, idsE, AV.ids, Nat.add_zero])) _, ?_⟩) | (refine ⟨_, fun _ => pc_lift (j4 _ _) (by (simp [idsL, idsE, AV.ids, Nat.add_zero])) _, ?_⟩) | (refine ⟨_, _, pc_lift (j5 _ _) (by (simp [idsL, idsE, AV.ids, Nat.add_zero])) _, ?_⟩) | (refine ⟨_, pc_lift (j5 _ _) (by (simp [idsL, idsE, AV.ids, Nat.add_zero])) _, ?_⟩) | (refine ⟨_, fun _ => pc_lift (j5 _ _) (by (simp [idsL, idsE, AV.ids, Nat.add_zero])) _, ?_⟩) | (refine ⟨_, _, pc_lift (j6 _ _) (by (simp [idsL, idsE, AV.ids, Nat.add_zero])) _, ?_⟩) | (refine ⟨_, pc_lift (j6 _ _) (by (simp [idsL, idsE, AV.ids, Nat.add_zero])) _, ?_⟩) | (refine ⟨_, fun _ => pc_lift (j6 _ _) (by (simp [idsL, idsE, AV.ids, Nat.add_zero])) _, ?_⟩) | (refine ⟨_, _, pc_lift (t1 _) (by (simp [idsL, idsE, AV.ids, Nat.add_zero])) _, ?_⟩) | (refine ⟨_, pc_lift (t1 _) (by (simp [idsL, idsE, AV.ids, Nat.add_zero])) _, ?_⟩) | (refine ⟨_, fun _ => pc_lift (t1 _) (by (simp [idsL, idsE, AV.ids, Nat.add_zero])) _, ?_⟩) | (refine ⟨_, _, pc_lift (t2 _) (by (simp [idsL, idsE, AV.ids, Nat.add_zero])) _, ?_⟩) | (refine ⟨_, pc_lift (t2 _) (by (simp [idsL, idsE, AV.ids, Nat.add_zero])) _, ?_⟩) | (refine ⟨_, fun _ => pc_lift (t2 _) (by (simp [idsL, idsE, AV.ids, Nat.add_zero])) _, ?_⟩) | (refine ⟨_, _, pc_lift (t3 _) (by (simp [idsL, idsE, AV.ids, Nat.add_zero])) _, ?_⟩) | (refine ⟨_, pc_lift (t3 _) (by (simp [idsL, idsE, AV.ids, Nat.add_zero])) _, ?_⟩) | (refine ⟨_, fun _ => pc_lift (t3 _) (by (simp [idsL, idsE, AV.ids, Nat.add_zero])) _, ?_⟩) | (refine ⟨_, _, pc_lift (t4 _) (by (simp [idsL, idsE, AV.ids, Nat.add_zero])) _, ?_⟩) | (refine ⟨_, pc_lift (t4 _) (by (simp [idsL, idsE, AV.ids, Nat.add_zero])) _, ?_⟩) | (refine ⟨_, fun _ => pc_lift (t4 _) (by (simp [idsL, idsE, AV.ids, Nat.add_zero])) _, ?_⟩) | (refine ⟨_, _, pc_lift (t5 _) (by (simp [idsL, idsE, AV.ids, Nat.add_zero])) _, ?_⟩) | (refine ⟨_, pc_lift (t5 _) (by (simp [idsL, idsE, AV.ids, Nat.add_zero])) _, ?_⟩) | (refine ⟨_, fun _ => pc_lift (t5 _) (by (simp [idsL, idsE, AV.ids, Nat.add_zero])) _, ?_⟩) | (refine ⟨_, _, pc_lift (f1 _ _) (by (simp [idsL, idsE, AV.ids, Nat.add_zero])) _, ?_⟩) | (refine ⟨_, pc_lift (f1 _ _) (by (simp [idsL, idsE, AV.ids, Nat.add_zero])) _, ?_⟩) | (refine ⟨_, fun _ => pc_lift (f1 _ _) (by (simp [idsL, idsE, AV.ids, Nat.add_zero])) _, ?_⟩) | (refine ⟨_, _, pc_lift (f2 _ _) (by (simp [idsL, idsE, AV.ids, Nat.add_zero])) _, ?_⟩) | (refine ⟨_, pc_lift (f2 _ _) (by (simp [idsL, idsE, AV.ids, Nat.add_zero])) _, ?_⟩) | (refine ⟨_, fun _ => pc_lift (f2 _ _) (by (simp [idsL, idsE, AV.ids, Nat.add_zero])) _, ?_⟩) | (refine ⟨_, _, pc_lift (f3 _ _) (by (simp [idsL, idsE, AV.ids, Nat.add_zero])) _, ?_⟩) | (refine ⟨_, pc_lift (f3 _ _) (by (simp [idsL, idsE, AV.ids, Nat.add_zero])) _, ?_⟩) | (refine ⟨_, fun _ => pc_lift (f3 _ _) (by (simp [idsL, idsE, AV.ids, Nat.add_zero])) _, ?_⟩) | (refine ⟨_, _, pc_lift (k1 _) (by (simp [idsL, idsE, AV.ids, Nat.add_zero])) _, ?_⟩) | (refine ⟨_, pc_lift (k1 _) (by (simp [idsL, idsE, AV.ids, Nat.add_zero])) _, ?_⟩) | (refine ⟨_, fun _ => pc_lift (k1 _) (by (simp [idsL, idsE, AV.ids, Nat.add_zero])) _, ?_⟩) | (refine ⟨_, _, pc_lift (k2 _) (by (simp [idsL, idsE, AV.ids, Nat.add_zero])) _, ?_⟩) | (refine ⟨_, pc_lift (k2 _) (by (simp [idsL, idsE, AV.ids, Nat.add_zero])) _, ?_⟩) | (refine ⟨_, fun _ => pc_lift (k2 _) (by (simp [idsL, idsE, AV.ids, Nat.add_zero])) _, ?_⟩) | (refine ⟨_, _, pc_lift (k3 _) (by (simp [idsL, idsE, AV.ids, Nat.add_zero])) _, ?_⟩) | (refine ⟨_, pc_lift (k3 _) (by (simp [idsL, idsE, AV.ids, Nat.add_zero])) _, ?_⟩) | (refine ⟨_, fun _ => pc_lift (k3 _) (by (simp [idsL, idsE, AV.ids, Nat.add_zero])) _, ?_⟩) | (refine ⟨_, _, pc_lift (s1 _ _) (by (simp [idsL, idsE, AV.ids, Nat.add_zero])) _, ?_⟩) | (refine ⟨_, pc_lift (s1 _ _) (by (simp [idsL, idsE, AV.ids, Nat.add_zero])) _, ?_⟩) | (refine ⟨_, fun _ => pc_lift (s1 _ _) (by (simp [idsL, idsE, AV.ids, Nat.add_zero])) _, ?_⟩) | (refine ⟨_, _, pc_lift (s2 _ _) (by (simp [idsL, idsE, AV.ids, Nat.add_zero])) _, ?_⟩) | (refine ⟨_, pc_lift (s2 _ _) (by (simp [idsL, idsE, AV.ids, Nat.add_zero])) _, ?_⟩) | (refine ⟨_, fun _ => pc_lift (s2 _ _) (by (simp [idsL, idsE, AV.ids, Nat.add_zero])) _, ?_⟩) | (refine ⟨_, _, pc_lift (h15) (by (simp [idsL, idsE, AV.ids, Nat.add_zero])) _, ?_⟩) | (refine ⟨_, pc_lift (h15) (by (simp [idsL, idsE, AV.ids, Nat.add_zero])) _, ?_⟩) | (refine ⟨_, fun _ => pc_lift (h15) (by (simp [idsL, idsE, AV.ids, Nat.add_zero])) _, ?_⟩)) | simp (disch := first | omega | (simp only [length_ints, length_natsI, length_prs, length_u8s, List.length_set, List.length_reverse, List.length_replicate, List.length_append, List.length_cons, List.length_nil, List.length_map]; omega)) only [push_cast, ↓reduceIte, reduceIte, reduceCtorEq, Nat.reduceAdd, Nat.reduceLT, Nat.reduceEqDiff, Nat.reduceLeDiff, Int.reduceAdd, Int.reduceLT, Int.reduceLE, Nat.reduceMul, a0, a1, a2, g1, g2, gb])
end Go.Proofs

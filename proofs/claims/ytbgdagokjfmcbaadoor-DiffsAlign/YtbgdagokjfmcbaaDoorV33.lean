import Derived.Test.YtbgdagokjfmcbaaDoorV29
import Derived.Lib.LaidTab
import Derived.Lib.ItoaNum
import Derived.Lib.AtoiAll
import Derived.Lib.AtoiErrMem
import Derived.Lib.Split
import Derived.Lib.SplitLaws
import Derived.Lib.Join
import Derived.Sort.Grow
import Derived.Below
set_option linter.unusedVariables false
set_option linter.unusedSimpArgs false
namespace Go.V
open Go Go.RowKit
def Iter (P : Program) (G : Glob) (g : FuncId) (cap : List AV) (x : Nat → List AV) (N : Nat) : Prop :=
 ∀ (K : Nat → List Blk) (b m : Nat) (stop : Bool), (stop = true → m < N) → (stop = false → m = N) →
  (∀ i, i < m → wX0 P G b (x i) (K i) (.bool true) (K (i + 1))) → (stop = true → wX0 P G b (x m) (K m) (.bool false) (K (m + 1))) →
  qg0 P G g (.yld b :: cap) (K 0) (.tup []) (K (if stop = true then m + 1 else m))
def wcW9 (P : Program) (G : Glob) (g : FuncId) (cap : List AV) (x : Nat → List AV) (N : Nat) : Prop :=
 ∀ (K : Nat → List Blk) (b m : Nat) (stop : Bool), (∀ i, (K i).length = b + 1 ∧ (K i).all (Blk.below b) = true) → (stop = true → m < N) → (stop = false → m = N) →
  (∀ i, i < m → wX0 P G b (x i) (K i) (.bool true) (K (i + 1))) → (stop = true → wX0 P G b (x m) (K m) (.bool false) (K (m + 1))) →
  qg0 P G g (.yld b :: cap) (K 0) (.tup []) (K (if stop = true then m + 1 else m))
theorem Iter.toF {P : Program} {G : Glob} {g : FuncId} {cap : List AV} {x : Nat → List AV} {N : Nat} (h : Iter P G g cap x N) : wcW9 P G g cap x N := fun K b m stop _ => h K b m stop
section
variable {P : Program} {G : Glob}
theorem zbG9 {E : Env} {a : List AV} {vs : List Value} (k : Nat) (h : RelL E a vs) : RelL E (a.map (qe0 k)) vs := by
 refine RelL.mk (by simpa using h.length) fun i x v hx hv => ?_;rw [List.getElem?_map] at hx;cases hy : a[i]? with
 | none => rw [hy] at hx; cases hx
 | some y =>
  rw [hy] at hx;simp only [Option.map_some, Option.some.injEq] at hx;subst hx;obtain ⟨v', hv', hr⟩ := h.get hy;rw [hv] at hv'; injection hv' with hv'; subst hv'
  unfold qe0;split
  ·exact hr
  ·simp [Rel]
theorem kas9 (k : Nat) (a : List AV) : idsL (fun b => decide (b < k)) (a.map (qe0 k)) = true := by
 rw [qY0];intro x hx;obtain ⟨y, _, rfl⟩ := List.mem_map.1 hx;unfold qe0;split
 ·assumption
 ·rfl
theorem vaL9 {n0 k m N : Nat} {gf : FuncId} {g : Operand} {ps : Array Tmp} {assign body : Code} {a cap : List AV} {H : List Blk} {x : Nat → List AV} {Q : Post} {e : Exit} (Hs : Nat → List Blk)
  (hg : (ev G a g).strip = .fn gf cap) (hgk : (ev G a g).ok = true) (hent : zc0 P gf = true) (hit : wcW9 P G gf cap x N)
  (hk : H.length = k) (h0 : Hs 0 = H) (hlen : ∀ i, (Hs i).length = k) (hbel : ∀ i, (Hs i).all (Blk.below k) = true)
  (hx : ∀ i, idsL kX0 (x i) = true ∧ (x i).length = ps.size)
  (hm1 : (xh0 e).isSome = true → m < N) (hm2 : (xh0 e).isSome = false → m = N) (he : xZ0 e = true)
  (hround : ∀ i, i < m → AWp true P G k assign (qbj9 (AWp true P G k body (fun e' a' H' => e' = .normal ∧ H'.take k = Hs (i + 1))) (fun _ _ _ => False)) (setA ps.toList (x i) (a.map (qe0 k))) (Hs i))
  (hlast : (xh0 e).isSome = true → AWp true P G k assign (qbj9 (AWp true P G k body (fun e' a' H' => e' = e ∧ H'.take k = Hs (m + 1))) (fun _ _ _ => False)) (setA ps.toList (x m) (a.map (qe0 k))) (Hs m))
  (hQ : Q e a (Hs (if (xh0 e).isSome = true then m + 1 else m))) : AWp false P G n0 (.rangeFunc g ps assign body) Q a H := by
 intro ro S act hro hok hG hn ha;have hro : ro = none := by cases ro with|none => rfl|some l => cases hro
 subst hro; subst hk;refine wpIn_rangeFunc (F := fen none) (n := 0) fun fn hfn => ?_
 -- what is called
 have hfv := (zaU9 (act := act) hG ha g).strip hgk;rw [hg] at hfv;simp only [Rel] at hfv;obtain ⟨caps, hfe, hcap⟩ := hfv
 -- the record and the block for the deferred calls
 obtain ⟨D, hD⟩ : ∃ D, S.w.heap.size = D := ⟨_, rfl⟩;obtain ⟨R, hR⟩ : ∃ R : Nat → Obj, R = fun i => qt0 fn act.tmps ps assign body D (if i ≤ m then .ready else .done) (if i ≤ m then none else xh0 e) := ⟨_, rfl⟩;have hRr : ∀ i, i ≤ m → R i = qt0 fn act.tmps ps assign body D .ready none := fun i hi => by rw [hR]; simp [hi]
 have hRd : R (m + 1) = qt0 fn act.tmps ps assign body D .done (xh0 e) := by
  have : ¬ m + 1 ≤ m := by omega
  rw [hR]; simp only [if_neg this]
 obtain ⟨W1, hW1⟩ : ∃ W1, (S.w.alloc (.deferred (some []))).alloc (qt0 fn act.tmps ps assign body D .ready none) = W1 := ⟨_, rfl⟩;have hW1h : ∀ j, j < D → W1.heap[j]? = S.w.heap[j]? := fun j hj => by
  rw [← hW1]; exact (Below.heap_alloc _ _ _ (by simp; omega)).trans (Below.heap_alloc _ _ _ (by omega))
 have hW1s : W1.heap.size = D + 2 := by rw [← hW1]; simp; omega
 have hW1L : W1.heap[D + 1]? = some (qt0 fn act.tmps ps assign body D .ready none) := by
  rw [← hW1]; have := World.alloc_heap_new (S.w.alloc (.deferred (some []))) (qt0 fn act.tmps ps assign body D .ready none); rwa [World.size_alloc, hD] at this
 have hW1D : W1.heap[D]? = some (.deferred (some [])) := by
  rw [← hW1];have := World.alloc_heap_new S.w (.deferred (some []));rw [hD] at this;exact (Below.heap_alloc _ _ _ (by simp; omega)).trans this
 have hnf : ∀ j, D ≤ j → S.Free H j := fun j hj => ⟨fun ⟨b, hb⟩ => by have := qaj9 hok hb; omega, by
  cases hM : S.M j with
  | none => rfl
  | some o => have := M_lt hok (k := j) (by rw [hM]; simp); omega⟩
 let aS := a.map (qe0 H.length)
 let K : Nat → List Blk := fun i => Hs i ++ [.ob (.loop (R i) aS act.tmps.toList)]
 have hKl : ∀ i, (K i).length = H.length + 1 := fun i => by simp [K, hlen]
 let S1 : St := S.add H.length (D + 1) W1
 have hra : RelL (S.env H) aS act.tmps.toList := zbG9 _ ha;have hK0 : K 0 = H ++ [.ob (.loop (qt0 fn act.tmps ps assign body D .ready none) aS act.tmps.toList)] := by simp only [K]; rw [hRr 0 (Nat.zero_le _), h0]
 have hok1 : S1.Ok (K 0) := by
  rw [hK0];exact qcL9 hok (hnf _ (by omega)) (fun j hj _ => hW1h j (by omega)) hW1L hra
 have hown1 : ∀ j, S1.Owns (K 0) j → S.Owns H j ∨ j = D + 1 := fun j ⟨b, hb⟩ => by
  rw [hK0] at hb;rcases wJ0 hb with q|q
  ·rw [vaW9 q] at hb; exact .inl ⟨b, hb⟩
  ·rw [q, kN0] at hb; injection hb with hb; exact .inr hb.symm
 have hcalls : qg0 P G gf (.yld H.length :: cap) (K 0) (.tup []) (K (if (xh0 e).isSome = true then m + 1 else m)) := by
  refine hit K H.length m (xh0 e).isSome (fun i => ⟨hKl i, by simp only [K, aS]; rw [List.all_append, hbel i, List.all_cons]; simp only [Blk.below, kas9]; rfl⟩) hm1 hm2 (fun i hi => ?_) (fun hj => ?_)
  ·have := xS0 (fn := fn) (ts := act.tmps) (D := D) (e := .normal) (hround i hi) (hlen i) (hlen _) (hbel i) (hbel _) rfl (hx i).1 (kas9 _ _) (hx i).2;simp only [K];rw [hRr i (by omega), hRr (i + 1) (by omega)];exact this
  ·have := xS0 (fn := fn) (ts := act.tmps) (D := D) (hlast hj) (hlen m) (hlen _) (hbel m) (hbel _) he (hx m).1 (kas9 _ _) (hx m).2;have hn : (xh0 e).isNone = false := by
    cases hje : xh0 e with
    | none => rw [hje] at hj; cases hj
    | some c => rfl
   rw [hn] at this;simp only [K];rw [hRr m (Nat.le_refl _), hRd];exact this
 have hargs : RelL (S1.env (K 0)) (.yld H.length :: cap) (.func (.yield (D + 1)) #[] #[] :: caps) := by
  simp only [RelL];refine ⟨_, _, rfl, ?_, ?_⟩
  ·simp only [Rel];exact ⟨D + 1, by rw [hK0]; simp [St.env, mpOf, S1, St.add, qf0], rfl⟩
  ·rw [hK0]; exact RelL.mono wbW9 _ _ hcap
 have hcall := hcalls S1 _ hok1 hG hargs;generalize hmm : (if (xh0 e).isSome = true then m + 1 else m) = mm at hcall hQ;unfold zc0 at hent;split at hent
 ·rename_i fn' hfn';simp only [Bool.and_eq_true, bne_iff_ne, ne_eq, Option.isSome_iff_exists] at hent;obtain ⟨hname, body', hbody'⟩ := hent;refine ⟨D + 1, [mark D], W1, { target := .fn (.func gf) caps.toArray, args := #[.func (.yield (D + 1)) #[] #[]] }, W1, gf, #[.func (.yield (D + 1)) #[] #[]] ++ caps.toArray, W1, ?_, ?_, fun _ _ => trivial, ?_, fun q => (by cases q), ?_⟩
  ·rw [← hW1, ← hD]; exact run_enterLoop_outer _ _ _ _ _
  ·simp only [resolve, hfe];simp [go_sem, Deferred.ofValue]
  ·simp [invoke, callFunc, hfn', hbody'];exact hname
  ·have hvals : (.func (.yield (D + 1)) #[] #[] :: caps).toArray = #[.func (.yield (D + 1)) #[] #[]] ++ caps.toArray := by simp
   rw [hvals] at hcall;refine zar9 (hcall.mono fun e3 w3 hh => ?_);obtain ⟨v, S', rfl, rfl, hok', hext', _⟩ := hh;have hHl : (Hs mm).length = H.length := hlen mm;have hν : S'.ν H.length = some (D + 1) := by
    have h1 : mpOf S1.ν (K 0) H.length = some (D + 1) := by rw [hK0]; simp [mpOf, S1, St.add, qf0]
    have h2 := hext'.ν H.length (D + 1) (by rw [hKl]; omega) h1;simp only [K] at h2;rw [← hHl] at h2;simpa [mpOf, hHl] using h2
   obtain ⟨g1, o1, q1, q2, q3, q4, q5⟩ := hok'.ob H.length _ (by simp only [K]; rw [← hHl]; simp; rfl);rw [hν] at q1; injection q1 with q1; subst q1; subst q4
   have hfree : S'.Free (Hs mm) (D + 1) := kaW9 (x := .loop (R mm) aS act.tmps.toList) hok' (by rw [hHl]; exact hν);have htk : (K mm).take H.length = Hs mm := by simp only [K]; rw [← hHl]; simp
   obtain ⟨hok2, hext2⟩ := qas9 (n0 := H.length) hok' (Nat.le_refl _) (by rw [hKl]; omega) (by rw [htk]; exact hbel mm);rw [htk] at hok2 hext2;have hRmm : R mm = .loop { state := (if mm ≤ m then .ready else .done), pending := (if mm ≤ m then none else xh0 e), fn := fn, tmps := act.tmps, params := ps, assign := assign, body := body, defers := D } := by rw [hR]; rfl
   rw [hRmm] at q3;have hend := run_endLoop (P := P) q3 (by simp only; split <;> simp);generalize hX : Obj.loop { ({ state := (if mm ≤ m then .ready else .done), pending := (if mm ≤ m then none else xh0 e), fn := fn, tmps := act.tmps, params := ps, assign := assign, body := body, defers := D } : Loop) with state := .exhausted } = X at hend
   let S6 := S'.shut (D + 1) X
   have hok6 : S6.Ok (Hs mm) := zbj9 hok2 hfree X;have hown6 : ∀ j, S6.Owns (Hs mm) j → S.Owns H j ∨ (D ≤ j ∧ j ≠ D) := fun j hj => by
    rcases hext2.own j hj with q|q
    ·rcases hext'.own j q with q|q
     ·rcases hown1 j q with q|q
      ·exact .inl q
      ·exact .inr (by omega)
     ·have : D + 2 ≤ j := by rw [← hW1s]; exact q
      exact .inr (by omega)
    ·have := hext'.size;have : D + 2 ≤ j := by rw [← hW1s]; exact Nat.le_trans this q
     exact .inr (by omega)
   have hdom6 : ∀ j, S6.M j ≠ none → S.M j ≠ none ∨ S.Owns H j ∨ (D ≤ j ∧ j ≠ D) := fun j hj => by
    rcases hext'.dom j hj with q|q|q
    ·exact .inl q
    ·rcases hown1 j q with q|q
     ·exact .inr (.inl q)
     ·exact .inr (.inr (by omega))
    ·have : D + 2 ≤ j := by rw [← hW1s]; exact q
     exact .inr (.inr (by omega))
   have hkeep6 : ∀ j, j ≤ D → ¬ S.Owns H j → S6.w.heap[j]? = W1.heap[j]? := fun j hj hno =>
    (World.putObj_heap_other (by omega)).trans (hext'.keep j (by show j < W1.heap.size; omega) fun q => by
     rcases hown1 j q with q|q
     ·exact hno q
     ·omega)
   have hext6 : Ext H.length S H S6 (Hs mm) := {
    os := (by rw [show S6.w.os = S'.w.os from rfl, hext'.os, show S1.w = W1 from rfl, ← hW1]; rfl)
    tape := (by rw [show S6.w.tape = S'.w.tape from rfl, hext'.tape, show S1.w = W1 from rfl, ← hW1]; rfl)
    output := (by rw [show S6.w.output = S'.w.output from rfl, hext'.output, show S1.w = W1 from rfl, ← hW1]; rfl)
    size := by
     have := hext'.size;have e : S1.w.heap.size = D + 2 := hW1s;have e2 : S6.w.heap.size = S'.w.heap.size := by simp [S6, St.shut]
     omega
    keep := fun j hj hno => (hkeep6 j (by omega) hno).trans (hW1h j (by omega))
    M := fun j o hj => hext'.M j o hj
    dom := fun j hj => by
     rcases hdom6 j hj with q|q|q
     ·exact .inl q
     ·exact .inr (.inl q)
     ·exact .inr (.inr (by omega))
    own := fun j hj => by
     rcases hown6 j hj with q|q
     ·exact .inl q
     ·exact .inr (by omega)
    sh := fun b s cur hb hs => by
     have h1 : shOf (K 0) b = some (s, cur) := by rw [hK0]; simpa [shOf, List.getElem?_append_left hb] using hs
     obtain ⟨c1, l1, s1, m1⟩ := hext'.sh b s cur (by rw [hKl]; omega) h1;refine ⟨c1, l1, ?_, m1⟩;have hb2 : b < (Hs mm).length := by omega
     simpa [K, shOf, List.getElem?_append_left hb2] using s1
    ν := fun b g hb hg => by
     have h1 : mpOf S1.ν (K 0) b = some g := by
      rw [hK0];have e : S1.ν b = S.ν b := kg0 _ _ (by omega);simpa [mpOf, List.getElem?_append_left hb, e] using hg
     have h2 := hext'.ν b g (by rw [hKl]; omega) h1;have hb2 : b < (Hs mm).length := by omega
     show mpOf S'.ν (Hs mm) b = some g;simpa [K, mpOf, List.getElem?_append_left hb2] using h2
    len := fun _ => by omega }
   have hmark : Marks S act.defers S6 (Hs mm) (mark D :: act.defers) := by
    refine ⟨[D], rfl, by simp, fun j hj => ?_⟩;have : j = D := by simpa using hj
    subst this;have hnD := hnf j (Nat.le_refl _);refine ⟨by omega, ⟨fun q => ?_, ?_⟩, (hkeep6 j (Nat.le_refl _) hnD.1).trans hW1D⟩
    ·rcases hown6 j q with q|q
     ·exact hnD.1 q
     ·exact q.2 rfl
    ·cases hM : S6.M j with
     | none => rfl
     | some o =>
      rcases hdom6 j (by rw [hM]; simp) with q|q|q
      ·exact absurd hnD.2 q
      ·exact absurd q hnD.1
      ·exact absurd rfl q.2
   have hends : Ends G n0 S H act.defers (Q e) { act with defers := [mark D] ++ act.defers } S6.w :=
    ⟨a, Hs mm, S6, rfl, hQ, hok6, hext6.less hn (Nat.le_refl _), RelL.mono (hext6.le (Nat.le_refl _)) _ _ ha, hmark⟩
   refine ⟨_, S6.w, hend, ?_⟩;by_cases hj : (xh0 e).isSome = true
   ·rw [if_pos hj] at hmm;subst hmm;have : ¬ m + 1 ≤ m := by omega
    simp only [if_neg this];cases e with
    | ret => exact wpIn_ret hends
    | exit id => exact wpIn_exit hends
    | goto t => exact wpIn_goto hends
    | normal => cases hj
    | panic c => cases hj
    | outgrown => cases hj
   ·rw [if_neg hj] at hmm;subst hmm;simp only [if_pos (Nat.le_refl m)];cases e with
    | normal => exact hends
    | ret => exact absurd rfl hj
    | exit id => exact absurd rfl hj
    | goto t => exact absurd rfl hj
    | panic c => cases he
    | outgrown => cases he
 ·cases hent
def setS : List Tmp → List AV → (Nat → AV) → Nat → AV
 | p :: ps, x :: xs, s => setS ps xs (updS s p x)
 | _, _, s => s
theorem kbu9 (n : Nat) : ∀ (ps : List Tmp) (xs : List AV) (s : Nat → AV), setA ps xs (Lst n s) = Lst n (setS ps xs s)
 | [], _, s => by simp [setA, setS]
 | _ :: _, [], s => by simp [setA, setS]
 | p :: ps, x :: xs, s => by
  simp only [setA, setS];rw [← kbu9 n ps xs];congr 1
  exact vv0 n s (some p) x
theorem wZ0 (n k : Nat) (s : Nat → AV) : (Lst n s).map (qe0 k) = Lst n (fun t => qe0 k (s t)) := by
 simp [Lst]
def EndQ (k : Nat) (e : Exit) (H2 : List Blk) : xn0 := fun e' _ H' => e' = e ∧ H'.take k = H2
def kbW9 : xn0 := fun _ _ _ => False
theorem vcW9 {k : Nat} {e : Exit} {H2 H : List Blk} {B : Prop} {s : Nat → AV} (h : B ∧ H.take k = H2) : Out (EndQ k e H2) e B s H := ⟨h.1, rfl, h.2⟩
theorem kaL9 {n0 n k m N : Nat} {code : Code} {p : List Nat} {B : Prop} {s : Nat → AV} {gf : FuncId} {g : Operand} {ps : Array Tmp} {assign body : Code} {cap : List AV} {H : List Blk} {x : Nat → List AV} {Q : xn0} (e : Exit) (Hs : Nat → List Blk)
  (hs : atR code p = .rangeFunc g ps assign body) (hB : B)
  (hg : (evS G n s g).strip = .fn gf cap) (hgk : (evS G n s g).ok = true) (hent : zc0 P gf = true) (hit : wcW9 P G gf cap x N)
  (hk : H.length = k) (h0 : Hs 0 = H) (hlen : ∀ i, (Hs i).length = k) (hbel : ∀ i, (Hs i).all (Blk.below k) = true)
  (hx : ∀ i, idsL kX0 (x i) = true ∧ (x i).length = ps.size)
  (hm1 : (xh0 e).isSome = true → m < N) (hm2 : (xh0 e).isSome = false → m = N) (he : xZ0 e = true)
  (hround : ∀ i, i < m → ∀ s1 : Nat → AV, (∀ t, s1 t = setS ps.toList (x i) (fun t => qe0 k (s t)) t) → Go true P G k n code (0 :: p) (xF0 (At true P G k n code (1 :: p) (EndQ k .normal (Hs (i + 1)))) kbW9) True s1 (Hs i))
  (hlast : (xh0 e).isSome = true → ∀ s1 : Nat → AV, (∀ t, s1 t = setS ps.toList (x m) (fun t => qe0 k (s t)) t) → Go true P G k n code (0 :: p) (xF0 (At true P G k n code (1 :: p) (EndQ k e (Hs (m + 1)))) kbW9) True s1 (Hs m))
  (hQ : Out Q e True s (Hs (if (xh0 e).isSome = true then m + 1 else m))) : Go false P G n0 n code p Q B s H := by
 refine ⟨hB, ?_⟩;have key : ∀ (y : List AV) (e' : Exit) (H1 H2 : List Blk), (∀ s1 : Nat → AV, (∀ t, s1 t = setS ps.toList y (fun t => qe0 k (s t)) t) → Go true P G k n code (0 :: p) (xF0 (At true P G k n code (1 :: p) (EndQ k e' H2)) kbW9) True s1 H1) →
   AWp true P G k assign (qbj9 (AWp true P G k body (fun e1 a' H' => e1 = e' ∧ H'.take k = H2)) (fun _ _ _ => False)) (setA ps.toList y ((Lst n s).map (qe0 k))) H1 := fun y e' H1 H2 h => by
  have h2 := (h _ fun t => rfl).2;unfold At at h2;simp only [atR, hs, kid] at h2;rw [wZ0, kbu9];refine xy0 h2 fun e1 a1 H' q => ?_;rw [vU0] at q;cases e1 with
  | normal =>
   obtain ⟨s', rfl, q⟩ := q;exact xy0 q fun e2 a2 H'' ⟨s2, _, r⟩ => r
  | _ => obtain ⟨_, _, r⟩ := q; exact r.elim
 show AWp false P G n0 (atR code p) (vY0 n Q) (Lst n s) H;rw [hs];exact vaL9 Hs (by rw [qr0]; exact hg) (by rw [qr0]; exact hgk) hent hit hk h0 hlen hbel hx hm1 hm2 he (fun i hi => key _ _ _ _ (hround i hi)) (fun hj => key _ _ _ _ (hlast hj)) ⟨s, rfl, hQ.2⟩
theorem zaX9 {n0 n k m N : Nat} {code : Code} {p : List Nat} {B : Prop} {s : Nat → AV} {gf : FuncId} {g : Operand} {ps : Array Tmp} {assign body : Code} {cap : List AV} {H : List Blk} {x : Nat → List AV} {Q : xn0} (e : Exit) (Hs : Nat → List Blk)
  (hs : atR code p = .rangeFunc g ps assign body) (hB : B)
  (hg : (evS G n s g).strip = .fn gf cap) (hgk : (evS G n s g).ok = true) (hent : zc0 P gf = true) (hit : Iter P G gf cap x N)
  (hk : H.length = k) (h0 : Hs 0 = H) (hlen : ∀ i, (Hs i).length = k) (hbel : ∀ i, (Hs i).all (Blk.below k) = true)
  (hx : ∀ i, idsL kX0 (x i) = true ∧ (x i).length = ps.size)
  (hm1 : (xh0 e).isSome = true → m < N) (hm2 : (xh0 e).isSome = false → m = N) (he : xZ0 e = true)
  (hround : ∀ i, i < m → ∀ s1 : Nat → AV, (∀ t, s1 t = setS ps.toList (x i) (fun t => qe0 k (s t)) t) → Go true P G k n code (0 :: p) (xF0 (At true P G k n code (1 :: p) (EndQ k .normal (Hs (i + 1)))) kbW9) True s1 (Hs i))
  (hlast : (xh0 e).isSome = true → ∀ s1 : Nat → AV, (∀ t, s1 t = setS ps.toList (x m) (fun t => qe0 k (s t)) t) → Go true P G k n code (0 :: p) (xF0 (At true P G k n code (1 :: p) (EndQ k e (Hs (m + 1)))) kbW9) True s1 (Hs m))
  (hQ : Out Q e True s (Hs (if (xh0 e).isSome = true then m + 1 else m))) : Go false P G n0 n code p Q B s H :=
 kaL9 e Hs hs hB hg hgk hent hit.toF hk h0 hlen hbel hx hm1 hm2 he hround hlast hQ
end
theorem kU0 {H : List Blk} {b s : Nat} {t : TypeId} {es es' : List (List AV)} (hb : H[b]? = some (.row s t es)) (hl : es'.length = es.length) (x : Nat) : shOf (H.set b (.row s t es')) x = shOf H x := by
 by_cases e : x = b
 ·subst e;have hlt := (List.getElem?_eq_some_iff.1 hb).1;simp only [shOf, List.getElem?_set_self hlt, hb, hl]
 ·simp [shOf, List.getElem?_set_ne (Ne.symm e)]
theorem qV0 {ν : Nat → Option Nat} {H : List Blk} {b s : Nat} {t : TypeId} {es es' : List (List AV)} (hb : H[b]? = some (.row s t es)) (x : Nat) : mpOf ν (H.set b (.row s t es')) x = mpOf ν H x := by
 by_cases e : x = b
 ·subst e;have hlt := (List.getElem?_eq_some_iff.1 hb).1;simp only [mpOf, List.getElem?_set_self hlt, hb]
 ·simp [mpOf, List.getElem?_set_ne (Ne.symm e)]
theorem xaX9 {S : St} {H : List Blk} {b s : Nat} {t : TypeId} {es es' : List (List AV)} (hb : H[b]? = some (.row s t es)) (x : Nat) : S.at (H.set b (.row s t es')) x = S.at H x := by
 by_cases e : x = b
 ·subst e;have hlt := (List.getElem?_eq_some_iff.1 hb).1;simp only [St.at, List.getElem?_set_self hlt, hb]
 ·simp [St.at, List.getElem?_set_ne (Ne.symm e)]
theorem qbX9 {S : St} {H : List Blk} {b s : Nat} {t : TypeId} {es es' : List (List AV)} (hok : S.Ok H) (hb : H[b]? = some (.row s t es)) (hl : es'.length = es.length) (hr : ∀ cs, RowIn (S.env H) s es cs → RowIn (S.env H) s es' cs) : S.Ok (H.set b (.row s t es')) := by
 have henv : S.env (H.set b (.row s t es')) = S.env H := by
  simp only [St.env];congr 1
  ·funext x; exact kU0 hb hl x
  ·funext x; exact qV0 hb x
 have hlt := (List.getElem?_eq_some_iff.1 hb).1;refine ⟨hok.imm, fun x s' t' es2 hx => ?_, fun x o hx => ?_, fun x y g hx hy => ?_⟩
 ·rw [henv];by_cases e : x = b
  ·subst e;rw [List.getElem?_set_self hlt] at hx;injection hx with hx; injection hx with h1 h2 h3; subst h1; subst h2; subst h3
   rcases hok.row x s t es hb with q|⟨g, k, cs, h1, h2, h3, h4, h5, h6, h7⟩
   ·refine .inl ⟨q.1, q.2.imp (fun q2 => List.eq_nil_of_length_eq_zero ?_) id⟩;rw [hl, q2]; rfl
   ·exact .inr ⟨g, k, cs, h1, h2, h3, h4, by omega, h6, hr cs h7⟩
  ·rw [List.getElem?_set_ne (Ne.symm e)] at hx;exact hok.row x s' t' es2 hx
 ·rw [henv];have e : x ≠ b := by
   rintro rfl;rw [List.getElem?_set_self hlt] at hx;cases hx
  rw [List.getElem?_set_ne (Ne.symm e)] at hx;exact hok.ob x o hx
 ·rw [xaX9 hb] at hx hy;exact hok.inj x y g hx hy
theorem xbG9 {n0 : Nat} {S : St} {H : List Blk} {b s : Nat} {t : TypeId} {es es' : List (List AV)} (hb : H[b]? = some (.row s t es)) (hl : es'.length = es.length) : Ext n0 S H S (H.set b (.row s t es')) where
 os := rfl
 tape := rfl
 output := rfl
 size := Nat.le_refl _
 keep _ _ _ := rfl
 M _ _ h := h
 dom _ h := .inl h
 own k h := by
  obtain ⟨x, hx⟩ := h;rw [xaX9 hb] at hx;exact .inl ⟨x, hx⟩
 sh x s' cur _ hs := ⟨cur, Nat.le_refl _, by rw [kU0 hb hl]; exact hs, fun _ => rfl⟩
 ν x g _ hg := by rw [qV0 hb]; exact hg
 len h := by simpa using h
theorem vi0 {n0 n b i j z sz s0 : Nat} {t ty : TypeId} {s : Nat → AV} {H : List Blk} {es : List (List AV)} {e : List AV} (hb : H[b]? = some (.row s0 t es)) (hi : es[i]? = some e) (hj : e[j]? = some (.sl z [] (some 0))) :
  Weak n0 (Lst n s) H (Lst n s) (H.set b (.row s0 t (es.set i (e.set j (.own H.length 0 0 none)))) ++ [Blk.row sz ty []]) := fun S vs hok hn ha => by
 have hlt := (List.getElem?_eq_some_iff.1 hb).1;have hext := waL9 hok sz ty;have hok1 := vbV9 hok sz ty;have hb1 : (H ++ [Blk.row sz ty []])[b]? = some (.row s0 t es) := by rw [List.getElem?_append_left hlt]; exact hb
 have hset : (H ++ [Blk.row sz ty []]).set b (.row s0 t (es.set i (e.set j (.own H.length 0 0 none)))) = H.set b (.row s0 t (es.set i (e.set j (.own H.length 0 0 none)))) ++ [Blk.row sz ty []] := by
  rw [List.set_append_left _ _ hlt]
 have hr : ∀ cs, RowIn ((S.nil H.length).env (H ++ [Blk.row sz ty []])) s0 es cs → RowIn ((S.nil H.length).env (H ++ [Blk.row sz ty []])) s0 (es.set i (e.set j (.own H.length 0 0 none))) cs := fun cs h7 i' e' hi' => by
  rw [List.getElem?_set] at hi';split at hi'
  ·rename_i hii;subst hii;split at hi'
   ·injection hi' with hi'; subst hi'
    obtain ⟨l1, l2⟩ := h7 i e hi;refine ⟨by simpa using l1, fun j' a hj' => ?_⟩;rw [List.getElem?_set] at hj';split at hj'
    ·rename_i hjj;subst hjj;split at hj'
     ·injection hj' with hj'; subst hj'
      obtain ⟨v, hv, ho, hrel⟩ := l2 j _ hj;refine ⟨v, hv, ho, ?_⟩;simp only [Rel] at hrel ⊢;obtain ⟨a, cap, rfl, h1, h2, h3, h4⟩ := hrel;have : cap = 0 := h3 0 rfl;subst this;exact ⟨sz, 0, by simp [St.env, shOf], Nat.le_refl _, fun _ => ⟨Nat.le_refl _, .inl ⟨qf0 _ _ _, ⟨a, rfl⟩, by simp⟩⟩⟩
     ·cases hj'
    ·exact l2 j' a hj'
   ·cases hi'
  ·exact h7 i' e' hi'
 refine ⟨S.nil H.length, rfl, ?_, ?_, ?_⟩
 ·rw [← hset]; exact qbX9 hok1 hb1 (by simp) hr
 ·rw [← hset]; exact (hext.less hn (Nat.le_refl _)).trans (xbG9 hb1 (by simp))
 ·rw [← hset];have henv : (S.nil H.length).env ((H ++ [Blk.row sz ty []]).set b (.row s0 t (es.set i (e.set j (.own H.length 0 0 none))))) = (S.nil H.length).env (H ++ [Blk.row sz ty []]) := by
   simp only [St.env];congr 1
   ·funext x; exact kU0 hb1 (by simp) x
   ·funext x; exact qV0 hb1 x
  rw [henv];exact RelL.mono (hext.le (Nat.le_refl _)) _ _ ha
theorem xaE9 {t : Nat} : ∀ (ps : List Tmp) (xs : List AV) (s : Nat → AV), (ps.all fun p => t != p) = true → setS ps xs s t = s t
 | [], _, s, _ => by simp [setS]
 | _ :: _, [], s, _ => by simp [setS]
 | p :: ps, x :: xs, s, h => by
  simp only [List.all_cons, Bool.and_eq_true, bne_iff_ne, ne_eq] at h;rw [setS, xaE9 ps xs _ h.2, updS, if_neg h.1]
theorem wbG9 {k : Nat} {ps : List Tmp} {xs : List AV} {s s1 : Nat → AV} (h : ∀ t, s1 t = setS ps xs (fun t => qe0 k (s t)) t) (t : Nat) (hn : (ps.all fun p => t != p) = true) : s1 t = qe0 k (s t) := (h t).trans (xaE9 ps xs _ hn)
theorem va0 {n0 n : Nat} {Q : xn0} {B : Prop} {s : Nat → AV} {H : List Blk} {I : Nat → (Nat → AV) → List Blk → Prop} {m : Nat} (m' k : Nat) (hm : m' < m) (hB : B) (hn : n0 ≤ k) (hk : k ≤ H.length) (hb : (H.take k).all (Blk.below k) = true) (hI : I m' (fun t => qe0 k (s t)) (H.take k)) :
  Out (xF0 (fun s' H' => ∃ m' s2 H2, m' < m ∧ Weak n0 (Lst n s') H' (Lst n s2) H2 ∧ I m' s2 H2) Q) .normal B s H :=
 ⟨hB, m', _, _, hm, by rw [← wZ0]; exact zas9 hn hk hb, hI⟩
theorem kcW9 {P : Program} {d : Nat} {t : TypeId} {k0 k k' : IntKind} (h : shp P t = .int k0) (a b : Int) : eqA P (d + 1) t (.int k a) (.int k' b) = (k == k', decide (a = b)) := by
 unfold eqA; rw [h]
theorem waE9 {P : Program} {d : Nat} {t : TypeId} {fs : List (Nat × TypeId)} (h : shp P t = .struct fs) (cs ds : List AV) : eqA P (d + 1) t (.agg cs) (.agg ds) = fs.foldr (fun f r => wW0 (kc0 P f.2) cs ds f.1 (fun F => eqA P d f.2 (cut F cs f.1) (cut F ds f.1)) r) (true, true) := by
 conv => lhs; unfold eqA
 rw [h]
theorem zbX9 {P : Program} {d n : Nat} {t e : TypeId} {F : TI} (h : shp P t = .array n e) (hF : kc0 P e = some F) (cs ds : List AV) : eqA P (d + 1) t (.agg cs) (.agg ds) = (List.range n).foldr (fun i r => wW0 (some F) cs ds (i * F.sz) (fun F => eqA P d e (cut F cs (i * F.sz)) (cut F ds (i * F.sz))) r) (true, true) := by
 conv => lhs; unfold eqA
 rw [h]; simp only [hF]
theorem waf9 {F : TI} {cs ds : List AV} {off : Nat} {eq : TI → Bool × Bool} {r : Bool × Bool} : wW0 (some F) cs ds off eq r = (kq0 F cs.length off && kq0 F ds.length off && (eq F).1 && r.1, (eq F).2 && r.2) := rfl
theorem wcv9 (b : Bool) (x : AV) : AV.ite b x .top = if b = true then x else .top := by cases x <;> rfl
theorem vcv9 (b : Bool) (y : AV) : AV.ite b .top y = if b = true then .top else y := by cases y <;> rfl
theorem kcv9 (b : Bool) (x : AV) (l : List UInt8) : AV.ite b x (.str l) = if b = true then x else .str l := by cases x <;> rfl
theorem qcw9 (b : Bool) (y : AV) (l : List UInt8) : AV.ite b (.str l) y = if b = true then .str l else y := by cases y <;> rfl
theorem wal9 (P : Program) : zl0 P [] = some [] := rfl
theorem vaf9 (P : Program) (f : Nat × TypeId) (fs : List (Nat × TypeId)) : zl0 P (f :: fs) = match kc0 P f.2 with|some T => (match zl0 P fs with|some r => some ((f.1, T.sz) :: r)|none => none)|none => none := by
 unfold zl0;rw [List.mapM_cons];cases kc0 P f.2 with
 | none => rfl
 | some T => cases List.mapM (fun f => Option.map (fun T => (f.1, T.sz)) (kc0 P f.2)) fs <;> rfl
theorem qaM9 : qT0 .nilFunc = .lit .nilFunc := rfl
theorem waX9 : qT0 (.map none) = .lit (.map none) := rfl
theorem kaz9 : qT0 .nilIface = .lit .nilIface := rfl
attribute [push_cast] wcv9 vcv9 kcv9 qcw9 wao9 qz0 qF0 vT0 zco9 qaM9 waX9 kaz9 qal9 qaV9 wA0 zf0 xg0 xcV9 optK xct9 wct9 qbU9 qcV9 kcU9 kbT9 zct9 kdl9 qbV9 xbF9 qdn9 zdn9
 xdn9 wdn9 vdn9 qbR9 wbE9 zbR9 xbR9 wbR9 xcs9 vbR9 kbR9 vbE9 wcs9 qbS9 zbS9 xdj9 vcs9 wbS9 vbS9
 kbS9 xdi9 xcS9 wcS9 xbj9 kcr9 vcS9 kcS9 qcT9 qcs9 wdi9 vdi9 xcT9 wcT9 kdi9 qbE9 wbj9
 vbj9 xaV9 kbj9 qbk9 zbk9 waV9 zbE9 xbE9 wbk9 vbk9 vcT9 kbk9
 vaV9 zaK9 kaV9 kbE9 qbT9 qbF9 zcU9 xdl9 xcU9 vdj9 kcT9 kdj9 qdk9 zdk9 zdv9 xdk9 wdk9
 qcU9 xdv9 vdk9 wdv9 kdk9 qdl9 zdl9 zbT9 zbF9 xbT9 wbT9 kcs9 kad9 pNil qct9 wcU9 vbT9 zU0 shp zQ0
 xI0 wo0 qaS9 vo0 zaS9 pInt pStr pBin pUn vW0 xaS9 vaB9 pLen pCap kE0 wH0 waS9 zR0 cut kq0 zj0 shOf  vR0
 eBox xX0 vay9 xu0 qaJ9 waq9 qcQ9 qn0 kay9 AV.cells? AV.live kaB9 qm0 zT0 wal9 vaf9 vx0 bad bad3 okR okA okC qS0 kx0 kh0
 AV.closed AV.ids idsL idsE zdi9 kcR9 exQ xbS9 wdj9 zcT9 xbk9
 List.isEmpty_toArray Nat.sub_zero List.getElem?_concat_length Nat.sub_self Option.map_some Option.getD_some Option.bind_some Option.map_none
 Option.getD_none Option.all_some Option.all_none Option.isSome_some Option.isSome_none Bool.and_eq_true Bool.true_and Bool.and_true Bool.false_and
 Bool.and_false Bool.or_eq_true Bool.true_or Bool.or_true Bool.false_or Bool.or_false Bool.not_true Bool.not_false Bool.not_eq_true' decide_eq_true_eq
 decide_eq_false_iff_not true_and and_true false_and and_false forall_const Bool.false_eq_true Bool.true_eq_false if_true if_false beq_self_eq_true
 beq_iff_eq List.length_cons List.length_nil List.getElem?_cons_zero List.getElem?_cons_succ List.getElem?_nil List.map_cons List.map_nil List.all_cons
 List.all_nil List.toList_toArray List.nil_append List.cons_append List.foldr_cons List.foldr_nil not_true_eq_false not_false_eq_true implies_true
 true_implies false_implies ne_eq Nat.zero_add Nat.add_zero Nat.zero_mul cond_true cond_false Nat.le_refl List.getD_cons_zero List.getD_cons_succ
 List.getD_nil List.drop_zero List.drop_succ_cons List.take_succ_cons List.take_zero Int.toNat_natCast Int.natCast_nonneg and_self Int.toNat_zero
 Int.toNat_one Int.ofNat_lt Int.ofNat_le List.replicate_succ List.replicate_zero List.flatten_cons List.flatten_nil List.append_nil List.length_append
 decide_true decide_false List.isEmpty_cons List.isEmpty_nil List.set_cons_zero List.set_cons_succ true_or or_true List.take_of_length_le
 List.drop_eq_nil_of_le List.length_replicate List.length_map bne_iff_ne Nat.one_ne_zero Int.natCast_inj Int.natCast_add Int.cast_ofNat_Int
 List.length_take_of_le Bool.not_eq_false' Bool.cond_true_left Bool.cond_false_right Bool.cond_true_right Bool.cond_false_left beq_false beq_true
 Bool.or_eq_false_iff Bool.and_eq_false_iff imp_self List.map_id' List.map_id_fun' id_eq
section
variable {P : Program} {G : Glob}
theorem qat9 {f : FuncId} {args : List AV} {H : List Blk} {r : AV} (h : ∀ (S : St) (vals : List Value), S.Ok H → Globs G S.M → RelL (S.env H) args vals →
  Calls P f vals.toArray S.w fun e w' => ∃ v, e = .returned v ∧ Below S.w.heap.size S.w w' ∧
   ∀ E : Env, (∀ k o, S.M k = some o → E.M k = some o) → (∀ k o, S.w.heap.size ≤ k → w'.heap[k]? = some o → E.M k = some o) → Rel E r v) : qg0 P G f args H r H := fun S vals hok hG ha => by
 refine (h S vals hok hG ha).mono fun e w' ⟨v, he, hb, hr⟩ => ?_
 let S' : St := ⟨fun k => if k < S.w.heap.size then S.M k else w'.heap[k]?, S.μ, S.ν, w'⟩
 have hlt : ∀ k, S.M k ≠ none → k < S.w.heap.size := fun k hk => by
  cases ho : S.M k with
  | none => exact absurd ho hk
  | some o => exact (Array.getElem?_eq_some_iff.1 (hok.imm k o ho)).1
 have hM : ∀ k o, S.M k = some o → S'.M k = some o := fun k o hk => by
  show (if k < S.w.heap.size then S.M k else w'.heap[k]?) = some o;rw [if_pos (hlt k (by rw [hk]; simp)), hk]
 have hMl : ∀ k, k < S.w.heap.size → S'.M k = S.M k := fun k hk => if_pos hk;have hle : (S.env H).le (S'.env H) := ⟨hM, fun b s cur hs => ⟨cur, Nat.le_refl _, hs, fun _ => rfl⟩, fun b g hs => hs⟩;refine ⟨v, S', he, rfl, ⟨fun k o hk => ?_, fun b s t es hbb => ?_, fun b ob0 hbb => ?_, hok.inj⟩, ⟨hb.os, hb.tape, hb.output, hb.size, fun k hk _ => hb.block k hk, hM, fun k hk => ?_, fun k hk => .inl hk, fun b s cur _ hs => ⟨cur, Nat.le_refl _, hs, fun _ => rfl⟩, fun b g _ hs => hs, id⟩, hr _ hM fun k o h1 h2 => ?_⟩
 ·by_cases hk' : k < S.w.heap.size
  ·have : S.M k = some o := by rw [← hMl k hk']; exact hk
   show w'.heap[k]? = some o;rw [hb.block k hk']; exact hok.imm k o this
  ·have e : S'.M k = w'.heap[k]? := if_neg hk';rw [e] at hk; exact hk
 ·rcases hok.row b s t es hbb with q|⟨g, k, cs, h1, h2, h3, h4, h5, h6, h7⟩
  ·exact .inl q
  ·have hg : g < S.w.heap.size := (Array.getElem?_eq_some_iff.1 h3).1;exact .inr ⟨g, k, cs, h1, by rw [hMl g hg]; exact h2, (hb.block g hg).trans h3, h4, h5, h6, h7.mono hle⟩
 ·obtain ⟨g, ob1, h1, h2, h3, h4⟩ := hok.ob b ob0 hbb;have hg : g < S.w.heap.size := (Array.getElem?_eq_some_iff.1 h3).1;exact ⟨g, ob1, h1, by rw [hMl g hg]; exact h2, (hb.block g hg).trans h3, h4.mono hle⟩
 ·by_cases hk' : k < S.w.heap.size
  ·left; rw [← hMl k hk']; exact hk
  ·exact .inr (.inr (by omega))
 ·show (if k < S.w.heap.size then S.M k else w'.heap[k]?) = some o;rw [if_neg (by omega)]; exact h2
theorem qaA9 {S : St} {H : List Blk} {name : String} {k : IntKind} {zs : List Int} {g : Nat} (hok : S.Ok H) (hG : Globs G S.M) (hn : P.globalNamed name = some g) (hg : G g = some (zs.map fun z => .int k z)) : Lib.TabIs P S.w name k zs := by
 obtain ⟨vs, t, fr, h1, h2, h3⟩ := hG g _ hg;have hv : vs = zs.map fun z => Value.int k z := by
  clear h1 h3 hg;induction zs generalizing vs with
  | nil => simpa [RelL] using h2
  | cons z zs ih =>
   simp only [List.map_cons, RelL, Rel] at h2;obtain ⟨u, us, rfl, rfl, h2⟩ := h2;rw [ih us h2, List.map_cons]
 unfold Lib.TabIs World.var?;rw [hn, Option.bind_some, hok.imm g _ h1, hv]
theorem vbG9 (w : World) (k : Nat) (os : Array Obj) : Below w.heap.size w (Sort.grow (w.drewN k) os) where
 os := rfl
 tape := rfl
 output := rfl
 size := by simp [Sort.grow, World.drewN]
 block i hi := by simp [Sort.grow, World.drewN, Array.getElem?_append_left hi]
abbrev zcL9 : List AV := Lib.pow10Tab.map fun z => .int .u64 z
theorem qcX9 {f : FuncId} {H : List Blk} {g : Nat} (hn : P.globalNamed "internal/strconv.uint64pow10" = some g) (hg : G g = some zcL9)
  (hc : ∀ (n : Int), -9223372036854775808 ≤ n → n ≤ 9223372036854775807 → ∀ w : World, Lib.TabIs P w "internal/strconv.uint64pow10" .u64 Lib.pow10Tab →
   Calls P f #[.int .i64 n] w fun e w' => e = .returned (.string ⟨(Lib.itoa n).toArray⟩) ∧ ∃ k os, w' = Sort.grow (w.drewN k) os)
  (n : Int) (h0 : -9223372036854775808 ≤ n) (h1 : n ≤ 9223372036854775807) : qg0 P G f [.int .i64 n] H (.str (Lib.itoa n)) H :=
 qat9 fun S vals hok hG ha => by
  simp only [RelL, Rel] at ha;obtain ⟨u, us, rfl, rfl, rfl⟩ := ha;refine (hc n h0 h1 S.w (qaA9 hok hG hn hg)).mono fun e w' ⟨he, k, os, hw⟩ => ⟨_, he, hw ▸ vbG9 _ _ _, fun E _ _ => ?_⟩;simp [Rel]
def vdG9 (s : List UInt8) : Int × Bool :=
 match Lib.atoiAll s with
 | .ok v => (v, true)
 | Lib.NumEnd.syntax => (0, false)
 | .range => (Lib.atoiSat s, false)
def errA (ok : Bool) : AV := if ok = true then .lit .nilIface else .err
def strs (xs : List (List UInt8)) : List (List AV) := xs.map fun x => [.str x]
def kdF9 (s sep : List UInt8) : List (List UInt8) := (Lib.splitB ⟨sep.toArray⟩ 0 (Lib.countB ⟨s.toArray⟩ ⟨sep.toArray⟩) ⟨s.toArray⟩).map (·.data.toList)
def qdG9 (H : List Blk) (x : AV) (xs : List (List UInt8)) : Prop :=
 (∃ c, x = .sl 1 (strs xs) c) ∨ ∃ b n c t es, x = .own b n es.length c ∧ H[b]? = some (.row 1 t es) ∧ n ≤ es.length ∧ es.take n = strs xs
end
end Go.V
namespace Go.V
open Go
set_option autoImplicit false
theorem zcX9 {P : Program} {G : Glob} {f : FuncId} {args : List AV} {H K : List Blk} {r : AV} (h : qg0 P G f args H r (H ++ K)) (hb : H.all (Blk.below H.length) = true) (hr : r.ids (fun b => decide (b < H.length)) = true) : qg0 P G f args H r H := fun S vals hok hG ha => by
 refine (h S vals hok hG ha).mono fun e w' ⟨v, S', he, hw, hok', hext, hrel⟩ => ?_;have ht : (H ++ K).take H.length = H := List.take_left' rfl;obtain ⟨h1, h2⟩ := qas9 (n0 := H.length) (m := H.length) hok' (Nat.le_refl _) (by simp) (by rw [ht]; exact hb);have hag := xaK9 (m := H.length) S' (H ++ K);rw [ht] at h1 h2 hag;exact ⟨v, S', he, hw, h1, hext.trans h2, Rel.move hag r v hr hrel⟩
end Go.V
set_option autoImplicit false
namespace Go.V
open Go Go.RowKit
section
variable {P : Program} {G : Glob} {q : Operand → Bool}
def aft (o : Oper) : List Nat := (o.after.toList.filter fun e => Region.binds .any e).map (·.on)
theorem xz0 {o : Oper} {e : Edge} (he : e ∈ o.after) (hb : Region.binds .any e = true) : e.on ∈ aft o :=
 List.mem_map.2 ⟨e, List.mem_filter.2 ⟨by simpa using he, hb⟩, rfl⟩
theorem xbX9 {o : Oper} {k : Nat} (h : k ∈ aft o) : ∃ e ∈ o.after, Region.binds .any e = true ∧ e.on = k := by
 obtain ⟨e, he, rfl⟩ := List.mem_map.1 h;obtain ⟨h1, h2⟩ := List.mem_filter.1 he;exact ⟨e, by simpa using h1, h2, rfl⟩
def zt0 (dl : List (Nat × Nat)) (ops : List Oper) (i : Nat) (o : Oper) : Oper :=
 match dl.lookup i with
 | some js => match ops[js]? with
  | some s => { o with after := o.after ++ s.after.filter fun e => e.on != i && !(decide (i < e.on) && dl.lookup e.on == some js) }
  | none => o
 | none => o
theorem kaf9 (dl : List (Nat × Nat)) (ops : List Oper) (i : Nat) (o : Oper) : (zt0 dl ops i o).op = o.op ∧ (zt0 dl ops i o).dst = o.dst ∧ (zt0 dl ops i o).guard = o.guard := by
 unfold zt0;split
 ·split <;> exact ⟨rfl, rfl, rfl⟩
 ·exact ⟨rfl, rfl, rfl⟩
def zp0 (dl : List (Nat × Nat)) (ops : List Oper) : Nat → List Oper → List Oper
 | _, [] => []
 | i, o :: l => zt0 dl ops i o :: zp0 dl ops (i + 1) l
def delays (dl : List (Nat × Nat)) (ops : List Oper) : List Oper := zp0 dl ops 0 ops
theorem wS0 (dl : List (Nat × Nat)) (ops : List Oper) : ∀ (l : List Oper) (i j : Nat), (zp0 dl ops i l)[j]? = l[j]?.map (zt0 dl ops (i + j))
 | [], i, j => by simp [zp0]
 | o :: l, i, 0 => by simp [zp0]
 | o :: l, i, j + 1 => by
  rw [zp0, List.getElem?_cons_succ, wS0 dl ops l (i + 1) j, List.getElem?_cons_succ, Nat.add_assoc, Nat.add_comm 1 j]
theorem kk0 (dl : List (Nat × Nat)) (ops : List Oper) (j : Nat) : (delays dl ops)[j]? = ops[j]?.map (zt0 dl ops j) := by rw [delays, wS0, Nat.zero_add]
theorem vD0 (dl : List (Nat × Nat)) (ops : List Oper) : ∀ (l : List Oper) (i : Nat), (zp0 dl ops i l).length = l.length
 | [], _ => rfl
 | _ :: l, i => by rw [zp0, List.length_cons, vD0 dl ops l (i + 1), List.length_cons]
theorem vF0 (dl : List (Nat × Nat)) (ops : List Oper) : (delays dl ops).length = ops.length := vD0 dl ops ops 0
theorem vaX9 (dl : List (Nat × Nat)) (ops : List Oper) (a : List AV) (j : Nat) (want : Bool) : zU0 (delays dl ops) a j want = zU0 ops a j want := by
 unfold zU0;rw [kk0];cases ops[j]? with
 | none => rfl
 | some o => simp only [Option.map_some, (kaf9 dl ops j o).2.1]
theorem xB0 (dl : List (Nat × Nat)) {ops : List Oper} {o o' : Oper} (ho : o'.op = o.op) (hg : o'.guard = o.guard) {a : List AV} {H H' : List Blk} {r : AV} : kn0 P G (delays dl ops) o' a H r H' ↔ kn0 P G ops o a H r H' := by
 unfold kn0;rw [hg, ho];cases o.guard with
 | none => exact Iff.rfl
 | some jw => simp only [vaX9]
theorem vZ0 (dl : List (Nat × Nat)) {ops : List Oper} {K : List AV → List Blk → Prop} : ∀ (l : List Oper) (i : Nat) (a : List AV) (H : List Blk), ChainK P G q ops K l a H → ChainK P G q (delays dl ops) K (zp0 dl ops i l) a H
 | [], _, a, H, h => h
 | o :: l, i, a, H, h => by
  obtain ⟨r, H', ⟨hs, hkk, hmm, hmn, hpp⟩, hc⟩ := h;obtain ⟨e1, e2, e3⟩ := kaf9 dl ops i o;refine ⟨r, H', ⟨⟨(xB0 dl e1 e3).2 hs.1, fun hq => hs.2 (by rw [← e1]; exact hq)⟩, fun p w v => hkk p (by rw [← e3]; exact w) (by rw [← e1]; exact v), fun p => (by rw [e1]; exact hmm (by simpa only [mFlag, e1, e3] using p)), fun p w v => hmn p (by rw [← e1]; exact w) (by rw [← e3]; exact v), fun p w v H2 => (xB0 dl e1 e3).2 (hpp p (by rw [← e3]; exact w) (by rw [← e1]; exact v) H2)⟩, ?_⟩;rw [e2];exact vZ0 dl l (i + 1) _ _ hc
def qag9 (o : Oper) : Option (TypeId × Tmp) :=
 match o.op, o.dst, o.guard with
 | .alloc t, some d, none => some (t, d)
 | _, _, _ => none
theorem vw0 {o : Oper} {t : TypeId} {d : Tmp} (h : qag9 o = some (t, d)) : o.op = .alloc t ∧ o.dst = some d ∧ o.guard = none := by
 unfold qag9 at h;split at h
 ·rename_i e1 e2 e3;injection h with h; injection h with h1 h2; subst h1; subst h2
  exact ⟨e1, e2, e3⟩
 ·cases h
def delayOkA (P : Program) (dl : List (Nat × Nat)) (ops : List Oper) : Bool :=
 dl.all fun p => dl.lookup p.1 == some p.2 && (dl.lookup p.2).isNone && (match ops[p.1]?, ops[p.2]? with
  | some oa, some os => (match qag9 oa with|some (t, _) => (match kc0 P t with|some T => T.zero.length == T.sz|none => false)|none => false) &&
    (aft os).contains p.1 && ((aft oa ++ aft os).all fun k => k == p.1 || (match dl.lookup k with|some js' => js' == p.2 || (aft os).contains js'|none => true))
  | _, _ => false)
def delayOkB (dl : List (Nat × Nat)) (ops : List Oper) : Bool :=
 (List.range ops.length).all fun i => match (delays dl ops)[i]? with|some o => (aft o).all fun k => decide (k < i)|none => true
def qdo9 (dl : List (Nat × Nat)) (ops : List Oper) (i : Nat) (o : Oper) (p : Nat × Nat) : Bool :=
 match ops[p.1]? with
 | some oa => match oa.dst with
  | some d => p.1 == i || (if (dl.lookup i).isSome = true then o.dst != some d else ((aft o).contains p.1 && (p.2 == i || (aft o).contains p.2)) || (!(aft o).contains p.1 && !(o.looksAt ops.toArray).contains d && o.dst != some d))
  | none => false
 | none => false
def delayOkC (dl : List (Nat × Nat)) (ops : List Oper) : Bool :=
 (List.range ops.length).all fun i => match ops[i]? with|some o => dl.all (qdo9 dl ops i o)|none => true
structure Pend where
 ja : Nat
 js : Nat
 at_ : Nat
 d : Tmp
 t : TypeId
def wbX9 (P : Program) (dl : List (Nat × Nat)) (ops : List Oper) (S0 S : St) (H : List Blk) (act : Act) (listed : Array Bool) (p : Pend) : Prop :=
 (p.ja, p.js) ∈ dl ∧ (∃ oa, ops[p.ja]? = some oa ∧ qag9 oa = some (p.t, p.d)) ∧ listed.getD p.ja true = false ∧ listed.getD p.js true = false ∧
  S0.w.heap.size ≤ p.at_ ∧ p.at_ < S.w.heap.size ∧ S.Free H p.at_ ∧ (∀ v, act.tmps[p.d]? = some v → v = .pointer (some ⟨p.at_, 0, none⟩)) ∧
  ∃ T cs, kc0 P p.t = some T ∧ T.zero.length = T.sz ∧ T.zero = cs.toList.map vA0 ∧ (∀ u ∈ cs.toList, u.oneCell' = true) ∧ S.w.heap[p.at_]? = some (.cells cs p.t (0, 0))
def scr (ps : List Pend) (a : List AV) : List AV := ps.foldr (fun p a => putA a (some p.d) .top) a
def LRel (n : Nat) (ps : List Pend) (listed lr : Array Bool) : Prop :=
 listed.size = n ∧ lr.size = n ∧ ∀ j, j < n → lr.getD j true = (listed.getD j true || ps.any fun p => p.ja == j)
theorem wz0 {l : Array Bool} {j n : Nat} (hs : l.size = n) (hj : j < n) : l.getD j false = l.getD j true := by
 have : j < l.size := by omega
 simp [this]
theorem zat9 (a : List AV) : ∀ (ps : List Pend) (t : Nat), (scr ps a)[t]? = a[t]?.map fun v => if (ps.any fun p => p.d == t) = true then .top else v
 | [], t => by cases h : a[t]? <;> simp [scr, h]
 | p :: ps, t => by
  show (putA (scr ps a) (some p.d) .top)[t]? = _;simp only [putA, List.getElem?_set];have ih := zat9 a ps t;by_cases h : p.d = t
  ·subst h;rw [if_pos rfl];have hl : (scr ps a).length = a.length := by
    have : ∀ ps : List Pend, (scr ps a).length = a.length := fun ps => by
     induction ps with
     | nil => rfl
     | cons p ps ih => show (putA (scr ps a) (some p.d) .top).length = _; simp [putA, ih]
    exact this ps
   rw [hl];split
   ·rename_i hlt; simp [hlt]
   ·rename_i hlt; simp [hlt]
  ·rw [if_neg h, ih];have : (p.d == t) = false := by simp [h]
   simp [this]
theorem qO0 (a : List AV) : ∀ ps : List Pend, (scr ps a).length = a.length
 | [] => rfl
 | p :: ps => by show (putA (scr ps a) (some p.d) .top).length = _; simp [putA, qO0 a ps]
theorem kaX9 {ops : List Oper} {o : Oper} {a : List AV} {H H' : List Blk} {r : AV} : ∀ (ps : List Pend), (∀ p ∈ ps, p.d ∉ o.looksAt ops.toArray) → kn0 P G ops o a H r H' → kn0 P G ops o (scr ps a) H r H'
 | [], _, h => h
 | p :: ps, hd, h => (qc0 (d := some p.d) (v := .top) fun t ht => by injection ht with ht; subst ht; exact hd p (List.mem_cons_self ..)).2 (kaX9 ps (fun x hx => hd x (List.mem_cons_of_mem _ hx)) h)
def St.made (S : St) (t : TypeId) (cs : Array Value) : St := { S with w := (S.w.drewN 0).alloc (.cells cs t) }
theorem xcX9 {S : St} {H : List Blk} (hok : S.Ok H) (t : TypeId) (cs : Array Value) : (S.made t cs).Ok H := by
 refine ⟨fun i o hi => wi0 H.length 1 t cs 0 (hok.imm i o hi), fun b s t' es hb => ?_, fun b ob hb => ?_, hok.inj⟩
 ·rcases hok.row b s t' es hb with h|⟨g, k, cs2, h1, h2, h3, h4⟩
  ·exact .inl h
  ·exact .inr ⟨g, k, cs2, h1, h2, wi0 H.length 1 t cs 0 h3, h4⟩
 ·obtain ⟨g, o, h1, h2, h3, h4⟩ := hok.ob b ob hb;exact ⟨g, o, h1, h2, wi0 H.length 1 t cs 0 h3, h4⟩
theorem xat9 (S : St) (t : TypeId) (cs : Array Value) : (S.made t cs).w.heap.size = S.w.heap.size + 1 := by simp [St.made, World.alloc]
theorem zaM9 {n0 : Nat} (S : St) (H : List Blk) (t : TypeId) (cs : Array Value) : Ext n0 S H (S.made t cs) H where
 os := rfl
 tape := rfl
 output := rfl
 size := by rw [xat9]; omega
 keep i hi hno := Below.heap_alloc (S.w.drewN 0) (.cells cs t) i hi
 M i o h := h
 dom i h := .inl h
 own i h := .inl h
 sh x s' cur hx hs := ⟨cur, Nat.le_refl _, hs, fun _ => rfl⟩
 ν x g' hx hs := hs
 len := id
def St.take (S : St) (b L : Nat) : St := { S with μ := upd S.μ b (some (L, 1)) }
theorem vbX9 {S : St} {H : List Blk} {L s : Nat} {t : TypeId} {es : List (List AV)} : (S.env H).le ((S.take H.length L).env (H ++ [.row s t es])) := by
 refine ⟨fun k o h => h, fun b s' cur hs => ?_, fun b g h => ?_⟩
 ·have hlt : b < H.length := by
   obtain ⟨t', es', hb, _⟩ := xbs9 (show shOf H b = some (s', cur) from hs);exact (List.getElem?_eq_some_iff.1 hb).1
  exact ⟨cur, Nat.le_refl _, by show shOf (H ++ _) b = _; rw [kA0 hlt]; exact hs, fun _ => kg0 _ _ (show b ≠ H.length by omega)⟩
 ·have hlt : b < H.length := by
   have h : mpOf S.ν H b = some g := h;unfold mpOf at h;split at h
   ·rename_i hb; exact (List.getElem?_eq_some_iff.1 hb).1
   ·cases h
  show mpOf S.ν (H ++ _) b = _;rw [qB0 hlt]; exact h
theorem zcw9 {S : St} {H : List Blk} (hok : S.Ok H) {s : Nat} {t : TypeId} {es : List (List AV)} {cs : Array Value} {L : Nat} (hfree : S.Free H L) (hcell : S.w.heap[L]? = some (.cells cs t (0, 0))) (hk : es.length ≤ 1) (hsz : cs.size = 1 * s) (hrow : RowIn (S.env H) s es cs) : (S.take H.length L).Ok (H ++ [.row s t es]) := by
 have hle := vbX9 (S := S) (H := H) (L := L) (s := s) (t := t) (es := es);have hat : ∀ x, x < H.length → (S.take H.length L).at (H ++ [.row s t es]) x = S.at H x := fun x e => by
  simp only [St.at, St.take, List.getElem?_append_left e, kg0 _ _ (show x ≠ H.length by omega)]
 have hatb : (S.take H.length L).at (H ++ [.row s t es]) H.length = some L := by simp [St.at, St.take, qf0]
 have hge : ∀ x g', (S.take H.length L).at (H ++ [.row s t es]) x = some g' → x < H.length ∨ x = H.length := fun x g' hx => by
  by_cases e : x ≤ H.length
  ·omega
  ·have : (H ++ [Blk.row s t es])[x]? = none := List.getElem?_eq_none (by simp; omega);simp [St.at, this] at hx
 refine ⟨hok.imm, fun x s' t' es2 hx => ?_, fun x ob0 hx => ?_, fun x y g' hx hy => ?_⟩
 ·by_cases e : x < H.length
  ·rw [List.getElem?_append_left e] at hx;rcases hok.row x s' t' es2 hx with h|⟨g', k', cs2, h1, h2, h3, h4, h5, h6, h7⟩
   ·exact .inl ⟨(kg0 _ _ (show x ≠ H.length by omega)).trans h.1, h.2⟩
   ·exact .inr ⟨g', k', cs2, (kg0 _ _ (show x ≠ H.length by omega)).trans h1, h2, h3, h4, h5, h6, h7.mono hle⟩
  ·have e2 : x = H.length := by
    have := (List.getElem?_eq_some_iff.1 hx).1;simp at this;omega
   subst e2;simp at hx;obtain ⟨h1, h2, h3⟩ := hx;subst h1; subst h2; subst h3;exact .inr ⟨L, 1, cs, qf0 _ _ _, hfree.2, hcell, hsz, hk, by simp [maxLen], hrow.mono hle⟩
 ·by_cases e : x < H.length
  ·rw [List.getElem?_append_left e] at hx;obtain ⟨g', ob1, h1, h2, h3, h4⟩ := hok.ob x ob0 hx;exact ⟨g', ob1, h1, h2, h3, h4.mono hle⟩
  ·have e2 : x = H.length := by
    have := (List.getElem?_eq_some_iff.1 hx).1;simp at this;omega
   subst e2;simp at hx
 ·rcases hge x g' hx with ex|ex
  ·rcases hge y g' hy with ey|ey
   ·rw [hat x ex] at hx; rw [hat y ey] at hy;exact hok.inj x y g' hx hy
   ·rw [ey, hatb] at hy; rw [hat x ex] at hx;injection hy with hy
    subst hy;exact absurd ⟨x, hx⟩ hfree.1
  ·rcases hge y g' hy with ey|ey
   ·rw [ex, hatb] at hx; rw [hat y ey] at hy;injection hx with hx
    subst hx;exact absurd ⟨y, hy⟩ hfree.1
   ·rw [ex, ey]
theorem wat9 {S : St} {H : List Blk} {L s k : Nat} {t : TypeId} {es : List (List AV)} (h : (S.take H.length L).Owns (H ++ [.row s t es]) k) : S.Owns H k ∨ k = L := by
 obtain ⟨x, hx⟩ := h;by_cases e : x < H.length
 ·left
  refine ⟨x, ?_⟩;simpa only [St.at, St.take, List.getElem?_append_left e, kg0 _ _ (show x ≠ H.length by omega)] using hx
 ·by_cases e2 : x = H.length
  ·subst e2;simp [St.at, St.take, qf0] at hx;exact .inr hx.symm
  ·have : (H ++ [Blk.row s t es])[x]? = none := List.getElem?_eq_none (by simp; omega);simp [St.at, this] at hx
theorem xcw9 {n0 : Nat} {S0 S : St} {H0 H : List Blk} {L s : Nat} {t : TypeId} {es : List (List AV)} (h : Ext n0 S0 H0 S H) (hn : n0 ≤ H.length) (hL : S0.w.heap.size ≤ L) : Ext n0 S0 H0 (S.take H.length L) (H ++ [.row s t es]) where
 os := h.os
 tape := h.tape
 output := h.output
 size := h.size
 keep := h.keep
 M := h.M
 dom := h.dom
 own k hk := by
  rcases wat9 hk with q|q
  ·exact h.own k q
  ·exact .inr (by omega)
 sh x s' cur hx hs := by
  obtain ⟨c, h1, h2, h3⟩ := h.sh x s' cur hx hs;exact ⟨c, h1, by rw [kA0 (by omega)]; exact h2, fun e => (kg0 _ _ (show x ≠ H.length by omega)).trans (h3 e)⟩
 ν x g' hx hs := by rw [qB0 (by omega)]; exact h.ν x g' hx hs
 len q := by have := h.len q; simp; omega
theorem kbG9 {S0 S : St} {H : List Blk} {L s : Nat} {t : TypeId} {es : List (List AV)} {ds ds' : List Deferred} (h : Marks S0 ds S H ds') (hc : ∃ cs, S.w.heap[L]? = some (.cells cs t (0, 0))) : Marks S0 ds (S.take H.length L) (H ++ [.row s t es]) ds' := by
 obtain ⟨D, e, p, q⟩ := h;refine ⟨D, e, p, fun g hg => ?_⟩;obtain ⟨q1, q2, q3⟩ := q g hg;refine ⟨q1, ⟨fun ho => ?_, q2.2⟩, q3⟩;rcases wat9 ho with r|r
 ·exact q2.1 r
 ·subst r;obtain ⟨cs, hc⟩ := hc;rw [q3] at hc; cases hc
theorem kbX9 {S : St} {H : List Blk} {L s g : Nat} {t : TypeId} {es : List (List AV)} (h : S.Free H g) (hne : g ≠ L) : (S.take H.length L).Free (H ++ [.row s t es]) g := ⟨fun ho => by
 rcases wat9 ho with r|r
 ·exact h.1 r
 ·exact hne r, h.2⟩
end
end Go.V

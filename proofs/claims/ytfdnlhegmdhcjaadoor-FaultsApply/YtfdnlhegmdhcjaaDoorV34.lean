import Derived.Test.YtfdnlhegmdhcjaaDoorV28
set_option linter.unusedVariables false
set_option linter.unusedSimpArgs false
namespace Go.V
open Go Go.RowKit
def jumpOf : Exit → Option Code
 | .ret => some .ret
 | .exit id => some (.exit id)
 | .goto t => some (.goto t)
 | _ => none
def plainExit : Exit → Bool
 | .panic _ => false
 | .outgrown => false
 | _ => true
def setA : List Tmp → List AV → List AV → List AV
 | p :: ps, x :: xs, a => setA ps xs (a.set p x)
 | _, _, a => a
def recOf (fn : FuncId) (ts : Array Value) (ps : Array Tmp) (assign body : Code) (D : Nat) (st : LoopState) (pe : Option Code) : Obj := .loop { state := st, pending := pe, fn := fn, tmps := ts, params := ps, assign := assign, body := body, defers := D }
section
variable {P : Program} {G : Glob}
theorem relL_setA {E : Env} : ∀ (ps : List Tmp) (xs : List AV) (a : List AV) (ts : Array Value) (vs : List Value), RelL E a ts.toList → RelL E xs vs → RelL E (setA ps xs a) ((ps.zip vs).foldl (fun t (p : Tmp × Value) => t.setIfInBounds p.1 p.2) ts).toList
 | [], xs, a, ts, vs, ha, hx => by simpa [setA] using ha
 | p :: ps, [], a, ts, vs, ha, hx => by
  simp only [RelL] at hx; subst hx
  simpa [setA] using ha
 | p :: ps, x :: xs, a, ts, vs, ha, hx => by
  simp only [RelL] at hx
  obtain ⟨u, us, rfl, h1, h2⟩ := hx
  simp only [setA, List.zip_cons_cons, List.foldl_cons]
  refine relL_setA ps xs _ _ us ?_ h2
  simpa using ha.set p h1
def St.add (S : St) (k L : Nat) (w : World) : St := { S with ν := upd S.ν k (some L), w := w }
theorem at_add {S : St} {H : List Blk} {L : Nat} {w : World} {x : OB} {b : Nat} (hb : b < H.length) : (S.add H.length L w).at (H ++ [.ob x]) b = S.at H b := by
 simp only [St.at, St.add, List.getElem?_append_left hb, upd_ne _ _ (show b ≠ H.length by omega)]
theorem at_add_new {S : St} {H : List Blk} {L : Nat} {w : World} {x : OB} : (S.add H.length L w).at (H ++ [.ob x]) H.length = some L := by
 simp [St.at, St.add, upd_same]
theorem at_add_lt {S : St} {H : List Blk} {x : OB} {b g : Nat} (h : S.at (H ++ [.ob x]) b = some g) : b < H.length ∨ b = H.length := by
 by_cases e : b ≤ H.length
 ·omega
 ·have : (H ++ [Blk.ob x])[b]? = none := List.getElem?_eq_none (by simp; omega)
  simp [St.at, this] at h
theorem env_add {S : St} {H : List Blk} {L : Nat} {w : World} {x : OB} : (S.env H).le ((S.add H.length L w).env (H ++ [.ob x])) :=
 ⟨fun k o h => h, fun b s cur hb => ⟨cur, Nat.le_refl _, by
  have hb : shOf H b = some (s, cur) := hb
  have := shOf_lt hb
  show shOf (H ++ [.ob x]) b = _
  simpa [shOf, List.getElem?_append_left this] using hb, fun _ => rfl⟩, fun b g hb => by
  have hb : mpOf S.ν H b = some g := hb
  have hlt := mpOf_lt hb
  show mpOf (upd S.ν H.length (some L)) (H ++ [.ob x]) b = _
  simpa [mpOf, List.getElem?_append_left hlt, upd_ne _ _ (show b ≠ H.length by omega)] using hb⟩
theorem add_ok {S : St} {H : List Blk} {L : Nat} {w : World} {o : Obj} {as : List AV} {vs : List Value} (hok : S.Ok H) (hL : S.Free H L) (hsame : ∀ k, k < S.w.heap.size → k ≠ L → w.heap[k]? = S.w.heap[k]?) (hnew : w.heap[L]? = some o) (hr : RelL (S.env H) as vs) :
  (S.add H.length L w).Ok (H ++ [.ob (.loop o as vs)]) := by
 have hle := env_add (S := S) (H := H) (L := L) (w := w) (x := .loop o as vs)
 have hne : ∀ b k, S.at H b = some k → k ≠ L := fun b k hb e => hL.1 ⟨b, by rw [← e]; exact hb⟩
 refine ⟨fun k o' hk => ?_, fun b s t es hb => ?_, fun b x hb => ?_, fun b b' g hb hb' => ?_⟩
 ·have hk' : S.M k = some o' := hk
  have : k ≠ L := fun e => by rw [e, hL.2] at hk'; cases hk'
  exact (hsame k (M_lt hok (by rw [hk']; simp)) this).trans (hok.imm k o' hk')
 ·have hlt : b < H.length := by
   have := (List.getElem?_eq_some_iff.1 hb).1
   simp at this
   rcases Nat.lt_or_ge b H.length with q|q
   ·exact q
   ·have e : b = H.length := by omega
    subst e; simp at hb
  rw [List.getElem?_append_left hlt] at hb
  rcases hok.row b s t es hb with q|⟨g, k, cs, h1, h2, h3, h4, h5, h6, h7⟩
  ·exact .inl q
  ·have hlt2 := (Array.getElem?_eq_some_iff.1 h3).1
   exact .inr ⟨g, k, cs, h1, h2, (hsame g hlt2 (hne b g (by simp [St.at, hb, h1]))).trans h3, h4, h5, h6, h7.mono hle⟩
 ·rcases Nat.lt_or_ge b H.length with hlt|hge
  ·rw [List.getElem?_append_left hlt] at hb
   obtain ⟨g, o1, h1, h2, h3, h4⟩ := hok.ob b x hb
   have hlt2 := (Array.getElem?_eq_some_iff.1 h3).1
   exact ⟨g, o1, (upd_ne _ _ (show b ≠ H.length by omega)).trans h1, h2, (hsame g hlt2 (hne b g (by simp [St.at, hb, h1]))).trans h3, h4.mono hle⟩
  ·have e : b = H.length := by
    have := (List.getElem?_eq_some_iff.1 hb).1
    simp at this; omega
   subst e
   simp at hb
   subst hb
   exact ⟨L, o, upd_same _ _ _, hL.2, hnew, rfl, RelL.mono hle _ _ hr⟩
 ·rcases at_add_lt hb with e|e
  ·rw [at_add e] at hb
   rcases at_add_lt hb' with e'|e'
   ·rw [at_add e'] at hb'; exact hok.inj b b' g hb hb'
   ·rw [e', at_add_new] at hb'; injection hb' with hb'
    exact absurd hb'.symm (hne b g hb)
  ·rw [e, at_add_new] at hb; injection hb with hb
   rcases at_add_lt hb' with e'|e'
   ·rw [at_add e'] at hb'; exact absurd hb.symm (hne b' g hb')
   ·omega
theorem free_last {S : St} {H : List Blk} {x : OB} {L : Nat} (hok : S.Ok (H ++ [.ob x])) (hν : S.ν H.length = some L) : S.Free H L := by
 have hat : S.at (H ++ [.ob x]) H.length = some L := by simp [St.at, hν]
 refine ⟨fun ⟨b, hb⟩ => ?_, ?_⟩
 ·have hlt : b < H.length := by
   rcases Nat.lt_or_ge b H.length with q|q
   ·exact q
   ·simp [St.at, List.getElem?_eq_none q] at hb
  have : S.at (H ++ [.ob x]) b = some L := by simpa only [St.at, List.getElem?_append_left hlt] using hb
  have := hok.inj b H.length L this hat
  omega
 ·obtain ⟨g, o, h1, h2, _⟩ := hok.ob H.length x (by simp)
  rw [hν] at h1; injection h1 with h1; rw [h1]; exact h2
theorem put_owned {S S' : St} {n0 : Nat} {H H' : List Blk} {L : Nat} (h : Ext n0 S H S' H') (hL : S.Owns H L ∨ S.w.heap.size ≤ L) (o : Obj) : Ext n0 S H (S'.shut L o) H' :=
 { h with
  size := by simpa [St.shut] using h.size
  keep := fun k hk hn => (World.putObj_heap_other (by rintro rfl; rcases hL with q|q; exact hn q; omega)).trans (h.keep k hk hn) }
theorem free_shut {S : St} {H : List Blk} {g L : Nat} (h : S.Free H g) (o : Obj) : (S.shut L o).Free H g := h
theorem ayield_of_body {k : Nat} {xs aS : List AV} {H1 H2 : List Blk} {fn : FuncId} {ts : Array Value} {ps : Array Tmp} {assign body : Code} {D : Nat} {e : Exit}
  (hbody : AWp true P G k assign (thenA (AWp true P G k body (fun e' a' H' => e' = e ∧ H'.take k = H2)) (fun _ _ _ => False)) (setA ps.toList xs aS) H1)
  (h1 : H1.length = k) (h2 : H2.length = k) (hb1 : H1.all (Blk.below k) = true) (hb2 : H2.all (Blk.below k) = true) (he : plainExit e = true) (hx : idsL none_ xs = true) (ha : idsL (fun b => decide (b < k)) aS = true) (hsz : xs.length = ps.size) :
  AYield P G k xs (H1 ++ [.ob (.loop (recOf fn ts ps assign body D .ready none) aS ts.toList)]) (.bool (jumpOf e).isNone) (H2 ++ [.ob (.loop (recOf fn ts ps assign body D (if (jumpOf e).isNone = true then .ready else .done) (jumpOf e)) aS ts.toList)]) := by
 subst h1
 intro S vals L hok hG hrel hL
 have hν : S.ν H1.length = some L := by simpa [mpOf] using hL
 have hfree := free_last hok hν
 obtain ⟨g, o, q1, q2, q3, q4, q5⟩ := hok.ob H1.length _ (by simp; rfl)
 rw [hν] at q1; injection q1 with q1; subst q1; subst q4
 have htk : (H1 ++ [Blk.ob (.loop (recOf fn ts ps assign body D .ready none) aS ts.toList)]).take H1.length = H1 := by simp
 obtain ⟨hok1, hext1⟩ := take_ok (n0 := H1.length) hok (Nat.le_refl _) (by simp) (by rw [htk]; exact hb1)
 have hag := env_take (m := H1.length) S (H1 ++ [Blk.ob (.loop (recOf fn ts ps assign body D .ready none) aS ts.toList)])
 rw [htk] at hok1 hext1 hag
 have hvs : vals.length = ps.size := by rw [← hrel.length]; exact hsz
 have hrx : RelL (S.env H1) xs vals := RelL.move (agree_closed (E := S.env (H1 ++ [.ob (.loop (recOf fn ts ps assign body D .ready none) aS ts.toList)])) (E' := S.env H1) fun k o q => q) _ _ hx hrel
 have hra : RelL (S.env H1) aS ts.toList := RelL.move hag _ _ ha q5
 refine ⟨fn, _, assign, body, run_yield (P := P) (args := vals.toArray) q3 (by simpa using hvs), roundIn_of_wpIn (F := Fence.wide) trivial ?_⟩
 have hset := relL_setA ps.toList xs aS ts vals hra hrx
 have hown : S.Owns (H1 ++ [Blk.ob (.loop (recOf fn ts ps assign body D .ready none) aS ts.toList)]) L := ⟨H1.length, by simp [St.at, hν]⟩
 have hfold : ((ps.zip vals.toArray).foldl (fun t (p : Tmp × Value) => t.setIfInBounds p.1 p.2) ts) = ((ps.toList.zip vals).foldl (fun t (p : Tmp × Value) => t.setIfInBounds p.1 p.2) ts) := by
  rw [← Array.foldl_toList]; simp
 refine wpIn_mono (hbody (some L) S { tmps := (ps.zip vals.toArray).foldl (fun t (p : Tmp × Value) => t.setIfInBounds p.1 p.2) ts, defers := [] } rfl hok1 hG (Nat.le_refl _) (by rw [hfold]; exact hset)) fun e1 act1 w1 hE => ?_
 cases e1 with
 | normal =>
  obtain ⟨a1, Ha, Sa, rfl, hB, hoka, hexta, hra1, _⟩ := hE
  obtain ⟨hfa, hsame⟩ := hfree.ext (Array.getElem?_eq_some_iff.1 q3).1 hexta
  have hLa := hsame.trans q3
  refine ⟨_, run_beginRound (P := P) hLa rfl, ?_⟩
  have hokb := shut_ok hoka hfa (recOf fn ts ps assign body D .busy none)
  have hlen : H1.length ≤ Ha.length := hexta.len (Nat.le_refl _)
  have henv : (Sa.shut L (recOf fn ts ps assign body D .busy none)).env Ha = Sa.env Ha := rfl
  refine wpIn_mono (hB (some L) (Sa.shut L (recOf fn ts ps assign body D .busy none)) act1 rfl hokb (hG.mono hexta.M) hlen hra1) fun e act2 w2 hE2 => ?_
  obtain ⟨a2, Hb, Sb, rfl, ⟨rfl, hH2⟩, hok2, hext2, _, _⟩ := hE2
  have hLb0 : (Sa.shut L (recOf fn ts ps assign body D .busy none)).w.heap[L]? = some (recOf fn ts ps assign body D .busy none) := World.putObj_heap_same (Array.getElem?_eq_some_iff.1 hLa).1
  obtain ⟨hfb, hsameb⟩ := (free_shut (L := L) hfa (recOf fn ts ps assign body D .busy none)).ext (Array.getElem?_eq_some_iff.1 hLb0).1 hext2
  have hLb := hsameb.trans hLb0
  have hlen2 : H1.length ≤ Hb.length := hext2.len hlen
  obtain ⟨hok3, hext3⟩ := take_ok (n0 := H1.length) hok2 (Nat.le_refl _) hlen2 (by rw [hH2]; exact hb2)
  rw [hH2] at hok3 hext3
  have hfc : Sb.Free H2 L := ⟨fun q => hfb.1 (by
   rcases q with ⟨b, hb⟩
   refine ⟨b, ?_⟩
   have hlt : b < H1.length := by
    rcases Nat.lt_or_ge b H2.length with q|q
    ·omega
    ·simp [St.at, List.getElem?_eq_none q] at hb
   rw [← hH2] at hb
   simpa only [St.at, List.getElem?_take, if_pos hlt] using hb), hfb.2⟩
  -- the chain, as the caller sees it
  have hchain : Ext H1.length S (H1 ++ [Blk.ob (.loop (recOf fn ts ps assign body D .ready none) aS ts.toList)]) Sb H2 := ((put_owned (hext1.trans hexta) (.inl hown) _).trans hext2).trans hext3
  have hra2 : RelL (Sb.env H2) aS ts.toList := by
   have e1 := RelL.mono (hexta.le (Nat.le_refl _)) _ _ hra
   refine RelL.mono ?_ _ _ hra
   have : Ext H1.length S H1 Sa Ha := hexta
   have l1 := hexta.le (Nat.le_refl _)
   refine ⟨fun k o q => hext3.M k o (hext2.M k o (hexta.M k o q)), fun b s cur hb => ?_, fun b g hb => ?_⟩
   ·have hlt := shOf_lt hb
    obtain ⟨c1, l1, s1, m1⟩ := hexta.sh b s cur hlt hb
    obtain ⟨c2, l2, s2, m2⟩ := hext2.sh b s c1 hlt s1
    obtain ⟨c3, l3, s3, m3⟩ := hext3.sh b s c2 hlt s2
    refine ⟨c3, by omega, s3, fun e => ?_⟩
    have e3 : c3 = c2 := by omega
    have e2 : c2 = c1 := by omega
    have e1 : c1 = cur := by omega
    exact ((m3 e3).trans (m2 e2)).trans (m1 e1)
   ·have hlt := mpOf_lt hb
    exact hext3.ν b g hlt (hext2.ν b g hlt (hexta.ν b g hlt hb))
  have hend := run_endRound (P := P) (jumpOf e) hLb
  let w' := Sb.w.putObj L (recOf fn ts ps assign body D (if (jumpOf e).isNone = true then .ready else .done) (jumpOf e))
  have hfin : ∃ v S', Ending.returned (.bool (jumpOf e).isNone) = .returned v ∧ S'.w = w' ∧ S'.Ok (H2 ++ [.ob (.loop (recOf fn ts ps assign body D (if (jumpOf e).isNone = true then .ready else .done) (jumpOf e)) aS ts.toList)]) ∧
    Ext (H1 ++ [Blk.ob (.loop (recOf fn ts ps assign body D .ready none) aS ts.toList)]).length S (H1 ++ [Blk.ob (.loop (recOf fn ts ps assign body D .ready none) aS ts.toList)]) S' (H2 ++ [.ob (.loop (recOf fn ts ps assign body D (if (jumpOf e).isNone = true then .ready else .done) (jumpOf e)) aS ts.toList)]) ∧
    Rel (S'.env (H2 ++ [.ob (.loop (recOf fn ts ps assign body D (if (jumpOf e).isNone = true then .ready else .done) (jumpOf e)) aS ts.toList)])) (.bool (jumpOf e).isNone) v := by
   refine ⟨_, Sb.add H2.length L w', rfl, rfl, add_ok hok3 hfc (fun k hk hne => World.putObj_heap_other hne) (World.putObj_heap_same (Array.getElem?_eq_some_iff.1 hLb).1) hra2, ?_, by simp [Rel]⟩
   have hput := put_owned hchain (.inl hown) (recOf fn ts ps assign body D (if (jumpOf e).isNone = true then .ready else .done) (jumpOf e))
   have hlt1 : ∀ b, b < (H1 ++ [Blk.ob (.loop (recOf fn ts ps assign body D .ready none) aS ts.toList)]).length → b < H1.length ∨ b = H1.length := fun b hb => by simp at hb; omega
   exact {
    os := hput.os
    tape := hput.tape
    output := hput.output
    size := hput.size
    keep := hput.keep
    M := hput.M
    dom := hput.dom
    own := fun j hj => by
     obtain ⟨b, hb⟩ := hj
     rcases at_add_lt hb with q|q
     ·rw [at_add q] at hb
      exact hput.own j ⟨b, hb⟩
     ·rw [q, at_add_new] at hb; injection hb with hb
      rw [← hb]; exact .inl hown
    sh := fun b s cur hb hs => by
     rcases hlt1 b hb with q|q
     ·obtain ⟨c, c1, c2, c3⟩ := hput.sh b s cur q hs
      refine ⟨c, c1, ?_, c3⟩
      have : b < H2.length := by omega
      simpa [shOf, List.getElem?_append_left this] using c2
     ·subst q; simp [shOf] at hs
    ν := fun b g hb hg => by
     rcases hlt1 b hb with q|q
     ·have : mpOf Sb.ν H2 b = some g := hput.ν b g q hg
      have hb2 : b < H2.length := by omega
      have e : (Sb.add H2.length L w').ν b = Sb.ν b := upd_ne _ _ (by omega)
      simpa [mpOf, List.getElem?_append_left hb2, e] using this
     ·subst q
      have e : mpOf S.ν (H1 ++ [Blk.ob (.loop (recOf fn ts ps assign body D .ready none) aS ts.toList)]) H1.length = some L := by simpa [mpOf] using hν
      rw [e] at hg; injection hg with hg; subst hg
      rw [← h2]
      simp [mpOf, St.add, upd_same]
    len := fun _ => by simp; omega }
  cases e with
  | normal => exact ⟨_, w', hend, hfin⟩
  | ret => exact ⟨_, w', hend, hfin⟩
  | exit id => exact ⟨_, w', hend, hfin⟩
  | goto t => exact ⟨_, w', hend, hfin⟩
  | panic c => cases he
  | outgrown => cases he
 | exit id => obtain ⟨_, _, _, _, h, _⟩ := hE; exact h.elim
 | goto id => obtain ⟨_, _, _, _, h, _⟩ := hE; exact h.elim
 | ret => obtain ⟨_, _, _, _, h, _⟩ := hE; exact h.elim
 | panic id => obtain ⟨_, _, _, _, h, _⟩ := hE; exact h.elim
 | outgrown => obtain ⟨_, _, _, _, h, _⟩ := hE; exact h.elim
end
end Go.V
set_option linter.unusedVariables false
set_option linter.unusedSimpArgs false
namespace Go.V
open Go Go.RowKit
def Iter (P : Program) (G : Glob) (g : FuncId) (cap : List AV) (x : Nat → List AV) (N : Nat) : Prop :=
 ∀ (K : Nat → List Blk) (b m : Nat) (stop : Bool), (stop = true → m < N) → (stop = false → m = N) →
  (∀ i, i < m → AYield P G b (x i) (K i) (.bool true) (K (i + 1))) → (stop = true → AYield P G b (x m) (K m) (.bool false) (K (m + 1))) →
  ACalls P G g (.yld b :: cap) (K 0) (.tup []) (K (if stop = true then m + 1 else m))
def IterF (P : Program) (G : Glob) (g : FuncId) (cap : List AV) (x : Nat → List AV) (N : Nat) : Prop :=
 ∀ (K : Nat → List Blk) (b m : Nat) (stop : Bool), (∀ i, (K i).length = b + 1 ∧ (K i).all (Blk.below b) = true) → (stop = true → m < N) → (stop = false → m = N) →
  (∀ i, i < m → AYield P G b (x i) (K i) (.bool true) (K (i + 1))) → (stop = true → AYield P G b (x m) (K m) (.bool false) (K (m + 1))) →
  ACalls P G g (.yld b :: cap) (K 0) (.tup []) (K (if stop = true then m + 1 else m))
theorem Iter.toF {P : Program} {G : Glob} {g : FuncId} {cap : List AV} {x : Nat → List AV} {N : Nat} (h : Iter P G g cap x N) : IterF P G g cap x N := fun K b m stop _ => h K b m stop
section
variable {P : Program} {G : Glob}
theorem relL_scrub {E : Env} {a : List AV} {vs : List Value} (k : Nat) (h : RelL E a vs) : RelL E (a.map (scrub k)) vs := by
 refine RelL.mk (by simpa using h.length) fun i x v hx hv => ?_
 rw [List.getElem?_map] at hx
 cases hy : a[i]? with
 | none => rw [hy] at hx; cases hx
 | some y =>
  rw [hy] at hx
  simp only [Option.map_some, Option.some.injEq] at hx
  subst hx
  obtain ⟨v', hv', hr⟩ := h.get hy
  rw [hv] at hv'; injection hv' with hv'; subst hv'
  unfold scrub
  split
  ·exact hr
  ·simp [Rel]
theorem ids_scrub (k : Nat) (a : List AV) : idsL (fun b => decide (b < k)) (a.map (scrub k)) = true := by
 rw [idsL_iff]
 intro x hx
 obtain ⟨y, _, rfl⟩ := List.mem_map.1 hx
 unfold scrub
 split
 ·assumption
 ·rfl
theorem awp_rangeFunc {n0 k m N : Nat} {gf : FuncId} {g : Operand} {ps : Array Tmp} {assign body : Code} {a cap : List AV} {H : List Blk} {x : Nat → List AV} {Q : Post} {e : Exit} (Hs : Nat → List Blk)
  (hg : (ev G a g).strip = .fn gf cap) (hgk : (ev G a g).ok = true) (hent : enters P gf = true) (hit : IterF P G gf cap x N)
  (hk : H.length = k) (h0 : Hs 0 = H) (hlen : ∀ i, (Hs i).length = k) (hbel : ∀ i, (Hs i).all (Blk.below k) = true)
  (hx : ∀ i, idsL none_ (x i) = true ∧ (x i).length = ps.size)
  (hm1 : (jumpOf e).isSome = true → m < N) (hm2 : (jumpOf e).isSome = false → m = N) (he : plainExit e = true)
  (hround : ∀ i, i < m → AWp true P G k assign (thenA (AWp true P G k body (fun e' a' H' => e' = .normal ∧ H'.take k = Hs (i + 1))) (fun _ _ _ => False)) (setA ps.toList (x i) (a.map (scrub k))) (Hs i))
  (hlast : (jumpOf e).isSome = true → AWp true P G k assign (thenA (AWp true P G k body (fun e' a' H' => e' = e ∧ H'.take k = Hs (m + 1))) (fun _ _ _ => False)) (setA ps.toList (x m) (a.map (scrub k))) (Hs m))
  (hQ : Q e a (Hs (if (jumpOf e).isSome = true then m + 1 else m))) : AWp false P G n0 (.rangeFunc g ps assign body) Q a H := by
 intro ro S act hro hok hG hn ha
 have hro : ro = none := by cases ro with|none => rfl|some l => cases hro
 subst hro; subst hk
 refine wpIn_rangeFunc (F := fen none) (n := 0) fun fn hfn => ?_
 -- what is called
 have hfv := (rel_ev (act := act) hG ha g).strip hgk
 rw [hg] at hfv
 simp only [Rel] at hfv
 obtain ⟨caps, hfe, hcap⟩ := hfv
 -- the record and the block for the deferred calls
 obtain ⟨D, hD⟩ : ∃ D, S.w.heap.size = D := ⟨_, rfl⟩
 obtain ⟨R, hR⟩ : ∃ R : Nat → Obj, R = fun i => recOf fn act.tmps ps assign body D (if i ≤ m then .ready else .done) (if i ≤ m then none else jumpOf e) := ⟨_, rfl⟩
 have hRr : ∀ i, i ≤ m → R i = recOf fn act.tmps ps assign body D .ready none := fun i hi => by rw [hR]; simp [hi]
 have hRd : R (m + 1) = recOf fn act.tmps ps assign body D .done (jumpOf e) := by
  have : ¬ m + 1 ≤ m := by omega
  rw [hR]; simp only [if_neg this]
 obtain ⟨W1, hW1⟩ : ∃ W1, (S.w.alloc (.deferred (some []))).alloc (recOf fn act.tmps ps assign body D .ready none) = W1 := ⟨_, rfl⟩
 have hW1h : ∀ j, j < D → W1.heap[j]? = S.w.heap[j]? := fun j hj => by
  rw [← hW1]; exact (Below.heap_alloc _ _ _ (by simp; omega)).trans (Below.heap_alloc _ _ _ (by omega))
 have hW1s : W1.heap.size = D + 2 := by rw [← hW1]; simp; omega
 have hW1L : W1.heap[D + 1]? = some (recOf fn act.tmps ps assign body D .ready none) := by
  rw [← hW1]; have := World.alloc_heap_new (S.w.alloc (.deferred (some []))) (recOf fn act.tmps ps assign body D .ready none); rwa [World.size_alloc, hD] at this
 have hW1D : W1.heap[D]? = some (.deferred (some [])) := by
  rw [← hW1]
  have := World.alloc_heap_new S.w (.deferred (some []))
  rw [hD] at this
  exact (Below.heap_alloc _ _ _ (by simp; omega)).trans this
 have hnf : ∀ j, D ≤ j → S.Free H j := fun j hj => ⟨fun ⟨b, hb⟩ => by have := own_lt hok hb; omega, by
  cases hM : S.M j with
  | none => rfl
  | some o => have := M_lt hok (k := j) (by rw [hM]; simp); omega⟩
 let aS := a.map (scrub H.length)
 let K : Nat → List Blk := fun i => Hs i ++ [.ob (.loop (R i) aS act.tmps.toList)]
 have hKl : ∀ i, (K i).length = H.length + 1 := fun i => by simp [K, hlen]
 let S1 : St := S.add H.length (D + 1) W1
 have hra : RelL (S.env H) aS act.tmps.toList := relL_scrub _ ha
 have hK0 : K 0 = H ++ [.ob (.loop (recOf fn act.tmps ps assign body D .ready none) aS act.tmps.toList)] := by simp only [K]; rw [hRr 0 (Nat.zero_le _), h0]
 have hok1 : S1.Ok (K 0) := by
  rw [hK0]
  exact add_ok hok (hnf _ (by omega)) (fun j hj _ => hW1h j (by omega)) hW1L hra
 have hown1 : ∀ j, S1.Owns (K 0) j → S.Owns H j ∨ j = D + 1 := fun j ⟨b, hb⟩ => by
  rw [hK0] at hb
  rcases at_add_lt hb with q|q
  ·rw [at_add q] at hb; exact .inl ⟨b, hb⟩
  ·rw [q, at_add_new] at hb; injection hb with hb; exact .inr hb.symm
 have hcalls : ACalls P G gf (.yld H.length :: cap) (K 0) (.tup []) (K (if (jumpOf e).isSome = true then m + 1 else m)) := by
  refine hit K H.length m (jumpOf e).isSome (fun i => ⟨hKl i, by simp only [K, aS]; rw [List.all_append, hbel i, List.all_cons]; simp only [Blk.below, ids_scrub]; rfl⟩) hm1 hm2 (fun i hi => ?_) (fun hj => ?_)
  ·have := ayield_of_body (fn := fn) (ts := act.tmps) (D := D) (e := .normal) (hround i hi) (hlen i) (hlen _) (hbel i) (hbel _) rfl (hx i).1 (ids_scrub _ _) (hx i).2
   simp only [K]
   rw [hRr i (by omega), hRr (i + 1) (by omega)]
   exact this
  ·have := ayield_of_body (fn := fn) (ts := act.tmps) (D := D) (hlast hj) (hlen m) (hlen _) (hbel m) (hbel _) he (hx m).1 (ids_scrub _ _) (hx m).2
   have hn : (jumpOf e).isNone = false := by
    cases hje : jumpOf e with
    | none => rw [hje] at hj; cases hj
    | some c => rfl
   rw [hn] at this
   simp only [K]
   rw [hRr m (Nat.le_refl _), hRd]
   exact this
 have hargs : RelL (S1.env (K 0)) (.yld H.length :: cap) (.func (.yield (D + 1)) #[] #[] :: caps) := by
  simp only [RelL]
  refine ⟨_, _, rfl, ?_, ?_⟩
  ·simp only [Rel]
   exact ⟨D + 1, by rw [hK0]; simp [St.env, mpOf, S1, St.add, upd_same], rfl⟩
  ·rw [hK0]; exact RelL.mono env_add _ _ hcap
 have hcall := hcalls S1 _ hok1 hG hargs
 generalize hmm : (if (jumpOf e).isSome = true then m + 1 else m) = mm at hcall hQ
 unfold enters at hent
 split at hent
 ·rename_i fn' hfn'
  simp only [Bool.and_eq_true, bne_iff_ne, ne_eq, Option.isSome_iff_exists] at hent
  obtain ⟨hname, body', hbody'⟩ := hent
  refine ⟨D + 1, [mark D], W1, { target := .fn (.func gf) caps.toArray, args := #[.func (.yield (D + 1)) #[] #[]] }, W1, gf, #[.func (.yield (D + 1)) #[] #[]] ++ caps.toArray, W1, ?_, ?_, fun _ _ => trivial, ?_, fun q => (by cases q), ?_⟩
  ·rw [← hW1, ← hD]; exact run_enterLoop_outer _ _ _ _ _
  ·simp only [resolve, hfe]
   simp [go_sem, Deferred.ofValue]
  ·simp [invoke, callFunc, hfn', hbody']
   exact hname
  ·have hvals : (.func (.yield (D + 1)) #[] #[] :: caps).toArray = #[.func (.yield (D + 1)) #[] #[]] ++ caps.toArray := by simp
   rw [hvals] at hcall
   refine callsIn_fen (hcall.mono fun e3 w3 hh => ?_)
   obtain ⟨v, S', rfl, rfl, hok', hext', _⟩ := hh
   have hHl : (Hs mm).length = H.length := hlen mm
   have hν : S'.ν H.length = some (D + 1) := by
    have h1 : mpOf S1.ν (K 0) H.length = some (D + 1) := by rw [hK0]; simp [mpOf, S1, St.add, upd_same]
    have h2 := hext'.ν H.length (D + 1) (by rw [hKl]; omega) h1
    simp only [K] at h2
    rw [← hHl] at h2
    simpa [mpOf, hHl] using h2
   obtain ⟨g1, o1, q1, q2, q3, q4, q5⟩ := hok'.ob H.length _ (by simp only [K]; rw [← hHl]; simp; rfl)
   rw [hν] at q1; injection q1 with q1; subst q1; subst q4
   have hfree : S'.Free (Hs mm) (D + 1) := free_last (x := .loop (R mm) aS act.tmps.toList) hok' (by rw [hHl]; exact hν)
   have htk : (K mm).take H.length = Hs mm := by simp only [K]; rw [← hHl]; simp
   obtain ⟨hok2, hext2⟩ := take_ok (n0 := H.length) hok' (Nat.le_refl _) (by rw [hKl]; omega) (by rw [htk]; exact hbel mm)
   rw [htk] at hok2 hext2
   have hRmm : R mm = .loop { state := (if mm ≤ m then .ready else .done), pending := (if mm ≤ m then none else jumpOf e), fn := fn, tmps := act.tmps, params := ps, assign := assign, body := body, defers := D } := by rw [hR]; rfl
   rw [hRmm] at q3
   have hend := run_endLoop (P := P) q3 (by simp only; split <;> simp)
   generalize hX : Obj.loop { ({ state := (if mm ≤ m then .ready else .done), pending := (if mm ≤ m then none else jumpOf e), fn := fn, tmps := act.tmps, params := ps, assign := assign, body := body, defers := D } : Loop) with state := .exhausted } = X at hend
   let S6 := S'.shut (D + 1) X
   have hok6 : S6.Ok (Hs mm) := shut_ok hok2 hfree X
   have hown6 : ∀ j, S6.Owns (Hs mm) j → S.Owns H j ∨ (D ≤ j ∧ j ≠ D) := fun j hj => by
    rcases hext2.own j hj with q|q
    ·rcases hext'.own j q with q|q
     ·rcases hown1 j q with q|q
      ·exact .inl q
      ·exact .inr (by omega)
     ·have : D + 2 ≤ j := by rw [← hW1s]; exact q
      exact .inr (by omega)
    ·have := hext'.size
     have : D + 2 ≤ j := by rw [← hW1s]; exact Nat.le_trans this q
     exact .inr (by omega)
   have hdom6 : ∀ j, S6.M j ≠ none → S.M j ≠ none ∨ S.Owns H j ∨ (D ≤ j ∧ j ≠ D) := fun j hj => by
    rcases hext'.dom j hj with q|q|q
    ·exact .inl q
    ·rcases hown1 j q with q|q
     ·exact .inr (.inl q)
     ·exact .inr (.inr (by omega))
    ·have : D + 2 ≤ j := by rw [← hW1s]; exact q
     exact .inr (.inr (by omega))
   have hkeep6 : ∀ j, j ≤ D → ¬ S.Owns H j → S6.w.heap[j]? = W1.heap[j]? := fun j hj hno =>
    (World.putObj_heap_other (by omega)).trans (hext'.keep j (by show j < W1.heap.size; omega) fun q => by
     rcases hown1 j q with q|q
     ·exact hno q
     ·omega)
   have hext6 : Ext H.length S H S6 (Hs mm) := {
    os := (by rw [show S6.w.os = S'.w.os from rfl, hext'.os, show S1.w = W1 from rfl, ← hW1]; rfl)
    tape := (by rw [show S6.w.tape = S'.w.tape from rfl, hext'.tape, show S1.w = W1 from rfl, ← hW1]; rfl)
    output := (by rw [show S6.w.output = S'.w.output from rfl, hext'.output, show S1.w = W1 from rfl, ← hW1]; rfl)
    size := by
     have := hext'.size
     have e : S1.w.heap.size = D + 2 := hW1s
     have e2 : S6.w.heap.size = S'.w.heap.size := by simp [S6, St.shut]
     omega
    keep := fun j hj hno => (hkeep6 j (by omega) hno).trans (hW1h j (by omega))
    M := fun j o hj => hext'.M j o hj
    dom := fun j hj => by
     rcases hdom6 j hj with q|q|q
     ·exact .inl q
     ·exact .inr (.inl q)
     ·exact .inr (.inr (by omega))
    own := fun j hj => by
     rcases hown6 j hj with q|q
     ·exact .inl q
     ·exact .inr (by omega)
    sh := fun b s cur hb hs => by
     have h1 : shOf (K 0) b = some (s, cur) := by rw [hK0]; simpa [shOf, List.getElem?_append_left hb] using hs
     obtain ⟨c1, l1, s1, m1⟩ := hext'.sh b s cur (by rw [hKl]; omega) h1
     refine ⟨c1, l1, ?_, m1⟩
     have hb2 : b < (Hs mm).length := by omega
     simpa [K, shOf, List.getElem?_append_left hb2] using s1
    ν := fun b g hb hg => by
     have h1 : mpOf S1.ν (K 0) b = some g := by
      rw [hK0]
      have e : S1.ν b = S.ν b := upd_ne _ _ (by omega)
      simpa [mpOf, List.getElem?_append_left hb, e] using hg
     have h2 := hext'.ν b g (by rw [hKl]; omega) h1
     have hb2 : b < (Hs mm).length := by omega
     show mpOf S'.ν (Hs mm) b = some g
     simpa [K, mpOf, List.getElem?_append_left hb2] using h2
    len := fun _ => by omega }
   have hmark : Marks S act.defers S6 (Hs mm) (mark D :: act.defers) := by
    refine ⟨[D], rfl, by simp, fun j hj => ?_⟩
    have : j = D := by simpa using hj
    subst this
    have hnD := hnf j (Nat.le_refl _)
    refine ⟨by omega, ⟨fun q => ?_, ?_⟩, (hkeep6 j (Nat.le_refl _) hnD.1).trans hW1D⟩
    ·rcases hown6 j q with q|q
     ·exact hnD.1 q
     ·exact q.2 rfl
    ·cases hM : S6.M j with
     | none => rfl
     | some o =>
      rcases hdom6 j (by rw [hM]; simp) with q|q|q
      ·exact absurd hnD.2 q
      ·exact absurd q hnD.1
      ·exact absurd rfl q.2
   have hends : Ends G n0 S H act.defers (Q e) { act with defers := [mark D] ++ act.defers } S6.w :=
    ⟨a, Hs mm, S6, rfl, hQ, hok6, hext6.less hn (Nat.le_refl _), RelL.mono (hext6.le (Nat.le_refl _)) _ _ ha, hmark⟩
   refine ⟨_, S6.w, hend, ?_⟩
   by_cases hj : (jumpOf e).isSome = true
   ·rw [if_pos hj] at hmm
    subst hmm
    have : ¬ m + 1 ≤ m := by omega
    simp only [if_neg this]
    cases e with
    | ret => exact wpIn_ret hends
    | exit id => exact wpIn_exit hends
    | goto t => exact wpIn_goto hends
    | normal => cases hj
    | panic c => cases hj
    | outgrown => cases hj
   ·rw [if_neg hj] at hmm
    subst hmm
    simp only [if_pos (Nat.le_refl m)]
    cases e with
    | normal => exact hends
    | ret => exact absurd rfl hj
    | exit id => exact absurd rfl hj
    | goto t => exact absurd rfl hj
    | panic c => cases he
    | outgrown => cases he
 ·cases hent
def setS : List Tmp → List AV → (Nat → AV) → Nat → AV
 | p :: ps, x :: xs, s => setS ps xs (updS s p x)
 | _, _, s => s
theorem setA_Lst (n : Nat) : ∀ (ps : List Tmp) (xs : List AV) (s : Nat → AV), setA ps xs (Lst n s) = Lst n (setS ps xs s)
 | [], _, s => by simp [setA, setS]
 | _ :: _, [], s => by simp [setA, setS]
 | p :: ps, x :: xs, s => by
  simp only [setA, setS]
  rw [← setA_Lst n ps xs]
  congr 1
  exact putA_Lst n s (some p) x
theorem scrub_Lst (n k : Nat) (s : Nat → AV) : (Lst n s).map (scrub k) = Lst n (fun t => scrub k (s t)) := by
 simp [Lst]
def EndQ (k : Nat) (e : Exit) (H2 : List Blk) : PostS := fun e' _ H' => e' = e ∧ H'.take k = H2
def noneS : PostS := fun _ _ _ => False
theorem out_end {k : Nat} {e : Exit} {H2 H : List Blk} {B : Prop} {s : Nat → AV} (h : B ∧ H.take k = H2) : Out (EndQ k e H2) e B s H := ⟨h.1, rfl, h.2⟩
theorem go_rangeFuncF {n0 n k m N : Nat} {code : Code} {p : List Nat} {B : Prop} {s : Nat → AV} {gf : FuncId} {g : Operand} {ps : Array Tmp} {assign body : Code} {cap : List AV} {H : List Blk} {x : Nat → List AV} {Q : PostS} (e : Exit) (Hs : Nat → List Blk)
  (hs : atR code p = .rangeFunc g ps assign body) (hB : B)
  (hg : (evS G n s g).strip = .fn gf cap) (hgk : (evS G n s g).ok = true) (hent : enters P gf = true) (hit : IterF P G gf cap x N)
  (hk : H.length = k) (h0 : Hs 0 = H) (hlen : ∀ i, (Hs i).length = k) (hbel : ∀ i, (Hs i).all (Blk.below k) = true)
  (hx : ∀ i, idsL none_ (x i) = true ∧ (x i).length = ps.size)
  (hm1 : (jumpOf e).isSome = true → m < N) (hm2 : (jumpOf e).isSome = false → m = N) (he : plainExit e = true)
  (hround : ∀ i, i < m → ∀ s1 : Nat → AV, (∀ t, s1 t = setS ps.toList (x i) (fun t => scrub k (s t)) t) → Go true P G k n code (0 :: p) (thenS (At true P G k n code (1 :: p) (EndQ k .normal (Hs (i + 1)))) noneS) True s1 (Hs i))
  (hlast : (jumpOf e).isSome = true → ∀ s1 : Nat → AV, (∀ t, s1 t = setS ps.toList (x m) (fun t => scrub k (s t)) t) → Go true P G k n code (0 :: p) (thenS (At true P G k n code (1 :: p) (EndQ k e (Hs (m + 1)))) noneS) True s1 (Hs m))
  (hQ : Out Q e True s (Hs (if (jumpOf e).isSome = true then m + 1 else m))) : Go false P G n0 n code p Q B s H := by
 refine ⟨hB, ?_⟩
 have key : ∀ (y : List AV) (e' : Exit) (H1 H2 : List Blk), (∀ s1 : Nat → AV, (∀ t, s1 t = setS ps.toList y (fun t => scrub k (s t)) t) → Go true P G k n code (0 :: p) (thenS (At true P G k n code (1 :: p) (EndQ k e' H2)) noneS) True s1 H1) →
   AWp true P G k assign (thenA (AWp true P G k body (fun e1 a' H' => e1 = e' ∧ H'.take k = H2)) (fun _ _ _ => False)) (setA ps.toList y ((Lst n s).map (scrub k))) H1 := fun y e' H1 H2 h => by
  have h2 := (h _ fun t => rfl).2
  unfold At at h2
  simp only [atR, hs, kid] at h2
  rw [scrub_Lst, setA_Lst]
  refine awp_mono h2 fun e1 a1 H' q => ?_
  rw [liftQ_thenS] at q
  cases e1 with
  | normal =>
   obtain ⟨s', rfl, q⟩ := q
   exact awp_mono q fun e2 a2 H'' ⟨s2, _, r⟩ => r
  | _ => obtain ⟨_, _, r⟩ := q; exact r.elim
 show AWp false P G n0 (atR code p) (liftQ n Q) (Lst n s) H
 rw [hs]
 exact awp_rangeFunc Hs (by rw [ev_Lst]; exact hg) (by rw [ev_Lst]; exact hgk) hent hit hk h0 hlen hbel hx hm1 hm2 he (fun i hi => key _ _ _ _ (hround i hi)) (fun hj => key _ _ _ _ (hlast hj)) ⟨s, rfl, hQ.2⟩
end
end Go.V
set_option linter.unusedVariables false
set_option linter.unusedSimpArgs false
namespace Go.V
open Go Go.RowKit
theorem shOf_setrow {H : List Blk} {b s : Nat} {t : TypeId} {es es' : List (List AV)} (hb : H[b]? = some (.row s t es)) (hl : es'.length = es.length) (x : Nat) : shOf (H.set b (.row s t es')) x = shOf H x := by
 by_cases e : x = b
 ·subst e
  have hlt := (List.getElem?_eq_some_iff.1 hb).1
  simp only [shOf, List.getElem?_set_self hlt, hb, hl]
 ·simp [shOf, List.getElem?_set_ne (Ne.symm e)]
theorem mpOf_setrow {ν : Nat → Option Nat} {H : List Blk} {b s : Nat} {t : TypeId} {es es' : List (List AV)} (hb : H[b]? = some (.row s t es)) (x : Nat) : mpOf ν (H.set b (.row s t es')) x = mpOf ν H x := by
 by_cases e : x = b
 ·subst e
  have hlt := (List.getElem?_eq_some_iff.1 hb).1
  simp only [mpOf, List.getElem?_set_self hlt, hb]
 ·simp [mpOf, List.getElem?_set_ne (Ne.symm e)]
theorem at_setrow {S : St} {H : List Blk} {b s : Nat} {t : TypeId} {es es' : List (List AV)} (hb : H[b]? = some (.row s t es)) (x : Nat) : S.at (H.set b (.row s t es')) x = S.at H x := by
 by_cases e : x = b
 ·subst e
  have hlt := (List.getElem?_eq_some_iff.1 hb).1
  simp only [St.at, List.getElem?_set_self hlt, hb]
 ·simp [St.at, List.getElem?_set_ne (Ne.symm e)]
theorem setrow_ok {S : St} {H : List Blk} {b s : Nat} {t : TypeId} {es es' : List (List AV)} (hok : S.Ok H) (hb : H[b]? = some (.row s t es)) (hl : es'.length = es.length) (hr : ∀ cs, RowIn (S.env H) s es cs → RowIn (S.env H) s es' cs) : S.Ok (H.set b (.row s t es')) := by
 have henv : S.env (H.set b (.row s t es')) = S.env H := by
  simp only [St.env]
  congr 1
  ·funext x; exact shOf_setrow hb hl x
  ·funext x; exact mpOf_setrow hb x
 have hlt := (List.getElem?_eq_some_iff.1 hb).1
 refine ⟨hok.imm, fun x s' t' es2 hx => ?_, fun x o hx => ?_, fun x y g hx hy => ?_⟩
 ·rw [henv]
  by_cases e : x = b
  ·subst e
   rw [List.getElem?_set_self hlt] at hx
   injection hx with hx; injection hx with h1 h2 h3; subst h1; subst h2; subst h3
   rcases hok.row x s t es hb with q|⟨g, k, cs, h1, h2, h3, h4, h5, h6, h7⟩
   ·refine .inl ⟨q.1, q.2.imp (fun q2 => List.eq_nil_of_length_eq_zero ?_) id⟩
    rw [hl, q2]; rfl
   ·exact .inr ⟨g, k, cs, h1, h2, h3, h4, by omega, h6, hr cs h7⟩
  ·rw [List.getElem?_set_ne (Ne.symm e)] at hx
   exact hok.row x s' t' es2 hx
 ·rw [henv]
  have e : x ≠ b := by
   rintro rfl
   rw [List.getElem?_set_self hlt] at hx
   cases hx
  rw [List.getElem?_set_ne (Ne.symm e)] at hx
  exact hok.ob x o hx
 ·rw [at_setrow hb] at hx hy
  exact hok.inj x y g hx hy
theorem setrow_ext {n0 : Nat} {S : St} {H : List Blk} {b s : Nat} {t : TypeId} {es es' : List (List AV)} (hb : H[b]? = some (.row s t es)) (hl : es'.length = es.length) : Ext n0 S H S (H.set b (.row s t es')) where
 os := rfl
 tape := rfl
 output := rfl
 size := Nat.le_refl _
 keep _ _ _ := rfl
 M _ _ h := h
 dom _ h := .inl h
 own k h := by
  obtain ⟨x, hx⟩ := h
  rw [at_setrow hb] at hx
  exact .inl ⟨x, hx⟩
 sh x s' cur _ hs := ⟨cur, Nat.le_refl _, by rw [shOf_setrow hb hl]; exact hs, fun _ => rfl⟩
 ν x g _ hg := by rw [mpOf_setrow hb]; exact hg
 len h := by simpa using h
theorem weak_nil_cell {n0 n b i j z sz s0 : Nat} {t ty : TypeId} {s : Nat → AV} {H : List Blk} {es : List (List AV)} {e : List AV} (hb : H[b]? = some (.row s0 t es)) (hi : es[i]? = some e) (hj : e[j]? = some (.sl z [] (some 0))) :
  Weak n0 (Lst n s) H (Lst n s) (H.set b (.row s0 t (es.set i (e.set j (.own H.length 0 0 none)))) ++ [Blk.row sz ty []]) := fun S vs hok hn ha => by
 have hlt := (List.getElem?_eq_some_iff.1 hb).1
 have hext := nil_ext hok sz ty
 have hok1 := nil_ok hok sz ty
 have hb1 : (H ++ [Blk.row sz ty []])[b]? = some (.row s0 t es) := by rw [List.getElem?_append_left hlt]; exact hb
 have hset : (H ++ [Blk.row sz ty []]).set b (.row s0 t (es.set i (e.set j (.own H.length 0 0 none)))) = H.set b (.row s0 t (es.set i (e.set j (.own H.length 0 0 none)))) ++ [Blk.row sz ty []] := by
  rw [List.set_append_left _ _ hlt]
 have hr : ∀ cs, RowIn ((S.nil H.length).env (H ++ [Blk.row sz ty []])) s0 es cs → RowIn ((S.nil H.length).env (H ++ [Blk.row sz ty []])) s0 (es.set i (e.set j (.own H.length 0 0 none))) cs := fun cs h7 i' e' hi' => by
  rw [List.getElem?_set] at hi'
  split at hi'
  ·rename_i hii
   subst hii
   split at hi'
   ·injection hi' with hi'; subst hi'
    obtain ⟨l1, l2⟩ := h7 i e hi
    refine ⟨by simpa using l1, fun j' a hj' => ?_⟩
    rw [List.getElem?_set] at hj'
    split at hj'
    ·rename_i hjj
     subst hjj
     split at hj'
     ·injection hj' with hj'; subst hj'
      obtain ⟨v, hv, ho, hrel⟩ := l2 j _ hj
      refine ⟨v, hv, ho, ?_⟩
      simp only [Rel] at hrel ⊢
      obtain ⟨a, cap, rfl, h1, h2, h3, h4⟩ := hrel
      have : cap = 0 := h3 0 rfl
      subst this
      exact ⟨sz, 0, by simp [St.env, shOf], Nat.le_refl _, fun _ => ⟨Nat.le_refl _, .inl ⟨upd_same _ _ _, ⟨a, rfl⟩, by simp⟩⟩⟩
     ·cases hj'
    ·exact l2 j' a hj'
   ·cases hi'
  ·exact h7 i' e' hi'
 refine ⟨S.nil H.length, rfl, ?_, ?_, ?_⟩
 ·rw [← hset]; exact setrow_ok hok1 hb1 (by simp) hr
 ·rw [← hset]; exact (hext.less hn (Nat.le_refl _)).trans (setrow_ext hb1 (by simp))
 ·rw [← hset]
  have henv : (S.nil H.length).env ((H ++ [Blk.row sz ty []]).set b (.row s0 t (es.set i (e.set j (.own H.length 0 0 none))))) = (S.nil H.length).env (H ++ [Blk.row sz ty []]) := by
   simp only [St.env]
   congr 1
   ·funext x; exact shOf_setrow hb1 (by simp) x
   ·funext x; exact mpOf_setrow hb1 x
  rw [henv]
  exact RelL.mono (hext.le (Nat.le_refl _)) _ _ ha
theorem pc_of_ac {P : Program} {G : Glob} {f : FuncId} {args : List AV} {r r' : AV} {H' : List Blk} (d : Nat) (h : ACalls P G f args [] r H') (hk : okR H' d r = true) (he : closeR H' d r = r') : PC P G f args r' := fun S vals hok hG ha => by
 refine (h S vals hok hG ha).mono fun e w' ⟨v, S1, h1, h2, h3, h4, h5⟩ => ?_
 obtain ⟨S2, e1, e2, e3, e4⟩ := closes_all d hk S1 v h3 (Nat.zero_le _) h5
 rw [he] at e4
 exact ⟨v, S2, h1, e1.trans h2, e2, h4.trans e3, e4⟩
theorem setS_other {t : Nat} : ∀ (ps : List Tmp) (xs : List AV) (s : Nat → AV), (ps.all fun p => t != p) = true → setS ps xs s t = s t
 | [], _, s, _ => by simp [setS]
 | _ :: _, [], s, _ => by simp [setS]
 | p :: ps, x :: xs, s, h => by
  simp only [List.all_cons, Bool.and_eq_true, bne_iff_ne, ne_eq] at h
  rw [setS, setS_other ps xs _ h.2, updS, if_neg h.1]
theorem round_slot {k : Nat} {ps : List Tmp} {xs : List AV} {s s1 : Nat → AV} (h : ∀ t, s1 t = setS ps xs (fun t => scrub k (s t)) t) (t : Nat) (hn : (ps.all fun p => t != p) = true) : s1 t = scrub k (s t) := (h t).trans (setS_other ps xs _ hn)
theorem out_round_take {n0 n : Nat} {Q : PostS} {B : Prop} {s : Nat → AV} {H : List Blk} {I : Nat → (Nat → AV) → List Blk → Prop} {m : Nat} (m' k : Nat) (hm : m' < m) (hB : B) (hn : n0 ≤ k) (hk : k ≤ H.length) (hb : (H.take k).all (Blk.below k) = true) (hI : I m' (fun t => scrub k (s t)) (H.take k)) :
  Out (thenS (fun s' H' => ∃ m' s2 H2, m' < m ∧ Weak n0 (Lst n s') H' (Lst n s2) H2 ∧ I m' s2 H2) Q) .normal B s H :=
 ⟨hB, m', _, _, hm, by rw [← scrub_Lst]; exact weak_take hn hk hb, hI⟩
theorem eqA_int {P : Program} {d : Nat} {t : TypeId} {k0 k k' : IntKind} (h : shp P t = .int k0) (a b : Int) : eqA P (d + 1) t (.int k a) (.int k' b) = (k == k', decide (a = b)) := by
 unfold eqA; rw [h]
theorem eqA_struct {P : Program} {d : Nat} {t : TypeId} {fs : List (Nat × TypeId)} (h : shp P t = .struct fs) (cs ds : List AV) : eqA P (d + 1) t (.agg cs) (.agg ds) = fs.foldr (fun f r => eqPair (tinfo P f.2) cs ds f.1 (fun F => eqA P d f.2 (cut F cs f.1) (cut F ds f.1)) r) (true, true) := by
 conv => lhs; unfold eqA
 rw [h]
theorem eqPair_one {F : TI} {cs ds : List AV} {off : Nat} {eq : TI → Bool × Bool} {r : Bool × Bool} : eqPair (some F) cs ds off eq r = (fitsAt F cs.length off && fitsAt F ds.length off && (eq F).1 && r.1, (eq F).2 && r.2) := rfl
theorem ite_topr (b : Bool) (x : AV) : AV.ite b x .top = if b = true then x else .top := by cases x <;> rfl
theorem ite_topl (b : Bool) (y : AV) : AV.ite b .top y = if b = true then .top else y := by cases y <;> rfl
theorem ite_strr (b : Bool) (x : AV) (l : List UInt8) : AV.ite b x (.str l) = if b = true then x else .str l := by cases x <;> rfl
theorem ite_strl (b : Bool) (y : AV) (l : List UInt8) : AV.ite b (.str l) y = if b = true then .str l else y := by cases y <;> rfl
theorem structPlaces_nil (P : Program) : structPlaces P [] = some [] := rfl
theorem structPlaces_cons (P : Program) (f : Nat × TypeId) (fs : List (Nat × TypeId)) : structPlaces P (f :: fs) = match tinfo P f.2 with|some T => (match structPlaces P fs with|some r => some ((f.1, T.sz) :: r)|none => none)|none => none := by
 unfold structPlaces
 rw [List.mapM_cons]
 cases tinfo P f.2 with
 | none => rfl
 | some T => cases List.mapM (fun f => Option.map (fun T => (f.1, T.sz)) (tinfo P f.2)) fs <;> rfl
theorem ofVal_nilFunc : ofVal .nilFunc = .lit .nilFunc := rfl
theorem ofVal_nilMap : ofVal (.map none) = .lit (.map none) := rfl
theorem ofVal_nilIface : ofVal .nilIface = .lit .nilIface := rfl
attribute [push_cast] ite_topr ite_topl ite_strr ite_strl pLookup mapOf? eMakeMap eMapSet deadT ofVal_nilFunc ofVal_nilMap ofVal_nilIface callK gcallK isEff pstep estep condS optK put_some put_none updS_same updS_eq evS_tmp evS_const evS_func rdS_eq resS1_tmp resS1_cell resS_0 resS_1
 resS_2 resS_3 resS_4 strip_int strip_bool strip_str strip_agg strip_tup strip_sl strip_own strip_ptr strip_iptr strip_fn strip_mp strip_opt strip_lit
 strip_top eqv_sl eqv_tup eqv_agg eqv_int eqv_bool eqv_str eqv_own eqv_ptr eqv_iptr eqv_fn eqv_mp eqv_lit eqv_err go_nil go_cons_sl go_cons_agg
 go_cons_int go_cons_bool go_cons_str go_cons_own go_cons_ptr go_cons_iptr go_cons_fn go_cons_mp go_cons_lit go_cons_err go1_nil go1_cons_sl
 go1_cons_int go1_cons_bool go1_cons_str strip_anyb strip_err strip_anyi ok_anyb ok_err ok_anyi ok_int ok_bool ok_str ok_agg ok_tup ok_sl ok_own ok_ptr
 ok_iptr ok_fn ok_mp ok_opt ok_lit ok_top ofVal_int ofVal_bool ofVal_str ofVal_nil ite_bool nilTest pNil gOf_bool gOf_opt gOf_undef gBool shp pLoad
 fieldOf pFieldAddr pField pIndexAddr pIndex pInt pStr pBin pUn pConvert pBytes bytesA pLen pCap pMinMax pSlice isLow isHigh cut fitsAt isLen shOf  eAlloc
 eBox eStore eMake eAppend srcElems isSrc AV.cells? AV.live pBuild pBuildSlice fillA structPlaces_nil structPlaces_cons chunks bad bad3 okR okA okC closeR closeA closeC
 AV.closed AV.ids idsL idsE noQ_eq allQ_eq exQ strip_yld ok_yld eqv_yld go_cons_yld
 List.isEmpty_toArray Nat.sub_zero List.getElem?_concat_length Nat.sub_self Option.map_some Option.getD_some Option.bind_some Option.map_none
 Option.getD_none Option.all_some Option.all_none Option.isSome_some Option.isSome_none Bool.and_eq_true Bool.true_and Bool.and_true Bool.false_and
 Bool.and_false Bool.or_eq_true Bool.true_or Bool.or_true Bool.false_or Bool.or_false Bool.not_true Bool.not_false Bool.not_eq_true' decide_eq_true_eq
 decide_eq_false_iff_not true_and and_true false_and and_false forall_const Bool.false_eq_true Bool.true_eq_false if_true if_false beq_self_eq_true
 beq_iff_eq List.length_cons List.length_nil List.getElem?_cons_zero List.getElem?_cons_succ List.getElem?_nil List.map_cons List.map_nil List.all_cons
 List.all_nil List.toList_toArray List.nil_append List.cons_append List.foldr_cons List.foldr_nil not_true_eq_false not_false_eq_true implies_true
 true_implies false_implies ne_eq Nat.zero_add Nat.add_zero Nat.zero_mul cond_true cond_false Nat.le_refl List.getD_cons_zero List.getD_cons_succ
 List.getD_nil List.drop_zero List.drop_succ_cons List.take_succ_cons List.take_zero Int.toNat_natCast Int.natCast_nonneg and_self Int.toNat_zero
 Int.toNat_one Int.ofNat_lt Int.ofNat_le List.replicate_succ List.replicate_zero List.flatten_cons List.flatten_nil List.append_nil List.length_append
 decide_true decide_false List.isEmpty_cons List.isEmpty_nil List.set_cons_zero List.set_cons_succ true_or or_true List.take_of_length_le
 List.drop_eq_nil_of_le List.length_replicate List.length_map bne_iff_ne Nat.one_ne_zero Int.natCast_inj Int.natCast_add Int.cast_ofNat_Int
 List.length_take_of_le Bool.not_eq_false' Bool.cond_true_left Bool.cond_false_right Bool.cond_true_right Bool.cond_false_left beq_false beq_true
 Bool.or_eq_false_iff Bool.and_eq_false_iff imp_self List.map_id' List.map_id_fun' id_eq
end Go.V
namespace Go.V
open Go
set_option autoImplicit false
theorem ac_drop {P : Program} {G : Glob} {f : FuncId} {args : List AV} {H K : List Blk} {r : AV} (h : ACalls P G f args H r (H ++ K)) (hb : H.all (Blk.below H.length) = true) (hr : r.ids (fun b => decide (b < H.length)) = true) : ACalls P G f args H r H := fun S vals hok hG ha => by
 refine (h S vals hok hG ha).mono fun e w' ⟨v, S', he, hw, hok', hext, hrel⟩ => ?_
 have ht : (H ++ K).take H.length = H := List.take_left' rfl
 obtain ⟨h1, h2⟩ := take_ok (n0 := H.length) (m := H.length) hok' (Nat.le_refl _) (by simp) (by rw [ht]; exact hb)
 have hag := env_take (m := H.length) S' (H ++ K)
 rw [ht] at h1 h2 hag
 exact ⟨v, S', he, hw, h1, hext.trans h2, Rel.move hag r v hr hrel⟩
end Go.V
set_option linter.unusedVariables false
set_option linter.unusedSimpArgs false
set_option autoImplicit false
namespace Go.V
open Go Go.RowKit
section
variable {P : Program} {G : Glob} {q : Operand → Bool}
def aft (o : Oper) : List Nat := (o.after.toList.filter fun e => Region.binds .any e).map (·.on)
theorem mem_aft {o : Oper} {e : Edge} (he : e ∈ o.after) (hb : Region.binds .any e = true) : e.on ∈ aft o :=
 List.mem_map.2 ⟨e, List.mem_filter.2 ⟨by simpa using he, hb⟩, rfl⟩
theorem of_aft {o : Oper} {k : Nat} (h : k ∈ aft o) : ∃ e ∈ o.after, Region.binds .any e = true ∧ e.on = k := by
 obtain ⟨e, he, rfl⟩ := List.mem_map.1 h
 obtain ⟨h1, h2⟩ := List.mem_filter.1 he
 exact ⟨e, by simpa using h1, h2, rfl⟩
def delayOp (dl : List (Nat × Nat)) (ops : List Oper) (i : Nat) (o : Oper) : Oper :=
 match dl.lookup i with
 | some js => match ops[js]? with
  | some s => { o with after := o.after ++ s.after.filter fun e => e.on != i }
  | none => o
 | none => o
theorem delayOp_op (dl : List (Nat × Nat)) (ops : List Oper) (i : Nat) (o : Oper) : (delayOp dl ops i o).op = o.op ∧ (delayOp dl ops i o).dst = o.dst ∧ (delayOp dl ops i o).guard = o.guard := by
 unfold delayOp
 split
 ·split <;> exact ⟨rfl, rfl, rfl⟩
 ·exact ⟨rfl, rfl, rfl⟩
def delaysFrom (dl : List (Nat × Nat)) (ops : List Oper) : Nat → List Oper → List Oper
 | _, [] => []
 | i, o :: l => delayOp dl ops i o :: delaysFrom dl ops (i + 1) l
def delays (dl : List (Nat × Nat)) (ops : List Oper) : List Oper := delaysFrom dl ops 0 ops
theorem delaysFrom_get (dl : List (Nat × Nat)) (ops : List Oper) : ∀ (l : List Oper) (i j : Nat), (delaysFrom dl ops i l)[j]? = l[j]?.map (delayOp dl ops (i + j))
 | [], i, j => by simp [delaysFrom]
 | o :: l, i, 0 => by simp [delaysFrom]
 | o :: l, i, j + 1 => by
  rw [delaysFrom, List.getElem?_cons_succ, delaysFrom_get dl ops l (i + 1) j, List.getElem?_cons_succ, Nat.add_assoc, Nat.add_comm 1 j]
theorem delays_get (dl : List (Nat × Nat)) (ops : List Oper) (j : Nat) : (delays dl ops)[j]? = ops[j]?.map (delayOp dl ops j) := by rw [delays, delaysFrom_get, Nat.zero_add]
theorem length_delaysFrom (dl : List (Nat × Nat)) (ops : List Oper) : ∀ (l : List Oper) (i : Nat), (delaysFrom dl ops i l).length = l.length
 | [], _ => rfl
 | _ :: l, i => by rw [delaysFrom, List.length_cons, length_delaysFrom dl ops l (i + 1), List.length_cons]
theorem length_delays (dl : List (Nat × Nat)) (ops : List Oper) : (delays dl ops).length = ops.length := length_delaysFrom dl ops ops 0
theorem gBool_delays (dl : List (Nat × Nat)) (ops : List Oper) (a : List AV) (j : Nat) (want : Bool) : gBool (delays dl ops) a j want = gBool ops a j want := by
 unfold gBool
 rw [delays_get]
 cases ops[j]? with
 | none => rfl
 | some o => simp only [Option.map_some, (delayOp_op dl ops j o).2.1]
theorem step1_delays (dl : List (Nat × Nat)) {ops : List Oper} {o o' : Oper} (ho : o'.op = o.op) (hg : o'.guard = o.guard) {a : List AV} {H H' : List Blk} {r : AV} : Step1 P G (delays dl ops) o' a H r H' ↔ Step1 P G ops o a H r H' := by
 unfold Step1
 rw [hg, ho]
 cases o.guard with
 | none => exact Iff.rfl
 | some jw => simp only [gBool_delays]
theorem chainK_delays (dl : List (Nat × Nat)) {ops : List Oper} {K : List AV → List Blk → Prop} : ∀ (l : List Oper) (i : Nat) (a : List AV) (H : List Blk), ChainK P G q ops K l a H → ChainK P G q (delays dl ops) K (delaysFrom dl ops i l) a H
 | [], _, a, H, h => h
 | o :: l, i, a, H, h => by
  obtain ⟨r, H', ⟨hs, hkk⟩, hc⟩ := h
  obtain ⟨e1, e2, e3⟩ := delayOp_op dl ops i o
  refine ⟨r, H', ⟨⟨(step1_delays dl e1 e3).2 hs.1, fun hq => hs.2 (by rw [← e1]; exact hq)⟩, fun p w v => hkk p (by rw [← e3]; exact w) (by rw [← e1]; exact v)⟩, ?_⟩
  rw [e2]
  exact chainK_delays dl l (i + 1) _ _ hc
def allocOf (o : Oper) : Option (TypeId × Tmp) :=
 match o.op, o.dst, o.guard with
 | .alloc t, some d, none => some (t, d)
 | _, _, _ => none
theorem allocOf_some {o : Oper} {t : TypeId} {d : Tmp} (h : allocOf o = some (t, d)) : o.op = .alloc t ∧ o.dst = some d ∧ o.guard = none := by
 unfold allocOf at h
 split at h
 ·rename_i e1 e2 e3
  injection h with h; injection h with h1 h2; subst h1; subst h2
  exact ⟨e1, e2, e3⟩
 ·cases h
def delayOkA (P : Program) (dl : List (Nat × Nat)) (ops : List Oper) : Bool :=
 dl.all fun p => dl.lookup p.1 == some p.2 && (dl.lookup p.2).isNone && (match ops[p.1]?, ops[p.2]? with
  | some oa, some os => (match allocOf oa with|some (t, _) => (match tinfo P t with|some T => T.zero.length == T.sz|none => false)|none => false) &&
    (aft os).contains p.1 && ((aft oa ++ aft os).all fun k => k == p.1 || (match dl.lookup k with|some js' => (aft os).contains js'|none => true))
  | _, _ => false)
def delayOkB (dl : List (Nat × Nat)) (ops : List Oper) : Bool :=
 (List.range ops.length).all fun i => match (delays dl ops)[i]? with|some o => (aft o).all fun k => decide (k < i)|none => true
def knows (dl : List (Nat × Nat)) (ops : List Oper) (i : Nat) (o : Oper) (p : Nat × Nat) : Bool :=
 match ops[p.1]? with
 | some oa => match oa.dst with
  | some d => p.1 == i || (if (dl.lookup i).isSome = true then o.dst != some d else ((aft o).contains p.1 && (p.2 == i || (aft o).contains p.2)) || (!(aft o).contains p.1 && !(o.looksAt ops.toArray).contains d && o.dst != some d))
  | none => false
 | none => false
def delayOkC (dl : List (Nat × Nat)) (ops : List Oper) : Bool :=
 (List.range ops.length).all fun i => match ops[i]? with|some o => dl.all (knows dl ops i o)|none => true
structure Pend where
 ja : Nat
 js : Nat
 at_ : Nat
 d : Tmp
 t : TypeId
def PendOk (P : Program) (dl : List (Nat × Nat)) (ops : List Oper) (S0 S : St) (H : List Blk) (act : Act) (listed : Array Bool) (p : Pend) : Prop :=
 (p.ja, p.js) ∈ dl ∧ (∃ oa, ops[p.ja]? = some oa ∧ allocOf oa = some (p.t, p.d)) ∧ listed.getD p.ja true = false ∧ listed.getD p.js true = false ∧
  S0.w.heap.size ≤ p.at_ ∧ p.at_ < S.w.heap.size ∧ S.Free H p.at_ ∧ (∀ v, act.tmps[p.d]? = some v → v = .pointer (some ⟨p.at_, 0, none⟩)) ∧
  ∃ T cs, tinfo P p.t = some T ∧ T.zero.length = T.sz ∧ T.zero = cs.toList.map ofCell ∧ (∀ u ∈ cs.toList, u.oneCell' = true) ∧ S.w.heap[p.at_]? = some (.cells cs p.t (0, 0))
def scr (ps : List Pend) (a : List AV) : List AV := ps.foldr (fun p a => putA a (some p.d) .top) a
def LRel (n : Nat) (ps : List Pend) (listed lr : Array Bool) : Prop :=
 listed.size = n ∧ lr.size = n ∧ ∀ j, j < n → lr.getD j true = (listed.getD j true || ps.any fun p => p.ja == j)
theorem getD_tf {l : Array Bool} {j n : Nat} (hs : l.size = n) (hj : j < n) : l.getD j false = l.getD j true := by
 have : j < l.size := by omega
 simp [this]
theorem scr_get (a : List AV) : ∀ (ps : List Pend) (t : Nat), (scr ps a)[t]? = a[t]?.map fun v => if (ps.any fun p => p.d == t) = true then .top else v
 | [], t => by cases h : a[t]? <;> simp [scr, h]
 | p :: ps, t => by
  show (putA (scr ps a) (some p.d) .top)[t]? = _
  simp only [putA, List.getElem?_set]
  have ih := scr_get a ps t
  by_cases h : p.d = t
  ·subst h
   rw [if_pos rfl]
   have hl : (scr ps a).length = a.length := by
    have : ∀ ps : List Pend, (scr ps a).length = a.length := fun ps => by
     induction ps with
     | nil => rfl
     | cons p ps ih => show (putA (scr ps a) (some p.d) .top).length = _; simp [putA, ih]
    exact this ps
   rw [hl]
   split
   ·rename_i hlt; simp [hlt]
   ·rename_i hlt; simp [hlt]
  ·rw [if_neg h, ih]
   have : (p.d == t) = false := by simp [h]
   simp [this]
theorem length_scr (a : List AV) : ∀ ps : List Pend, (scr ps a).length = a.length
 | [] => rfl
 | p :: ps => by show (putA (scr ps a) (some p.d) .top).length = _; simp [putA, length_scr a ps]
theorem step1_scr {ops : List Oper} {o : Oper} {a : List AV} {H H' : List Blk} {r : AV} : ∀ (ps : List Pend), (∀ p ∈ ps, p.d ∉ o.looksAt ops.toArray) → Step1 P G ops o a H r H' → Step1 P G ops o (scr ps a) H r H'
 | [], _, h => h
 | p :: ps, hd, h => (step1_put (d := some p.d) (v := .top) fun t ht => by injection ht with ht; subst ht; exact hd p (List.mem_cons_self ..)).2 (step1_scr ps (fun x hx => hd x (List.mem_cons_of_mem _ hx)) h)
def St.made (S : St) (t : TypeId) (cs : Array Value) : St := { S with w := (S.w.drewN 0).alloc (.cells cs t) }
theorem made_ok {S : St} {H : List Blk} (hok : S.Ok H) (t : TypeId) (cs : Array Value) : (S.made t cs).Ok H := by
 refine ⟨fun i o hi => fresh_heap_old H.length 1 t cs 0 (hok.imm i o hi), fun b s t' es hb => ?_, fun b ob hb => ?_, hok.inj⟩
 ·rcases hok.row b s t' es hb with h|⟨g, k, cs2, h1, h2, h3, h4⟩
  ·exact .inl h
  ·exact .inr ⟨g, k, cs2, h1, h2, fresh_heap_old H.length 1 t cs 0 h3, h4⟩
 ·obtain ⟨g, o, h1, h2, h3, h4⟩ := hok.ob b ob hb
  exact ⟨g, o, h1, h2, fresh_heap_old H.length 1 t cs 0 h3, h4⟩
theorem made_size (S : St) (t : TypeId) (cs : Array Value) : (S.made t cs).w.heap.size = S.w.heap.size + 1 := by simp [St.made, World.alloc]
theorem made_ext {n0 : Nat} (S : St) (H : List Blk) (t : TypeId) (cs : Array Value) : Ext n0 S H (S.made t cs) H where
 os := rfl
 tape := rfl
 output := rfl
 size := by rw [made_size]; omega
 keep i hi hno := Below.heap_alloc (S.w.drewN 0) (.cells cs t) i hi
 M i o h := h
 dom i h := .inl h
 own i h := .inl h
 sh x s' cur hx hs := ⟨cur, Nat.le_refl _, hs, fun _ => rfl⟩
 ν x g' hx hs := hs
 len := id
def St.take (S : St) (b L : Nat) : St := { S with μ := upd S.μ b (some (L, 1)) }
theorem take_le {S : St} {H : List Blk} {L s : Nat} {t : TypeId} {es : List (List AV)} : (S.env H).le ((S.take H.length L).env (H ++ [.row s t es])) := by
 refine ⟨fun k o h => h, fun b s' cur hs => ?_, fun b g h => ?_⟩
 ·have hlt : b < H.length := by
   obtain ⟨t', es', hb, _⟩ := shOf_row (show shOf H b = some (s', cur) from hs)
   exact (List.getElem?_eq_some_iff.1 hb).1
  exact ⟨cur, Nat.le_refl _, by show shOf (H ++ _) b = _; rw [shOf_push_lt hlt]; exact hs, fun _ => upd_ne _ _ (show b ≠ H.length by omega)⟩
 ·have hlt : b < H.length := by
   have h : mpOf S.ν H b = some g := h
   unfold mpOf at h
   split at h
   ·rename_i hb; exact (List.getElem?_eq_some_iff.1 hb).1
   ·cases h
  show mpOf S.ν (H ++ _) b = _
  rw [mpOf_push_lt hlt]; exact h
theorem take_ok2 {S : St} {H : List Blk} (hok : S.Ok H) {s : Nat} {t : TypeId} {es : List (List AV)} {cs : Array Value} {L : Nat} (hfree : S.Free H L) (hcell : S.w.heap[L]? = some (.cells cs t (0, 0))) (hk : es.length ≤ 1) (hsz : cs.size = 1 * s) (hrow : RowIn (S.env H) s es cs) : (S.take H.length L).Ok (H ++ [.row s t es]) := by
 have hle := take_le (S := S) (H := H) (L := L) (s := s) (t := t) (es := es)
 have hat : ∀ x, x < H.length → (S.take H.length L).at (H ++ [.row s t es]) x = S.at H x := fun x e => by
  simp only [St.at, St.take, List.getElem?_append_left e, upd_ne _ _ (show x ≠ H.length by omega)]
 have hatb : (S.take H.length L).at (H ++ [.row s t es]) H.length = some L := by simp [St.at, St.take, upd_same]
 have hge : ∀ x g', (S.take H.length L).at (H ++ [.row s t es]) x = some g' → x < H.length ∨ x = H.length := fun x g' hx => by
  by_cases e : x ≤ H.length
  ·omega
  ·have : (H ++ [Blk.row s t es])[x]? = none := List.getElem?_eq_none (by simp; omega)
   simp [St.at, this] at hx
 refine ⟨hok.imm, fun x s' t' es2 hx => ?_, fun x ob0 hx => ?_, fun x y g' hx hy => ?_⟩
 ·by_cases e : x < H.length
  ·rw [List.getElem?_append_left e] at hx
   rcases hok.row x s' t' es2 hx with h|⟨g', k', cs2, h1, h2, h3, h4, h5, h6, h7⟩
   ·exact .inl ⟨(upd_ne _ _ (show x ≠ H.length by omega)).trans h.1, h.2⟩
   ·exact .inr ⟨g', k', cs2, (upd_ne _ _ (show x ≠ H.length by omega)).trans h1, h2, h3, h4, h5, h6, h7.mono hle⟩
  ·have e2 : x = H.length := by
    have := (List.getElem?_eq_some_iff.1 hx).1
    simp at this
    omega
   subst e2
   simp at hx
   obtain ⟨h1, h2, h3⟩ := hx
   subst h1; subst h2; subst h3
   exact .inr ⟨L, 1, cs, upd_same _ _ _, hfree.2, hcell, hsz, hk, by simp [maxLen], hrow.mono hle⟩
 ·by_cases e : x < H.length
  ·rw [List.getElem?_append_left e] at hx
   obtain ⟨g', ob1, h1, h2, h3, h4⟩ := hok.ob x ob0 hx
   exact ⟨g', ob1, h1, h2, h3, h4.mono hle⟩
  ·have e2 : x = H.length := by
    have := (List.getElem?_eq_some_iff.1 hx).1
    simp at this
    omega
   subst e2
   simp at hx
 ·rcases hge x g' hx with ex|ex
  ·rcases hge y g' hy with ey|ey
   ·rw [hat x ex] at hx; rw [hat y ey] at hy
    exact hok.inj x y g' hx hy
   ·rw [ey, hatb] at hy; rw [hat x ex] at hx
    injection hy with hy
    subst hy
    exact absurd ⟨x, hx⟩ hfree.1
  ·rcases hge y g' hy with ey|ey
   ·rw [ex, hatb] at hx; rw [hat y ey] at hy
    injection hx with hx
    subst hx
    exact absurd ⟨y, hy⟩ hfree.1
   ·rw [ex, ey]
theorem take_owns {S : St} {H : List Blk} {L s k : Nat} {t : TypeId} {es : List (List AV)} (h : (S.take H.length L).Owns (H ++ [.row s t es]) k) : S.Owns H k ∨ k = L := by
 obtain ⟨x, hx⟩ := h
 by_cases e : x < H.length
 ·left
  refine ⟨x, ?_⟩
  simpa only [St.at, St.take, List.getElem?_append_left e, upd_ne _ _ (show x ≠ H.length by omega)] using hx
 ·by_cases e2 : x = H.length
  ·subst e2
   simp [St.at, St.take, upd_same] at hx
   exact .inr hx.symm
  ·have : (H ++ [Blk.row s t es])[x]? = none := List.getElem?_eq_none (by simp; omega)
   simp [St.at, this] at hx
theorem take_ext {n0 : Nat} {S0 S : St} {H0 H : List Blk} {L s : Nat} {t : TypeId} {es : List (List AV)} (h : Ext n0 S0 H0 S H) (hn : n0 ≤ H.length) (hL : S0.w.heap.size ≤ L) : Ext n0 S0 H0 (S.take H.length L) (H ++ [.row s t es]) where
 os := h.os
 tape := h.tape
 output := h.output
 size := h.size
 keep := h.keep
 M := h.M
 dom := h.dom
 own k hk := by
  rcases take_owns hk with q|q
  ·exact h.own k q
  ·exact .inr (by omega)
 sh x s' cur hx hs := by
  obtain ⟨c, h1, h2, h3⟩ := h.sh x s' cur hx hs
  exact ⟨c, h1, by rw [shOf_push_lt (by omega)]; exact h2, fun e => (upd_ne _ _ (show x ≠ H.length by omega)).trans (h3 e)⟩
 ν x g' hx hs := by rw [mpOf_push_lt (by omega)]; exact h.ν x g' hx hs
 len q := by have := h.len q; simp; omega
theorem take_marks {S0 S : St} {H : List Blk} {L s : Nat} {t : TypeId} {es : List (List AV)} {ds ds' : List Deferred} (h : Marks S0 ds S H ds') (hc : ∃ cs, S.w.heap[L]? = some (.cells cs t (0, 0))) : Marks S0 ds (S.take H.length L) (H ++ [.row s t es]) ds' := by
 obtain ⟨D, e, p, q⟩ := h
 refine ⟨D, e, p, fun g hg => ?_⟩
 obtain ⟨q1, q2, q3⟩ := q g hg
 refine ⟨q1, ⟨fun ho => ?_, q2.2⟩, q3⟩
 rcases take_owns ho with r|r
 ·exact q2.1 r
 ·subst r
  obtain ⟨cs, hc⟩ := hc
  rw [q3] at hc; cases hc
theorem take_free {S : St} {H : List Blk} {L s g : Nat} {t : TypeId} {es : List (List AV)} (h : S.Free H g) (hne : g ≠ L) : (S.take H.length L).Free (H ++ [.row s t es]) g := ⟨fun ho => by
 rcases take_owns ho with r|r
 ·exact h.1 r
 ·exact hne r, h.2⟩
end
end Go.V
set_option linter.unusedVariables false
set_option linter.unusedSimpArgs false
set_option autoImplicit false
namespace Go.V
open Go Go.RowKit
section
variable {P : Program} {G : Glob} {q : Operand → Bool}
structure PInv (P : Program) (G : Glob) (dl : List (Nat × Nat)) (ops : List Oper) (n0 : Nat) (S0 : St) (H0 : List Blk) (ds : List Deferred) (ps : List Pend) (listed lr : Array Bool) (a : List AV) (H : List Blk) (S : St) (act : Act) : Prop where
 ok : S.Ok H
 g : Globs G S.M
 n : n0 ≤ H.length
 ext : Ext n0 S0 H0 S H
 rel : RelL (S.env H) (scr ps a) act.tmps.toList
 marks : Marks S0 ds S H act.defers
 l : LRel ops.length ps listed lr
 cl : Closed .any ops lr
 pd : ∀ p ∈ ps, PendOk P dl ops S0 S H act listed p
 pw : ps.Pairwise fun x y => x.ja ≠ y.ja ∧ x.at_ ≠ y.at_
theorem okA_spec {dl : List (Nat × Nat)} {ops : List Oper} (h : delayOkA P dl ops = true) {ja js : Nat} (hm : (ja, js) ∈ dl) : dl.lookup ja = some js ∧ dl.lookup js = none ∧ ∃ oa os t d T, ops[ja]? = some oa ∧ ops[js]? = some os ∧ allocOf oa = some (t, d) ∧ tinfo P t = some T ∧ T.zero.length = T.sz ∧ ja ∈ aft os ∧ ∀ k ∈ aft oa ++ aft os, k = ja ∨ ∀ js', dl.lookup k = some js' → js' ∈ aft os := by
 have := List.all_eq_true.1 h _ hm
 simp only [Bool.and_eq_true, beq_iff_eq, Option.isNone_iff_eq_none] at this
 obtain ⟨⟨h1, h2⟩, h3⟩ := this
 refine ⟨h1, h2, ?_⟩
 cases ha : ops[ja]? with
 | none => simp [ha] at h3
 | some oa =>
  cases hs : ops[js]? with
  | none => simp [ha, hs] at h3
  | some os =>
   simp only [ha, hs, Bool.and_eq_true, List.all_eq_true, Bool.or_eq_true, beq_iff_eq] at h3
   obtain ⟨⟨h4, h5⟩, h6⟩ := h3
   cases hal : allocOf oa with
   | none => simp [hal] at h4
   | some td =>
    obtain ⟨t, d⟩ := td
    simp only [hal] at h4
    cases hT : tinfo P t with
    | none => simp [hT] at h4
    | some T =>
     simp only [hT, beq_iff_eq] at h4
     refine ⟨oa, os, t, d, T, rfl, rfl, hal, hT, h4, by simpa using h5, fun k hk => ?_⟩
     rcases h6 k hk with q|q
     ·exact .inl q
     ·refine .inr fun js' hj => ?_
      rw [hj] at q
      simpa using q
theorem okB_spec {dl : List (Nat × Nat)} {ops : List Oper} (h : delayOkB dl ops = true) {i : Nat} {o : Oper} (ho : (delays dl ops)[i]? = some o) : ∀ k ∈ aft o, k < i := by
 have hlt : i < ops.length := by rw [← length_delays dl ops]; exact (List.getElem?_eq_some_iff.1 ho).1
 have := List.all_eq_true.1 h i (List.mem_range.2 hlt)
 rw [ho] at this
 intro k hk
 simpa using List.all_eq_true.1 this k hk
theorem okC_spec {dl : List (Nat × Nat)} {ops : List Oper} (h : delayOkC dl ops = true) {i : Nat} {o : Oper} (ho : ops[i]? = some o) {ja js : Nat} (hm : (ja, js) ∈ dl) {oa : Oper} {d : Tmp} (ha : ops[ja]? = some oa) (hd : oa.dst = some d) (hne : ja ≠ i) :
  ((dl.lookup i).isSome = true → o.dst ≠ some d) ∧ ((dl.lookup i).isSome = false → (ja ∈ aft o ∧ (js = i ∨ js ∈ aft o)) ∨ (ja ∉ aft o ∧ d ∉ o.looksAt ops.toArray ∧ o.dst ≠ some d)) := by
 have hlt := (List.getElem?_eq_some_iff.1 ho).1
 have := List.all_eq_true.1 h i (List.mem_range.2 hlt)
 rw [ho] at this
 have := List.all_eq_true.1 this _ hm
 have hne' : (ja == i) = false := by simp [hne]
 simp only [knows, ha, hd, hne', Bool.false_or] at this
 constructor
 ·intro hs
  rw [if_pos hs] at this
  simpa using this
 ·intro hs
  rw [hs, if_neg (by simp)] at this
  simpa [and_assoc] using this
theorem aft_delay {dl : List (Nat × Nat)} {ops : List Oper} {i : Nat} {o : Oper} {k : Nat} (h : k ∈ aft o) : k ∈ aft (delayOp dl ops i o) := by
 obtain ⟨e, he, hb, rfl⟩ := of_aft h
 refine mem_aft ?_ hb
 unfold delayOp
 split
 ·split
  ·simp [he]
  ·exact he
 ·exact he
theorem lookup_mem {dl : List (Nat × Nat)} {i js : Nat} (h : dl.lookup i = some js) : (i, js) ∈ dl := by
 induction dl with
 | nil => cases h
 | cons p dl ih =>
  obtain ⟨x, y⟩ := p
  rw [List.lookup_cons] at h
  split at h
  ·rename_i e
   injection h with h; subst h
   have : i = x := by simpa using e
   subst this
   exact List.mem_cons_self ..
  ·exact List.mem_cons_of_mem _ (ih h)
section
variable {dl : List (Nat × Nat)} {ops : List Oper} {n0 : Nat} {S0 : St} {H0 : List Blk} {ds : List Deferred} {ps : List Pend} {listed lr : Array Bool} {a : List AV} {H : List Blk} {S : St} {act : Act} {K : List AV → List Blk → Prop}
theorem getD_set {l : Array Bool} {i j n : Nat} (hs : l.size = n) (hj : j < n) : (l.setIfInBounds i true).getD j true = (l.getD j true || i == j) := by
 have h1 : j < l.size := by omega
 by_cases e : i = j
 ·subst e; simp [h1]
 ·simp [h1, e]
theorem lrel_of_pend (hl : LRel ops.length ps listed lr) {p : Pend} (hp : p ∈ ps) (hj : p.ja < ops.length) : lr.getD p.ja true = true := by
 rw [hl.2.2 p.ja hj]
 have : (ps.any fun x => x.ja == p.ja) = true := List.any_eq_true.2 ⟨p, hp, by simp⟩
 rw [this, Bool.or_true]
theorem adopt_inv (hckA : delayOkA P dl ops = true) {l1 l2 : List Pend} {p : Pend} (hps : ps = l1 ++ p :: l2) (hI : PInv P G dl ops n0 S0 H0 ds ps listed lr a H S act) {f : Nat} (hr : p.ja ∈ Region.ready .any (delays dl ops).toArray listed)
  (hA : AAny P G q (delays dl ops) .any K (f + 1) listed a H) :
  ∃ a' H' S', AAny P G q (delays dl ops) .any K f (listed.setIfInBounds p.ja true) a' H' ∧ S'.w = S.w ∧ PInv P G dl ops n0 S0 H0 ds (l1 ++ l2) (listed.setIfInBounds p.ja true) lr a' H' S' act := by
 have hp : p ∈ ps := by rw [hps]; simp
 obtain ⟨hm, ⟨oa, hoa, hal⟩, hu1, hu2, hsz0, hlt, hfree, htmp, T, cs, hT, hTl, hTz, h1c, hcell⟩ := hI.pd p hp
 obtain ⟨hop, hdst, hgd⟩ := allocOf_some hal
 obtain ⟨o', ho', r, H', hs, hA'⟩ := hA.2 _ hr
 rw [delays_get, hoa] at ho'
 simp only [Option.map_some, Option.some.injEq] at ho'
 subst ho'
 obtain ⟨e1, e2, e3⟩ := delayOp_op dl ops p.ja oa
 have hs1 := (step1_delays dl e1 e3).1 hs.1
 rw [e2, hdst] at hA'
 unfold Step1 at hs1
 rw [hgd] at hs1
 simp only [hop] at hs1
 have key : r = .ptr H.length 0 0 1 ∧ H' = H ++ [.row T.sz p.t [T.zero]] := by
  cases hs1 with
  | pure h => simp [pstep, bad] at h
  | eff he h => simp [estep, eAlloc, hT]
  | made he r h => cases he
  | call c f g cap ho => cases ho
  | yield c f b ho => cases ho
 obtain ⟨rfl, rfl⟩ := key
 have hja : p.ja < ops.length := (List.getElem?_eq_some_iff.1 hoa).1
 have hrow : RowIn (S.env H) T.sz [T.zero] cs := by
  rw [← hTl]
  exact rowIn_one (by rw [hTz]; exact relL_ofCell _ _) h1c
 have hcs : cs.size = 1 * T.sz := by rw [← hTl, hTz]; simp
 have hle := take_le (S := S) (H := H) (L := p.at_) (s := T.sz) (t := p.t) (es := [T.zero])
 refine ⟨_, _, S.take H.length p.at_, hA', rfl, take_ok2 hI.ok hfree hcell (by simp) hcs hrow, hI.g, by have := hI.n; simp; omega, take_ext hI.ext hI.n hsz0, ?_, take_marks hI.marks ⟨cs, hcell⟩, ?_, hI.cl, ?_, ?_⟩
 ·refine RelL.mk (by rw [length_scr]; have := hI.rel.length; rw [length_scr] at this; simpa [putA] using this) fun t x v hx hv => ?_
  rw [scr_get] at hx
  cases hy : (putA a (some p.d) (.ptr H.length 0 0 1))[t]? with
  | none => rw [hy] at hx; cases hx
  | some y =>
   rw [hy] at hx
   simp only [Option.map_some, Option.some.injEq] at hx
   by_cases hany : ((l1 ++ l2).any fun x => x.d == t) = true
   ·rw [if_pos hany] at hx; subst hx; simp [Rel]
   ·rw [if_neg hany] at hx; subst hx
    by_cases hd : p.d = t
    ·subst hd
     have hlt2 : p.d < a.length := by
      have := (List.getElem?_eq_some_iff.1 hy).1
      simpa [putA] using this
     simp [putA, hlt2] at hy
     subst hy
     have := htmp v (by simpa using hv)
     exact rel_ptr_mk (k := 1) shOf_push_new (by exact upd_same _ _ _) (by rw [this]; simp)
    ·have hy2 : a[t]? = some y := by
      simpa [putA, List.getElem?_set, hd] using hy
     have hx2 : (scr ps a)[t]? = some y := by
      rw [scr_get, hy2, hps]
      have : ((l1 ++ p :: l2).any fun x => x.d == t) = false := by
       rw [Bool.not_eq_true] at hany
       simp only [List.any_append, List.any_cons, Bool.or_eq_false_iff] at hany ⊢
       exact ⟨hany.1, by simp [hd], hany.2⟩
      simp only [Option.map_some, this, Bool.false_eq_true, if_false]
     obtain ⟨v', hv', hrel⟩ := hI.rel.get hx2
     rw [hv] at hv'; injection hv' with hv'; subst hv'
     exact Rel.mono hle _ _ hrel
 ·obtain ⟨q1, q2, q3⟩ := hI.l
  refine ⟨by simpa using q1, q2, fun j hj => ?_⟩
  rw [q3 j hj, getD_set q1 hj, hps]
  simp only [List.any_append, List.any_cons]
  cases listed.getD j true <;> cases (p.ja == j) <;> cases (l1.any fun p => p.ja == j) <;> cases (l2.any fun p => p.ja == j) <;> rfl
 ·intro p' hp'
  have hp2 : p' ∈ ps := by rw [hps]; rcases List.mem_append.1 hp' with h|h <;> simp [h]
  have hne : p'.ja ≠ p.ja ∧ p'.at_ ≠ p.at_ := by
   have hpw := hI.pw
   rw [hps, List.pairwise_append] at hpw
   rcases List.mem_append.1 hp' with h|h
   ·exact hpw.2.2 p' h p (List.mem_cons_self ..)
   ·have := (List.pairwise_cons.1 hpw.2.1).1 p' h
    exact ⟨Ne.symm this.1, Ne.symm this.2⟩
  obtain ⟨g1, ⟨oa', g2, g3⟩, g4, g5, g6, g7, g8, g9, T', cs', g10⟩ := hI.pd p' hp2
  obtain ⟨f1, f2, oa2, os2, t2, d2, T2, f3, f4, _⟩ := okA_spec hckA g1
  have hj1 : p'.ja < ops.length := (List.getElem?_eq_some_iff.1 g2).1
  have hj2 : p'.js < ops.length := (List.getElem?_eq_some_iff.1 f4).1
  refine ⟨g1, ⟨oa', g2, g3⟩, ?_, ?_, g6, g7, take_free g8 hne.2, g9, T', cs', g10⟩
  ·rw [getD_set hI.l.1 hj1, g4]; simp; exact Ne.symm hne.1
  ·rw [getD_set hI.l.1 hj2, g5]; simp
   intro e
   have := (okA_spec hckA hm).1
   rw [e, f2] at this; cases this
 ·rw [hps] at hI
  exact hI.pw.sublist (by simp)
theorem least_un {n : Nat} {l : Array Bool} : ∀ j, j < n → l.getD j true = false → ∃ m, m ≤ j ∧ l.getD m true = false ∧ ∀ k, k < m → l.getD k true = true := by
 intro j
 induction j using Nat.strongRecOn with
 | ind j ih =>
  intro hj hu
  by_cases h : ∃ k, k < j ∧ l.getD k true = false
  ·obtain ⟨k, hk, hku⟩ := h
   obtain ⟨m, h1, h2, h3⟩ := ih k hk (by omega) hku
   exact ⟨m, by omega, h2, h3⟩
  ·refine ⟨j, Nat.le_refl _, hu, fun k hk => ?_⟩
   cases hv : l.getD k true with
   | true => rfl
   | false => exact absurd ⟨k, hk, hv⟩ h
theorem toA_get (l : List Oper) (j : Nat) : l.toArray[j]? = l[j]? := by simp
theorem end_inv (hckA : delayOkA P dl ops = true) (hckB : delayOkB dl ops = true) : ∀ (k : Nat) (ps : List Pend) (listed : Array Bool) (a : List AV) (H : List Blk) (S : St) (m : Nat), ps.length = k → Region.ready .any ops.toArray lr = [] → AAny P G q (delays dl ops) .any K (m + ps.length) listed a H → PInv P G dl ops n0 S0 H0 ds ps listed lr a H S act → Ends G n0 S0 H0 ds K act S.w := by
 intro k
 induction k with
 | zero =>
  intro ps listed a H S m hk hr hA hI
  have e : ps = [] := List.eq_nil_of_length_eq_zero hk
  subst e
  have hre : Region.ready .any (delays dl ops).toArray listed = [] := by
   refine List.eq_nil_iff_forall_not_mem.2 fun j hj => ?_
   obtain ⟨hu, o, ho, hd⟩ := mem_ready.1 hj
   rw [toA_get] at ho
   have hjl : j < ops.length := by rw [← length_delays dl ops]; exact (List.getElem?_eq_some_iff.1 ho).1
   obtain ⟨mm, h1, h2, h3⟩ := least_un (n := ops.length) j hjl hu
   have hml : mm < ops.length := by omega
   have hom : ops[mm]? = some ops[mm] := by simp [hml]
   have : mm ∈ Region.ready .any ops.toArray lr := by
    refine mem_ready.2 ⟨by rw [hI.l.2.2 mm hml, h2]; rfl, ops[mm], by rw [toA_get]; exact hom, fun e he hb => ?_⟩
    have hlt : e.on < mm := okB_spec hckB (by rw [delays_get, hom]; rfl) e.on (aft_delay (mem_aft he hb))
    rw [getD_tf hI.l.2.1 (by omega), hI.l.2.2 _ (by omega), h3 _ hlt]; rfl
   rw [hr] at this; cases this
  have hK : K a H := by
   cases m with
   | zero => exact hA.2
   | succ m => exact hA.1 hre
  exact ⟨a, H, S, rfl, hK, hI.ok, hI.ext, hI.rel, hI.marks⟩
 | succ k ih =>
  intro ps listed a H S m hk hr hA hI
  have hne : ps ≠ [] := fun e => by rw [e] at hk; cases hk
  obtain ⟨p0, hp0⟩ := List.exists_mem_of_ne_nil _ hne
  obtain ⟨g1, ⟨oa, g2, g3⟩, g4, _⟩ := hI.pd p0 hp0
  obtain ⟨mm, h1, h2, h3⟩ := least_un (n := ops.length) p0.ja (List.getElem?_eq_some_iff.1 g2).1 g4
  have hml : mm < ops.length := by have := (List.getElem?_eq_some_iff.1 g2).1; omega
  have hom : ops[mm]? = some ops[mm] := by simp [hml]
  by_cases hany : ∃ p ∈ ps, p.ja = mm
  ·obtain ⟨p, hp, rfl⟩ := hany
   obtain ⟨l1, l2, hps⟩ := List.append_of_mem hp
   have hlen : ps.length = (l1 ++ l2).length + 1 := by rw [hps]; simp; omega
   have hr2 : p.ja ∈ Region.ready .any (delays dl ops).toArray listed := by
    refine mem_ready.2 ⟨h2, delayOp dl ops p.ja ops[p.ja], by rw [toA_get, delays_get, hom]; rfl, fun e he hb => ?_⟩
    have hlt : e.on < p.ja := okB_spec hckB (by rw [delays_get, hom]; rfl) e.on (mem_aft he hb)
    rw [getD_tf hI.l.1 (by omega)]; exact h3 _ hlt
   rw [hlen, ← Nat.add_assoc] at hA
   obtain ⟨a', H', S', hA', hw, hI'⟩ := adopt_inv hckA hps hI hr2 hA
   have := ih (l1 ++ l2) _ a' H' S' m (by omega) hr hA' hI'
   rw [hw] at this; exact this
  ·exfalso
   have : mm ∈ Region.ready .any ops.toArray lr := by
    have hno : (ps.any fun p => p.ja == mm) = false := by
     rw [Bool.eq_false_iff]; intro hh
     obtain ⟨p, hp, e⟩ := List.any_eq_true.1 hh
     exact hany ⟨p, hp, by simpa using e⟩
    refine mem_ready.2 ⟨by rw [hI.l.2.2 mm hml, h2, hno]; rfl, ops[mm], by rw [toA_get]; exact hom, fun e he hb => ?_⟩
    have hlt : e.on < mm := okB_spec hckB (by rw [delays_get, hom]; rfl) e.on (aft_delay (mem_aft he hb))
    rw [getD_tf hI.l.2.1 (by omega), hI.l.2.2 _ (by omega), h3 _ hlt]; rfl
   rw [hr] at this; cases this
theorem cnt_out (p : Nat → Bool) (i : Nat) : ∀ n, (List.range n).countP (fun j => p j && j != i) + (if i < n ∧ p i = true then 1 else 0) = (List.range n).countP p
 | 0 => by simp
 | n + 1 => by
  have ih := cnt_out p i n
  rw [List.range_succ, List.countP_append, List.countP_append]
  simp only [List.countP_cons, List.countP_nil]
  by_cases e : n = i
  ·subst e
   simp only [bne_self_eq_false, Bool.and_false, Nat.lt_irrefl, false_and, if_false, Nat.lt_succ_self, true_and] at ih ⊢
   cases p n <;> simp_all
  ·have h1 : (n != i) = true := by simp [e]
   have h2 : (i < n + 1) ↔ (i < n) := by omega
   simp only [h1, Bool.and_true, h2]
   omega
theorem cnt_set {n i : Nat} {l : Array Bool} (hs : l.size = n) (hi : i < n) (hu : l.getD i true = false) {f : Nat} (h : (List.range n).countP (fun j => !l.getD j true) = f + 1) : (List.range n).countP (fun j => !(l.setIfInBounds i true).getD j true) = f := by
 have h1 := cnt_out (fun j => !l.getD j true) i n
 rw [if_pos ⟨hi, by simp [hu]⟩, h] at h1
 have h2 : (List.range n).countP (fun j => !(l.setIfInBounds i true).getD j true) = (List.range n).countP (fun j => !l.getD j true && j != i) := by
  refine List.countP_congr fun j hj => ?_
  rw [getD_set hs (List.mem_range.1 hj)]
  by_cases e : i = j
  ·subst e; simp
  ·have e1 : (i == j) = false := by simp [e]
   have e2 : (j != i) = true := by simp [Ne.symm e]
   rw [e1, e2]; simp
 omega
theorem pend_next {p : Pend} {S' : St} {H' : List Blk} {act' : Act} {listed' : Array Bool} (h : PendOk P dl ops S0 S H act listed p) (hsz : S.w.heap.size ≤ S'.w.heap.size) (hf : S.Free H p.at_ → S'.Free H' p.at_ ∧ S'.w.heap[p.at_]? = S.w.heap[p.at_]?)
  (hact : act'.tmps[p.d]? = act.tmps[p.d]?) (h1 : listed'.getD p.ja true = false) (h2 : listed'.getD p.js true = false) : PendOk P dl ops S0 S' H' act' listed' p := by
 obtain ⟨g1, g2, g3, g4, g5, g6, g7, g8, T, cs, t1, t2, t3, t4, t5⟩ := h
 obtain ⟨f1, f2⟩ := hf g7
 exact ⟨g1, g2, h1, h2, g5, by omega, f1, fun v hv => g8 v (by rw [← hact]; exact hv), T, cs, t1, t2, t3, t4, by rw [f2]; exact t5⟩
theorem put_other {act : Act} {d : Option Tmp} {v : Value} {t : Tmp} (h : d ≠ some t) : (act.put d v).tmps[t]? = act.tmps[t]? := by
 cases d with
 | none => rfl
 | some d =>
  have : d ≠ t := fun e => h (by rw [e])
  simp [Act.put, this]
theorem scr_put {d : Option Tmp} {r : AV} (h : ∀ p ∈ ps, d ≠ some p.d) : scr ps (putA a d r) = putA (scr ps a) d r := by
 cases d with
 | none => rfl
 | some d =>
  refine List.ext_getElem? fun t => ?_
  rw [scr_get]
  simp only [putA, List.getElem?_set]
  by_cases e : d = t
  ·subst e
   have hno : (ps.any fun p => p.d == d) = false := by
    rw [Bool.eq_false_iff]; intro hh
    obtain ⟨p, hp, e⟩ := List.any_eq_true.1 hh
    have e : p.d = d := by simpa using e
    exact h p hp (by rw [e])
   rw [if_pos rfl, if_pos rfl, length_scr]
   by_cases hlt : d < a.length
   ·rw [if_pos hlt, Option.map_some, if_neg (by rw [hno]; simp)]
   ·rw [if_neg hlt]; rfl
  ·rw [if_neg e, if_neg e, scr_get]
theorem alloc_run {o : Oper} {t : TypeId} {T : TI} (hop : o.op = .alloc t) (hT : tinfo P t = some T) (hz : T.zero.length = T.sz) (S : St) (ρ : Operand → Value) : ∃ cs : Array Value, T.zero = cs.toList.map ofCell ∧ (∀ u ∈ cs.toList, u.oneCell' = true) ∧
  (execOp ρ o).run P S.w = .ok (.value (.pointer (some ⟨S.w.heap.size, 0, none⟩))) (S.made t cs).w := by
 obtain ⟨i, d, z, hi, hd, hz', h1, hTT⟩ := tinfo_some hT
 refine ⟨z.cells, by rw [hTT], h1, ?_⟩
 obtain ⟨dst, op, type, pos, after, guard⟩ := o
 simp only at hop
 subst hop
 simp [execOp, Instr.alloc, zeroValue, typeInfo, hi, hz', newVar, newRow, St.made]; rfl
theorem aAnyD_wp {Q : Exit → Act → World → Prop} {ro : Option Nat} (hckA : delayOkA P dl ops = true) (hckB : delayOkB dl ops = true) (hckC : delayOkC dl ops = true) (hQ : ∀ act w, Ends G n0 S0 H0 ds K act w → Q .normal act w) :
  ∀ (f : Nat) (ps : List Pend) (listed lr : Array Bool) (a : List AV) (H : List Blk) (S : St) (act : Act), AAny P G q (delays dl ops) .any K (f + ps.length) listed a H → PInv P G dl ops n0 S0 H0 ds ps listed lr a H S act →
   (List.range ops.length).countP (fun j => !lr.getD j true) = f → wpAnyIn (fen ro) 0 P .any ops.toArray Q f lr act S.w := by
 intro f
 induction f with
 | zero =>
  intro ps listed lr a H S act hA hI hc
  have hr : Region.ready .any ops.toArray lr = [] := by
   refine List.eq_nil_iff_forall_not_mem.2 fun j hj => ?_
   obtain ⟨hu, o, ho, hd⟩ := mem_ready.1 hj
   rw [toA_get] at ho
   have hjl : j < ops.length := (List.getElem?_eq_some_iff.1 ho).1
   have := List.countP_eq_zero.1 hc j (List.mem_range.2 hjl)
   rw [hu] at this; exact this rfl
  exact ⟨hr, hQ _ _ (end_inv hckA hckB _ ps listed a H S 0 rfl hr hA hI)⟩
 | succ f ihf =>
  intro ps listed lr a H S act hA hI hc
  refine ⟨fun hr => hQ _ _ (end_inv hckA hckB _ ps listed a H S (f + 1) rfl hr hA hI), fun i hi => ?_⟩
  suffices hmain : ∀ (k : Nat) (ps : List Pend) (listed : Array Bool) (a : List AV) (H : List Blk) (S : St), ps.length = k → AAny P G q (delays dl ops) .any K (f + 1 + ps.length) listed a H → PInv P G dl ops n0 S0 H0 ds ps listed lr a H S act → wpOpIn (fen ro) 0 P ops.toArray Q i (wpAnyIn (fen ro) 0 P .any ops.toArray Q f (lr.setIfInBounds i true)) act S.w from hmain _ ps listed a H S rfl hA hI
  clear hA hI ps listed a H S
  intro k
  induction k using Nat.strongRecOn with
  | ind k ihk =>
  intro ps listed a H S hk hA hI
  obtain ⟨hu, o, ho, hdep⟩ := mem_ready.1 hi
  have ho2 := ho
  rw [toA_get] at ho2
  have hil : i < ops.length := (List.getElem?_eq_some_iff.1 ho2).1
  have hlri := hI.l.2.2 i hil
  rw [hu] at hlri
  have hli : listed.getD i true = false := by
   cases h : listed.getD i true with
   | false => rfl
   | true => rw [h] at hlri; cases hlri
  have hnp : ∀ p ∈ ps, p.ja ≠ i := fun p hp e => by
   have : (ps.any fun x => x.ja == i) = true := List.any_eq_true.2 ⟨p, hp, by simp [e]⟩
   rw [this, Bool.or_true] at hlri; cases hlri
  have hc2 := cnt_set hI.l.2.1 hil hu hc
  have hcl2 := closed_add hI.cl hi
  have hjl : ∀ p ∈ ps, p.ja < ops.length := fun p hp => by
   obtain ⟨_, ⟨oa, g2, _⟩, _⟩ := hI.pd p hp
   exact (List.getElem?_eq_some_iff.1 g2).1
  have hsl : ∀ p ∈ ps, p.js < ops.length := fun p hp => by
   obtain ⟨g1, _⟩ := hI.pd p hp
   obtain ⟨_, _, _, _, _, _, _, _, f4, _⟩ := okA_spec hckA g1
   exact (List.getElem?_eq_some_iff.1 f4).1
  -- a store's operation is not done while its allocation waits
  have hjs : ∀ p ∈ ps, lr.getD p.js true = false := fun p hp => by
   obtain ⟨g1, _, _, g4, _⟩ := hI.pd p hp
   rw [hI.l.2.2 _ (hsl p hp), g4, Bool.false_or, Bool.eq_false_iff]
   intro hh
   obtain ⟨p', hp', e⟩ := List.any_eq_true.1 hh
   have e : p'.ja = p.js := by simpa using e
   have h1 := (okA_spec hckA (hI.pd p' hp').1).1
   rw [e, (okA_spec hckA g1).2.1] at h1; cases h1
  unfold wpOpIn
  simp only [ho]
  by_cases hdl : (dl.lookup i).isSome = true
  ·-- an allocation: it waits
   obtain ⟨js, hjs0⟩ := Option.isSome_iff_exists.1 hdl
   have hmem := lookup_mem hjs0
   obtain ⟨_, _, oa, os, t, d, T, f3, f4, f5, f6, f7, f8, f9⟩ := okA_spec hckA hmem
   rw [ho2] at f3; injection f3 with f3; subst f3
   obtain ⟨hop, hdst, hgd⟩ := allocOf_some f5
   have hw : Region.wanted o (yielded ops.toArray act.tmps) = true := by simp [Region.wanted, hgd]
   rw [if_pos hw]
   refine ⟨fun _ _ => trivial, ?_⟩
   obtain ⟨cs, hz1, hz2, hrun⟩ := alloc_run (P := P) hop f6 f7 S act.eval
   rw [Oper.semAt_eq _ _ _ (fun c hc => by rw [hop] at hc; cases hc), hrun]
   show wpAnyIn (fen ro) 0 P .any ops.toArray Q f (lr.setIfInBounds i true) (act.put o.dst (.pointer (some ⟨S.w.heap.size, 0, none⟩))) (S.made t cs).w
   have hdd : ∀ p ∈ ps, o.dst ≠ some p.d := fun p hp => by
    obtain ⟨g1, ⟨oa', g2, g3⟩, _⟩ := hI.pd p hp
    exact (okC_spec hckC ho2 g1 g2 (allocOf_some g3).2.1 (hnp p hp)).1 hdl
   have hfr : S.Free H S.w.heap.size := ⟨fun ⟨x, hx⟩ => by have := own_lt hI.ok hx; omega, by
    cases h : S.M S.w.heap.size with
    | none => rfl
    | some x => have := M_lt hI.ok (k := S.w.heap.size) (by rw [h]; simp); omega⟩
   refine ihf (⟨i, js, S.w.heap.size, d, t⟩ :: ps) listed (lr.setIfInBounds i true) a H (S.made t cs) (act.put o.dst (.pointer (some ⟨S.w.heap.size, 0, none⟩))) (by rw [List.length_cons]; rwa [show f + (ps.length + 1) = f + 1 + ps.length from by omega]) ?_ hc2
   refine ⟨made_ok hI.ok t cs, hI.g, hI.n, hI.ext.trans (made_ext S H t cs), ?_, ?_, ⟨hI.l.1, by simpa using hI.l.2.1, fun j hj => ?_⟩, hcl2, fun p hp => ?_, List.pairwise_cons.2 ⟨fun p hp => ⟨fun e => hnp p hp e.symm, fun e => ?_⟩, hI.pw⟩⟩
   ·show RelL (S.env H) (putA (scr ps a) (some d) .top) _
    rw [hdst]
    exact relL_put hI.rel (some d) (by simp [Rel])
   ·have e : (act.put o.dst (.pointer (some ⟨S.w.heap.size, 0, none⟩))).defers = act.defers := by cases o.dst <;> rfl
    rw [e]; exact hI.marks.mono (made_ext (n0 := 0) S H t cs)
   ·rw [getD_set hI.l.2.1 hj, hI.l.2.2 j hj, List.any_cons]
    cases listed.getD j true <;> cases (i == j) <;> cases (ps.any fun p => p.ja == j) <;> rfl
   ·rcases List.mem_cons.1 hp with rfl|hp
    ·refine ⟨hmem, ⟨o, ho2, f5⟩, hli, ?_, hI.ext.size, by rw [made_size]; exact Nat.lt_succ_self _, hfr, fun v hv => ?_, T, cs, f6, f7, hz1, hz2, heap_alloc_new (S.w.drewN 0) _⟩
     ·cases h : listed.getD js true with
      | false => rfl
      | true =>
       have hjl2 : js < ops.length := (List.getElem?_eq_some_iff.1 f4).1
       have h1 : lr.getD js false = true := by rw [getD_tf hI.l.2.1 hjl2, hI.l.2.2 _ hjl2, h]; rfl
       obtain ⟨e, he, hb, hon⟩ := of_aft f8
       have := hI.cl js os f4 h1 e he hb
       rw [hon, getD_tf hI.l.2.1 hil, hu] at this; cases this
     ·rw [hdst] at hv
      have hlt : d < act.tmps.size := by
       have := (Array.getElem?_eq_some_iff.1 hv).1
       simpa [Act.put] using this
      simp [Act.put, hlt] at hv
      exact hv.symm
    ·obtain ⟨g1, g2, g3, g4, g5, g6, g7, g8, g9⟩ := hI.pd p hp
     exact pend_next (hI.pd p hp) (by rw [made_size]; omega) (fun hf => St.Free.ext hf g6 (made_ext (n0 := 0) S H t cs)) (put_other (hdd p hp)) g3 g4
   ·have := hI.pd p hp
    obtain ⟨_, _, _, _, _, g6, _⟩ := this
    have e : S.w.heap.size = p.at_ := e
    omega
  ·have hdl' : (dl.lookup i).isSome = false := Bool.eq_false_iff.2 hdl
   by_cases hpe : ∃ p ∈ ps, p.ja ∈ aft o
   ·-- the allocation is taken over
    obtain ⟨p, hp, hpa⟩ := hpe
    obtain ⟨g1, ⟨oa, g2, g3⟩, g4, g5, g6⟩ := hI.pd p hp
    have hdn : ∀ x ∈ aft o, lr.getD x true = true := fun x hx => by
     obtain ⟨e, he, hb, rfl⟩ := of_aft hx
     have h1 := hdep e he hb
     have hlt : e.on < i := okB_spec hckB (by rw [delays_get, ho2]; rfl) e.on (aft_delay (mem_aft he hb))
     rwa [getD_tf hI.l.2.1 (by omega)] at h1
    have hji : p.js = i := by
     rcases (okC_spec hckC ho2 g1 g2 (allocOf_some g3).2.1 (hnp p hp)).2 hdl' with ⟨_, h|h⟩|⟨h, _⟩
     ·exact h
     ·exact absurd (hdn _ h) (by rw [hjs p hp]; simp)
     ·exact absurd hpa h
    obtain ⟨f1, f2, oa', os, t, d, T, f3, f4, f5, f6, f7, f8, f9⟩ := okA_spec hckA g1
    rw [g2] at f3; injection f3 with f3; subst f3
    rw [hji, ho2] at f4; injection f4 with f4; subst f4
    obtain ⟨l1, l2, hps⟩ := List.append_of_mem hp
    have hlen : ps.length = (l1 ++ l2).length + 1 := by rw [hps]; simp; omega
    have hla : lr.getD p.ja true = true := lrel_of_pend hI.l hp (hjl p hp)
    have hr2 : p.ja ∈ Region.ready .any (delays dl ops).toArray listed := by
     refine mem_ready.2 ⟨g4, delayOp dl ops p.ja oa, by rw [toA_get, delays_get, g2]; rfl, fun e he hb => ?_⟩
     have hlt : e.on < p.ja := okB_spec hckB (by rw [delays_get, g2]; rfl) e.on (mem_aft he hb)
     have hpl := hjl p hp
     rw [getD_tf hI.l.1 (by omega)]
     -- it is listed for the machine
     have h12 : lr.getD e.on true = true ∧ e.on ∈ aft oa ++ aft o := by
      have hin : e ∈ oa.after ∨ e ∈ o.after := by
       unfold delayOp at he
       rw [f1] at he
       simp only [hji, ho2] at he
       rcases Array.mem_append.1 he with h|h
       ·exact .inl h
       ·exact .inr (Array.mem_filter.1 h).1
      rcases hin with h|h
      ·have h1 := hI.cl p.ja oa g2 (by rw [getD_tf hI.l.2.1 hpl]; exact hla) e h hb
       rw [getD_tf hI.l.2.1 (by omega)] at h1
       exact ⟨h1, List.mem_append_left _ (mem_aft h hb)⟩
      ·exact ⟨hdn _ (mem_aft h hb), List.mem_append_right _ (mem_aft h hb)⟩
     rw [hI.l.2.2 _ (by omega)] at h12
     cases hv : listed.getD e.on true with
     | true => rfl
     | false =>
      exfalso
      rw [hv, Bool.false_or] at h12
      obtain ⟨p', hp', e1⟩ := List.any_eq_true.1 h12.1
      have e1 : p'.ja = e.on := by simpa using e1
      have hl' := (okA_spec hckA (hI.pd p' hp').1).1
      rcases f9 e.on h12.2 with q|q
      ·omega
      ·have := hdn _ (q p'.js (by rw [← e1]; exact hl'))
       rw [hjs p' hp'] at this; cases this
    rw [hlen, ← Nat.add_assoc] at hA
    obtain ⟨a', H', S', hA', hw, hI'⟩ := adopt_inv hckA hps hI hr2 hA
    have := ihk (l1 ++ l2).length (by omega) (l1 ++ l2) _ a' H' S' rfl hA' hI'
    unfold wpOpIn at this
    simp only [ho] at this
    rw [hw] at this; exact this
   ·-- any other operation
    have hno : ∀ p ∈ ps, p.ja ∉ aft o := fun p hp h => hpe ⟨p, hp, h⟩
    have hap : ∀ p ∈ ps, p.d ∉ o.looksAt ops.toArray ∧ o.dst ≠ some p.d := fun p hp => by
     obtain ⟨g1, ⟨oa, g2, g3⟩, _⟩ := hI.pd p hp
     rcases (okC_spec hckC ho2 g1 g2 (allocOf_some g3).2.1 (hnp p hp)).2 hdl' with ⟨h, _⟩|⟨_, h⟩
     ·exact absurd h (hno p hp)
     ·exact h
    have hdo : delayOp dl ops i o = o := by
     unfold delayOp
     have : dl.lookup i = none := by
      cases h : dl.lookup i with
      | none => rfl
      | some x => rw [h] at hdl'; cases hdl'
     rw [this]
    have hr2 : i ∈ Region.ready .any (delays dl ops).toArray listed := by
     refine mem_ready.2 ⟨hli, o, by rw [toA_get, delays_get, ho2, Option.map_some, hdo], fun e he hb => ?_⟩
     have hlt : e.on < i := okB_spec hckB (by rw [delays_get, ho2]; rfl) e.on (aft_delay (mem_aft he hb))
     have h1 := hdep e he hb
     rw [getD_tf hI.l.2.1 (by omega), hI.l.2.2 _ (by omega)] at h1
     rw [getD_tf hI.l.1 (by omega)]
     cases hv : listed.getD e.on true with
     | true => rfl
     | false =>
      rw [hv, Bool.false_or] at h1
      obtain ⟨p', hp', e1⟩ := List.any_eq_true.1 h1
      have e1 : p'.ja = e.on := by simpa using e1
      exact absurd (mem_aft he hb) (by rw [← e1]; exact hno p' hp')
    rw [show f + 1 + ps.length = f + ps.length + 1 from by omega] at hA
    obtain ⟨o', ho', r, H', hs, hA'⟩ := hA.2 i hr2
    rw [delays_get, ho2, Option.map_some, hdo] at ho'
    injection ho' with ho'; subst ho'
    have hs1 := (step1_delays dl rfl rfl).1 hs.1
    have hs2 := step1_scr (ops := ops) ps (fun p hp => (hap p hp).1) hs1
    refine step1_wp hs2 hI.ok hI.g hI.rel fun v S' h1 h2 h3 => ?_
    refine ihf ps (listed.setIfInBounds i true) (lr.setIfInBounds i true) (putA a o.dst r) H' S' (act.put o.dst v) hA' ?_ hc2
    refine ⟨h1, hI.g.mono h2.M, Nat.le_trans hI.n (h2.len (Nat.le_refl _)), hI.ext.trans (h2.less hI.n (Nat.le_refl _)), ?_, ?_, ⟨by simpa using hI.l.1, by simpa using hI.l.2.1, fun j hj => ?_⟩, hcl2, fun p hp => ?_, hI.pw⟩
    ·rw [scr_put fun p hp => (hap p hp).2]
     exact relL_put (RelL.mono (h2.le (Nat.le_refl _)) _ _ hI.rel) _ h3
    ·have e : (act.put o.dst v).defers = act.defers := by cases o.dst <;> rfl
     rw [e]; exact hI.marks.mono h2
    ·rw [getD_set hI.l.2.1 hj, getD_set hI.l.1 hj, hI.l.2.2 j hj]
     cases listed.getD j true <;> cases (i == j) <;> cases (ps.any fun p => p.ja == j) <;> rfl
    ·obtain ⟨g1, g2, g3, g4, g5, g6, g7, g8, g9⟩ := hI.pd p hp
     have hne2 : p.js ≠ i := fun e => by
      obtain ⟨_, _, _, os, _, _, _, _, f4, _, _, _, f8, _⟩ := okA_spec hckA g1
      rw [e, ho2] at f4; injection f4 with f4; subst f4
      exact hno p hp f8
     refine pend_next (hI.pd p hp) h2.size (fun hf => St.Free.ext hf g6 h2) (put_other (hap p hp).2) ?_ ?_
     ·rw [getD_set hI.l.1 (hjl p hp), g3]; simp; exact fun e => hnp p hp e.symm
     ·rw [getD_set hI.l.1 (hsl p hp), g4]; simp; exact fun e => hne2 e.symm
end
end
end Go.V

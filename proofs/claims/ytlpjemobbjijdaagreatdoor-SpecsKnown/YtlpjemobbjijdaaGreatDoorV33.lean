import Derived.Test.YtlpjemobbjijdaaGreatDoorV22
import Derived.Lib.LaidTab
import Derived.Lib.ItoaNum
import Derived.Lib.AtoiAll
import Derived.Lib.AtoiErrMem
import Derived.Lib.Split
import Derived.Lib.SplitLaws
import Derived.Lib.Join
import Derived.Sort.Grow
import Derived.Below
set_option linter.unusedVariables false
set_option linter.unusedSimpArgs false
namespace Go.V
open Go Go.RowKit
section
variable {P : Program} {G : Glob}
end
mutual
def AV.flat : AV → Bool
 | .int _ _|.bool _|.str _|.anyb|.anyi _|.err|.lit _|.sl _ [] _ => true
 | .agg cs => xcf9 cs
 | .tup cs => xcf9 cs
 | _ => false
def xcf9 : List AV → Bool
 | [] => true
 | a :: as => a.flat && xcf9 as
end
mutual
theorem zbC9 {E E' : Env} : ∀ (a : AV) (v : Value), a.flat = true → Rel E a v → Rel E' a v
 | .int k n, v, _, hr => by simpa [Rel] using hr
 | .bool b, v, _, hr => by simpa [Rel] using hr
 | .str s, v, _, hr => by simpa [Rel] using hr
 | .anyb, v, _, hr => by simpa [Rel] using hr
 | .anyi k, v, _, hr => by simpa [Rel] using hr
 | .err, v, _, hr => by simpa [Rel] using hr
 | .lit u, v, _, hr => by simpa [Rel] using hr
 | .sl s [] c, v, _, hr => by simpa [Rel] using hr
 | .sl s (_ :: _) c, v, h, hr => by simp [AV.flat] at h
 | .agg cs, v, h, hr => by
  simp only [Rel, AV.flat] at hr h ⊢;obtain ⟨vs, hv, hl, h1⟩ := hr;exact ⟨vs, hv, vaw9 cs vs h hl, h1⟩
 | .tup cs, v, h, hr => by
  simp only [Rel, AV.flat] at hr h ⊢;obtain ⟨vs, hv, hl⟩ := hr;exact ⟨vs, hv, vaw9 cs vs h hl⟩
 | .own .., v, h, hr => by simp [AV.flat] at h
 | .ptr .., v, h, hr => by simp [AV.flat] at h
 | .iptr .., v, h, hr => by simp [AV.flat] at h
 | .fn .., v, h, hr => by simp [AV.flat] at h
 | .bnd .., v, h, hr => by simp [AV.flat] at h
 | .sub .., v, h, hr => by simp [AV.flat] at h
 | .mp .., v, h, hr => by simp [AV.flat] at h
 | .yld .., v, h, hr => by simp [AV.flat] at h
 | .opt .., v, h, hr => by simp [AV.flat] at h
 | .top, v, h, hr => by simp [AV.flat] at h
theorem vaw9 {E E' : Env} : ∀ (as : List AV) (vs : List Value), xcf9 as = true → RelL E as vs → RelL E' as vs
 | [], vs, _, hr => by simpa [RelL] using hr
 | a :: as, vs, h, hr => by
  simp only [RelL, xcf9, l'a] at hr h ⊢;obtain ⟨u, us, hv, h1, h2⟩ := hr;exact ⟨u, us, hv, zbC9 a u h.1 h1, vaw9 as us h.2 h2⟩
end
section
variable {P : Program} {G : Glob}
theorem wcf9 {S : St} {H : List Blk} (hok : S.Ok H) {k : Nat} (h : S.Owns H k) : S.M k = none := by
 obtain ⟨b, hb⟩ := h;unfold St.at at hb;split at hb
 ·rename_i s t es hbb;rcases hok.row b s t es hbb with ⟨q, _⟩|⟨g, k', cs, h1, h2, _⟩
  ·rw [q] at hb; cases hb
  ·rw [h1] at hb; injection hb with hb; rw [← hb]; exact h2
 ·rename_i ob0 hbb;obtain ⟨g, ob1, h1, h2, _⟩ := hok.ob b ob0 hbb;rw [h1] at hb; injection hb with hb; rw [← hb]; exact h2
 ·cases hb
open Classical in
theorem vcf9 {f : FuncId} {args args' : List AV} {r : AV} {H : List Blk} (d : Nat) (hk : args.all (okA H d) = true) (he : args.map (vw0 H d) = args') (h : PC P G f args' r) (hr : r.flat = true) : qb0 P G f args H r H := fun S vals hok hG ha => by
 subst he;have hok0 := qaw9 hok;have hM0 : ∀ k o, S.M k = some o → (S.freeze H).M k = some o := fun k o hk => zY0 hok hk;have ha0 : RelL ((S.freeze H).env []) (args.map (vw0 H d)) vals := zaw9 hok _ _ (xY0 hok d) hk ha;refine (h (S.freeze H) vals hok0 (hG.mono hM0) ha0).mono fun e w' ⟨v, S1, he, hw, hok1, hext, hrel⟩ => ?_;have hno : ∀ (T : St) k, ¬ T.Owns [] k := fun T k ⟨b, hb⟩ => by simp [St.at] at hb
 let S' : St := ⟨fun k => if S.Owns H k then none else S1.M k, S.μ, S.ν, S1.w⟩
 have hM' : ∀ k, ¬ S.Owns H k → S'.M k = S1.M k := fun k hk => if_neg hk;have hMo : ∀ k, S.Owns H k → S'.M k = none := fun k hk => if_pos hk;have hM : ∀ k o, S.M k = some o → S'.M k = some o := fun k o hk => by
  have hn : ¬ S.Owns H k := fun q => by rw [wcf9 hok q] at hk; cases hk
  rw [hM' k hn]; exact hext.M k o (hM0 k o hk)
 have hsame : ∀ g o, S.Owns H g → S.w.heap[g]? = some o → S1.w.heap[g]? = some o := fun g o hg ho => by
  refine hok1.imm g o (hext.M g o ?_);rw [qah9 hg]; exact ho
 have hle : (S.env H).le (S'.env H) := ⟨hM, fun b s cur hs => ⟨cur, l'd _, hs, fun _ => rfl⟩, fun b g hs => hs⟩;refine ⟨v, S', he, hw, ⟨fun k o hk => ?_, fun b s t es hbb => ?_, fun b ob0 hbb => ?_, hok.inj⟩, ⟨hext.os, hext.tape, hext.output, hext.size, fun k hk hn => hext.keep k hk (hno _ _), hM, fun k hk => ?_, fun k hk => .inl hk, fun b s cur _ hs => ⟨cur, l'd _, hs, fun _ => rfl⟩, fun b g _ hs => hs, id⟩, zbC9 r v hr hrel⟩
 ·by_cases q : S.Owns H k
  ·rw [hMo k q] at hk; cases hk
  ·rw [hM' k q] at hk; exact hok1.imm k o hk
 ·rcases hok.row b s t es hbb with q|⟨g, k, cs, h1, h2, h3, h4, h5, h6, h7⟩
  ·exact .inl q
  ·have hg : S.Owns H g := ⟨b, by simp [St.at, hbb, h1]⟩;exact .inr ⟨g, k, cs, h1, hMo g hg, hsame g _ hg h3, h4, h5, h6, h7.mono hle⟩
 ·obtain ⟨g, ob1, h1, h2, h3, h4⟩ := hok.ob b ob0 hbb;have hg : S.Owns H g := ⟨b, by simp [St.at, hbb, h1]⟩;exact ⟨g, ob1, h1, hMo g hg, hsame g _ hg h3, h4.mono hle⟩
 ·by_cases q : S.Owns H k
  ·exact absurd (hMo k q) hk
  ·rw [hM' k q] at hk;rcases hext.dom k hk with q1|q1|q1
   ·left
    intro h0;apply q1;simp only [St.freeze]; rw [if_neg q]; exact h0
   ·exact absurd q1 (hno _ _)
   ·exact .inr (.inr q1)
end
inductive Halt (p : Prop) : Prop where
 | mk (h : p)
 | mk' (h : p)
def zeo9 (H : List Blk) (d : Nat) (a : AV) : AV := if okA H d a = true then vw0 H d a else .top
section
variable {ρ : Bool} {P : Program} {G : Glob} {n0 n : Nat} {p : List Nat} {Q : Exit → (Nat → AV) → List Blk → Prop} {B : Prop} {s : Nat → AV} {H : List Blk}
theorem vb0 {body : Code} (h : Halt (V.Go ρ P G n0 n body p Q B s H)) : V.Go ρ P G n0 n body p Q B s H := by cases h <;> assumption
end
def vf0 : Exit → Option Code
 | .ret => some .ret
 | .exit id => some (.exit id)
 | .goto t => some (.goto t)
 | _ => none
def zZ0 : Exit → Bool
 | .panic _ => false
 | .outgrown => false
 | _ => true
def setA : List Tmp → List AV → List AV → List AV
 | p :: ps, x :: xs, a => setA ps xs (a.set p x)
 | _, _, a => a
def zr0 (fn : FuncId) (ts : Array Value) (ps : Array Tmp) (assign body : Code) (D : Nat) (st : LoopState) (pe : Option Code) : Obj := .loop { state := st, pending := pe, fn := fn, tmps := ts, params := ps, assign := assign, body := body, defers := D }
section
variable {P : Program} {G : Glob}
theorem qbd9 {E : Env} : ∀ (ps : List Tmp) (xs : List AV) (a : List AV) (ts : Array Value) (vs : List Value), RelL E a ts.toList → RelL E xs vs → RelL E (setA ps xs a) ((ps.zip vs).foldl (fun t (p : Tmp × Value) => t.setIfInBounds p.1 p.2) ts).toList
 | [], xs, a, ts, vs, ha, hx => by simpa [setA] using ha
 | p :: ps, [], a, ts, vs, ha, hx => by
  simp_all [RelL, setA]
 | p :: ps, x :: xs, a, ts, vs, ha, hx => by
  simp only [RelL] at hx;obtain ⟨u, us, rfl, h1, h2⟩ := hx;simp only [setA, List.zip_cons_cons, List.foldl_cons];refine qbd9 ps xs _ _ us ?_ h2;simpa using ha.set p h1
def St.add (S : St) (k L : Nat) (w : World) : St := { S with ν := upd S.ν k (some L), w := w }
theorem zbd9 {S : St} {H : List Blk} {L : Nat} {w : World} {x : OB} {b : Nat} (hb : b < H.length) : (S.add H.length L w).at (H ++ [.ob x]) b = S.at H b := by
 simp only [St.at, St.add, l'f hb, ve0 _ _ (show b ≠ H.length by omega)]
theorem wN0 {S : St} {H : List Blk} {L : Nat} {w : World} {x : OB} : (S.add H.length L w).at (H ++ [.ob x]) H.length = some L := by
 simp [St.at, St.add, wc0]
theorem wK0 {S : St} {H : List Blk} {x : OB} {b g : Nat} (h : S.at (H ++ [.ob x]) b = some g) : b < H.length ∨ b = H.length := by
 grind [b, List.getElem?_eq_none, St.at]
theorem kcf9 {S : St} {H : List Blk} {L : Nat} {w : World} {x : OB} : (S.env H).le ((S.add H.length L w).env (H ++ [.ob x])) :=
 ⟨fun k o h => h, fun b s cur hb => ⟨cur, l'd _, by
  have hb : shOf H b = some (s, cur) := hb;have := vbm9 hb;show shOf (H ++ [.ob x]) b = _;grind [shOf, List.getElem?_append_left], fun _ => rfl⟩, fun b g hb => by
  have hb : mpOf S.ν H b = some g := hb;have hlt := kbm9 hb;show mpOf (upd S.ν H.length (some L)) (H ++ [.ob x]) b = _;grind [mpOf, List.getElem?_append_left, ve0, b]⟩
theorem qdb9 {S : St} {H : List Blk} {L : Nat} {w : World} {o : Obj} {as : List AV} {vs : List Value} (hok : S.Ok H) (hL : S.Free H L) (hsame : ∀ k, k < S.w.heap.size → k ≠ L → w.heap[k]? = S.w.heap[k]?) (hnew : w.heap[L]? = some o) (hr : RelL (S.env H) as vs) :
  (S.add H.length L w).Ok (H ++ [.ob (.loop o as vs)]) := by
 have hle := kcf9 (S := S) (H := H) (L := L) (w := w) (x := .loop o as vs);have hne : ∀ b k, S.at H b = some k → k ≠ L := fun b k hb e => hL.1 ⟨b, by rw [← e]; exact hb⟩;refine ⟨fun k o' hk => ?_, fun b s t es hb => ?_, fun b x hb => ?_, fun b b' g hb hb' => ?_⟩
 ·have hk' : S.M k = some o' := hk;have : k ≠ L := fun e => by rw [e, hL.2] at hk'; cases hk'
  exact (hsame k (M_lt hok (by rw [hk']; simp)) this).trans (hok.imm k o' hk')
 ·have hlt : b < H.length := by
   grind
  rw [l'f hlt] at hb;rcases hok.row b s t es hb with q|⟨g, k, cs, h1, h2, h3, h4, h5, h6, h7⟩
  ·exact .inl q
  ·have hlt2 := (l'n.1 h3).1;exact .inr ⟨g, k, cs, h1, h2, (hsame g hlt2 (hne b g (by simp [St.at, hb, h1]))).trans h3, h4, h5, h6, h7.mono hle⟩
 ·rcases l'h b H.length with hlt|hge
  ·rw [l'f hlt] at hb;obtain ⟨g, o1, h1, h2, h3, h4⟩ := hok.ob b x hb;have hlt2 := (l'n.1 h3).1;exact ⟨g, o1, (ve0 _ _ (show b ≠ H.length by omega)).trans h1, h2, (hsame g hlt2 (hne b g (by simp [St.at, hb, h1]))).trans h3, h4.mono hle⟩
  ·have e : b = H.length := by
    grind
   subst e;simp at hb;subst hb;exact ⟨L, o, wc0 _ _ _, hL.2, hnew, rfl, RelL.mono hle _ _ hr⟩
 ·rcases wK0 hb with e|e
  ·rw [zbd9 e] at hb;rcases wK0 hb' with e'|e'
   ·rw [zbd9 e'] at hb'; exact hok.inj b b' g hb hb'
   grind [wN0, absurd, b]
  grind [wN0, wK0, zbd9, absurd]
theorem xbd9 {S : St} {H : List Blk} {x : OB} {L : Nat} (hok : S.Ok (H ++ [.ob x])) (hν : S.ν H.length = some L) : S.Free H L := by
 have hat : S.at (H ++ [.ob x]) H.length = some L := by simp [St.at, hν]
 refine ⟨fun ⟨b, hb⟩ => ?_, ?_⟩
 ·have hlt : b < H.length := by
   grind [Nat.lt_or_ge, b, St.at, List.getElem?_eq_none]
  have : S.at (H ++ [.ob x]) b = some L := by grind [St.at, List.getElem?_append_left]
  have := hok.inj b H.length L this hat;omega
 ·obtain ⟨g, o, h1, h2, _⟩ := hok.ob H.length x (by simp);grind
theorem wbd9 {S S' : St} {n0 : Nat} {H H' : List Blk} {L : Nat} (h : Ext n0 S H S' H') (hL : S.Owns H L ∨ S.w.heap.size ≤ L) (o : Obj) : Ext n0 S H (S'.shut L o) H' :=
 { h with
  size := by simpa [St.shut] using h.size
  keep := fun k hk hn => (World.putObj_heap_other (by grind)).trans (h.keep k hk hn) }
theorem qcg9 {S : St} {H : List Blk} {g L : Nat} (h : S.Free H g) (o : Obj) : (S.shut L o).Free H g := h
theorem vR0 {k : Nat} {xs aS : List AV} {H1 H2 : List Blk} {fn : FuncId} {ts : Array Value} {ps : Array Tmp} {assign body : Code} {D : Nat} {e : Exit}
  (hbody : AWp true P G k assign (kbo9 (AWp true P G k body (fun e' a' H' => e' = e ∧ H'.take k = H2)) (fun _ _ _ => False)) (setA ps.toList xs aS) H1)
  (h1 : H1.length = k) (h2 : H2.length = k) (hb1 : H1.all (Blk.below k) = true) (hb2 : H2.all (Blk.below k) = true) (he : zZ0 e = true) (hx : idsL xU0 xs = true) (ha : idsL (fun b => decide (b < k)) aS = true) (hsz : xs.length = ps.size) :
  kJ0 P G k xs (H1 ++ [.ob (.loop (zr0 fn ts ps assign body D .ready none) aS ts.toList)]) (.bool (vf0 e).isNone) (H2 ++ [.ob (.loop (zr0 fn ts ps assign body D (if (vf0 e).isNone = true then .ready else .done) (vf0 e)) aS ts.toList)]) := by
 subst h1;intro S vals L hok hG hrel hL;have hν : S.ν H1.length = some L := by simpa [mpOf] using hL
 have hfree := xbd9 hok hν;obtain ⟨g, o, q1, q2, q3, q4, q5⟩ := hok.ob H1.length _ (by simp; rfl);rw [hν] at q1; injection q1 with q1; subst q1; subst q4
 have htk : (H1 ++ [Blk.ob (.loop (zr0 fn ts ps assign body D .ready none) aS ts.toList)]).take H1.length = H1 := by simp
 obtain ⟨hok1, hext1⟩ := kF0 (n0 := H1.length) hok (l'd _) (by simp) (by rw [htk]; exact hb1);have hag := wY0 (m := H1.length) S (H1 ++ [Blk.ob (.loop (zr0 fn ts ps assign body D .ready none) aS ts.toList)]);rw [htk] at hok1 hext1 hag;have hvs : vals.length = ps.size := by rw [← hrel.length]; exact hsz
 have hrx : RelL (S.env H1) xs vals := RelL.move (wv0 (E := S.env (H1 ++ [.ob (.loop (zr0 fn ts ps assign body D .ready none) aS ts.toList)])) (E' := S.env H1) fun k o q => q) _ _ hx hrel;have hra : RelL (S.env H1) aS ts.toList := RelL.move hag _ _ ha q5;refine ⟨fn, _, assign, body, run_yield (P := P) (args := vals.toArray) q3 (by simpa using hvs), roundIn_of_wpIn (F := Fence.wide) trivial ?_⟩;have hset := qbd9 ps.toList xs aS ts vals hra hrx;have hown : S.Owns (H1 ++ [Blk.ob (.loop (zr0 fn ts ps assign body D .ready none) aS ts.toList)]) L := ⟨H1.length, by simp [St.at, hν]⟩;have hfold : ((ps.zip vals.toArray).foldl (fun t (p : Tmp × Value) => t.setIfInBounds p.1 p.2) ts) = ((ps.toList.zip vals).foldl (fun t (p : Tmp × Value) => t.setIfInBounds p.1 p.2) ts) := by
  rw [← Array.foldl_toList]; simp
 refine wpIn_mono (hbody (some L) S { tmps := (ps.zip vals.toArray).foldl (fun t (p : Tmp × Value) => t.setIfInBounds p.1 p.2) ts, defers := [] } rfl hok1 hG (l'd _) (by rw [hfold]; exact hset)) fun e1 act1 w1 hE => ?_;cases e1 with
 | normal =>
  obtain ⟨a1, Ha, Sa, rfl, hB, hoka, hexta, hra1, _⟩ := hE;obtain ⟨hfa, hsame⟩ := hfree.ext (l'n.1 q3).1 hexta;have hLa := hsame.trans q3;refine ⟨_, run_beginRound (P := P) hLa rfl, ?_⟩;have hokb := kag9 hoka hfa (zr0 fn ts ps assign body D .busy none);have hlen : H1.length ≤ Ha.length := hexta.len (l'd _);have henv : (Sa.shut L (zr0 fn ts ps assign body D .busy none)).env Ha = Sa.env Ha := rfl;refine wpIn_mono (hB (some L) (Sa.shut L (zr0 fn ts ps assign body D .busy none)) act1 rfl hokb (hG.mono hexta.M) hlen hra1) fun e act2 w2 hE2 => ?_;obtain ⟨a2, Hb, Sb, rfl, ⟨rfl, hH2⟩, hok2, hext2, _, _⟩ := hE2;have hLb0 : (Sa.shut L (zr0 fn ts ps assign body D .busy none)).w.heap[L]? = some (zr0 fn ts ps assign body D .busy none) := World.putObj_heap_same (l'n.1 hLa).1;obtain ⟨hfb, hsameb⟩ := (qcg9 (L := L) hfa (zr0 fn ts ps assign body D .busy none)).ext (l'n.1 hLb0).1 hext2;have hLb := hsameb.trans hLb0;have hlen2 : H1.length ≤ Hb.length := hext2.len hlen;obtain ⟨hok3, hext3⟩ := kF0 (n0 := H1.length) hok2 (l'd _) hlen2 (by rw [hH2]; exact hb2);rw [hH2] at hok3 hext3;have hfc : Sb.Free H2 L := ⟨fun q => hfb.1 (by
   rcases q with ⟨b, hb⟩;refine ⟨b, ?_⟩;have hlt : b < H1.length := by
    grind [Nat.lt_or_ge, b, St.at, List.getElem?_eq_none]
   rw [← hH2] at hb;simpa only [St.at, l'u, if_pos hlt] using hb), hfb.2⟩
  -- the chain, as the caller sees it
  have hchain : Ext H1.length S (H1 ++ [Blk.ob (.loop (zr0 fn ts ps assign body D .ready none) aS ts.toList)]) Sb H2 := ((wbd9 (hext1.trans hexta) (.inl hown) _).trans hext2).trans hext3;have hra2 : RelL (Sb.env H2) aS ts.toList := by
   have e1 := RelL.mono (hexta.le (l'd _)) _ _ hra;refine RelL.mono ?_ _ _ hra;have : Ext H1.length S H1 Sa Ha := hexta;have l1 := hexta.le (l'd _);refine ⟨fun k o q => hext3.M k o (hext2.M k o (hexta.M k o q)), fun b s cur hb => ?_, fun b g hb => ?_⟩
   ·have hlt := vbm9 hb;obtain ⟨c1, l1, s1, m1⟩ := hexta.sh b s cur hlt hb;obtain ⟨c2, l2, s2, m2⟩ := hext2.sh b s c1 hlt s1;obtain ⟨c3, l3, s3, m3⟩ := hext3.sh b s c2 hlt s2;refine ⟨c3, by omega, s3, fun e => ?_⟩;have e3 : c3 = c2 := by omega
    have e2 : c2 = c1 := by omega
    have e1 : c1 = cur := by omega
    exact ((m3 e3).trans (m2 e2)).trans (m1 e1)
   ·have hlt := kbm9 hb;exact hext3.ν b g hlt (hext2.ν b g hlt (hexta.ν b g hlt hb))
  have hend := run_endRound (P := P) (vf0 e) hLb
  let w' := Sb.w.putObj L (zr0 fn ts ps assign body D (if (vf0 e).isNone = true then .ready else .done) (vf0 e))
  have hfin : ∃ v S', Ending.returned (.bool (vf0 e).isNone) = .returned v ∧ S'.w = w' ∧ S'.Ok (H2 ++ [.ob (.loop (zr0 fn ts ps assign body D (if (vf0 e).isNone = true then .ready else .done) (vf0 e)) aS ts.toList)]) ∧
    Ext (H1 ++ [Blk.ob (.loop (zr0 fn ts ps assign body D .ready none) aS ts.toList)]).length S (H1 ++ [Blk.ob (.loop (zr0 fn ts ps assign body D .ready none) aS ts.toList)]) S' (H2 ++ [.ob (.loop (zr0 fn ts ps assign body D (if (vf0 e).isNone = true then .ready else .done) (vf0 e)) aS ts.toList)]) ∧
    Rel (S'.env (H2 ++ [.ob (.loop (zr0 fn ts ps assign body D (if (vf0 e).isNone = true then .ready else .done) (vf0 e)) aS ts.toList)])) (.bool (vf0 e).isNone) v := by
   refine ⟨_, Sb.add H2.length L w', rfl, rfl, qdb9 hok3 hfc (fun k hk hne => World.putObj_heap_other hne) (World.putObj_heap_same (l'n.1 hLb).1) hra2, ?_, by simp [Rel]⟩;have hput := wbd9 hchain (.inl hown) (zr0 fn ts ps assign body D (if (vf0 e).isNone = true then .ready else .done) (vf0 e));have hlt1 : ∀ b, b < (H1 ++ [Blk.ob (.loop (zr0 fn ts ps assign body D .ready none) aS ts.toList)]).length → b < H1.length ∨ b = H1.length := fun b hb => by simp at hb; omega
   exact {
    os := hput.os
    tape := hput.tape
    output := hput.output
    size := hput.size
    keep := hput.keep
    M := hput.M
    dom := hput.dom
    own := fun j hj => by
     obtain ⟨b, hb⟩ := hj;rcases wK0 hb with q|q
     ·rw [zbd9 q] at hb;exact hput.own j ⟨b, hb⟩
     grind [wN0]
    sh := fun b s cur hb hs => by
     rcases hlt1 b hb with q|q
     ·obtain ⟨c, c1, c2, c3⟩ := hput.sh b s cur q hs;refine ⟨c, c1, ?_, c3⟩;grind [b, shOf, List.getElem?_append_left]
     ·subst q; simp [shOf] at hs
    ν := fun b g hb hg => by
     rcases hlt1 b hb with q|q
     ·have : mpOf Sb.ν H2 b = some g := hput.ν b g q hg;have hb2 : b < H2.length := by omega
      have e : (Sb.add H2.length L w').ν b = Sb.ν b := ve0 _ _ (by omega);grind [mpOf, List.getElem?_append_left]
     simp_all [mpOf, zr0, St.add, wc0]
    len := fun _ => by simp; omega }
  cases e with
  | normal => exact ⟨_, w', hend, hfin⟩
  | ret => exact ⟨_, w', hend, hfin⟩
  | exit id => exact ⟨_, w', hend, hfin⟩
  | goto t => exact ⟨_, w', hend, hfin⟩
  | panic c => cases he
  | outgrown => cases he
 | exit id => obtain ⟨_, _, _, _, h, _⟩ := hE; exact h.elim
 | goto id => obtain ⟨_, _, _, _, h, _⟩ := hE; exact h.elim
 | ret => obtain ⟨_, _, _, _, h, _⟩ := hE; exact h.elim
 | panic id => obtain ⟨_, _, _, _, h, _⟩ := hE; exact h.elim
 | outgrown => obtain ⟨_, _, _, _, h, _⟩ := hE; exact h.elim
end
def Iter (P : Program) (G : Glob) (g : FuncId) (cap : List AV) (x : Nat → List AV) (N : Nat) : Prop :=
 ∀ (K : Nat → List Blk) (b m : Nat) (stop : Bool), (stop = true → m < N) → (stop = false → m = N) →
  (∀ i, i < m → kJ0 P G b (x i) (K i) (.bool true) (K (i + 1))) → (stop = true → kJ0 P G b (x m) (K m) (.bool false) (K (m + 1))) →
  qb0 P G g (.yld b :: cap) (K 0) (.tup []) (K (if stop = true then m + 1 else m))
def qdn9 (P : Program) (G : Glob) (g : FuncId) (cap : List AV) (x : Nat → List AV) (N : Nat) : Prop :=
 ∀ (K : Nat → List Blk) (b m : Nat) (stop : Bool), (∀ i, (K i).length = b + 1 ∧ (K i).all (Blk.below b) = true) → (stop = true → m < N) → (stop = false → m = N) →
  (∀ i, i < m → kJ0 P G b (x i) (K i) (.bool true) (K (i + 1))) → (stop = true → kJ0 P G b (x m) (K m) (.bool false) (K (m + 1))) →
  qb0 P G g (.yld b :: cap) (K 0) (.tup []) (K (if stop = true then m + 1 else m))
theorem Iter.toF {P : Program} {G : Glob} {g : FuncId} {cap : List AV} {x : Nat → List AV} {N : Nat} (h : Iter P G g cap x N) : qdn9 P G g cap x N := fun K b m stop _ => h K b m stop
section
variable {P : Program} {G : Glob}
theorem kbO9 {E : Env} {a : List AV} {vs : List Value} (k : Nat) (h : RelL E a vs) : RelL E (a.map (xi0 k)) vs := by
 refine RelL.mk (by simpa using h.length) fun i x v hx hv => ?_;rw [l'k] at hx;cases hy : a[i]? with
 | none => rw [hy] at hx; cases hx
 | some y =>
  rw [hy] at hx;simp only [Option.map_some, Option.some.injEq] at hx;subst hx;obtain ⟨v', hv', hr⟩ := h.get hy;grind [xi0, Rel]
theorem kaw9 (k : Nat) (a : List AV) : idsL (fun b => decide (b < k)) (a.map (xi0 k)) = true := by
 rw [kX0];intro x hx;obtain ⟨y, _, rfl⟩ := l'Z.1 hx;unfold xi0;split
 ·assumption
 ·rfl
theorem kaR9 {n0 k m N : Nat} {gf : FuncId} {g : Operand} {ps : Array Tmp} {assign body : Code} {a cap : List AV} {H : List Blk} {x : Nat → List AV} {Q : Post} {e : Exit} (Hs : Nat → List Blk)
  (hg : (ev G a g).strip = .fn gf cap) (hgk : (ev G a g).ok = true) (hent : qa0 P gf = true) (hit : qdn9 P G gf cap x N)
  (hk : H.length = k) (h0 : Hs 0 = H) (hlen : ∀ i, (Hs i).length = k) (hbel : ∀ i, (Hs i).all (Blk.below k) = true)
  (hx : ∀ i, idsL xU0 (x i) = true ∧ (x i).length = ps.size)
  (hm1 : (vf0 e).isSome = true → m < N) (hm2 : (vf0 e).isSome = false → m = N) (he : zZ0 e = true)
  (hround : ∀ i, i < m → AWp true P G k assign (kbo9 (AWp true P G k body (fun e' a' H' => e' = .normal ∧ H'.take k = Hs (i + 1))) (fun _ _ _ => False)) (setA ps.toList (x i) (a.map (xi0 k))) (Hs i))
  (hlast : (vf0 e).isSome = true → AWp true P G k assign (kbo9 (AWp true P G k body (fun e' a' H' => e' = e ∧ H'.take k = Hs (m + 1))) (fun _ _ _ => False)) (setA ps.toList (x m) (a.map (xi0 k))) (Hs m))
  (hQ : Q e a (Hs (if (vf0 e).isSome = true then m + 1 else m))) : AWp false P G n0 (.rangeFunc g ps assign body) Q a H := by
 intro ro S act hro hok hG hn ha;have hro : ro = none := by simp_all
 subst hro; subst hk;refine wpIn_rangeFunc (F := fen none) (n := 0) fun fn hfn => ?_
 -- what is called
 have hfv := (xR0 (act := act) hG ha g).strip hgk;rw [hg] at hfv;simp only [Rel] at hfv;obtain ⟨caps, hfe, hcap⟩ := hfv
 -- the record and the block for the deferred calls
 obtain ⟨D, hD⟩ : ∃ D, S.w.heap.size = D := ⟨_, rfl⟩;obtain ⟨R, hR⟩ : ∃ R : Nat → Obj, R = fun i => zr0 fn act.tmps ps assign body D (if i ≤ m then .ready else .done) (if i ≤ m then none else vf0 e) := ⟨_, rfl⟩;have hRr : ∀ i, i ≤ m → R i = zr0 fn act.tmps ps assign body D .ready none := fun i hi => by rw [hR]; simp [hi]
 have hRd : R (m + 1) = zr0 fn act.tmps ps assign body D .done (vf0 e) := by
  grind
 obtain ⟨W1, hW1⟩ : ∃ W1, (S.w.alloc (.deferred (some []))).alloc (zr0 fn act.tmps ps assign body D .ready none) = W1 := ⟨_, rfl⟩;have hW1h : ∀ j, j < D → W1.heap[j]? = S.w.heap[j]? := fun j hj => by
  grind [Below.heap_alloc, trans]
 have hW1s : W1.heap.size = D + 2 := by rw [← hW1]; simp; omega
 have hW1L : W1.heap[D + 1]? = some (zr0 fn act.tmps ps assign body D .ready none) := by
  grind [World.alloc_heap_new, zr0, World.size_alloc]
 have hW1D : W1.heap[D]? = some (.deferred (some [])) := by
  grind [World.alloc_heap_new, Below.heap_alloc, trans]
 have hnf : ∀ j, D ≤ j → S.Free H j := fun j hj => ⟨fun ⟨b, hb⟩ => by have := qam9 hok hb; omega, by
  cases hM : S.M j with
  | none => rfl
  | some o => have := M_lt hok (k := j) (by rw [hM]; simp); omega⟩
 let aS := a.map (xi0 H.length)
 let K : Nat → List Blk := fun i => Hs i ++ [.ob (.loop (R i) aS act.tmps.toList)]
 have hKl : ∀ i, (K i).length = H.length + 1 := fun i => by simp [K, hlen]
 let S1 : St := S.add H.length (D + 1) W1
 have hra : RelL (S.env H) aS act.tmps.toList := kbO9 _ ha;have hK0 : K 0 = H ++ [.ob (.loop (zr0 fn act.tmps ps assign body D .ready none) aS act.tmps.toList)] := by grind
 have hok1 : S1.Ok (K 0) := by
  grind [qdb9]
 have hown1 : ∀ j, S1.Owns (K 0) j → S.Owns H j ∨ j = D + 1 := fun j ⟨b, hb⟩ => by
  rw [hK0] at hb;rcases wK0 hb with q|q
  ·rw [zbd9 q] at hb; exact .inl ⟨b, hb⟩
  grind [wN0]
 have hcalls : qb0 P G gf (.yld H.length :: cap) (K 0) (.tup []) (K (if (vf0 e).isSome = true then m + 1 else m)) := by
  refine hit K H.length m (vf0 e).isSome (fun i => ⟨hKl i, by grind [Blk.below, kaw9]⟩) hm1 hm2 (fun i hi => ?_) (fun hj => ?_)
  ·have := vR0 (fn := fn) (ts := act.tmps) (D := D) (e := .normal) (hround i hi) (hlen i) (hlen _) (hbel i) (hbel _) rfl (hx i).1 (kaw9 _ _) (hx i).2;simp only [K];rw [hRr i (by omega), hRr (i + 1) (by omega)];exact this
  ·have := vR0 (fn := fn) (ts := act.tmps) (D := D) (hlast hj) (hlen m) (hlen _) (hbel m) (hbel _) he (hx m).1 (kaw9 _ _) (hx m).2;have hn : (vf0 e).isNone = false := by
    simp_all
   grind
 have hargs : RelL (S1.env (K 0)) (.yld H.length :: cap) (.func (.yield (D + 1)) #[] #[] :: caps) := by
  simp only [RelL];refine ⟨_, _, rfl, ?_, ?_⟩
  ·simp only [Rel];exact ⟨D + 1, by rw [hK0]; simp [St.env, mpOf, S1, St.add, wc0], rfl⟩
  grind [RelL.mono, kcf9]
 have hcall := hcalls S1 _ hok1 hG hargs;generalize hmm : (if (vf0 e).isSome = true then m + 1 else m) = mm at hcall hQ;unfold qa0 at hent;split at hent
 ·rename_i fn' hfn';simp only [l'a, bne_iff_ne, ne_eq, l'G] at hent;obtain ⟨hname, body', hbody'⟩ := hent;refine ⟨D + 1, [mark D], W1, { target := .fn (.func gf) caps.toArray, args := #[.func (.yield (D + 1)) #[] #[]] }, W1, gf, #[.func (.yield (D + 1)) #[] #[]] ++ caps.toArray, W1, ?_, ?_, fun _ _ => trivial, ?_, fun q => (by cases q), ?_⟩
  ·rw [← hW1, ← hD]; exact run_enterLoop_outer _ _ _ _ _
  ·simp only [resolve, hfe];simp [go_sem, Deferred.ofValue]
  ·simp_all [invoke, callFunc]
  ·have hvals : (.func (.yield (D + 1)) #[] #[] :: caps).toArray = #[.func (.yield (D + 1)) #[] #[]] ++ caps.toArray := by simp
   rw [hvals] at hcall;refine xz0 (hcall.mono fun e3 w3 hh => ?_);obtain ⟨v, S', rfl, rfl, hok', hext', _⟩ := hh;have hHl : (Hs mm).length = H.length := hlen mm;have hν : S'.ν H.length = some (D + 1) := by
    have h1 : mpOf S1.ν (K 0) H.length = some (D + 1) := by rw [hK0]; simp [mpOf, S1, St.add, wc0]
    have h2 := hext'.ν H.length (D + 1) (by rw [hKl]; omega) h1;grind [mpOf]
   obtain ⟨g1, o1, q1, q2, q3, q4, q5⟩ := hok'.ob H.length _ (by simp only [K]; rw [← hHl]; simp; rfl);rw [hν] at q1; injection q1 with q1; subst q1; subst q4
   have hfree : S'.Free (Hs mm) (D + 1) := xbd9 (x := .loop (R mm) aS act.tmps.toList) hok' (by rw [hHl]; exact hν);have htk : (K mm).take H.length = Hs mm := by simp only [K]; rw [← hHl]; simp
   obtain ⟨hok2, hext2⟩ := kF0 (n0 := H.length) hok' (l'd _) (by rw [hKl]; omega) (by rw [htk]; exact hbel mm);rw [htk] at hok2 hext2;have hRmm : R mm = .loop { state := (if mm ≤ m then .ready else .done), pending := (if mm ≤ m then none else vf0 e), fn := fn, tmps := act.tmps, params := ps, assign := assign, body := body, defers := D } := by rw [hR]; rfl
   rw [hRmm] at q3;have hend := run_endLoop (P := P) q3 (by simp only; split <;> simp);generalize hX : Obj.loop { ({ state := (if mm ≤ m then .ready else .done), pending := (if mm ≤ m then none else vf0 e), fn := fn, tmps := act.tmps, params := ps, assign := assign, body := body, defers := D } : Loop) with state := .exhausted } = X at hend
   let S6 := S'.shut (D + 1) X
   have hok6 : S6.Ok (Hs mm) := kag9 hok2 hfree X;have hown6 : ∀ j, S6.Owns (Hs mm) j → S.Owns H j ∨ (D ≤ j ∧ j ≠ D) := fun j hj => by
    rcases hext2.own j hj with q|q
    ·rcases hext'.own j q with q|q
     ·grind
     ·have : D + 2 ≤ j := by rw [← hW1s]; exact q
      exact .inr (by omega)
    grind
   have hdom6 : ∀ j, S6.M j ≠ none → S.M j ≠ none ∨ S.Owns H j ∨ (D ≤ j ∧ j ≠ D) := fun j hj => by
    rcases hext'.dom j hj with q|q|q
    ·exact .inl q
    ·grind
    ·have : D + 2 ≤ j := by rw [← hW1s]; exact q
     exact .inr (.inr (by omega))
   have hkeep6 : ∀ j, j ≤ D → ¬ S.Owns H j → S6.w.heap[j]? = W1.heap[j]? := fun j hj hno =>
    (World.putObj_heap_other (by omega)).trans (hext'.keep j (by show j < W1.heap.size; omega) fun q => by
     grind)
   have hext6 : Ext H.length S H S6 (Hs mm) := {
    os := (by rw [show S6.w.os = S'.w.os from rfl, hext'.os, show S1.w = W1 from rfl, ← hW1]; rfl)
    tape := (by rw [show S6.w.tape = S'.w.tape from rfl, hext'.tape, show S1.w = W1 from rfl, ← hW1]; rfl)
    output := (by rw [show S6.w.output = S'.w.output from rfl, hext'.output, show S1.w = W1 from rfl, ← hW1]; rfl)
    size := by
     have := hext'.size;have e : S1.w.heap.size = D + 2 := hW1s;have e2 : S6.w.heap.size = S'.w.heap.size := by simp [S6, St.shut]
     omega
    keep := fun j hj hno => (hkeep6 j (by omega) hno).trans (hW1h j (by omega))
    M := fun j o hj => hext'.M j o hj
    dom := fun j hj => by
     grind
    own := fun j hj => by
     grind
    sh := fun b s cur hb hs => by
     have h1 : shOf (K 0) b = some (s, cur) := by grind [shOf, List.getElem?_append_left]
     obtain ⟨c1, l1, s1, m1⟩ := hext'.sh b s cur (by rw [hKl]; omega) h1;refine ⟨c1, l1, ?_, m1⟩;grind [b, shOf, List.getElem?_append_left]
    ν := fun b g hb hg => by
     have h1 : mpOf S1.ν (K 0) b = some g := by
      rw [hK0];have e : S1.ν b = S.ν b := ve0 _ _ (by omega);grind [mpOf, List.getElem?_append_left]
     have h2 := hext'.ν b g (by rw [hKl]; omega) h1;have hb2 : b < (Hs mm).length := by omega
     show mpOf S'.ν (Hs mm) b = some g;grind [mpOf, List.getElem?_append_left]
    len := fun _ => by omega }
   have hmark : Marks S act.defers S6 (Hs mm) (mark D :: act.defers) := by
    refine ⟨[D], rfl, by simp, fun j hj => ?_⟩;have : j = D := by simpa using hj
    subst this;have hnD := hnf j (l'd _);refine ⟨by omega, ⟨fun q => ?_, ?_⟩, (hkeep6 j (l'd _) hnD.1).trans hW1D⟩
    ·rcases hown6 j q with q|q
     ·exact hnD.1 q
     ·exact q.2 rfl
    ·cases hM : S6.M j with
     | none => rfl
     | some o =>
      rcases hdom6 j (by rw [hM]; simp) with q|q|q
      ·exact absurd hnD.2 q
      ·exact absurd q hnD.1
      ·exact absurd rfl q.2
   have hends : Ends G n0 S H act.defers (Q e) { act with defers := [mark D] ++ act.defers } S6.w :=
    ⟨a, Hs mm, S6, rfl, hQ, hok6, hext6.less hn (l'd _), RelL.mono (hext6.le (l'd _)) _ _ ha, hmark⟩
   refine ⟨_, S6.w, hend, ?_⟩;by_cases hj : (vf0 e).isSome = true
   ·rw [if_pos hj] at hmm;subst hmm;have : ¬ m + 1 ≤ m := by omega
    simp only [if_neg this];cases e with
    | ret => exact wpIn_ret hends
    | exit id => exact wpIn_exit hends
    | goto t => exact wpIn_goto hends
    | normal => cases hj
    | panic c => cases hj
    | outgrown => cases hj
   ·rw [if_neg hj] at hmm;subst hmm;simp only [if_pos (l'd m)];cases e with
    | normal => exact hends
    | ret => exact absurd rfl hj
    | exit id => exact absurd rfl hj
    | goto t => exact absurd rfl hj
    | panic c => cases he
    | outgrown => cases he
 ·cases hent
def setS : List Tmp → List AV → (Nat → AV) → Nat → AV
 | p :: ps, x :: xs, s => setS ps xs (updS s p x)
 | _, _, s => s
theorem xbC9 (n : Nat) : ∀ (ps : List Tmp) (xs : List AV) (s : Nat → AV), setA ps xs (Lst n s) = Lst n (setS ps xs s)
 | [], _, s => by simp [setA, setS]
 | _ :: _, [], s => by simp [setA, setS]
 | p :: ps, x :: xs, s => by
  simp only [setA, setS];rw [← xbC9 n ps xs];congr 1
  exact wk0 n s (some p) x
theorem qax9 (n k : Nat) (s : Nat → AV) : (Lst n s).map (xi0 k) = Lst n (fun t => xi0 k (s t)) := by
 simp [Lst]
def EndQ (k : Nat) (e : Exit) (H2 : List Blk) : zg0 := fun e' _ H' => e' = e ∧ H'.take k = H2
def zcg9 : zg0 := fun _ _ _ => False
theorem zdn9 {k : Nat} {e : Exit} {H2 H : List Blk} {B : Prop} {s : Nat → AV} (h : B ∧ H.take k = H2) : Out (EndQ k e H2) e B s H := ⟨h.1, rfl, h.2⟩
theorem qaS9 {n0 n k m N : Nat} {code : Code} {p : List Nat} {B : Prop} {s : Nat → AV} {gf : FuncId} {g : Operand} {ps : Array Tmp} {assign body : Code} {cap : List AV} {H : List Blk} {x : Nat → List AV} {Q : zg0} (e : Exit) (Hs : Nat → List Blk)
  (hs : atR code p = .rangeFunc g ps assign body) (hB : B)
  (hg : (evS G n s g).strip = .fn gf cap) (hgk : (evS G n s g).ok = true) (hent : qa0 P gf = true) (hit : qdn9 P G gf cap x N)
  (hk : H.length = k) (h0 : Hs 0 = H) (hlen : ∀ i, (Hs i).length = k) (hbel : ∀ i, (Hs i).all (Blk.below k) = true)
  (hx : ∀ i, idsL xU0 (x i) = true ∧ (x i).length = ps.size)
  (hm1 : (vf0 e).isSome = true → m < N) (hm2 : (vf0 e).isSome = false → m = N) (he : zZ0 e = true)
  (hround : ∀ i, i < m → ∀ s1 : Nat → AV, (∀ t, s1 t = setS ps.toList (x i) (fun t => xi0 k (s t)) t) → Go true P G k n code (0 :: p) (thenS (At true P G k n code (1 :: p) (EndQ k .normal (Hs (i + 1)))) zcg9) True s1 (Hs i))
  (hlast : (vf0 e).isSome = true → ∀ s1 : Nat → AV, (∀ t, s1 t = setS ps.toList (x m) (fun t => xi0 k (s t)) t) → Go true P G k n code (0 :: p) (thenS (At true P G k n code (1 :: p) (EndQ k e (Hs (m + 1)))) zcg9) True s1 (Hs m))
  (hQ : Out Q e True s (Hs (if (vf0 e).isSome = true then m + 1 else m))) : Go false P G n0 n code p Q B s H := by
 refine ⟨hB, ?_⟩;have key : ∀ (y : List AV) (e' : Exit) (H1 H2 : List Blk), (∀ s1 : Nat → AV, (∀ t, s1 t = setS ps.toList y (fun t => xi0 k (s t)) t) → Go true P G k n code (0 :: p) (thenS (At true P G k n code (1 :: p) (EndQ k e' H2)) zcg9) True s1 H1) →
   AWp true P G k assign (kbo9 (AWp true P G k body (fun e1 a' H' => e1 = e' ∧ H'.take k = H2)) (fun _ _ _ => False)) (setA ps.toList y ((Lst n s).map (xi0 k))) H1 := fun y e' H1 H2 h => by
  have h2 := (h _ fun t => rfl).2;unfold At at h2;simp only [atR, hs, kid] at h2;rw [qax9, xbC9];refine qu0 h2 fun e1 a1 H' q => ?_;rw [wU0] at q;cases e1 with
  | normal =>
   obtain ⟨s', rfl, q⟩ := q;exact qu0 q fun e2 a2 H'' ⟨s2, _, r⟩ => r
  | _ => obtain ⟨_, _, r⟩ := q; exact r.elim
 show AWp false P G n0 (atR code p) (qG0 n Q) (Lst n s) H;rw [hs];exact kaR9 Hs (by rw [qm0]; exact hg) (by rw [qm0]; exact hgk) hent hit hk h0 hlen hbel hx hm1 hm2 he (fun i hi => key _ _ _ _ (hround i hi)) (fun hj => key _ _ _ _ (hlast hj)) ⟨s, rfl, hQ.2⟩
theorem vbd9 {n0 n k m N : Nat} {code : Code} {p : List Nat} {B : Prop} {s : Nat → AV} {gf : FuncId} {g : Operand} {ps : Array Tmp} {assign body : Code} {cap : List AV} {H : List Blk} {x : Nat → List AV} {Q : zg0} (e : Exit) (Hs : Nat → List Blk)
  (hs : atR code p = .rangeFunc g ps assign body) (hB : B)
  (hg : (evS G n s g).strip = .fn gf cap) (hgk : (evS G n s g).ok = true) (hent : qa0 P gf = true) (hit : Iter P G gf cap x N)
  (hk : H.length = k) (h0 : Hs 0 = H) (hlen : ∀ i, (Hs i).length = k) (hbel : ∀ i, (Hs i).all (Blk.below k) = true)
  (hx : ∀ i, idsL xU0 (x i) = true ∧ (x i).length = ps.size)
  (hm1 : (vf0 e).isSome = true → m < N) (hm2 : (vf0 e).isSome = false → m = N) (he : zZ0 e = true)
  (hround : ∀ i, i < m → ∀ s1 : Nat → AV, (∀ t, s1 t = setS ps.toList (x i) (fun t => xi0 k (s t)) t) → Go true P G k n code (0 :: p) (thenS (At true P G k n code (1 :: p) (EndQ k .normal (Hs (i + 1)))) zcg9) True s1 (Hs i))
  (hlast : (vf0 e).isSome = true → ∀ s1 : Nat → AV, (∀ t, s1 t = setS ps.toList (x m) (fun t => xi0 k (s t)) t) → Go true P G k n code (0 :: p) (thenS (At true P G k n code (1 :: p) (EndQ k e (Hs (m + 1)))) zcg9) True s1 (Hs m))
  (hQ : Out Q e True s (Hs (if (vf0 e).isSome = true then m + 1 else m))) : Go false P G n0 n code p Q B s H :=
 qaS9 e Hs hs hB hg hgk hent hit.toF hk h0 hlen hbel hx hm1 hm2 he hround hlast hQ
end
theorem vU0 {H : List Blk} {b s : Nat} {t : TypeId} {es es' : List (List AV)} (hb : H[b]? = some (.row s t es)) (hl : es'.length = es.length) (x : Nat) : shOf (H.set b (.row s t es')) x = shOf H x := by
 by_cases e : x = b
 ·subst e;have hlt := (l'c.1 hb).1;simp only [shOf, l'o hlt, hb, hl]
 ·simp [shOf, l'r (n'o e)]
theorem kU0 {ν : Nat → Option Nat} {H : List Blk} {b s : Nat} {t : TypeId} {es es' : List (List AV)} (hb : H[b]? = some (.row s t es)) (x : Nat) : mpOf ν (H.set b (.row s t es')) x = mpOf ν H x := by
 by_cases e : x = b
 ·subst e;have hlt := (l'c.1 hb).1;simp only [mpOf, l'o hlt, hb]
 ·simp [mpOf, l'r (n'o e)]
theorem kbd9 {S : St} {H : List Blk} {b s : Nat} {t : TypeId} {es es' : List (List AV)} (hb : H[b]? = some (.row s t es)) (x : Nat) : S.at (H.set b (.row s t es')) x = S.at H x := by
 by_cases e : x = b
 ·subst e;have hlt := (l'c.1 hb).1;simp only [St.at, l'o hlt, hb]
 ·simp [St.at, l'r (n'o e)]
theorem xcg9 {S : St} {H : List Blk} {b s : Nat} {t : TypeId} {es es' : List (List AV)} (hok : S.Ok H) (hb : H[b]? = some (.row s t es)) (hl : es'.length = es.length) (hr : ∀ cs, RowIn (S.env H) s es cs → RowIn (S.env H) s es' cs) : S.Ok (H.set b (.row s t es')) := by
 have henv : S.env (H.set b (.row s t es')) = S.env H := by
  simp only [St.env];congr 1
  ·funext x; exact vU0 hb hl x
  ·funext x; exact kU0 hb x
 have hlt := (l'c.1 hb).1;refine ⟨hok.imm, fun x s' t' es2 hx => ?_, fun x o hx => ?_, fun x y g hx hy => ?_⟩
 ·rw [henv];by_cases e : x = b
  ·subst e;rw [l'o hlt] at hx;injection hx with hx; injection hx with h1 h2 h3; subst h1; subst h2; subst h3
   rcases hok.row x s t es hb with q|⟨g, k, cs, h1, h2, h3, h4, h5, h6, h7⟩
   ·refine .inl ⟨q.1, q.2.imp (fun q2 => l'C ?_) id⟩;rw [hl, q2]; rfl
   ·exact .inr ⟨g, k, cs, h1, h2, h3, h4, by omega, h6, hr cs h7⟩
  ·rw [l'r (n'o e)] at hx;exact hok.row x s' t' es2 hx
 ·rw [henv];have e : x ≠ b := by
   rintro rfl;rw [l'o hlt] at hx;cases hx
  rw [l'r (n'o e)] at hx;exact hok.ob x o hx
 ·rw [kbd9 hb] at hx hy;exact hok.inj x y g hx hy
theorem qbP9 {n0 : Nat} {S : St} {H : List Blk} {b s : Nat} {t : TypeId} {es es' : List (List AV)} (hb : H[b]? = some (.row s t es)) (hl : es'.length = es.length) : Ext n0 S H S (H.set b (.row s t es')) where
 os := rfl
 tape := rfl
 output := rfl
 size := l'd _
 keep _ _ _ := rfl
 M _ _ h := h
 dom _ h := .inl h
 own k h := by
  obtain ⟨x, hx⟩ := h;rw [kbd9 hb] at hx;exact .inl ⟨x, hx⟩
 sh x s' cur _ hs := ⟨cur, l'd _, by rw [vU0 hb hl]; exact hs, fun _ => rfl⟩
 ν x g _ hg := by rw [kU0 hb]; exact hg
 len h := by simpa using h
theorem zj0 {n0 n b i j z sz s0 : Nat} {t ty : TypeId} {s : Nat → AV} {H : List Blk} {es : List (List AV)} {e : List AV} (hb : H[b]? = some (.row s0 t es)) (hi : es[i]? = some e) (hj : e[j]? = some (.sl z [] (some 0))) :
  Weak n0 (Lst n s) H (Lst n s) (H.set b (.row s0 t (es.set i (e.set j (.own H.length 0 0 none)))) ++ [Blk.row sz ty []]) := fun S vs hok hn ha => by
 have hlt := (l'c.1 hb).1;have hext := vbq9 hok sz ty;have hok1 := kda9 hok sz ty;have hb1 : (H ++ [Blk.row sz ty []])[b]? = some (.row s0 t es) := by rw [l'f hlt]; exact hb
 have hset : (H ++ [Blk.row sz ty []]).set b (.row s0 t (es.set i (e.set j (.own H.length 0 0 none)))) = H.set b (.row s0 t (es.set i (e.set j (.own H.length 0 0 none)))) ++ [Blk.row sz ty []] := by
  rw [List.set_append_left _ _ hlt]
 have hr : ∀ cs, RowIn ((S.nil H.length).env (H ++ [Blk.row sz ty []])) s0 es cs → RowIn ((S.nil H.length).env (H ++ [Blk.row sz ty []])) s0 (es.set i (e.set j (.own H.length 0 0 none))) cs := fun cs h7 i' e' hi' => by
  rw [n'e] at hi';split at hi'
  ·rename_i hii;subst hii;split at hi'
   ·injection hi' with hi'; subst hi'
    obtain ⟨l1, l2⟩ := h7 i e hi;refine ⟨by simpa using l1, fun j' a hj' => ?_⟩;rw [n'e] at hj';split at hj'
    ·rename_i hjj;subst hjj;split at hj'
     ·injection hj' with hj'; subst hj'
      obtain ⟨v, hv, ho, hrel⟩ := l2 j _ hj;refine ⟨v, hv, ho, ?_⟩;simp only [Rel] at hrel ⊢;obtain ⟨a, cap, rfl, h1, h2, h3, h4⟩ := hrel;have : cap = 0 := h3 0 rfl;subst this;exact ⟨sz, 0, by simp [St.env, shOf], l'd _, fun _ => ⟨l'd _, .inl ⟨wc0 _ _ _, ⟨a, rfl⟩, by simp⟩⟩⟩
     ·cases hj'
    ·exact l2 j' a hj'
   ·cases hi'
  ·exact h7 i' e' hi'
 refine ⟨S.nil H.length, rfl, ?_, ?_, ?_⟩
 ·rw [← hset]; exact xcg9 hok1 hb1 (by simp) hr
 ·rw [← hset]; exact (hext.less hn (l'd _)).trans (qbP9 hb1 (by simp))
 ·rw [← hset];have henv : (S.nil H.length).env ((H ++ [Blk.row sz ty []]).set b (.row s0 t (es.set i (e.set j (.own H.length 0 0 none))))) = (S.nil H.length).env (H ++ [Blk.row sz ty []]) := by
   simp only [St.env];congr 1
   ·funext x; exact vU0 hb1 (by simp) x
   ·funext x; exact kU0 hb1 x
  rw [henv];exact RelL.mono (hext.le (l'd _)) _ _ ha
theorem xaJ9 {t : Nat} : ∀ (ps : List Tmp) (xs : List AV) (s : Nat → AV), (ps.all fun p => t != p) = true → setS ps xs s t = s t
 | [], _, s, _ => by simp [setS]
 | _ :: _, [], s, _ => by simp [setS]
 | p :: ps, x :: xs, s, h => by
  simp only [List.all_cons, l'a, bne_iff_ne, ne_eq] at h;rw [setS, xaJ9 ps xs _ h.2, updS, if_neg h.1]
theorem zbP9 {k : Nat} {ps : List Tmp} {xs : List AV} {s s1 : Nat → AV} (h : ∀ t, s1 t = setS ps xs (fun t => xi0 k (s t)) t) (t : Nat) (hn : (ps.all fun p => t != p) = true) : s1 t = xi0 k (s t) := (h t).trans (xaJ9 ps xs _ hn)
theorem qe0 {n0 n : Nat} {Q : zg0} {B : Prop} {s : Nat → AV} {H : List Blk} {I : Nat → (Nat → AV) → List Blk → Prop} {m : Nat} (m' k : Nat) (hm : m' < m) (hB : B) (hn : n0 ≤ k) (hk : k ≤ H.length) (hb : (H.take k).all (Blk.below k) = true) (hI : I m' (fun t => xi0 k (s t)) (H.take k)) :
  Out (thenS (fun s' H' => ∃ m' s2 H2, m' < m ∧ Weak n0 (Lst n s') H' (Lst n s2) H2 ∧ I m' s2 H2) Q) .normal B s H :=
 ⟨hB, m', _, _, hm, by rw [← qax9]; exact xbc9 hn hk hb, hI⟩
theorem xdn9 {P : Program} {d : Nat} {t : TypeId} {k0 k k' : IntKind} (h : shp P t = .int k0) (a b : Int) : eqA P (d + 1) t (.int k a) (.int k' b) = (k == k', decide (a = b)) := by
 unfold eqA; rw [h]
theorem xbP9 {P : Program} {d : Nat} {t : TypeId} {fs : List (Nat × TypeId)} (h : shp P t = .struct fs) (cs ds : List AV) : eqA P (d + 1) t (.agg cs) (.agg ds) = fs.foldr (fun f r => wal9 (xb0 P f.2) cs ds f.1 (fun F => eqA P d f.2 (cut F cs f.1) (cut F ds f.1)) r) (true, true) := by
 conv => lhs; unfold eqA
 rw [h]
theorem wbP9 {F : TI} {cs ds : List AV} {off : Nat} {eq : TI → Bool × Bool} {r : Bool × Bool} : wal9 (some F) cs ds off eq r = (kr0 F cs.length off && kr0 F ds.length off && (eq F).1 && r.1, (eq F).2 && r.2) := rfl
theorem xcI9 (b : Bool) (x : AV) : AV.ite b x .top = if b = true then x else .top := by cases x <;> rfl
theorem wcI9 (b : Bool) (y : AV) : AV.ite b .top y = if b = true then .top else y := by cases y <;> rfl
theorem vcI9 (b : Bool) (x : AV) (l : List UInt8) : AV.ite b x (.str l) = if b = true then x else .str l := by cases x <;> rfl
theorem kcI9 (b : Bool) (y : AV) (l : List UInt8) : AV.ite b (.str l) y = if b = true then .str l else y := by cases y <;> rfl
theorem qao9 (P : Program) : vi0 P [] = some [] := rfl
theorem xah9 (P : Program) (f : Nat × TypeId) (fs : List (Nat × TypeId)) : vi0 P (f :: fs) = match xb0 P f.2 with|some T => (match vi0 P fs with|some r => some ((f.1, T.sz) :: r)|none => none)|none => none := by
 unfold vi0;rw [List.mapM_cons];cases xb0 P f.2 with
 | none => rfl
 | some T => cases List.mapM (fun f => Option.map (fun T => (f.1, T.sz)) (xb0 P f.2)) fs <;> rfl
theorem zaS9 : qaf9 .nilFunc = .lit .nilFunc := rfl
theorem qbe9 : qaf9 (.map none) = .lit (.map none) := rfl
theorem vaF9 : qaf9 .nilIface = .lit .nilIface := rfl
attribute [push_cast] xcI9 wcI9 vcI9 kcI9 vas9 ky0 wF0 zT0 wbW9 zaS9 qbe9 vaF9 van9 zbb9 zx0 xc0 zd0 qdm9 optK xcG9 wcG9 wcd9 vdl9 wdl9 xcd9 zcG9 qdF9 vce9 zbO9 zdG9 xdG9
 wdG9 vdG9 kdG9 xca9 zbN9 wca9 vca9 kca9 xcF9 qcb9 zcb9 xbN9 wcF9 xcb9 wcb9 wdC9 vcF9 kcb9 qcc9
 zcc9 wdB9 kdi9 qdj9 zdj9 kcE9 xdj9 wdj9 vdj9 qcF9 vdB9 kdB9 qdk9 zdk9 qdC9 vbM9 qbp9
 zbp9 wbb9 xbp9 wbp9 vbp9 vbb9 kbM9 qbN9 qbq9 zbq9 xdk9 xbq9
 kbb9 vaQ9 qbc9 wbN9 xcc9 vbN9 kdk9 wdE9 qdl9 kdC9 wdk9 qdD9 zdD9 xdD9 vdQ9 wdD9 vdD9
 vdk9 kdQ9 kdD9 qdR9 qdE9 zdE9 xdE9 wcc9 kbN9 vcc9 kcc9 kcF9 waf9 pNil qcG9 zdl9 qcd9 vT0 shp wQ0
 kI0 vn0 waY9 kn0 vaY9 pInt pStr pBin pUn kW0 kaY9 val9 pLen pCap xF0 qI0 qaZ9 vQ0 cut kr0 vg0 shOf  zR0
 eBox vX0 waE9 zs0 kaP9 wau9 wdg9 kl0 vaE9 AV.cells? AV.live zaH9 wj0 vS0 qao9 xah9 ww0 bad bad3 okR okA okC wR0 vw0 wg0
 AV.closed AV.ids idsL idsE xdB9 wdi9 exQ vcb9 vdC9 kdj9 kbp9
 List.isEmpty_toArray Nat.sub_zero List.getElem?_concat_length l'N Option.map_some Option.getD_some Option.bind_some Option.map_none
 Option.getD_none Option.all_some Option.all_none Option.isSome_some Option.isSome_none l'a n'k n'B Bool.false_and
 n'U l's Bool.true_or Bool.or_true n'l Bool.or_false n'S Bool.not_false l'T decide_eq_true_eq
 decide_eq_false_iff_not true_and and_true false_and and_false forall_const l'I Bool.true_eq_false if_true if_false beq_self_eq_true
 beq_iff_eq List.length_cons List.length_nil List.getElem?_cons_zero List.getElem?_cons_succ List.getElem?_nil List.map_cons List.map_nil List.all_cons
 List.all_nil List.toList_toArray List.nil_append List.cons_append List.foldr_cons List.foldr_nil not_true_eq_false not_false_eq_true implies_true
 true_implies false_implies ne_eq l'g Nat.add_zero Nat.zero_mul cond_true cond_false l'd List.getD_cons_zero List.getD_cons_succ
 List.getD_nil List.drop_zero List.drop_succ_cons List.take_succ_cons List.take_zero Int.toNat_natCast Int.natCast_nonneg and_self Int.toNat_zero
 Int.toNat_one Int.ofNat_lt Int.ofNat_le List.replicate_succ List.replicate_zero List.flatten_cons List.flatten_nil l'F l'i
 decide_true decide_false List.isEmpty_cons List.isEmpty_nil List.set_cons_zero List.set_cons_succ true_or or_true l'y
 l'M l'V l'B bne_iff_ne Nat.one_ne_zero Int.natCast_inj Int.natCast_add Int.cast_ofNat_Int
 List.length_take_of_le Bool.not_eq_false' Bool.cond_true_left Bool.cond_false_right Bool.cond_true_right Bool.cond_false_left beq_false beq_true
 n't Bool.and_eq_false_iff imp_self List.map_id' List.map_id_fun' id_eq
section
variable {P : Program} {G : Glob}
theorem qh0 {f : FuncId} {args : List AV} {H : List Blk} {r : AV} (h : ∀ (S : St) (vals : List Value), S.Ok H → Globs G S.M → RelL (S.env H) args vals →
  Calls P f vals.toArray S.w fun e w' => ∃ v, e = .returned v ∧ Below S.w.heap.size S.w w' ∧
   ∀ E : Env, (∀ k o, S.M k = some o → E.M k = some o) → (∀ k o, S.w.heap.size ≤ k → w'.heap[k]? = some o → E.M k = some o) → Rel E r v) : qb0 P G f args H r H := fun S vals hok hG ha => by
 refine (h S vals hok hG ha).mono fun e w' ⟨v, he, hb, hr⟩ => ?_
 let S' : St := ⟨fun k => if k < S.w.heap.size then S.M k else w'.heap[k]?, S.μ, S.ν, w'⟩
 have hlt : ∀ k, S.M k ≠ none → k < S.w.heap.size := fun k hk => by
  cases ho : S.M k with
  | none => exact absurd ho hk
  | some o => exact (l'n.1 (hok.imm k o ho)).1
 have hM : ∀ k o, S.M k = some o → S'.M k = some o := fun k o hk => by
  show (if k < S.w.heap.size then S.M k else w'.heap[k]?) = some o;rw [if_pos (hlt k (by rw [hk]; simp)), hk]
 have hMl : ∀ k, k < S.w.heap.size → S'.M k = S.M k := fun k hk => if_pos hk;have hle : (S.env H).le (S'.env H) := ⟨hM, fun b s cur hs => ⟨cur, l'd _, hs, fun _ => rfl⟩, fun b g hs => hs⟩;refine ⟨v, S', he, rfl, ⟨fun k o hk => ?_, fun b s t es hbb => ?_, fun b ob0 hbb => ?_, hok.inj⟩, ⟨hb.os, hb.tape, hb.output, hb.size, fun k hk _ => hb.block k hk, hM, fun k hk => ?_, fun k hk => .inl hk, fun b s cur _ hs => ⟨cur, l'd _, hs, fun _ => rfl⟩, fun b g _ hs => hs, id⟩, hr _ hM fun k o h1 h2 => ?_⟩
 ·by_cases hk' : k < S.w.heap.size
  ·have : S.M k = some o := by rw [← hMl k hk']; exact hk
   show w'.heap[k]? = some o;rw [hb.block k hk']; exact hok.imm k o this
  ·have e : S'.M k = w'.heap[k]? := if_neg hk';rw [e] at hk; exact hk
 ·rcases hok.row b s t es hbb with q|⟨g, k, cs, h1, h2, h3, h4, h5, h6, h7⟩
  ·exact .inl q
  ·have hg : g < S.w.heap.size := (l'n.1 h3).1;exact .inr ⟨g, k, cs, h1, by rw [hMl g hg]; exact h2, (hb.block g hg).trans h3, h4, h5, h6, h7.mono hle⟩
 ·obtain ⟨g, ob1, h1, h2, h3, h4⟩ := hok.ob b ob0 hbb;have hg : g < S.w.heap.size := (l'n.1 h3).1;exact ⟨g, ob1, h1, by rw [hMl g hg]; exact h2, (hb.block g hg).trans h3, h4.mono hle⟩
 ·by_cases hk' : k < S.w.heap.size
  ·left; rw [← hMl k hk']; exact hk
  ·exact .inr (.inr (by omega))
 ·show (if k < S.w.heap.size then S.M k else w'.heap[k]?) = some o;rw [if_neg (by omega)]; exact h2
theorem xaS9 {S : St} {H : List Blk} {a : AV} {cs : List AV} {g : Nat} (hok : S.Ok H) (hG : Globs G S.M) (hg : G g = some (a :: cs)) : ∃ v, S.w.cell? ⟨g, 0, none⟩ = some v ∧ Rel (Env0 S.M) a v := by
 obtain ⟨vs, t, fr, h1, h2, h3⟩ := hG g _ hg;simp only [RelL] at h2;obtain ⟨u, us, rfl, h2, _⟩ := h2;exact ⟨u, by simp [World.cell?, hok.imm g _ h1], h2⟩
abbrev xeo9 : List AV := Lib.pow10Tab.map fun z => .int .u64 z
def wdn9 (s : List UInt8) : Int × Bool :=
 match Lib.atoiAll s with
 | .ok v => (v, true)
 | Lib.NumEnd.syntax => (0, false)
 | .range => (Lib.atoiSat s, false)
def errA (ok : Bool) : AV := if ok = true then .lit .nilIface else .err
def strs (xs : List (List UInt8)) : List (List AV) := xs.map fun x => [.str x]
def kv0 (s sep : List UInt8) : List (List UInt8) := (Lib.splitB ⟨sep.toArray⟩ 0 (Lib.countB ⟨s.toArray⟩ ⟨sep.toArray⟩) ⟨s.toArray⟩).map (·.data.toList)
theorem qcJ9 {f : FuncId} {H : List Blk} {t9 : TypeId} {gm : Nat} (hm : G gm = some [.anyi .i64])
  (hc : ∀ (s sep : ByteArray) (m : Int) (w : World), s.size < 4294967281 → w.cell? ⟨gm, 0, none⟩ = some (.int .i64 m) → 1 ≤ sep.size → Calls P f #[.string s, .string sep] w fun e w' =>
   e = .returned (.slice (some ⟨w.heap.size, 0, none⟩) (Lib.countB s sep + 1) (Lib.countB s sep + 1)) ∧ w' = w.alloc (.cells ((Lib.splitB sep 0 (Lib.countB s sep) s).map Value.string).toArray t9))
  (s sep : List UInt8) (hs : s.length < 4294967281) (h1 : 1 ≤ sep.length) : qb0 P G f [.str s, .str sep] H (.sl 1 (strs (kv0 s sep)) (some (kv0 s sep).length)) H :=
 qh0 fun S vals hS hG ha => by
  have hlen : (kv0 s sep).length = Lib.countB ⟨s.toArray⟩ ⟨sep.toArray⟩ + 1 := by
   unfold kv0; rw [l'B]; exact Lib.splitB_all ⟨sep.toArray⟩ h1 0 _ ⟨s.toArray⟩ rfl
  simp only [RelL, Rel] at ha;obtain ⟨u, us, rfl, rfl, u2, us2, rfl, rfl, rfl⟩ := ha;obtain ⟨v, hv, hvr⟩ := xaS9 hS hG hm;simp only [Rel] at hvr;obtain ⟨m0, rfl⟩ := hvr;refine (hc ⟨s.toArray⟩ ⟨sep.toArray⟩ m0 S.w hs hv h1).mono fun e w' ⟨he, hw⟩ => ⟨_, he, ?_, fun E h2 h3 => ?_⟩
  ·subst hw; exact (Below.refl _ _).alloc (l'd _) _
  ·have hN := h3 S.w.heap.size (.cells ((Lib.splitB ⟨sep.toArray⟩ 0 (Lib.countB ⟨s.toArray⟩ ⟨sep.toArray⟩) ⟨s.toArray⟩).map Value.string).toArray t9) (l'd _) (by subst hw; exact heap_alloc_new S.w _);have hl1 : (strs (kv0 s sep)).length = Lib.countB ⟨s.toArray⟩ ⟨sep.toArray⟩ + 1 := by rw [← hlen]; simp [strs]
   simp only [Rel];refine ⟨some ⟨S.w.heap.size, 0, none⟩, Lib.countB ⟨s.toArray⟩ ⟨sep.toArray⟩ + 1, by rw [hl1], by omega, ?_, fun k hk => by injection hk with hk; omega, .inr ⟨S.w.heap.size, 0, rfl, RelE.mk fun i el hi => ?_⟩⟩
   ·have : Lib.countB ⟨s.toArray⟩ ⟨sep.toArray⟩ ≤ s.length + 1 := by
     have := Lib.countB_le ⟨sep.toArray⟩ h1 s.length ⟨s.toArray⟩ (l'd _);have hsz : (ByteArray.mk s.toArray).size = s.length := rfl;omega
    simp only [maxLen]; omega
   ·simp only [strs, kv0, l'k] at hi;cases hx : (Lib.splitB ⟨sep.toArray⟩ 0 (Lib.countB ⟨s.toArray⟩ ⟨sep.toArray⟩) ⟨s.toArray⟩)[i]? with
    | none => rw [hx] at hi; cases hi
    | some x =>
     rw [hx] at hi;simp only [Option.map_some, Option.some.injEq] at hi;subst hi;refine ⟨rfl, RelC.mk fun j a hj => ?_⟩;cases j with
     | succ j => simp at hj
     | zero =>
      simp at hj;subst hj;refine ⟨.string x, ?_, rfl, by simp [Rel]⟩;simp [qv0, hN, hx]
def wcg9 (H : List Blk) (x : AV) (xs : List (List UInt8)) : Prop :=
 (∃ c, x = .sl 1 (strs xs) c) ∨ ∃ b n c t es, x = .own b n es.length c ∧ H[b]? = some (.row 1 t es) ∧ n ≤ es.length ∧ es.take n = strs xs
theorem vdn9 {f : FuncId} {H : List Blk} {xs : List (List UInt8)} {x : AV} (hx : wcg9 H x xs)
  (hnone : ∀ (a : Option Addr) (c : Nat) (sep : ByteArray) (w : World), Calls P f #[.slice a 0 c, .string sep] w fun e w' => e = .returned (.string ⟨#[]⟩) ∧ w' = w)
  (hc : ∀ (bk o c : Nat) (xs : List ByteArray) (sep : ByteArray) (w : World), (∀ (j : Nat) x, xs[j]? = some x → w.cell? ⟨bk, o + j, none⟩ = some (.string x)) → bk < w.heap.size → xs.length ≤ 140737488355328 → xs.length ≤ c →
   (Lib.join (xs.map (·.data.toList)) sep.data.toList).length ≤ 140737488355328 → Calls P f #[.slice (some ⟨bk, o, none⟩) xs.length c, .string sep] w fun e w' => e = .returned (.string ⟨(Lib.join (xs.map (·.data.toList)) sep.data.toList).toArray⟩) ∧ Below w.heap.size w w')
  (sep : List UInt8) (hlen : (Lib.join xs sep).length ≤ 140737488355328) (hN : xs.length ≤ 140737488355328) : qb0 P G f [x, .str sep] H (.str (Lib.join xs sep)) H :=
 qh0 fun S vals hS hG ha => by
  simp only [RelL] at ha;obtain ⟨u, us, rfl, hu, u2, us2, rfl, h2, rfl⟩ := ha;simp only [Rel] at h2;subst h2;have hz : (xs.map fun y => ByteArray.mk y.toArray).map (·.data.toList) = xs := by
   rw [z'l]; conv => rhs; rw [← List.map_id xs]
   exact n'v fun y _ => by simp
  have key : ∀ (bk o c : Nat), u = .slice (some ⟨bk, o, none⟩) xs.length c → xs.length ≤ c → bk < S.w.heap.size → (∀ (j : Nat) y, xs[j]? = some y → S.w.cell? ⟨bk, o + j, none⟩ = some (.string ⟨y.toArray⟩)) → Calls P f (#[u, .string ⟨sep.toArray⟩] : Array Value) S.w fun e w' => ∃ v, e = .returned v ∧ Below S.w.heap.size S.w w' ∧
    ∀ E : Env, (∀ k o, S.M k = some o → E.M k = some o) → (∀ k o, S.w.heap.size ≤ k → w'.heap[k]? = some o → E.M k = some o) → Rel E (.str (Lib.join xs sep)) v := fun bk o c hu hcap hbk hcell => by
   subst hu;have := hc bk o c (xs.map fun y => ByteArray.mk y.toArray) ⟨sep.toArray⟩ S.w (fun j y hj => by
    rw [l'k] at hj;cases hy : xs[j]? with
    | none => rw [hy] at hj; cases hj
    | some z =>
     rw [hy] at hj;simp only [Option.map_some, Option.some.injEq] at hj;subst hj;exact hcell j z hy) hbk (by simpa using hN) (by simpa using hcap) (by rw [hz]; simpa using hlen)
   rw [hz] at this;simp only [l'B] at this;refine this.mono fun e w' ⟨he, hb⟩ => ⟨_, he, hb, fun E _ _ => ?_⟩;simp [Rel]
  have nil : ∀ a c, u = .slice a 0 c → xs = [] → Calls P f (#[u, .string ⟨sep.toArray⟩] : Array Value) S.w fun e w' => ∃ v, e = .returned v ∧ Below S.w.heap.size S.w w' ∧
    ∀ E : Env, (∀ k o, S.M k = some o → E.M k = some o) → (∀ k o, S.w.heap.size ≤ k → w'.heap[k]? = some o → E.M k = some o) → Rel E (.str (Lib.join xs sep)) v := fun a c hu hxs => by
   subst hu; subst hxs;refine (hnone a c ⟨sep.toArray⟩ S.w).mono fun e w' ⟨he, hw⟩ => ⟨_, he, hw ▸ Below.refl _ _, fun E _ _ => ?_⟩;simp [Rel, Lib.join]
  rcases hx with ⟨c, rfl⟩|⟨b, n, c, t, es, rfl, hb, hn, hes⟩
  ·simp only [Rel] at hu;obtain ⟨a, cap, hv, h1, _, _, h4⟩ := hu;have hl : (strs xs).length = xs.length := by simp [strs]
   rw [hl] at hv h1;rcases h4 with h4|⟨g, off, ha, he⟩
   ·have : xs = [] := by simpa [strs] using h4
    subst this;exact nil a cap hv rfl
   ·subst ha;rcases n'g xs.length with h0|h0
    ·have : xs = [] := l'C h0;subst this;exact nil _ cap hv rfl
    ·have hcell : ∀ (j : Nat) y, xs[j]? = some y → S.w.cell? ⟨g, off + j, none⟩ = some (.string ⟨y.toArray⟩) := fun j y hj => by
      have hsj : (strs xs)[j]? = some [.str y] := by simp [strs, hj]
      obtain ⟨_, hC⟩ := he.get hsj;obtain ⟨v, hv, _, hr⟩ := hC.get (j := 0) rfl;simp only [Rel] at hr;subst hr;simpa using qX0 hS hv
     refine key g off cap hv h1 ?_ hcell;have := hcell 0 xs[0] (by simp [h0]);exact Lib.lt_of_cell this
  ·have hlv : vg0 H b es.length = true := by simp [vg0, xl0 hb]
   obtain ⟨s, hs, hnh, hcase⟩ := kp0 hu hlv;have hl : n = xs.length := by
    have := congrArg List.length hes;simp [strs] at this; omega
   subst hl;rcases hcase with ⟨_, ⟨a0, hv⟩, h0, _⟩|⟨g, k, cap, hg, hv, hncap, _⟩
   ·have hxs : xs = [] := l'C h0;exact nil a0 0 hv hxs
   ·rcases n'g xs.length with h0|h0
    ·rw [h0] at hv;exact nil _ cap hv (l'C h0)
    ·have hcell : ∀ (j : Nat) y, xs[j]? = some y → S.w.cell? ⟨g, 0 + j, none⟩ = some (.string ⟨y.toArray⟩) := fun j y hj => by
      have hjl := (l'c.1 hj).1;have hej : es[j]? = some [.str y] := by
       have : (es.take xs.length)[j]? = some [.str y] := by rw [hes]; simp [strs, hj]
       rwa [l'u, if_pos hjl] at this
      obtain ⟨g', k', hg', _, hC⟩ := zbA9 hS hb (by rw [hg]; simp) hej;rw [hg] at hg'; injection hg' with hg'; injection hg' with e1 e2; subst e1
      obtain ⟨v, hv, _, hr⟩ := hC 0 _ rfl;simp only [Rel] at hr;subst hr;simpa using hv
     refine key g 0 cap hv hncap ?_ hcell;exact Lib.lt_of_cell (hcell 0 xs[0] (by simp [h0]))
end
structure zdH9 where
 itoa : FuncId
 atoi : FuncId
 split : FuncId
 join : FuncId
 clone : List FuncId
section
variable {P : Program} {G : Glob}
structure xep9 (P : Program) (G : Glob) (L : zdH9) : Prop where
 itoa : ∀ (H : List Blk) (n : Int), -9223372036854775808 ≤ n → n ≤ 9223372036854775807 → qb0 P G L.itoa [.int .i64 n] H (.str (Lib.itoa n)) H
 atoi : ∀ (H : List Blk) (s : List UInt8), s.length ≤ 281474976710656 → qb0 P G L.atoi [.str s] H (.tup [.int .i64 (wdn9 s).1, errA (wdn9 s).2]) H
 split : ∀ (H : List Blk) (s sep : List UInt8), s.length < 4294967281 → 1 ≤ sep.length → qb0 P G L.split [.str s, .str sep] H (.sl 1 (strs (kv0 s sep)) (some (kv0 s sep).length)) H
 join : ∀ (H : List Blk) (x : AV) (xs : List (List UInt8)) (sep : List UInt8), wcg9 H x xs → (Lib.join xs sep).length ≤ 140737488355328 → xs.length ≤ 140737488355328 → qb0 P G L.join [x, .str sep] H (.str (Lib.join xs sep)) H
 clone : ∀ f ∈ L.clone, ∀ (H : List Blk) (k : Nat) (c : Option Nat), qb0 P G f [.sl k [] c] H (.sl 0 [] (some 0)) H
end
end Go.V
namespace Go.V
open Go
set_option autoImplicit false
theorem kdn9 {P : Program} {G : Glob} {f : FuncId} {args : List AV} {H K : List Blk} {r : AV} (h : qb0 P G f args H r (H ++ K)) (hb : H.all (Blk.below H.length) = true) (hr : r.ids (fun b => decide (b < H.length)) = true) : qb0 P G f args H r H := fun S vals hok hG ha => by
 refine (h S vals hok hG ha).mono fun e w' ⟨v, S', he, hw, hok', hext, hrel⟩ => ?_;have ht : (H ++ K).take H.length = H := n'i rfl;obtain ⟨h1, h2⟩ := kF0 (n0 := H.length) (m := H.length) hok' (l'd _) (by simp) (by rw [ht]; exact hb);have hag := wY0 (m := H.length) S' (H ++ K);rw [ht] at h1 h2 hag;exact ⟨v, S', he, hw, h1, hext.trans h2, Rel.move hag r v hr hrel⟩
end Go.V
set_option autoImplicit false
namespace Go.V
open Go Go.RowKit
section
variable {P : Program} {G : Glob} {q : Operand → Bool}
def aft (o : Oper) : List Nat := (o.after.toList.filter fun e => Region.binds .any e).map (·.on)
theorem vz0 {o : Oper} {e : Edge} (he : e ∈ o.after) (hb : Region.binds .any e = true) : e.on ∈ aft o :=
 l'Z.2 ⟨e, List.mem_filter.2 ⟨by simpa using he, hb⟩, rfl⟩
theorem vcg9 {o : Oper} {k : Nat} (h : k ∈ aft o) : ∃ e ∈ o.after, Region.binds .any e = true ∧ e.on = k := by
 obtain ⟨e, he, rfl⟩ := l'Z.1 h;grind
def xr0 (dl : List (Nat × Nat)) (ops : List Oper) (i : Nat) (o : Oper) : Oper :=
 match dl.lookup i with
 | some js => match ops[js]? with
  | some s => { o with after := o.after ++ s.after.filter fun e => e.on != i && !(decide (i < e.on) && dl.lookup e.on == some js) }
  | none => o
 | none => o
theorem wah9 (dl : List (Nat × Nat)) (ops : List Oper) (i : Nat) (o : Oper) : (xr0 dl ops i o).op = o.op ∧ (xr0 dl ops i o).dst = o.dst ∧ (xr0 dl ops i o).guard = o.guard := by
 unfold xr0;grind
def zo0 (dl : List (Nat × Nat)) (ops : List Oper) : Nat → List Oper → List Oper
 | _, [] => []
 | i, o :: l => xr0 dl ops i o :: zo0 dl ops (i + 1) l
def delays (dl : List (Nat × Nat)) (ops : List Oper) : List Oper := zo0 dl ops 0 ops
theorem kR0 (dl : List (Nat × Nat)) (ops : List Oper) : ∀ (l : List Oper) (i j : Nat), (zo0 dl ops i l)[j]? = l[j]?.map (xr0 dl ops (i + j))
 | [], i, j => by simp [zo0]
 | o :: l, i, 0 => by simp [zo0]
 | o :: l, i, j + 1 => by
  rw [zo0, List.getElem?_cons_succ, kR0 dl ops l (i + 1) j, List.getElem?_cons_succ, l'W, n'C 1 j]
theorem wi0 (dl : List (Nat × Nat)) (ops : List Oper) (j : Nat) : (delays dl ops)[j]? = ops[j]?.map (xr0 dl ops j) := by rw [delays, kR0, l'g]
theorem qE0 (dl : List (Nat × Nat)) (ops : List Oper) : ∀ (l : List Oper) (i : Nat), (zo0 dl ops i l).length = l.length
 | [], _ => rfl
 | _ :: l, i => by rw [zo0, List.length_cons, qE0 dl ops l (i + 1), List.length_cons]
theorem zG0 (dl : List (Nat × Nat)) (ops : List Oper) : (delays dl ops).length = ops.length := qE0 dl ops ops 0
theorem zbe9 (dl : List (Nat × Nat)) (ops : List Oper) (a : List AV) (j : Nat) (want : Bool) : vT0 (delays dl ops) a j want = vT0 ops a j want := by
 unfold vT0;rw [wi0];cases ops[j]? with
 | none => rfl
 | some o => simp only [Option.map_some, (wah9 dl ops j o).2.1]
theorem zC0 (dl : List (Nat × Nat)) {ops : List Oper} {o o' : Oper} (ho : o'.op = o.op) (hg : o'.guard = o.guard) {a : List AV} {H H' : List Blk} {r : AV} : xk0 P G (delays dl ops) o' a H r H' ↔ xk0 P G ops o a H r H' := by
 unfold xk0;rw [hg, ho];cases o.guard with
 | none => exact Iff.rfl
 | some jw => simp only [zbe9]
theorem xZ0 (dl : List (Nat × Nat)) {ops : List Oper} {K : List AV → List Blk → Prop} : ∀ (l : List Oper) (i : Nat) (a : List AV) (H : List Blk), ChainK P G q ops K l a H → ChainK P G q (delays dl ops) K (zo0 dl ops i l) a H
 | [], _, a, H, h => h
 | o :: l, i, a, H, h => by
  obtain ⟨r, H', ⟨hs, hkk, hmm, hmn, hpp⟩, hc⟩ := h;obtain ⟨e1, e2, e3⟩ := wah9 dl ops i o;refine ⟨r, H', ⟨⟨(zC0 dl e1 e3).2 hs.1, fun hq => hs.2 (by rw [← e1]; exact hq)⟩, fun p w v => hkk p (by rw [← e3]; exact w) (by rw [← e1]; exact v), fun p => (by rw [e1]; exact hmm (by simpa only [mFlag, e1, e3] using p)), fun p w v => hmn p (by rw [← e1]; exact w) (by rw [← e3]; exact v), fun p w v H2 => (zC0 dl e1 e3).2 (hpp p (by rw [← e3]; exact w) (by rw [← e1]; exact v) H2)⟩, ?_⟩;rw [e2];exact xZ0 dl l (i + 1) _ _ hc
def vah9 (o : Oper) : Option (TypeId × Tmp) :=
 match o.op, o.dst, o.guard with
 | .alloc t, some d, none => some (t, d)
 | _, _, _ => none
theorem qw0 {o : Oper} {t : TypeId} {d : Tmp} (h : vah9 o = some (t, d)) : o.op = .alloc t ∧ o.dst = some d ∧ o.guard = none := by
 grind [vah9]
def delayOkA (P : Program) (dl : List (Nat × Nat)) (ops : List Oper) : Bool :=
 dl.all fun p => dl.lookup p.1 == some p.2 && (dl.lookup p.2).isNone && (match ops[p.1]?, ops[p.2]? with
  | some oa, some os => (match vah9 oa with|some (t, _) => (match xb0 P t with|some T => T.zero.length == T.sz|none => false)|none => false) &&
    (aft os).contains p.1 && ((aft oa ++ aft os).all fun k => k == p.1 || (match dl.lookup k with|some js' => js' == p.2 || (aft os).contains js'|none => true))
  | _, _ => false)
def delayOkB (dl : List (Nat × Nat)) (ops : List Oper) : Bool :=
 (List.range ops.length).all fun i => match (delays dl ops)[i]? with|some o => (aft o).all fun k => decide (k < i)|none => true
def xdH9 (dl : List (Nat × Nat)) (ops : List Oper) (i : Nat) (o : Oper) (p : Nat × Nat) : Bool :=
 match ops[p.1]? with
 | some oa => match oa.dst with
  | some d => p.1 == i || (if (dl.lookup i).isSome = true then o.dst != some d else ((aft o).contains p.1 && (p.2 == i || (aft o).contains p.2)) || (!(aft o).contains p.1 && !(o.looksAt ops.toArray).contains d && o.dst != some d))
  | none => false
 | none => false
def delayOkC (dl : List (Nat × Nat)) (ops : List Oper) : Bool :=
 (List.range ops.length).all fun i => match ops[i]? with|some o => dl.all (xdH9 dl ops i o)|none => true
structure Pend where
 ja : Nat
 js : Nat
 at_ : Nat
 d : Tmp
 t : TypeId
def kcg9 (P : Program) (dl : List (Nat × Nat)) (ops : List Oper) (S0 S : St) (H : List Blk) (act : Act) (listed : Array Bool) (p : Pend) : Prop :=
 (p.ja, p.js) ∈ dl ∧ (∃ oa, ops[p.ja]? = some oa ∧ vah9 oa = some (p.t, p.d)) ∧ listed.getD p.ja true = false ∧ listed.getD p.js true = false ∧
  S0.w.heap.size ≤ p.at_ ∧ p.at_ < S.w.heap.size ∧ S.Free H p.at_ ∧ (∀ v, act.tmps[p.d]? = some v → v = .pointer (some ⟨p.at_, 0, none⟩)) ∧
  ∃ T cs, xb0 P p.t = some T ∧ T.zero.length = T.sz ∧ T.zero = cs.toList.map vD0 ∧ (∀ u ∈ cs.toList, u.oneCell' = true) ∧ S.w.heap[p.at_]? = some (.cells cs p.t (0, 0))
def scr (ps : List Pend) (a : List AV) : List AV := ps.foldr (fun p a => putA a (some p.d) .top) a
def LRel (n : Nat) (ps : List Pend) (listed lr : Array Bool) : Prop :=
 listed.size = n ∧ lr.size = n ∧ ∀ j, j < n → lr.getD j true = (listed.getD j true || ps.any fun p => p.ja == j)
theorem kz0 {l : Array Bool} {j n : Nat} (hs : l.size = n) (hj : j < n) : l.getD j false = l.getD j true := by
 have : j < l.size := by omega
 simp [this]
theorem zax9 (a : List AV) : ∀ (ps : List Pend) (t : Nat), (scr ps a)[t]? = a[t]?.map fun v => if (ps.any fun p => p.d == t) = true then .top else v
 | [], t => by cases h : a[t]? <;> simp [scr, h]
 | p :: ps, t => by
  show (putA (scr ps a) (some p.d) .top)[t]? = _;simp only [putA, n'e];have ih := zax9 a ps t;by_cases h : p.d = t
  ·subst h;rw [if_pos rfl];have hl : (scr ps a).length = a.length := by
    have : ∀ ps : List Pend, (scr ps a).length = a.length := fun ps => by
     induction ps with
     | nil => rfl
     | cons p ps ih => show (putA (scr ps a) (some p.d) .top).length = _; simp [putA, ih]
    exact this ps
   rw [hl];split
   ·rename_i hlt; simp [hlt]
   ·rename_i hlt; simp [hlt]
  ·rw [if_neg h, ih];have : (p.d == t) = false := by simp [h]
   simp [this]
theorem vN0 (a : List AV) : ∀ ps : List Pend, (scr ps a).length = a.length
 | [] => rfl
 | p :: ps => by show (putA (scr ps a) (some p.d) .top).length = _; simp [putA, vN0 a ps]
theorem xbe9 {ops : List Oper} {o : Oper} {a : List AV} {H H' : List Blk} {r : AV} : ∀ (ps : List Pend), (∀ p ∈ ps, p.d ∉ o.looksAt ops.toArray) → xk0 P G ops o a H r H' → xk0 P G ops o (scr ps a) H r H'
 | [], _, h => h
 | p :: ps, hd, h => (ka0 (d := some p.d) (v := .top) fun t ht => by injection ht with ht; subst ht; exact hd p (l'm ..)).2 (xbe9 ps (fun x hx => hd x (l'v _ hx)) h)
def St.made (S : St) (t : TypeId) (cs : Array Value) : St := { S with w := (S.w.drewN 0).alloc (.cells cs t) }
theorem qdo9 {S : St} {H : List Blk} (hok : S.Ok H) (t : TypeId) (cs : Array Value) : (S.made t cs).Ok H := by
 refine ⟨fun i o hi => kg0 H.length 1 t cs 0 (hok.imm i o hi), fun b s t' es hb => ?_, fun b ob hb => ?_, hok.inj⟩
 ·rcases hok.row b s t' es hb with h|⟨g, k, cs2, h1, h2, h3, h4⟩
  ·exact .inl h
  ·exact .inr ⟨g, k, cs2, h1, h2, kg0 H.length 1 t cs 0 h3, h4⟩
 ·obtain ⟨g, o, h1, h2, h3, h4⟩ := hok.ob b ob hb;exact ⟨g, o, h1, h2, kg0 H.length 1 t cs 0 h3, h4⟩
theorem xax9 (S : St) (t : TypeId) (cs : Array Value) : (S.made t cs).w.heap.size = S.w.heap.size + 1 := by simp [St.made, World.alloc]
theorem waS9 {n0 : Nat} (S : St) (H : List Blk) (t : TypeId) (cs : Array Value) : Ext n0 S H (S.made t cs) H where
 os := rfl
 tape := rfl
 output := rfl
 size := by rw [xax9]; omega
 keep i hi hno := Below.heap_alloc (S.w.drewN 0) (.cells cs t) i hi
 M i o h := h
 dom i h := .inl h
 own i h := .inl h
 sh x s' cur hx hs := ⟨cur, l'd _, hs, fun _ => rfl⟩
 ν x g' hx hs := hs
 len := id
def St.take (S : St) (b L : Nat) : St := { S with μ := upd S.μ b (some (L, 1)) }
theorem qch9 {S : St} {H : List Blk} {L s : Nat} {t : TypeId} {es : List (List AV)} : (S.env H).le ((S.take H.length L).env (H ++ [.row s t es])) := by
 refine ⟨fun k o h => h, fun b s' cur hs => ?_, fun b g h => ?_⟩
 ·have hlt : b < H.length := by
   obtain ⟨t', es', hb, _⟩ := qbA9 (show shOf H b = some (s', cur) from hs);grind
  exact ⟨cur, l'd _, by show shOf (H ++ _) b = _; rw [wB0 hlt]; exact hs, fun _ => ve0 _ _ (show b ≠ H.length by omega)⟩
 ·have hlt : b < H.length := by
   have h : mpOf S.ν H b = some g := h;grind [mpOf, List.getElem?_eq_some_iff]
  show mpOf S.ν (H ++ _) b = _;rw [vB0 hlt]; exact h
theorem zcJ9 {S : St} {H : List Blk} (hok : S.Ok H) {s : Nat} {t : TypeId} {es : List (List AV)} {cs : Array Value} {L : Nat} (hfree : S.Free H L) (hcell : S.w.heap[L]? = some (.cells cs t (0, 0))) (hk : es.length ≤ 1) (hsz : cs.size = 1 * s) (hrow : RowIn (S.env H) s es cs) : (S.take H.length L).Ok (H ++ [.row s t es]) := by
 have hle := qch9 (S := S) (H := H) (L := L) (s := s) (t := t) (es := es);have hat : ∀ x, x < H.length → (S.take H.length L).at (H ++ [.row s t es]) x = S.at H x := fun x e => by
  simp only [St.at, St.take, l'f e, ve0 _ _ (show x ≠ H.length by omega)]
 have hatb : (S.take H.length L).at (H ++ [.row s t es]) H.length = some L := by simp [St.at, St.take, wc0]
 have hge : ∀ x g', (S.take H.length L).at (H ++ [.row s t es]) x = some g' → x < H.length ∨ x = H.length := fun x g' hx => by
  grind [List.getElem?_eq_none, St.at]
 refine ⟨hok.imm, fun x s' t' es2 hx => ?_, fun x ob0 hx => ?_, fun x y g' hx hy => ?_⟩
 ·by_cases e : x < H.length
  ·rw [l'f e] at hx;rcases hok.row x s' t' es2 hx with h|⟨g', k', cs2, h1, h2, h3, h4, h5, h6, h7⟩
   ·exact .inl ⟨(ve0 _ _ (show x ≠ H.length by omega)).trans h.1, h.2⟩
   ·exact .inr ⟨g', k', cs2, (ve0 _ _ (show x ≠ H.length by omega)).trans h1, h2, h3, h4, h5, h6, h7.mono hle⟩
  ·have e2 : x = H.length := by
    grind
   subst e2;simp at hx;obtain ⟨h1, h2, h3⟩ := hx;subst h1; subst h2; subst h3;exact .inr ⟨L, 1, cs, wc0 _ _ _, hfree.2, hcell, hsz, hk, by simp [maxLen], hrow.mono hle⟩
 ·by_cases e : x < H.length
  ·rw [l'f e] at hx;obtain ⟨g', ob1, h1, h2, h3, h4⟩ := hok.ob x ob0 hx;exact ⟨g', ob1, h1, h2, h3, h4.mono hle⟩
  grind
 ·rcases hge x g' hx with ex|ex
  ·rcases hge y g' hy with ey|ey
   ·rw [hat x ex] at hx; rw [hat y ey] at hy;exact hok.inj x y g' hx hy
   ·rw [ey, hatb] at hy; rw [hat x ex] at hx;injection hy with hy
    subst hy;exact absurd ⟨x, hx⟩ hfree.1
  ·rcases hge y g' hy with ey|ey
   ·rw [ex, hatb] at hx; rw [hat y ey] at hy;injection hx with hx
    subst hx;exact absurd ⟨y, hy⟩ hfree.1
   ·rw [ex, ey]
theorem wax9 {S : St} {H : List Blk} {L s k : Nat} {t : TypeId} {es : List (List AV)} (h : (S.take H.length L).Owns (H ++ [.row s t es]) k) : S.Owns H k ∨ k = L := by
 obtain ⟨x, hx⟩ := h;by_cases e : x < H.length
 ·left
  refine ⟨x, ?_⟩;simpa only [St.at, St.take, l'f e, ve0 _ _ (show x ≠ H.length by omega)] using hx
 ·by_cases e2 : x = H.length
  ·simp_all [St.at, St.take, wc0]
  grind [List.getElem?_eq_none, St.at]
theorem xcJ9 {n0 : Nat} {S0 S : St} {H0 H : List Blk} {L s : Nat} {t : TypeId} {es : List (List AV)} (h : Ext n0 S0 H0 S H) (hn : n0 ≤ H.length) (hL : S0.w.heap.size ≤ L) : Ext n0 S0 H0 (S.take H.length L) (H ++ [.row s t es]) where
 os := h.os
 tape := h.tape
 output := h.output
 size := h.size
 keep := h.keep
 M := h.M
 dom := h.dom
 own k hk := by
  rcases wax9 hk with q|q
  ·exact h.own k q
  ·exact .inr (by omega)
 sh x s' cur hx hs := by
  obtain ⟨c, h1, h2, h3⟩ := h.sh x s' cur hx hs;exact ⟨c, h1, by grind [wB0], fun e => (ve0 _ _ (show x ≠ H.length by omega)).trans (h3 e)⟩
 ν x g' hx hs := by rw [vB0 (by omega)]; exact h.ν x g' hx hs
 len q := by have := h.len q; simp; omega
theorem vbP9 {S0 S : St} {H : List Blk} {L s : Nat} {t : TypeId} {es : List (List AV)} {ds ds' : List Deferred} (h : Marks S0 ds S H ds') (hc : ∃ cs, S.w.heap[L]? = some (.cells cs t (0, 0))) : Marks S0 ds (S.take H.length L) (H ++ [.row s t es]) ds' := by
 obtain ⟨D, e, p, q⟩ := h;refine ⟨D, e, p, fun g hg => ?_⟩;obtain ⟨q1, q2, q3⟩ := q g hg;refine ⟨q1, ⟨fun ho => ?_, q2.2⟩, q3⟩;rcases wax9 ho with r|r
 ·exact q2.1 r
 grind
theorem zch9 {S : St} {H : List Blk} {L s g : Nat} {t : TypeId} {es : List (List AV)} (h : S.Free H g) (hne : g ≠ L) : (S.take H.length L).Free (H ++ [.row s t es]) g := ⟨fun ho => by
 rcases wax9 ho with r|r
 ·exact h.1 r
 ·exact hne r, h.2⟩
end
end Go.V

import Derived.Test.YtlpjemobbjijdaaGreatDoorS12
import Derived.Test.YtlpjemobbjijdaaGreatDoorV69
namespace Go.Proofs
open Go Go.V
set_option linter.unusedVariables false
set_option linter.unusedSimpArgs false
set_option maxHeartbeats 0
set_option maxRecDepth 100000
def wbJ9 (p : vas9) : AV := .agg [.str p.name, .int .i64 p.ins.length, .int .i64 p.outs.length, .sl 1 (p.rows.map fun r => [.sl 2 (rowA r) (some p.ins.length)]) (some p.sts.length), .sl 1 (strs p.ins) (some p.ins.length), .sl 1 (strs p.outs) (some p.outs.length), .sl 1 (strs p.sts) (some p.sts.length)]
def zSpecA : AV := .agg [.str [], .int .i64 0, .int .i64 0, .sl 0 [] (some 0), .sl 0 [] (some 0), .sl 0 [] (some 0), .sl 0 [] (some 0)]
def qY0 (s : Bs) : AV :=
 if (ofS s).2.2.2 = 0 then match kp0 (ofS s).1 with
  | .ok p => .tup [wbJ9 p, .int .i64 0, .int .i64 0, .int .i64 0]
  | .no k e => .tup [zSpecA, .int .i64 (locR (ofS s).1 k).1, .int .i64 (locR (ofS s).1 k).2, .int .i64 e]
 else .tup [zSpecA, .int .i64 (ofS s).2.1, .int .i64 (ofS s).2.2.1, .int .i64 (ofS s).2.2.2]
theorem vaZ9 (n k : Nat) : RectE n k (List.replicate n (row0 k)) := ⟨List.length_replicate .., fun s hs => by simp [hs, row0]⟩
theorem kaZ9 {l : List Tk} {ins outs sts : List Bs} {i : Nat} (h : vp0 l = .ok (ins, outs, sts, i)) : ins.length ≤ 16 ∧ outs.length ≤ 16 ∧ sts.length ≤ 64 ∧ i ≤ l.length := by
 unfold vp0 at h
 cases h1 : xl0 l kIns 16 3 with
 | no a b => rw [h1] at h; cases h
 | ok p =>
 have l1 := qn0 h1
 rw [h1] at h; simp only [PE.bind] at h
 cases h2 : xl0 l xn0 16 p.2 with
 | no a b => rw [h2] at h; cases h
 | ok q =>
 have l2 := qn0 h2
 rw [h2] at h; simp only at h
 cases h4 : xl0 l kSts 64 q.2 with
 | no a b => rw [h4] at h; cases h
 | ok r =>
 have l3 := qn0 h4
 rw [h4] at h; simp only at h
 injection h with h; injection h with e1 h; injection h with e2 h; injection h with e3 e4
 subst e1 e2 e3 e4
 exact ⟨l1.2.1, l2.2.1, l3.2.1, l3.2.2⟩
theorem zbm9 (R : ER) (k n : Nat) (b0 b1 b2 b3 b4 b5 b6 : Blk) (hw : RectE n k R) :
  ((ownR 7 k (some k) n).map fun e => e.map (qg0 (b0 :: b1 :: b2 :: b3 :: b4 :: b5 :: b6 :: xh0 2 70 (List.map rowA R)) 1)) = R.map fun r => [.sl 2 (rowA r) (some k)] := by
 have hg : ∀ s, (R.map rowA).getD s [] = rowA (R.getD s []) := fun s => by
  rw [List.getD_eq_getElem?_getD, List.getElem?_map, List.getD_eq_getElem?_getD]; cases R[s]? <;> rfl
 rw [xbG9 (z := 2) (t := 70) (rss := R.map rowA) (fun s hs => ?_) (fun s hs => ?_)]
 ·refine List.ext_getElem (by simp [hw.1]) fun j h1 h2 => ?_
  simp only [List.length_map, List.length_range] at h1
  have hj : j < R.length := by rw [hw.1]; omega
  simp [hj]
 ·show (xh0 2 70 (R.map rowA))[s]? = _
  exact qbt9 (N := R.length) (by simp) (by rw [hw.1]; omega)
 ·rw [hg, vi0]; exact hw.2 s hs
theorem vcD9 (R : ER) (k n : Nat) (b0 b1 b2 b3 b4 b5 b6 : Blk) (hw : RectE n k R) :
  ((ownR 7 k (some k) n).all fun e => e.all (okC (b0 :: b1 :: b2 :: b3 :: b4 :: b5 :: b6 :: xh0 2 70 (List.map rowA R)) 1)) = true := by
 have hg : ∀ s, (R.map rowA).getD s [] = rowA (R.getD s []) := fun s => by
  rw [List.getD_eq_getElem?_getD, List.getElem?_map, List.getD_eq_getElem?_getD]; cases R[s]? <;> rfl
 refine zcW9 (z := 2) (t := 70) (rss := R.map rowA) (fun s hs => ?_) (fun s hs => ?_) (fun s hs => ?_)
 ·show (xh0 2 70 (R.map rowA))[s]? = _
  exact qbt9 (N := R.length) (by simp) (by rw [hw.1]; omega)
 ·rw [hg, vi0]; exact hw.2 s hs
 ·rw [hg]; exact wl0 _ _
theorem kK0 {n : Nat} {o : Oper} {f : Operand} {args : Array Operand} {ts : Array TypeId} {g : FuncId} {fst : List AV} {Q : qf0} {B : Prop} {s : Nat → AV} {H H' : List Blk} {ch : List PanicEntry} (hB : B) (hop : o.op = .call ⟨.value f, args, ts⟩) (harg : args.toList = []) (hf : (evS G0 n s f).strip = .bnd g fst) (hk : (evS G0 n s f).ok = true) (hent : za0 Tryz.prog g = true) (hc : APan Tryz.prog G0 g fst H ch H') (hQ : Q (.panic ch) s H') : Out (BndQ Tryz.prog G0 n o Q) .normal B s H := by
 refine ⟨hB, ?_⟩
 show zai9 Tryz.prog G0 o (evS G0 n s) H (fun r H' => Q .normal (put s o.dst r) H') (fun ch H' => Q (.panic ch) s H')
 unfold zai9
 rw [hop]
 simp only [hf]
 exact ⟨harg, hk, hent, .inr ⟨ch, H', hc, hQ⟩⟩
theorem qL0 {n : Nat} {o : Oper} {f : Operand} {args : Array Operand} {ts : Array TypeId} {g : FuncId} {fst : List AV} {Q : qf0} {B : Prop} {s : Nat → AV} {H H' : List Blk} {r : AV} (hB : B) (hop : o.op = .call ⟨.value f, args, ts⟩) (harg : args.toList = []) (hf : (evS G0 n s f).strip = .bnd g fst) (hk : (evS G0 n s f).ok = true) (hent : za0 Tryz.prog g = true) (hc : ka0 Tryz.prog G0 g fst H r H') (hQ : Out Q .normal True (put s o.dst r) H') : Out (BndQ Tryz.prog G0 n o Q) .normal B s H := by
 refine ⟨hB, ?_⟩
 show zai9 Tryz.prog G0 o (evS G0 n s) H (fun r H' => Q .normal (put s o.dst r) H') (fun ch H' => Q (.panic ch) s H')
 unfold zai9
 rw [hop]
 simp only [hf]
 exact ⟨harg, hk, hent, .inl ⟨r, H', hc, hQ.2⟩⟩
section
variable {ts : List Tk} {l cl : Int}
def pBlk (ts : List Tk) (l cl : Int) : List Blk := [zSpec, .row 1 3 [[.int .i64 l]], .row 1 3 [[.int .i64 cl]], .row 1 29 [[.int .i64 0]], .row 1 107 [[.sl 4 (tks ts) (some ts.length)]]]
theorem vbJ9 (n : Nat) : (pBlk ts l cl).all (Blk.below n) = true := by simp [pBlk, zSpec, Blk.below, idsE, idsL, AV.ids]
theorem kcD9 : ∀ b ∈ pBlk ts l cl, ∃ z t es, b = Blk.row z t es := by
 intro b hb
 simp only [pBlk, zSpec, List.mem_cons, List.not_mem_nil, or_false] at hb
 rcases hb with rfl|rfl|rfl|rfl|rfl <;> exact ⟨_, _, _, rfl⟩
def kat9 (ts : List Tk) : AV := match kp0 ts with
 | .ok p => .tup [wbJ9 p, .int .i64 0, .int .i64 0, .int .i64 0]
 | .no k e => .tup [zSpecA, .int .i64 (locR ts k).1, .int .i64 (locR ts k).2, .int .i64 e]
theorem qcg9 (hl : ts.length ≤ 1000000) (s : Nat → AV) (b2 : s 2 = .ptr 0 0 0 1) (b3 : s 3 = .ptr 1 0 0 1) (b4 : s 4 = .ptr 2 0 0 1) (b5 : s 5 = .ptr 3 0 0 1) (b6 : s 6 = .ptr 4 0 0 1) :
  Go false Tryz.prog G0 5 48 (zg0 Tryz.f22) [1, 1, 1, 1] (fun e s H => wcK9 Tryz.prog G0 48 [.cell 2 27, .cell 3 3, .cell 4 3, .cell 5 29] 2 (kat9 ts) e s H (some (64, argP))) True s (pBlk ts l cl) := by
 have htl := kg0 ts
 have hP := vbJ9 (ts := ts) (l := l) (cl := cl)
 have hrow := kcD9 (ts := ts) (l := l) (cl := cl)
 unfold pBlk zSpec at *
 cases h1 : xE0 ts with
 | no k e =>
  have hA : kat9 ts = .tup [zSpecA, .int .i64 (locR ts k).1, .int .i64 (locR ts k).2, .int .i64 e] := by unfold kat9 kp0; rw [h1]; rfl
  rw [hA]
  obtain ⟨X, hX, hc⟩ := xdc9 (c := some ts.length) (x1 := .int .i64 0) (x2 := .int .i64 0) (x3 := .sl 0 [] (some 0)) (x4 := .sl 0 [] (some 0)) (x5 := .sl 0 [] (some 0)) (x6 := .sl 0 [] (some 0)) k e h1 hl hP (fun p => by simp [idsL, AV.ids, idsE])
  have hr := wcD9 ts (some ts.length) [.str [], .int .i64 0, .int .i64 0, .sl 0 [] (some 0), .sl 0 [] (some 0), .sl 0 [] (some 0), .sl 0 [] (some 0)] l cl 0 k e [.row 9 118 [X]] rfl hl (kdt9 h1) (fun X0 x1 x2 x3 h0 => by simp [Blk.below, idsE, idsL, AV.ids, h0, hX])
  unfold rdB rdC at hc
  repeat' (first|(((first|(with_reducible refine wb0 (p := [1, 0, 0, 1, 1, 0, 0, 1, 0, 1, 1, 1, 1, 1]) ?_)|refine nav ?_|(refine g0_ ?_; first|refine dN (p := [0, 0, 1, 0, 1, 1]) [(20, 3), (21, 4), (22, 5)] [(2, some 2), (3, some 3), (4, some 4)] [] ?_|refine goD ?_|refine qe0 4 rfl ?_))) <;> (try simp (disch := try exact discB) only [push_cast, simprocAttr, b2, b3, b4, b5, b6]))|(with_reducible first|refine gG ?_ ?_|(refine And.intro (fun h => ?_) (fun h => ?_)) <;> try omega|refine andG ?_)|simp (disch := try exact discB) only [push_cast, simprocAttr, b2, b3, b4, b5, b6])
  refine Halt.mk ?_
  refine vag9 (p := [1, 0, 0, 1, 1, 0, 0, 1, 0, 1, 1, 1, 1, 1]) 1 rfl rfl rfl rfl rfl ?_
  repeat' (first|(((first|refine nav ?_|(refine g0_ ?_; first|refine dN (p := [0, 0, 1, 0, 1, 1]) [(20, 3), (21, 4), (22, 5)] [(2, some 2), (3, some 3), (4, some 4)] [] ?_|refine goD ?_|refine qe0 4 rfl ?_))) <;> (try simp (disch := try exact discB) only [push_cast, simprocAttr, b2, b3, b4, b5, b6]))|(with_reducible first|refine gG ?_ ?_|(refine And.intro (fun h => ?_) (fun h => ?_)) <;> try omega|refine andG ?_)|simp (disch := try exact discB) only [push_cast, simprocAttr, b2, b3, b4, b5, b6])
  refine kK0 (by first|trivial|exact ⟨⟨by decide, rfl⟩, rfl⟩) rfl rfl rfl rfl en65 hc ?_
  refine ⟨en64, _, hr, .inr rfl, ?_⟩
  simp (disch := try exact discB) only [push_cast, simprocAttr, b2, b3, b4, b5, b6, zSpec, zSpecA]
 | ok n0 =>
  have c1 := zdc9 (c := some ts.length) (x1 := .int .i64 0) (x2 := .int .i64 0) (x3 := .sl 0 [] (some 0)) (x4 := .sl 0 [] (some 0)) (x5 := .sl 0 [] (some 0)) (x6 := .sl 0 [] (some 0)) n0 h1 hl hP (fun p => by simp [idsL, AV.ids, idsE])
  have hr0 := qdu9 h1
  generalize hc1 : rdB ts (some ts.length) 3 (.str n0) (.int .i64 0) (.int .i64 0) (.sl 0 [] (some 0)) (.sl 0 [] (some 0)) (.sl 0 [] (some 0)) (.sl 0 [] (some 0)) = rd3 at c1
  unfold rdB rdC at c1
  repeat' (first|(((first|(with_reducible refine wb0 (p := [1, 0, 0, 1, 1, 0, 0, 1, 0, 1, 1, 1, 1, 1]) ?_)|refine nav ?_|(refine g0_ ?_; first|refine dN (p := [0, 0, 1, 0, 1, 1]) [(20, 3), (21, 4), (22, 5)] [(2, some 2), (3, some 3), (4, some 4)] [] ?_|refine goD ?_|refine qe0 4 rfl ?_))) <;> (try simp (disch := try exact discB) only [push_cast, simprocAttr, b2, b3, b4, b5, b6]))|(with_reducible first|refine gG ?_ ?_|(refine And.intro (fun h => ?_) (fun h => ?_)) <;> try omega|refine andG ?_)|simp (disch := try exact discB) only [push_cast, simprocAttr, b2, b3, b4, b5, b6])
  refine Halt.mk ?_
  refine vag9 (p := [1, 0, 0, 1, 1, 0, 0, 1, 0, 1, 1, 1, 1, 1]) 1 rfl rfl rfl rfl rfl ?_
  repeat' (first|(((first|refine nav ?_|(refine g0_ ?_; first|refine dN (p := [0, 0, 1, 0, 1, 1]) [(20, 3), (21, 4), (22, 5)] [(2, some 2), (3, some 3), (4, some 4)] [] ?_|refine goD ?_|refine qe0 4 rfl ?_))) <;> (try simp (disch := try exact discB) only [push_cast, simprocAttr, b2, b3, b4, b5, b6]))|(with_reducible first|refine gG ?_ ?_|(refine And.intro (fun h => ?_) (fun h => ?_)) <;> try omega|refine andG ?_)|simp (disch := try exact discB) only [push_cast, simprocAttr, b2, b3, b4, b5, b6])
  refine qL0 (by first|trivial|exact ⟨⟨by decide, rfl⟩, rfl⟩) rfl rfl rfl rfl en65 c1 ?_
  cases h2 : vp0 ts with
  | no k e =>
   have hA : kat9 ts = .tup [zSpecA, .int .i64 (locR ts k).1, .int .i64 (locR ts k).2, .int .i64 e] := by unfold kat9 kp0; rw [h1]; simp only [PE.bind]; rw [h2]
   rw [hA]
   obtain ⟨X, hX, hc⟩ := qcD9 (c := some ts.length) n0 k e h2 hr0 hl hrow hP
   rw [hc1] at hc
   have hr := wcD9 ts (some ts.length) [.str [], .int .i64 0, .int .i64 0, .sl 0 [] (some 0), .sl 0 [] (some 0), .sl 0 [] (some 0), .sl 0 [] (some 0)] l cl 0 k e [.row 9 118 [X]] rfl hl (fun _ => vdc9 h2 hr0) (fun X0 x1 x2 x3 h0 => by simp [Blk.below, idsE, idsL, AV.ids, h0, hX])
   repeat' (first|(((first|(with_reducible refine wb0 (p := [1, 0, 0, 1, 1, 0, 0, 1, 0, 1, 1, 1, 1, 1]) ?_)|refine nav ?_|(refine g0_ ?_; first|refine dN (p := [0, 0, 1, 0, 1, 1]) [(20, 3), (21, 4), (22, 5)] [(2, some 2), (3, some 3), (4, some 4)] [] ?_|refine goD ?_|refine qe0 4 rfl ?_))) <;> (try simp (disch := try exact discB) only [push_cast, simprocAttr, b2, b3, b4, b5, b6]))|(with_reducible first|refine gG ?_ ?_|(refine And.intro (fun h => ?_) (fun h => ?_)) <;> try omega|refine andG ?_)|simp (disch := try exact discB) only [push_cast, simprocAttr, b2, b3, b4, b5, b6])
   refine Halt.mk ?_
   refine vag9 (p := [1, 0, 0, 1, 1, 0, 0, 1, 0, 1, 1, 1, 1, 1]) 1 rfl rfl rfl rfl rfl ?_
   repeat' (first|(((first|refine nav ?_|(refine g0_ ?_; first|refine dN (p := [0, 0, 1, 0, 1, 1]) [(20, 3), (21, 4), (22, 5)] [(2, some 2), (3, some 3), (4, some 4)] [] ?_|refine goD ?_|refine qe0 4 rfl ?_))) <;> (try simp (disch := try exact discB) only [push_cast, simprocAttr, b2, b3, b4, b5, b6]))|(with_reducible first|refine gG ?_ ?_|(refine And.intro (fun h => ?_) (fun h => ?_)) <;> try omega|refine andG ?_)|simp (disch := try exact discB) only [push_cast, simprocAttr, b2, b3, b4, b5, b6])
   refine kK0 (by first|trivial|exact ⟨⟨by decide, rfl⟩, rfl⟩) rfl rfl rfl rfl en66 hc ?_
   refine ⟨en64, _, hr, .inr rfl, ?_⟩
   simp (disch := try exact discB) only [push_cast, simprocAttr, b2, b3, b4, b5, b6, zSpec, zSpecA]
  | ok p =>
   obtain ⟨ins, outs, sts, i1⟩ := p
   have c2 := kcC9 (c := some ts.length) n0 ins outs sts i1 h2 hl hrow hP
   have hln := kaZ9 h2
   rw [hc1, ← List.map_replicate] at c2
   have hR0 : RectE sts.length ins.length (List.replicate sts.length (row0 ins.length)) := vaZ9 _ _
   generalize hR0e : List.replicate sts.length (row0 ins.length) = R0 at *
   obtain ⟨k, hk⟩ : ∃ k, k = ins.length := ⟨_, rfl⟩
   obtain ⟨n, hn⟩ : ∃ n, n = sts.length := ⟨_, rfl⟩
   obtain ⟨q, hq⟩ : ∃ q, q = outs.length := ⟨_, rfl⟩
   rw [← hk, ← hn] at hR0
   rw [← hk, ← hn, ← hq] at c2 hln
   repeat' (first|(((first|(with_reducible refine wb0 (p := [1, 0, 0, 1, 1, 0, 0, 1, 0, 1, 1, 1, 1, 1]) ?_)|refine nav ?_|(refine g0_ ?_; first|refine dN (p := [0, 0, 1, 0, 1, 1]) [(20, 3), (21, 4), (22, 5)] [(2, some 2), (3, some 3), (4, some 4)] [] ?_|refine goD ?_|refine qe0 4 rfl ?_))) <;> (try simp (disch := try exact discB) only [push_cast, simprocAttr, b2, b3, b4, b5, b6, zSpec, zSpecA]))|(with_reducible first|refine gG ?_ ?_|(refine And.intro (fun h => ?_) (fun h => ?_)) <;> try omega|refine andG ?_)|simp (disch := try exact discB) only [push_cast, simprocAttr, b2, b3, b4, b5, b6, zSpec, zSpecA])
   refine Halt.mk ?_
   refine vag9 (p := [1, 0, 0, 1, 1, 0, 0, 1, 0, 1, 1, 1, 1, 1]) 1 rfl rfl rfl rfl rfl ?_
   repeat' (first|(((first|refine nav ?_|(refine g0_ ?_; first|refine dN (p := [0, 0, 1, 0, 1, 1]) [(20, 3), (21, 4), (22, 5)] [(2, some 2), (3, some 3), (4, some 4)] [] ?_|refine goD ?_|refine qe0 4 rfl ?_))) <;> (try simp (disch := try exact discB) only [push_cast, simprocAttr, b2, b3, b4, b5, b6, zSpec, zSpecA]))|(with_reducible first|refine gG ?_ ?_|(refine And.intro (fun h => ?_) (fun h => ?_)) <;> try omega|refine andG ?_)|simp (disch := try exact discB) only [push_cast, simprocAttr, b2, b3, b4, b5, b6, zSpec, zSpecA])
   refine qL0 (by first|trivial|exact ⟨⟨by decide, rfl⟩, rfl⟩) rfl rfl rfl rfl en66 c2 ?_
   cases h3 : vk0 ts ins outs sts (ts.length + 1) R0 i1 with
   | no k1 e =>
    have hA : kat9 ts = .tup [zSpecA, .int .i64 (locR ts k1).1, .int .i64 (locR ts k1).2, .int .i64 e] := by unfold kat9 kp0; rw [h1]; simp only [PE.bind]; rw [h2]; simp only; rw [hR0e, h3]
    rw [hA]
    have hc := xcD9 (c := some ts.length) (P0 := .row 7 27 [[.str [], .int .i64 0, .int .i64 0, .sl 0 [] (some 0), .sl 0 [] (some 0), .sl 0 [] (some 0), .sl 0 [] (some 0)]]) (P1 := .row 1 3 [[.int .i64 l]]) (P2 := .row 1 3 [[.int .i64 cl]]) (P3 := .row 1 29 [[.int .i64 0]]) (P4 := .row 1 107 [[.sl 4 (tks ts) (some ts.length)]]) n0 k q n ins outs sts (some k) (some q) (some n) hk.symm hn.symm hq.symm (by omega) (by omega) (by omega) R0 i1 _ k1 e h3 (by omega) hR0 hl hln.2.2.2 hP
    have hRF := vat9 (l := ts) (ins := ins) (outs := outs) (sts := sts) (f := ts.length + 1) (i := i1) hR0
    generalize kag9 ts ins outs sts (ts.length + 1) R0 i1 = RF at *
    have hr := wcD9 ts (some ts.length) [.str [], .int .i64 0, .int .i64 0, .sl 0 [] (some 0), .sl 0 [] (some 0), .sl 0 [] (some 0), .sl 0 [] (some 0)] l cl 0 k1 e (rdB ts (some ts.length) (jeR ts k1 e) (.str n0) (.int .i64 k) (.int .i64 q) (.own 6 n n (some n)) (.sl 1 (strs ins) (some k)) (.sl 1 (strs outs) (some q)) (.sl 1 (strs sts) (some n)) :: .row 1 50 (ownR 7 k (some k) n) :: xh0 2 70 (List.map rowA RF)) rfl hl (fun hp => xbw9 hp h3 (by omega) hln.2.2.2) (fun X0 x1 x2 x3 h0 => wy0 (c := some ts.length) (P0 := .row 7 27 [X0]) (P1 := .row 1 3 [[.int .i64 x1]]) (P2 := .row 1 3 [[.int .i64 x2]]) (P3 := .row 1 29 [[.int .i64 x3]]) (P4 := .row 1 107 [[.sl 4 (tks ts) (some ts.length)]]) (fun m => by simp [Blk.below, idsE, idsL, AV.ids, h0]) n0 k q n ins outs sts (some k) (some q) (some n) RF hRF.1 (jeR ts k1 e) (jeR ts k1 e))
    repeat' (first|(((first|(with_reducible refine wb0 (p := [1, 0, 0, 1, 1, 0, 0, 1, 0, 1, 1, 1, 1, 1]) ?_)|refine nav ?_|(refine g0_ ?_; first|refine dN (p := [0, 0, 1, 0, 1, 1]) [(20, 3), (21, 4), (22, 5)] [(2, some 2), (3, some 3), (4, some 4)] [] ?_|refine goD ?_|refine qe0 4 rfl ?_))) <;> (try simp (disch := try exact discB) only [push_cast, simprocAttr, b2, b3, b4, b5, b6, zSpec, zSpecA]))|(with_reducible first|refine gG ?_ ?_|(refine And.intro (fun h => ?_) (fun h => ?_)) <;> try omega|refine andG ?_)|simp (disch := try exact discB) only [push_cast, simprocAttr, b2, b3, b4, b5, b6, zSpec, zSpecA])
    refine Halt.mk ?_
    refine vag9 (p := [1, 0, 0, 1, 1, 0, 0, 1, 0, 1, 1, 1, 1, 1]) 1 rfl rfl rfl rfl rfl ?_
    repeat' (first|(((first|refine nav ?_|(refine g0_ ?_; first|refine dN (p := [0, 0, 1, 0, 1, 1]) [(20, 3), (21, 4), (22, 5)] [(2, some 2), (3, some 3), (4, some 4)] [] ?_|refine goD ?_|refine qe0 4 rfl ?_))) <;> (try simp (disch := try exact discB) only [push_cast, simprocAttr, b2, b3, b4, b5, b6, zSpec, zSpecA]))|(with_reducible first|refine gG ?_ ?_|(refine And.intro (fun h => ?_) (fun h => ?_)) <;> try omega|refine andG ?_)|simp (disch := try exact discB) only [push_cast, simprocAttr, b2, b3, b4, b5, b6, zSpec, zSpecA])
    refine kK0 (by first|trivial|exact ⟨⟨by decide, rfl⟩, rfl⟩) rfl rfl rfl rfl en67 hc ?_
    refine ⟨en64, _, hr, .inr rfl, ?_⟩
    simp (disch := try exact discB) only [push_cast, simprocAttr, b2, b3, b4, b5, b6, zSpec, zSpecA]
   | ok p =>
    obtain ⟨R1, i2⟩ := p
    have hle := waZ9 h3 hln.2.2.2
    have hR1 := kQ0 h3 hR0
    simp only at hle hR1
    have c3 := zcD9 (c := some ts.length) (P0 := .row 7 27 [[.str [], .int .i64 0, .int .i64 0, .sl 0 [] (some 0), .sl 0 [] (some 0), .sl 0 [] (some 0), .sl 0 [] (some 0)]]) (P1 := .row 1 3 [[.int .i64 l]]) (P2 := .row 1 3 [[.int .i64 cl]]) (P3 := .row 1 29 [[.int .i64 0]]) (P4 := .row 1 107 [[.sl 4 (tks ts) (some ts.length)]]) n0 k q n ins outs sts (some k) (some q) (some n) hk.symm hn.symm hq.symm (by omega) (by omega) (by omega) R0 R1 i1 i2 _ h3 hR0 hl hln.2.2.2 hP
    repeat' (first|(((first|(with_reducible refine wb0 (p := [1, 0, 0, 1, 1, 0, 0, 1, 0, 1, 1, 1, 1, 1]) ?_)|refine nav ?_|(refine g0_ ?_; first|refine dN (p := [0, 0, 1, 0, 1, 1]) [(20, 3), (21, 4), (22, 5)] [(2, some 2), (3, some 3), (4, some 4)] [] ?_|refine goD ?_|refine qe0 4 rfl ?_))) <;> (try simp (disch := try exact discB) only [push_cast, simprocAttr, b2, b3, b4, b5, b6, zSpec, zSpecA]))|(with_reducible first|refine gG ?_ ?_|(refine And.intro (fun h => ?_) (fun h => ?_)) <;> try omega|refine andG ?_)|simp (disch := try exact discB) only [push_cast, simprocAttr, b2, b3, b4, b5, b6, zSpec, zSpecA])
    refine Halt.mk ?_
    refine vag9 (p := [1, 0, 0, 1, 1, 0, 0, 1, 0, 1, 1, 1, 1, 1]) 1 rfl rfl rfl rfl rfl ?_
    repeat' (first|(((first|refine nav ?_|(refine g0_ ?_; first|refine dN (p := [0, 0, 1, 0, 1, 1]) [(20, 3), (21, 4), (22, 5)] [(2, some 2), (3, some 3), (4, some 4)] [] ?_|refine goD ?_|refine qe0 4 rfl ?_))) <;> (try simp (disch := try exact discB) only [push_cast, simprocAttr, b2, b3, b4, b5, b6, zSpec, zSpecA]))|(with_reducible first|refine gG ?_ ?_|(refine And.intro (fun h => ?_) (fun h => ?_)) <;> try omega|refine andG ?_)|simp (disch := try exact discB) only [push_cast, simprocAttr, b2, b3, b4, b5, b6, zSpec, zSpecA])
    refine qL0 (by first|trivial|exact ⟨⟨by decide, rfl⟩, rfl⟩) rfl rfl rfl rfl en67 c3 ?_
    cases h4 : xai9 ts i2 with
    | no k1 e =>
     have hA : kat9 ts = .tup [zSpecA, .int .i64 (locR ts k1).1, .int .i64 (locR ts k1).2, .int .i64 e] := by unfold kat9 kp0; rw [h1]; simp only [PE.bind]; rw [h2]; simp only; rw [hR0e, h3]; simp only; rw [h4]
     rw [hA]
     obtain ⟨j, hc⟩ := kda9 (c := some ts.length) (H := edH (.row 7 27 [[.str [], .int .i64 0, .int .i64 0, .sl 0 [] (some 0), .sl 0 [] (some 0), .sl 0 [] (some 0), .sl 0 [] (some 0)]]) (.row 1 3 [[.int .i64 l]]) (.row 1 3 [[.int .i64 cl]]) (.row 1 29 [[.int .i64 0]]) (.row 1 107 [[.sl 4 (tks ts) (some ts.length)]]) (rdB ts (some ts.length) i2 (.str n0) (.int .i64 k) (.int .i64 q) (.own 6 n n (some n)) (.sl 1 (strs ins) (some k)) (.sl 1 (strs outs) (some q)) (.sl 1 (strs sts) (some n))) k n R1) (b := 5) i2 k1 e h4 (by omega) rfl hl (wy0 (c := some ts.length) (P0 := .row 7 27 [[.str [], .int .i64 0, .int .i64 0, .sl 0 [] (some 0), .sl 0 [] (some 0), .sl 0 [] (some 0), .sl 0 [] (some 0)]]) (P1 := .row 1 3 [[.int .i64 l]]) (P2 := .row 1 3 [[.int .i64 cl]]) (P3 := .row 1 29 [[.int .i64 0]]) (P4 := .row 1 107 [[.sl 4 (tks ts) (some ts.length)]]) hP n0 k q n ins outs sts (some k) (some q) (some n) R1 hR1.1 _)
     have hr := wcD9 ts (some ts.length) [.str [], .int .i64 0, .int .i64 0, .sl 0 [] (some 0), .sl 0 [] (some 0), .sl 0 [] (some 0), .sl 0 [] (some 0)] l cl 0 k1 e (rdB ts (some ts.length) j (.str n0) (.int .i64 k) (.int .i64 q) (.own 6 n n (some n)) (.sl 1 (strs ins) (some k)) (.sl 1 (strs outs) (some q)) (.sl 1 (strs sts) (some n)) :: .row 1 50 (ownR 7 k (some k) n) :: xh0 2 70 (List.map rowA R1)) rfl hl (fun hp => zdu9 h4 hle) (fun X0 x1 x2 x3 h0 => wy0 (c := some ts.length) (P0 := .row 7 27 [X0]) (P1 := .row 1 3 [[.int .i64 x1]]) (P2 := .row 1 3 [[.int .i64 x2]]) (P3 := .row 1 29 [[.int .i64 x3]]) (P4 := .row 1 107 [[.sl 4 (tks ts) (some ts.length)]]) (fun m => by simp [Blk.below, idsE, idsL, AV.ids, h0]) n0 k q n ins outs sts (some k) (some q) (some n) R1 hR1.1 j j)
     repeat' (first|(((first|(with_reducible refine wb0 (p := [1, 0, 0, 1, 1, 0, 0, 1, 0, 1, 1, 1, 1, 1]) ?_)|refine nav ?_|(refine g0_ ?_; first|refine dN (p := [0, 0, 1, 0, 1, 1]) [(20, 3), (21, 4), (22, 5)] [(2, some 2), (3, some 3), (4, some 4)] [] ?_|refine goD ?_|refine qe0 4 rfl ?_))) <;> (try simp (disch := try exact discB) only [push_cast, simprocAttr, b2, b3, b4, b5, b6, zSpec, zSpecA]))|(with_reducible first|refine gG ?_ ?_|(refine And.intro (fun h => ?_) (fun h => ?_)) <;> try omega|refine andG ?_)|simp (disch := try exact discB) only [push_cast, simprocAttr, b2, b3, b4, b5, b6, zSpec, zSpecA])
     refine Halt.mk ?_
     refine vag9 (p := [1, 0, 0, 1, 1, 0, 0, 1, 0, 1, 1, 1, 1, 1]) 1 rfl rfl rfl rfl rfl ?_
     repeat' (first|(((first|refine nav ?_|(refine g0_ ?_; first|refine dN (p := [0, 0, 1, 0, 1, 1]) [(20, 3), (21, 4), (22, 5)] [(2, some 2), (3, some 3), (4, some 4)] [] ?_|refine goD ?_|refine qe0 4 rfl ?_))) <;> (try simp (disch := try exact discB) only [push_cast, simprocAttr, b2, b3, b4, b5, b6, zSpec, zSpecA]))|(with_reducible first|refine gG ?_ ?_|(refine And.intro (fun h => ?_) (fun h => ?_)) <;> try omega|refine andG ?_)|simp (disch := try exact discB) only [push_cast, simprocAttr, b2, b3, b4, b5, b6, zSpec, zSpecA])
     refine kK0 (by first|trivial|exact ⟨⟨by decide, rfl⟩, rfl⟩) rfl rfl rfl rfl en68 hc ?_
     refine ⟨en64, _, hr, .inr rfl, ?_⟩
     simp (disch := try exact discB) only [push_cast, simprocAttr, b2, b3, b4, b5, b6, zSpec, zSpecA]
    | ok u =>
     have hA : kat9 ts = .tup [wbJ9 ⟨n0, ins, outs, sts, R1⟩, .int .i64 0, .int .i64 0, .int .i64 0] := by unfold kat9 kp0; rw [h1]; simp only [PE.bind]; rw [h2]; simp only; rw [hR0e, h3]; simp only; rw [h4]
     rw [hA]
     obtain ⟨j, c4⟩ := vda9 (c := some ts.length) (H := edH (.row 7 27 [[.str [], .int .i64 0, .int .i64 0, .sl 0 [] (some 0), .sl 0 [] (some 0), .sl 0 [] (some 0), .sl 0 [] (some 0)]]) (.row 1 3 [[.int .i64 l]]) (.row 1 3 [[.int .i64 cl]]) (.row 1 29 [[.int .i64 0]]) (.row 1 107 [[.sl 4 (tks ts) (some ts.length)]]) (rdB ts (some ts.length) i2 (.str n0) (.int .i64 k) (.int .i64 q) (.own 6 n n (some n)) (.sl 1 (strs ins) (some k)) (.sl 1 (strs outs) (some q)) (.sl 1 (strs sts) (some n))) k n R1) (b := 5) i2 h4 rfl hl (wy0 (c := some ts.length) (P0 := .row 7 27 [[.str [], .int .i64 0, .int .i64 0, .sl 0 [] (some 0), .sl 0 [] (some 0), .sl 0 [] (some 0), .sl 0 [] (some 0)]]) (P1 := .row 1 3 [[.int .i64 l]]) (P2 := .row 1 3 [[.int .i64 cl]]) (P3 := .row 1 29 [[.int .i64 0]]) (P4 := .row 1 107 [[.sl 4 (tks ts) (some ts.length)]]) hP n0 k q n ins outs sts (some k) (some q) (some n) R1 hR1.1 _)
     have hb0 := wy0 (ts := ts) (c := some ts.length) (P0 := .row 7 27 [[.str [], .int .i64 0, .int .i64 0, .sl 0 [] (some 0), .sl 0 [] (some 0), .sl 0 [] (some 0), .sl 0 [] (some 0)]]) (P1 := .row 1 3 [[.int .i64 0]]) (P2 := .row 1 3 [[.int .i64 0]]) (P3 := .row 1 29 [[.int .i64 0]]) (P4 := .row 1 107 [[.sl 4 (tks ts) (some ts.length)]]) (fun m => by simp [Blk.below, idsE, idsL, AV.ids]) n0 k q n ins outs sts (some k) (some q) (some n) R1 hR1.1 j j
     repeat' (first|(((first|(with_reducible refine wb0 (p := [1, 0, 0, 1, 1, 0, 0, 1, 0, 1, 1, 1, 1, 1]) ?_)|refine nav ?_|(refine g0_ ?_; first|refine dN (p := [0, 0, 1, 0, 1, 1]) [(20, 3), (21, 4), (22, 5)] [(2, some 2), (3, some 3), (4, some 4)] [] ?_|refine goD ?_|refine qe0 4 rfl ?_))) <;> (try simp (disch := try exact discB) only [push_cast, simprocAttr, b2, b3, b4, b5, b6, zSpec, zSpecA]))|(with_reducible first|refine gG ?_ ?_|(refine And.intro (fun h => ?_) (fun h => ?_)) <;> try omega|refine andG ?_)|simp (disch := try exact discB) only [push_cast, simprocAttr, b2, b3, b4, b5, b6, zSpec, zSpecA])
     refine Halt.mk ?_
     refine vag9 (p := [1, 0, 0, 1, 1, 0, 0, 1, 0, 1, 1, 1, 1, 1]) 1 rfl rfl rfl rfl rfl ?_
     repeat' (first|(((first|refine nav ?_|(refine g0_ ?_; first|refine dN (p := [0, 0, 1, 0, 1, 1]) [(20, 3), (21, 4), (22, 5)] [(2, some 2), (3, some 3), (4, some 4)] [] ?_|refine goD ?_|refine qe0 4 rfl ?_))) <;> (try simp (disch := try exact discB) only [push_cast, simprocAttr, b2, b3, b4, b5, b6, zSpec, zSpecA]))|(with_reducible first|refine gG ?_ ?_|(refine And.intro (fun h => ?_) (fun h => ?_)) <;> try omega|refine andG ?_)|simp (disch := try exact discB) only [push_cast, simprocAttr, b2, b3, b4, b5, b6, zSpec, zSpecA])
     refine qL0 (by first|trivial|exact ⟨⟨by decide, rfl⟩, rfl⟩) rfl rfl rfl rfl en68 c4 ?_
     simp only [edH, rdB, rdC, List.set_cons_succ, List.set_cons_zero] at hb0 ⊢
     have hcl := fun b0 b1 b2 b3 b4 b5 b6 => zbm9 R1 k n b0 b1 b2 b3 b4 b5 b6 hR1
     have hok := fun b0 b1 b2 b3 b4 b5 b6 => vcD9 R1 k n b0 b1 b2 b3 b4 b5 b6 hR1
     have w1 : (ownR 7 k (some k) n).length = n := by simp [ownR]
     have w2 : (ownR 7 k (some k) n).take n = ownR 7 k (some k) n := List.take_of_length_le (by omega)
     have hd1 : ∀ p, idsE p (strs ins) = true := fun p => xa0 _ _
     have hd2 : ∀ p, idsE p (strs outs) = true := fun p => xa0 _ _
     have hd3 : ∀ p, idsE p (strs sts) = true := fun p => xa0 _ _
     rw [wbJ9]
     simp only
     rw [← hk, ← hn, ← hq]
     generalize ownR 7 k (some k) n = RW at *
     repeat' (first|(((first|refine nav ?_|(refine g0_ ?_; first|refine dN (p := [0, 0, 1, 0, 1, 1]) [(20, 3), (21, 4), (22, 5)] [(2, some 2), (3, some 3), (4, some 4)] [] ?_|refine goD ?_|refine qe0 4 rfl ?_))) <;> (try simp (disch := try exact discB) only [push_cast, simprocAttr, b2, b3, b4, b5, b6, w1]))|(with_reducible first|refine gG ?_ ?_|(refine And.intro (fun h => ?_) (fun h => ?_)) <;> try omega|refine andG ?_)|simp (disch := try exact discB) only [push_cast, simprocAttr, b2, b3, b4, b5, b6, w1])
     refine ⟨by first|trivial|exact ⟨⟨by decide, rfl⟩, rfl⟩, en64, _, wdu9 ts (some ts.length) _ _ _ _ (.row 9 118 _ :: .row 1 50 RW :: xh0 2 70 (List.map rowA R1)) ?_, .inr rfl, ?_⟩
     ·have hb1 := hb0
      simp only [List.all_cons, Bool.and_eq_true] at hb1
      obtain ⟨_, g1, g2, g3, g4, g5, g6, g7⟩ := hb1
      rw [List.all_cons, List.all_cons, List.all_cons, List.all_cons, List.all_cons, List.all_cons, List.all_cons]
      simp only [Bool.and_eq_true]
      refine ⟨?_, g1, g2, g3, g4, g5, g6, g7⟩
      simp [Blk.below, idsE, idsL, AV.ids]
     ·simp (disch := try exact discB) only [push_cast, simprocAttr, b2, b3, b4, b5, b6, w1, w2, hcl, hok]
end
end Go.Proofs
namespace Go.Proofs
open Go Go.V
set_option linter.unusedVariables false
set_option linter.unusedSimpArgs false
set_option maxHeartbeats 0
set_option maxRecDepth 100000
theorem qR0 (s0 : Bs) (hs : s0.length ≤ 1000000) (hlen : (ofS s0).1.length ≤ 1000000) : PC Tryz.prog G0 22 [.str s0] (qY0 s0) := by
 have h63 := of9 s0 hs
 unfold ofA at h63
 unfold qY0
 generalize hR : ofS s0 = R at *
 obtain ⟨ts, l, cl, er⟩ := R
 simp only at h63 hlen ⊢
 have htl := kg0 ts
 refine zdr9 2 48 [.cell 2 27, .cell 3 3, .cell 4 3, .cell 5 29] Tryz.func22 rfl rfl rfl (by simp) ?_
 intro m0 s ⟨a0, hz⟩
 clear hz
 refine qaL9 rfl ?_
 refine qak9 ?_
 repeat' (first|(first|refine nav ?_|(refine g0_ ?_; first|refine dN (p := [0, 0, 1, 0, 1, 1]) [(20, 3), (21, 4), (22, 5)] [(2, some 2), (3, some 3), (4, some 4)] [] ?_|refine goD ?_))|(with_reducible first|refine gG ?_ ?_|(refine And.intro (fun h => ?_) (fun h => ?_)) <;> try omega|refine andG ?_)|refine cp h63 ?_|simp (disch := try exact discB) only [push_cast, simprocAttr, a0])
 refine ⟨by first|exact xb0|fail, ?_⟩
 show GoD _ _ _ _ _ _ _ _ _ _ _
 refine qaL9 rfl ?_
 refine qak9 ?_
 repeat' (first|(first|refine nav ?_|(refine g0_ ?_; first|refine dN (p := [0, 0, 1, 0, 1, 1]) [(20, 3), (21, 4), (22, 5)] [(2, some 2), (3, some 3), (4, some 4)] [] ?_|refine goD ?_))|(with_reducible first|refine gG ?_ ?_|(refine And.intro (fun h => ?_) (fun h => ?_)) <;> try omega|refine andG ?_)|refine cp h63 ?_|simp (disch := try exact discB) only [push_cast, simprocAttr, a0])
 refine ⟨by first|exact xb0|fail, ?_⟩
 show GoD _ _ _ _ _ _ _ _ _ _ _
 refine qaL9 rfl ?_
 by_cases her : er = 0
 rotate_left
 ·rw [if_neg her]
  refine qak9 ?_
  repeat' (first|(first|(with_reducible refine wb0 (p := [0, 0, 1, 0, 1, 1]) ?_)|refine nav ?_|(refine g0_ ?_; first|refine dN (p := [0, 0, 1, 0, 1, 1]) [(20, 3), (21, 4), (22, 5)] [(2, some 2), (3, some 3), (4, some 4)] [] ?_|refine goD ?_))|(with_reducible first|refine gG ?_ ?_|(refine And.intro (fun h => ?_) (fun h => ?_)) <;> try omega|refine andG ?_)|refine cp h63 ?_|simp (disch := try exact discB) only [push_cast, simprocAttr, a0, her, zSpecA])
  refine Halt.mk ?_
  refine kcx9 (p := [0, 0, 1, 0, 1, 1]) rfl rfl mixed (by kernel_rfl) (by first|exact xb0|fail) ?_
  repeat' (first|refine zcy9 rfl ?_|refine kca9 rfl rfl ?_|refine xcy9 rfl rfl ?_|(with_reducible refine And.intro ?_ ?_)|simp (disch := try exact discB) only [push_cast, simprocAttr, a0, her, zSpecA])
  repeat' (first|(first|refine nav ?_|(refine g0_ ?_; first|refine dN (p := [0, 0, 1, 0, 1, 1]) [(20, 3), (21, 4), (22, 5)] [(2, some 2), (3, some 3), (4, some 4)] [] ?_|refine goD ?_))|(with_reducible first|refine gG ?_ ?_|(refine And.intro (fun h => ?_) (fun h => ?_)) <;> try omega|refine andG ?_)|refine cp h63 ?_|simp (disch := try exact discB) only [push_cast, simprocAttr, a0, her, zSpecA])
  refine ⟨trivial, .inr rfl, ?_⟩
  simp (disch := try exact discB) only [push_cast, simprocAttr, a0, her, zSpecA]
 ·subst her
  rw [if_pos rfl]
  refine qak9 ?_
  repeat' (first|(first|refine nav ?_|(refine g0_ ?_; first|refine dN (p := [0, 0, 1, 0, 1, 1]) [(20, 3), (21, 4), (22, 5)] [(2, some 2), (3, some 3), (4, some 4)] [] ?_|refine goD ?_))|(with_reducible first|refine gG ?_ ?_|(refine And.intro (fun h => ?_) (fun h => ?_)) <;> try omega|refine andG ?_)|refine cp h63 ?_|simp (disch := try exact discB) only [push_cast, simprocAttr, a0])
  refine ⟨by first|exact xb0|fail, ?_⟩
  show GoD _ _ _ _ _ _ _ _ _ _ _
  refine qaL9 rfl ?_
  refine qca9 1 rfl rfl rfl rfl rfl ?_
  repeat' (first|(first|refine nav ?_|(refine g0_ ?_; first|refine dN (p := [0, 0, 1, 0, 1, 1]) [(20, 3), (21, 4), (22, 5)] [(2, some 2), (3, some 3), (4, some 4)] [] ?_|refine goD ?_))|(with_reducible first|refine gG ?_ ?_|(refine And.intro (fun h => ?_) (fun h => ?_)) <;> try omega|refine andG ?_)|refine cp h63 ?_|simp (disch := try exact discB) only [push_cast, simprocAttr, a0])
  refine ⟨trivial, ?_⟩
  unfold DefQ
  refine ⟨rfl, rfl, 64, argP, rfl, ?_⟩
  show GoD _ _ _ _ _ _ _ _ _ _ _
  refine kbZ9 ?_
  exact qcg9 hlen _ rfl rfl rfl rfl rfl
end Go.Proofs

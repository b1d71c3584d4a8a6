/- The library V, part 9: all pure operations; the operations that turn the own blocks. -/
import Derived.Test.YtbgdagokjfmcbaaDoorV6
import Derived.Laws.Tables
import Derived.Laws.BytesString
set_option linter.unusedVariables false
set_option linter.unusedSimpArgs false
namespace Go.V
open Go Go.RowKit
theorem RowIn.mono {E E' : Env} (h : E.le E') {s : Nat} {es : List (List AV)} {cs : Array Value} (hr : RowIn E s es cs) : RowIn E' s es cs := fun i e hi => by
 obtain ⟨h1, h2⟩ := hr i e hi;refine ⟨h1, fun j a hj => ?_⟩;obtain ⟨v, hv, ho, hrv⟩ := h2 j a hj;exact ⟨v, hv, ho, hrv.mono h⟩
theorem MapIn.mono {E E' : Env} (h : E.le E') {es : List (AV × AV)} {ents : Array MapEntry} (hr : MapIn E es ents) : MapIn E' es ents :=
 ⟨hr.1, fun i p hi => by
  obtain ⟨e, he, h1, h2⟩ := hr.2 i p hi;exact ⟨e, he, h1.mono h, h2.mono h⟩⟩
theorem ObIn.mono {E E' : Env} (h : E.le E') {x : OB} {o : Obj} (hr : ObIn E x o) : ObIn E' x o := by
 cases x with
 | map kt vt es =>
  obtain ⟨ents, clock, e, hm⟩ := hr;exact ⟨ents, clock, e, hm.mono h⟩
 | loop o as vs => exact ⟨hr.1, RelL.mono h _ _ hr.2⟩
section
variable {P : Program} {S : St} {H : List Blk}
theorem M_lt (hok : S.Ok H) {k : Nat} (h : S.M k ≠ none) : k < S.w.heap.size := by
 cases ho : S.M k with
 | none => exact absurd ho h
 | some o => exact (Array.getElem?_eq_some_iff.1 (hok.imm k o ho)).1
theorem qaj9 (hok : S.Ok H) {b g : Nat} (h : S.at H b = some g) : g < S.w.heap.size := by
 unfold St.at at h;split at h
 ·rename_i s t es hb;rcases hok.row b s t es hb with ⟨h1, _⟩|⟨g', k, cs, h1, h2, h3, _⟩
  ·rw [h1] at h; cases h
  ·rw [h1] at h; simp at h; subst h; exact (Array.getElem?_eq_some_iff.1 h3).1
 ·rename_i ob0 hb;obtain ⟨g', ob1, h1, h2, h3, _⟩ := hok.ob b ob0 hb;rw [h1] at h; injection h with h; subst h; exact (Array.getElem?_eq_some_iff.1 h3).1
 ·cases h
def St.imm (S : St) (o : Obj) : St := { S with M := fun k => if k = S.w.heap.size then some o else S.M k, w := S.w.alloc o }
theorem vaI9 (hok : S.Ok H) (C : Array Value) (ce : TypeId) : Ext H.length S H (S.imm (.cells C ce)) H where
 os := rfl
 tape := rfl
 output := rfl
 size := by simp [St.imm]
 keep k hk _ := Below.heap_alloc S.w _ k hk
 M k o' hk := by
  have : k < S.w.heap.size := M_lt hok (by rw [hk]; simp);simp only [St.imm];rw [if_neg (by omega)]; exact hk
 dom k hk := by
  simp only [St.imm] at hk;split at hk
  ·exact .inr (.inr (by omega))
  ·exact .inl hk
 own k hk := .inl hk
 sh b s cur _ hs := ⟨cur, Nat.le_refl _, hs, fun _ => rfl⟩
 ν b g _ hg := hg
 len h := h
theorem vdh9 (hok : S.Ok H) (C : Array Value) (ce : TypeId) : (S.imm (.cells C ce)).Ok H where
 imm k o' hk := by
  simp only [St.imm] at hk ⊢;split at hk
  ·rename_i e; subst e; injection hk with hk; subst hk; exact heap_alloc_new S.w _
  ·have hlt : k < S.w.heap.size := M_lt hok (by rw [hk]; simp);rw [Below.heap_alloc S.w _ k hlt]; exact hok.imm k o' hk
 row b s t es hb := by
  rcases hok.row b s t es hb with h|⟨g, k, cs, h1, h2, h3, h4, h5, h6, h7⟩
  ·exact .inl h
  ·have hlt : g < S.w.heap.size := (Array.getElem?_eq_some_iff.1 h3).1;refine .inr ⟨g, k, cs, h1, ?_, ?_, h4, h5, h6, h7.mono ((vaI9 hok C ce).le (Nat.le_refl _))⟩
   ·simp only [St.imm]; rw [if_neg (by omega)]; exact h2
   ·simp only [St.imm]; rw [Below.heap_alloc S.w _ g hlt]; exact h3
 ob b ob0 hb := by
  obtain ⟨g, ob1, h1, h2, h3, h4⟩ := hok.ob b ob0 hb;have hlt : g < S.w.heap.size := (Array.getElem?_eq_some_iff.1 h3).1;refine ⟨g, ob1, h1, ?_, ?_, h4.mono ((vaI9 hok C ce).le (Nat.le_refl _))⟩
  ·simp only [St.imm]; rw [if_neg (by omega)]; exact h2
  ·simp only [St.imm]; rw [Below.heap_alloc S.w _ g hlt]; exact h3
 inj b b' g h h' := hok.inj b b' g h h'
theorem xaT9 (S : St) (c : Array Value) (t : TypeId) (i : Nat) : qx0 (S.imm (.cells c t)).M S.w.heap.size i = c[i]? := by
 simp [qx0, St.imm]
theorem qcP9 (op : BinOp) (t : TypeId) (X Y : Operand) {x y : AV} {u v : Value} (hx : Rel (S.env H) x u) (hy : Rel (S.env H) y v) (h : (pBin P op t x y).1 = true) :
  ∃ r, (do eqGuard op t X Y u v; binOp op t u v : Sem Value).run P S.w = .ok r S.w ∧ Rel (S.env H) (pBin P op t x y).2 r := by
 unfold pBin at *;split at h
 ·rename_i k a k' b;have e1 : u = .int k a := by simpa [Rel] using hx
  have e2 : v = .int k' b := by simpa [Rel] using hy
  subst e1; subst e2;obtain ⟨r, hr, hrr⟩ := vcO9 (P := P) t S.w h;exact ⟨r, by simp [eqGuard_at_int, hr], hrr _⟩
 ·rename_i a b;have e1 : u = .string ⟨a.toArray⟩ := by simpa [Rel] using hx
  have e2 : v = .string ⟨b.toArray⟩ := by simpa [Rel] using hy
  subst e1; subst e2;obtain ⟨r, hr, hrr⟩ := kcO9 (P := P) t S.w h;exact ⟨r, by simp [eqGuard_at_string, hr], hrr _⟩
 ·rename_i a b;have e1 : u = .bool a := by simpa [Rel] using hx
  have e2 : v = .bool b := by simpa [Rel] using hy
  subst e1; subst e2;have key : ∀ c : Bool, (match shp P t with|.bool => true|_ => false) = true → P.underlying t = some .bool := by
   intro _ hc;split at hc
   ·rename_i hs;obtain ⟨T, hT, hsh⟩ := xc0 hs (by simp);exact qaI9 hT hsh
   ·cases hc
  cases op <;> simp only [bad] at h <;> first|cases h|skip
  ·have hu := key true h;exact ⟨.bool (a == b), by simp [eqGuard_at_bool, run_eql_bool S.w t a b hu], by simp [Rel]⟩
  ·have hu := key true h;exact ⟨.bool (!(a == b)), by simp [eqGuard_at_bool, run_neq_bool S.w t a b hu], by simp [Rel]⟩
 ·rename_i xs ys;have hx' := hx;have hy' := hy;simp only [Rel] at hx hy;obtain ⟨us, rfl, _, _⟩ := hx;obtain ⟨vs, rfl, _, _⟩ := hy;cases op <;> simp only [bad] at h <;> first|cases h|skip
  ·simp only [Bool.and_eq_true, zD0, Bool.not_eq_true'] at h;have he := zaT9 (P := P) S.w 8 t _ _ _ _ hx' hy' h.1.1 h.2 10000 (by decide);refine ⟨.bool (eqA P 8 t (.agg xs) (.agg ys)).2, ?_, by simp [Rel]⟩;simp only [Sem.run_bind, run_eqGuard_agg S.w .eql t X Y us.toArray vs.toArray h.1.2, Result.andThen_ok, run_eql_struct, he]
  ·simp only [Bool.and_eq_true, zD0, Bool.not_eq_true'] at h;have he := zaT9 (P := P) S.w 8 t _ _ _ _ hx' hy' h.1.1 h.2 10000 (by decide);refine ⟨.bool (!(eqA P 8 t (.agg xs) (.agg ys)).2), ?_, by simp [Rel]⟩;simp only [Sem.run_bind, run_eqGuard_agg S.w .neq t X Y us.toArray vs.toArray h.1.2, Result.andThen_ok, run_neq_struct, he]
 ·cases h
theorem zaj9 {op : BinOp} {y : Operand} {neg : Bool} {v : Value} (h : kad9 op y = some (neg, v)) : y = .const v ∧ op = (if neg = true then .neq else .eql) := by
 unfold kad9 at h;split at h <;> first|(split at h <;> first|(injection h with h; injection h with h1 h2; subst h1; subst h2; exact ⟨rfl, rfl⟩)|cases h)|cases h
theorem zy0 {neg : Bool} {op : BinOp} {t e : TypeId} {a : Option Addr} {n c : Nat} (w : World) (ho : op = if neg = true then .neq else .eql) (hu : P.underlying t = some (.slice e)) :
  (binOp op t (.slice a n c) (.slice none 0 0)).run P w = .ok (.bool (if neg = true then !a.isNone else a.isNone)) w := by
 have h : ∀ d, (Op.equalIn (d + 1) t (.slice a n c) (.slice none 0 0)).run P w = .ok a.isNone w := fun d => by
  cases a <;> simp [Op.equalIn, run_underlying hu]
 have h := h 9999;subst ho;cases neg <;> simp [binOp, Op.equal, Op.maxDepth, h]
theorem kW0 {neg : Bool} {op : BinOp} {t : TypeId} {ms : Array (String × TypeId)} {u : Value} (w : World) (ho : op = if neg = true then .neq else .eql) (hu : P.underlying t = some (.interface ms)) :
  (∀ tx x, u = .iface tx x → (binOp op t u .nilIface).run P w = .ok (.bool neg) w) ∧ (u = .nilIface → (binOp op t u .nilIface).run P w = .ok (.bool (!neg)) w) := by
 have h1 : ∀ d tx x, (Op.equalIn (d + 1) t (.iface tx x) .nilIface).run P w = .ok false w := fun d tx x => by simp [Op.equalIn, run_underlying hu]
 have h2 : ∀ d, (Op.equalIn (d + 1) t .nilIface .nilIface).run P w = .ok true w := fun d => by simp [Op.equalIn, run_underlying hu]
 have h1 := h1 9999;have h2 := h2 9999;subst ho;refine ⟨fun tx x e => ?_, fun e => ?_⟩
 ·subst e; cases neg <;> simp [binOp, Op.equal, Op.maxDepth, h1]
 ·subst e; cases neg <;> simp [binOp, Op.equal, Op.maxDepth, h2]
theorem xT0 {neg : Bool} {op : BinOp} {t e : TypeId} {a : Option Addr} (w : World) (ho : op = if neg = true then .neq else .eql) (hu : P.underlying t = some (.pointer e)) :
  (binOp op t (.pointer a) (.pointer none)).run P w = .ok (.bool (if neg = true then !a.isNone else a.isNone)) w := by
 have h : ∀ d, (Op.equalIn (d + 1) t (.pointer a) (.pointer none)).run P w = .ok a.isNone w := fun d => by
  cases a <;> simp [Op.equalIn, run_underlying hu]
 have h := h 9999;subst ho;cases neg <;> simp [binOp, Op.equal, Op.maxDepth, h]
theorem qap9 {neg : Bool} {op : BinOp} {t k e : TypeId} {a : Option Nat} (w : World) (ho : op = if neg = true then .neq else .eql) (hu : P.underlying t = some (.map k e)) :
  (binOp op t (.map a) (.map none)).run P w = .ok (.bool (if neg = true then !a.isNone else a.isNone)) w := by
 have h : ∀ d, (Op.equalIn (d + 1) t (.map a) (.map none)).run P w = .ok a.isNone w := fun d => by
  cases a <;> simp [Op.equalIn, run_underlying hu]
 have h := h 9999;subst ho;cases neg <;> simp [binOp, Op.equal, Op.maxDepth, h]
theorem xaj9 {neg : Bool} {op : BinOp} {t : TypeId} {A B : Array TypeId} {C : Bool} {u : Value} (w : World) (ho : op = if neg = true then .neq else .eql) (hu : P.underlying t = some (.func A B C)) :
  (∀ f x y, u = .func f x y → (binOp op t u .nilFunc).run P w = .ok (.bool neg) w) ∧ (u = .nilFunc → (binOp op t u .nilFunc).run P w = .ok (.bool (!neg)) w) := by
 have h1 : ∀ d f x y, (Op.equalIn (d + 1) t (.func f x y) .nilFunc).run P w = .ok false w := fun d f x y => by simp [Op.equalIn, run_underlying hu]
 have h2 : ∀ d, (Op.equalIn (d + 1) t .nilFunc .nilFunc).run P w = .ok true w := fun d => by simp [Op.equalIn, run_underlying hu]
 have h1 := h1 9999;have h2 := h2 9999;subst ho;refine ⟨fun f x y e => ?_, fun e => ?_⟩
 ·subst e; cases neg <;> simp [binOp, Op.equal, Op.maxDepth, h1]
 ·subst e; cases neg <;> simp [binOp, Op.equal, Op.maxDepth, h2]
theorem wbh9 {op : BinOp} {t : TypeId} {X : Operand} {u v : Value} (w : World) (hu : ∀ cs, u ≠ .agg cs) : (eqGuard op t X (.const v) u v).run P w = .ok () w := by
 unfold eqGuard;cases op <;> simp <;> (split <;> first|rfl|simp) <;> exact absurd rfl (hu _)
theorem zcP9 (op : BinOp) (t : TypeId) (X Y : Operand) {x : AV} {u v : Value} {neg : Bool} (hn : kad9 op Y = some (neg, v)) (hx : Rel (S.env H) x u) (h : (pNil P H neg t x v).1 = true) :
  ∃ r, (do eqGuard op t X Y u v; binOp op t u v : Sem Value).run P S.w = .ok r S.w ∧ Rel (S.env H) (pNil P H neg t x v).2 r := by
 obtain ⟨rfl, ho⟩ := zaj9 hn;have fin : (∀ cs, u ≠ .agg cs) → ∀ r, (binOp op t u v).run P S.w = .ok r S.w → (do eqGuard op t X (.const v) u v; binOp op t u v : Sem Value).run P S.w = .ok r S.w := fun h1 r h2 => by
  simp only [Sem.run_bind, wbh9 S.w h1, Result.andThen_ok, h2]
 unfold pNil at *;split at h
 ·rename_i e s es c hs;obtain ⟨T, hT, hsh⟩ := xc0 hs (by simp);have hd := zi0 hT hsh;have e1 := hx; simp only [Rel] at e1;obtain ⟨a, cap, rfl, h1, h2, h3, h4⟩ := e1;refine ⟨_, fin (fun cs q => by cases q) _ (zy0 S.w ho hd), ?_⟩;cases es with
  | nil => simp [Rel]
  | cons e0 es =>
   obtain ⟨g, off, rfl, _⟩ := h4.resolve_left (by simp);cases neg <;> simp [Rel]
 ·rename_i e b n hh c hs;obtain ⟨T, hT, hsh⟩ := xc0 hs (by simp);have hd := zi0 hT hsh;obtain ⟨s, hs', _, hc⟩ := qu0 hx h;rcases hc with ⟨_, ⟨a0, rfl⟩, rfl, _⟩|⟨g, k, cap, _, rfl, _⟩
  ·exact ⟨_, fin (fun cs q => by cases q) _ (zy0 S.w ho hd), by simp [Rel]⟩
  ·refine ⟨_, fin (fun cs q => by cases q) _ (zy0 S.w ho hd), ?_⟩;cases n <;> cases neg <;> simp [Rel]
 ·rename_i e hs;obtain ⟨T, hT, hsh⟩ := xc0 hs (by simp);have hd := zi0 hT hsh;have e1 := hx; simp only [Rel] at e1; subst e1;refine ⟨_, fin (fun cs q => by cases q) _ (zy0 S.w ho hd), ?_⟩;cases neg <;> simp [Rel]
 ·rename_i hs;obtain ⟨T, hT, hsh⟩ := xc0 hs (by simp);obtain ⟨ms, hd⟩ := qaT9 hT hsh;have e1 := hx; simp only [Rel] at e1;obtain ⟨tx, y, rfl⟩ := e1;exact ⟨_, fin (fun cs q => by cases q) _ ((kW0 S.w ho hd).1 _ _ rfl), by simp [Rel]⟩
 ·rename_i hs;obtain ⟨T, hT, hsh⟩ := xc0 hs (by simp);obtain ⟨ms, hd⟩ := qaT9 hT hsh;have e1 := hx; simp only [Rel] at e1; subst e1;exact ⟨_, fin (fun cs q => by cases q) _ ((kW0 S.w ho hd).2 rfl), by simp [Rel]⟩
 ·rename_i e b i o hh hs;obtain ⟨T, hT, hsh⟩ := xc0 hs (by simp);have hd := xbh9 hT hsh;obtain ⟨s, g, k, _, _, rfl⟩ := kB0 hx h;refine ⟨_, fin (fun cs q => by cases q) _ (xT0 S.w ho hd), ?_⟩;cases neg <;> simp [Rel]
 ·rename_i e cs o hs;obtain ⟨T, hT, hsh⟩ := xc0 hs (by simp);have hd := xbh9 hT hsh;have e1 := hx; simp only [Rel] at e1;obtain ⟨g, off, rfl, _⟩ := e1;refine ⟨_, fin (fun cs q => by cases q) _ (xT0 S.w ho hd), ?_⟩;cases neg <;> simp [Rel]
 ·rename_i e hs;obtain ⟨T, hT, hsh⟩ := xc0 hs (by simp);have hd := xbh9 hT hsh;have e1 := hx; simp only [Rel] at e1; subst e1;refine ⟨_, fin (fun cs q => by cases q) _ (xT0 S.w ho hd), ?_⟩;cases neg <;> simp [Rel]
 ·rename_i k e b hs;obtain ⟨T, hT, hsh⟩ := xc0 hs (by simp);have hd := qae9 hT hsh;have e1 := hx; simp only [Rel] at e1;obtain ⟨g, _, rfl⟩ := e1;refine ⟨_, fin (fun cs q => by cases q) _ (qap9 S.w ho hd), ?_⟩;cases neg <;> simp [Rel]
 ·rename_i k e hs;obtain ⟨T, hT, hsh⟩ := xc0 hs (by simp);have hd := qae9 hT hsh;have e1 := hx; simp only [Rel] at e1; subst e1;refine ⟨_, fin (fun cs q => by cases q) _ (qap9 S.w ho hd), ?_⟩;cases neg <;> simp [Rel]
 ·rename_i f cap hs;obtain ⟨T, hT, hsh⟩ := xc0 hs (by simp);obtain ⟨A, B, C, hd⟩ := wbs9 hT hsh;have e1 := hx; simp only [Rel] at e1;obtain ⟨vs, rfl, _⟩ := e1;exact ⟨_, fin (fun cs q => by cases q) _ ((xaj9 S.w ho hd).1 _ _ _ rfl), by simp [Rel]⟩
 ·rename_i hs;obtain ⟨T, hT, hsh⟩ := xc0 hs (by simp);obtain ⟨A, B, C, hd⟩ := wbs9 hT hsh;have e1 := hx; simp only [Rel] at e1; subst e1;exact ⟨_, fin (fun cs q => by cases q) _ ((xaj9 S.w ho hd).2 rfl), by simp [Rel]⟩
 ·cases h
theorem kdh9 {op : UnOp} {x : AV} {u : Value} (hx : Rel (S.env H) x u) (h : (pUn op x).1 = true) :
  ∃ r, (Op.unary op u).run P S.w = .ok r S.w ∧ Rel (S.env H) (pUn op x).2 r := by
 unfold pUn at *;split at h
 ·have e1 := hx; simp only [Rel] at e1; subst e1;exact ⟨_, by simp [Op.unary]; rfl, by simp [Rel]⟩
 ·have e1 := hx; simp only [Rel] at e1; subst e1;exact ⟨_, by simp [Op.unary, Op.intArith]; rfl, by simp [Rel]⟩
 ·have e1 := hx; simp only [Rel] at e1; subst e1;exact ⟨_, by simp [Op.unary]; rw [intBits_xor]; rfl, by simp [Rel]⟩
 ·cases h
theorem zap9 : ∀ {es : List (List AV)} {bs : List UInt8}, vaB9 es = some bs → ∃ ns : List Int, es = ns.map (fun n => [.int .u8 n]) ∧ bs = ns.map (fun n => UInt8.ofNat n.toNat)
 | [], bs, h => ⟨[], rfl, by simp only [vaB9, Option.some.injEq] at h; rw [← h]; rfl⟩
 | e :: r, bs, h => by
  unfold vaB9 at h;split at h
  ·rename_i h0; cases h0
  ·rename_i n r' h0;injection h0 with h1 h2
   subst h1 h2;obtain ⟨q, hq, rfl⟩ := Option.map_eq_some_iff.1 h;obtain ⟨ns, rfl, rfl⟩ := zap9 hq;exact ⟨n :: ns, rfl, rfl⟩
  ·cases h
theorem qaC9 : ∀ (ns : List Int) (s : ByteArray), ns.foldl (fun r (n : Int) => r.push (UInt8.ofNat n.toNat)) s = ⟨(s.data.toList ++ ns.map fun n => UInt8.ofNat n.toNat).toArray⟩
 | [], s => by simp
 | n :: ns, s => by
  rw [List.foldl_cons, qaC9 ns];simp [ByteArray.push]
theorem qbO9 (hok : S.Ok H) {src dst : TypeId} {s : Nat} {es : List (List AV)} {c : Option Nat} {u : Value} (hd : P.underlying dst = some .string) (hx : Rel (S.env H) (.sl s es c) u) (h : (xaS9 P src s es).1 = true) :
  ∃ r, (convert src dst u).run P S.w = .ok r S.w ∧ Rel (S.env H) (xaS9 P src s es).2 r := by
 unfold xaS9 at *;split at h
 ·rename_i e he;obtain ⟨T, hT, hsh⟩ := xc0 he (by simp);have hsrc := zi0 hT hsh;split at h
  ·rename_i bs he2 hbs;obtain ⟨T2, hT2, hsh2⟩ := xc0 he2 (by simp);have hu8 := zaI9 hT2 hsh2;try simp only [he2, hbs]
   obtain ⟨ns, rfl, rfl⟩ := zap9 hbs;simp only [Rel] at hx;obtain ⟨a, cap, rfl, h1, h2, h3, h4⟩ := hx;refine ⟨.string ⟨(ns.map fun n => UInt8.ofNat n.toNat).toArray⟩, ?_, by simp [Rel]⟩;rw [run_convert_bytes_string _ _ _ _ _ _ _ hsrc hu8 hd];have hsum : ∀ a : Addr, (loadCells a (ns.map fun n => [AV.int .u8 n]).length).run P S.w = .ok (ns.map (Value.int .u8)).toArray S.w → (Conv.bytesToString (.slice (some a) (ns.map fun n => [AV.int .u8 n]).length cap)).run P S.w = .ok (.string ⟨(ns.map fun n => UInt8.ofNat n.toNat).toArray⟩) S.w := fun a ha => by
    rw [run_bytesToString S.w a _ cap ns ha, qaC9];rfl
   rcases h4 with h4|⟨g, off, rfl, hre⟩
   ·have hn : ns = [] := by simpa using h4
    subst hn;cases a with
    | none => rfl
    | some a => exact hsum a (by simp [loadCells, loadCellsFrom])
   ·have hs : ns = [] ∨ s = 1 := by
     cases ns with
     | nil => exact .inl rfl
     | cons x r => right; simpa using h
    rcases hs with rfl|rfl
    ·exact hsum _ (by simp [loadCells, loadCellsFrom])
    ·refine hsum _ ?_;have hl : (ns.map fun n => [AV.int .u8 n]).length = (ns.map (Value.int .u8)).length := by simp
     rw [hl];refine run_loadCells_list _ _ _ fun j v hv => ?_;rw [List.getElem?_map] at hv;obtain ⟨n, hn, rfl⟩ := Option.map_eq_some_iff.1 hv;obtain ⟨_, q⟩ := hre.get (i := j) (e := [.int .u8 n]) (by rw [List.getElem?_map, hn]; rfl);simp only [RelC] at q;obtain ⟨⟨u, hu, _, hr⟩, _⟩ := q;simp only [Rel] at hr;subst hr;have hu2 : qx0 S.M g (off + j) = some (Value.int .u8 n) := by
      have hu3 := hu;rw [Nat.mul_one] at hu3;exact hu3
     rw [xl0, qam9 hok hu2]
  ·cases h
 ·cases h
theorem vbh9 (hok : S.Ok H) {src dst : TypeId} {x : AV} {u : Value} (hx : Rel (S.env H) x u) (h : (vW0 P src dst x).1 = true) :
  ∃ r, (convert src dst u).run P S.w = .ok r S.w ∧ Rel (S.env H) (vW0 P src dst x).2 r := by
 unfold vW0 at *;split at h
 ·rename_i k k' n hs;obtain ⟨T, hT, hsh⟩ := xc0 hs (by simp);have hd := zaI9 hT hsh;obtain ⟨d, hsrc⟩ := vbs9 h;have e1 := hx; simp only [Rel] at e1; subst e1;refine ⟨.int k (k.wrap n), ?_, by simp [Rel]⟩;unfold convert;simp only [Sem.run_bind, run_underlying hsrc, run_underlying hd, Result.andThen_ok];cases d <;> rfl
 ·rename_i s hs;obtain ⟨T, hT, hsh⟩ := xc0 hs (by simp);have hd := wI0 hT hsh;obtain ⟨d, hsrc⟩ := vbs9 h;have e1 := hx; simp only [Rel] at e1; subst e1;refine ⟨.string ⟨s.toArray⟩, ?_, by simp [Rel]⟩;unfold convert;simp only [Sem.run_bind, run_underlying hsrc, run_underlying hd, Result.andThen_ok];cases d <;> rfl
 ·rename_i s es c hs;obtain ⟨T, hT, hsh⟩ := xc0 hs (by simp);exact qbO9 hok (wI0 hT hsh) hx h
 ·cases h
theorem xcP9 (hok : S.Ok H) {t : TypeId} {ts : Array TypeId} {x : AV} {u : Value} (ht : ts[0]? = some t) (ty : TypeId) (hx : Rel (S.env H) x u) (h : (pLen P H t x).1 = true) :
  ∃ r, (Builtin.len_ ts ty #[u]).run P S.w = .ok r S.w ∧ Rel (S.env H) (pLen P H t x).2 r := by
 unfold pLen at *;split at h
 ·rename_i s hs;obtain ⟨T, hT, hsh⟩ := xc0 hs (by simp);have hd := wI0 hT hsh;have e1 := hx; simp only [Rel] at e1; subst e1;have hsz : (ByteArray.mk s.toArray).size = s.length := rfl;exact ⟨.int .i64 s.length, by simp [Builtin.len_, ht, run_underlying hd, goInt, hsz], by simp [Rel]⟩
 ·rename_i e s es c hs;obtain ⟨T, hT, hsh⟩ := xc0 hs (by simp);have hd := zi0 hT hsh;have e1 := hx; simp only [Rel] at e1;obtain ⟨a, cap, rfl, _⟩ := e1;exact ⟨.int .i64 es.length, by simp [Builtin.len_, ht, run_underlying hd, goInt], by simp [Rel]⟩
 ·rename_i e b n hh c hs;obtain ⟨T, hT, hsh⟩ := xc0 hs (by simp);have hd := zi0 hT hsh;obtain ⟨s, hs', _, hc⟩ := qu0 hx h;refine ⟨.int .i64 n, ?_, by simp [Rel]⟩;rcases hc with ⟨_, ⟨a0, rfl⟩, rfl, _⟩|⟨g, k, cap, _, rfl, _⟩
  ·simp [Builtin.len_, ht, run_underlying hd, goInt]
  ·simp [Builtin.len_, ht, run_underlying hd, goInt]
 ·rename_i n e hs;obtain ⟨T, hT, hsh⟩ := xc0 hs (by simp);have hd := zz0 hT hsh;exact ⟨.int .i64 n, by simp [Builtin.len_, ht, run_underlying hd, goInt], by simp [Rel]⟩
 ·rename_i k e hs;obtain ⟨T, hT, hsh⟩ := xc0 hs (by simp);have hd := qae9 hT hsh;split at h
  ·rename_i es hm;unfold qz0 at hm;split at hm
   ·rename_i b;split at hm
    ·rename_i kt vt es' hb;injection hm with hm; subst hm
     have hx2 := hx;simp only [Rel] at hx2;obtain ⟨g, hg, rfl⟩ := hx2;have hg : S.ν b = some g := by
      have : mpOf S.ν H b = some g := hg;simpa [mpOf, hb] using this
     obtain ⟨g', o, h1, h2, h3, ents, clock, rfl, h5⟩ := hok.ob b _ hb;rw [hg] at h1; injection h1 with h1; subst h1
     have hlen : ents.size = es'.length := h5.1.symm;refine ⟨.int .i64 es'.length, ?_, by simp [qz0, hb, Rel]⟩;simp [Builtin.len_, ht, run_underlying hd, goInt, getObj, Sem.run, h3, hlen]
    ·cases hm
   ·injection hm with hm; subst hm
    have e1 := hx; simp only [Rel] at e1; subst e1;exact ⟨.int .i64 0, by simp [Builtin.len_, ht, run_underlying hd, goInt], by simp [qz0, Rel]⟩
   ·cases hm
  ·cases h
 ·cases h
theorem wcP9 {t : TypeId} {ts : Array TypeId} {x : AV} {u : Value} (ht : ts[0]? = some t) (ty : TypeId) (hx : Rel (S.env H) x u) (h : (pCap P H t x).1 = true) :
  ∃ r, (Builtin.cap_ ts ty #[u]).run P S.w = .ok r S.w ∧ Rel (S.env H) (pCap P H t x).2 r := by
 unfold pCap at *;split at h
 ·rename_i e s es c hs;obtain ⟨T, hT, hsh⟩ := xc0 hs (by simp);have hd := zi0 hT hsh;have e1 := hx; simp only [Rel] at e1;obtain ⟨a, cap, rfl, _, _, hc, _⟩ := e1;have := hc c rfl;subst this;exact ⟨.int .i64 cap, by simp [Builtin.cap_, ht, run_underlying hd, goInt], by simp [Rel]⟩
 ·rename_i e b n hh c hs;obtain ⟨T, hT, hsh⟩ := xc0 hs (by simp);have hd := zi0 hT hsh;obtain ⟨s, hs', _, hc⟩ := qu0 hx h;refine ⟨.int .i64 c, ?_, by simp [Rel]⟩;rcases hc with ⟨_, ⟨a0, rfl⟩, rfl, hc⟩|⟨g, k, cap, _, rfl, _, _, _, hc⟩
  ·have : c = 0 := by simpa using hc
   subst this;simp [Builtin.cap_, ht, run_underlying hd, goInt]
  ·have := hc c rfl;subst this;simp [Builtin.cap_, ht, run_underlying hd, goInt]
 ·cases h
theorem vcP9 {ts : Array TypeId} {ty : TypeId} {x y : AV} {u v : Value} (hx : Rel (S.env H) x u) (hy : Rel (S.env H) y v) (h : (kE0 true x y).1 = true) :
  ∃ r, (Builtin.max_ ts ty #[u, v]).run P S.w = .ok r S.w ∧ Rel (S.env H) (kE0 true x y).2 r := by
 unfold kE0 at *;split at h
 ·have e1 := hx; simp only [Rel] at e1; subst e1;have e2 := hy; simp only [Rel] at e2; subst e2;exact ⟨_, by rw [run_max_int2], by simp [Rel]⟩
 ·cases h
theorem kcP9 {ts : Array TypeId} {ty : TypeId} {x y : AV} {u v : Value} (hx : Rel (S.env H) x u) (hy : Rel (S.env H) y v) (h : (kE0 false x y).1 = true) :
  ∃ r, (Builtin.min_ ts ty #[u, v]).run P S.w = .ok r S.w ∧ Rel (S.env H) (kE0 false x y).2 r := by
 unfold kE0 at *;split at h
 ·have e1 := hx; simp only [Rel] at e1; subst e1;have e2 := hy; simp only [Rel] at e2; subst e2;exact ⟨_, by rw [run_min_int2], by simp [Rel]⟩
 ·cases h
theorem waT9 : ∀ (vs : List Value) (k off : Nat) (cells : Array Value), off + k + vs.length ≤ cells.size →
  ((vs.zipIdx k).foldl (fun cs p => cs.setIfInBounds (off + p.2) p.1) cells).toList = cells.toList.take (off + k) ++ vs ++ cells.toList.drop (off + k + vs.length)
 | [], k, off, cells, h => by simp
 | v :: vs, k, off, cells, h => by
  simp only [List.length_cons] at h;rw [List.zipIdx_cons, List.foldl_cons];rw [waT9 vs (k + 1) off _ (by simp; omega)];simp only [Array.toList_setIfInBounds, List.length_cons];have hlt : off + k < cells.toList.length := by simp; omega
  rw [List.set_eq_take_append_cons_drop, if_pos hlt];have e1 : (List.take (off + k) cells.toList ++ v :: List.drop (off + k + 1) cells.toList).take (off + (k + 1)) = List.take (off + k) cells.toList ++ [v] := by
   rw [List.take_append];have : (List.take (off + k) cells.toList).length = off + k := by simp; omega
   rw [this, List.take_take, show off + (k + 1) - (off + k) = 1 from by omega, show min (off + (k + 1)) (off + k) = off + k from by omega];rfl
  have e2 : (List.take (off + k) cells.toList ++ v :: List.drop (off + k + 1) cells.toList).drop (off + (k + 1) + vs.length) = List.drop (off + k + (vs.length + 1)) cells.toList := by
   rw [List.drop_append];have : (List.take (off + k) cells.toList).length = off + k := by simp; omega
   rw [this, List.drop_of_length_le (by rw [this]; omega), show off + (k + 1) + vs.length - (off + k) = vs.length + 1 from by omega];simp only [List.nil_append, List.drop_succ_cons, List.drop_drop];congr 1
   omega
  rw [e1, e2];simp
theorem wco9 (vs : Array Value) (off : Nat) (cells : Array Value) (h : off + vs.size ≤ cells.size) :
  (vs.zipIdx.foldl (fun cs p => cs.setIfInBounds (off + p.2) p.1) cells).toList = cells.toList.take off ++ vs.toList ++ cells.toList.drop (off + vs.size) := by
 rw [← Array.foldl_toList, Array.toList_zipIdx];have := waT9 vs.toList 0 off cells (by simpa using h);simpa using this
theorem qX0 {place : Nat → Option (Nat × Nat)} : ∀ (parts : List (Nat × AV)) (pv : List (Nat × Value)) (cells : List AV) (C : Array Value) (out : List AV),
  parts.length = pv.length → (∀ (i : Nat) (p : Nat × AV) (q : Nat × Value), parts[i]? = some p → pv[i]? = some q → p.1 = q.1 ∧ Rel (S.env H) p.2 q.2) →
  RelL (S.env H) cells C.toList → (∀ u ∈ C.toList, u.oneCell' = true) → zT0 H place cells parts = some out →
  ∃ C', Instr.fill place C pv = some C' ∧ RelL (S.env H) out C'.toList ∧ (∀ u ∈ C'.toList, u.oneCell' = true) ∧ C'.size = C.size
 | [], pv, cells, C, out, hl, _, hr, h1, h => by
  have : pv = [] := List.eq_nil_of_length_eq_zero (by simpa using hl.symm);subst this;simp only [zT0, Option.some.injEq] at h;subst h;exact ⟨C, rfl, hr, h1, rfl⟩
 | (i, x) :: parts, [], cells, C, out, hl, _, _, _, _ => by simp at hl
 | (i, x) :: parts, (j, v) :: pv, cells, C, out, hl, hp, hr, h1, h => by
  obtain ⟨e, hxv⟩ := hp 0 _ _ rfl rfl;simp only at e hxv;subst e;simp only [zT0] at h;split at h
  ·rename_i off size cs hpl hc;split at h
   ·rename_i hcond;obtain ⟨hs, hb⟩ := hcond;obtain ⟨hrl, hone⟩ := qC0 hxv hc;have hlen : cs.length = v.cells.size := by rw [hrl.length]; simp
    have hcl : cells.length = C.size := by rw [hr.length]; simp
    have hsz : off + v.cells.size ≤ C.size := by omega
    have hfo := wco9 v.cells off C hsz;obtain ⟨C', hC', g1, g2, g3⟩ := qX0 parts pv _ (v.cells.zipIdx.foldl (fun cs p => cs.setIfInBounds (off + p.2) p.1) C) out (by simpa using hl)
     (fun n p q hpn hqn => hp (n + 1) p q (by simpa using hpn) (by simpa using hqn))
     (by rw [hfo, ← hlen]; exact ((hr.take off).append hrl).append (hr.drop _))
     (by
      rw [hfo];intro u hu;rcases List.mem_append.1 hu with hu|hu
      ·rcases List.mem_append.1 hu with hu|hu
       ·exact h1 u (List.mem_of_mem_take hu)
       ·exact hone u hu
      ·exact h1 u (List.mem_of_mem_drop hu)) h
    refine ⟨C', ?_, g1, g2, ?_⟩
    ·simp only [Instr.fill, hpl];have c1 : ¬ (v.cells.size ≠ size) := by omega
     have c2 : ¬ (off + v.cells.size > C.size) := by omega
     simp only [ne_eq, c1, decide_false, c2, Bool.or_self, Bool.false_eq_true, if_false];exact hC'
    ·rw [g3];have : (v.cells.zipIdx.foldl (fun cs p => cs.setIfInBounds (off + p.2) p.1) C).size = (v.cells.zipIdx.foldl (fun cs p => cs.setIfInBounds (off + p.2) p.1) C).toList.length := by simp
     rw [this, hfo];simp;omega
   ·cases h
  ·cases h
end
section
variable {P : Program} {S : St} {H : List Blk}
theorem xap9 : ∀ (fs : List Field) (ps : List (Nat × Nat)), zl0 P (fs.map fun f => (f.offset, f.type)) = some ps →
  fs.mapM (fun f => (P.info? f.type).map fun i => (f.offset, i.size)) = some ps
 | [], ps, h => by simpa [zl0] using h
 | f :: fs, ps, h => by
  simp only [zl0, List.map_cons, List.mapM_cons, Option.bind_eq_bind, Option.pure_def] at h ⊢;cases hT : kc0 P f.type with
  | none => rw [hT] at h; cases h
  | some T =>
   obtain ⟨i, d, z, hi, hd, hz, _, hTT⟩ := ve0 hT;rw [hT] at h;simp only [Option.map_some, Option.bind_some] at h;cases hr : (fs.map fun f => (f.offset, f.type)).mapM (fun f => (kc0 P f.2).map fun T => (f.1, T.sz)) with
   | none => rw [hr] at h; cases h
   | some rest =>
    rw [hr] at h;have := xap9 fs rest hr;rw [hi];simp only [Option.map_some, Option.bind_some, this];simp only [Option.bind_some, Option.some.injEq] at h ⊢;rw [← h, hTT]
theorem zbO9 {t : TypeId} {parts : List (Nat × AV)} {pv : Array (Nat × Value)} (hl : parts.length = pv.size)
  (hp : ∀ (i : Nat) (p : Nat × AV) (q : Nat × Value), parts[i]? = some p → pv.toList[i]? = some q → p.1 = q.1 ∧ Rel (S.env H) p.2 q.2) (h : (kaB9 P H t parts).1 = true) :
  ∃ r, (Instr.build t pv).run P S.w = .ok r S.w ∧ Rel (S.env H) (kaB9 P H t parts).2 r := by
 unfold kaB9 at *;cases hT : kc0 P t with
 | none => rw [hT] at h; cases h
 | some T =>
  obtain ⟨i, d, z, hi, hd, hz, h1, hTT⟩ := ve0 hT;have hzr : RelL (S.env H) T.zero z.cells.toList := by rw [hTT]; exact kl0 _ _
  simp only [hT] at h ⊢;cases hs : T.shape with
  | struct fs =>
   obtain ⟨F, hu, hfs⟩ := qN0 hT hs;simp only [hs] at h ⊢;cases hps : zl0 P fs with
   | none => rw [hps] at h; cases h
   | some ps =>
    simp only [hps] at h ⊢;cases hf : zT0 H (fun i => ps[i]?) T.zero parts with
    | none => rw [hf] at h; cases h
    | some cs =>
     simp only;subst hfs;have hpl := run_places (P := P) S.w F.toList ps (xap9 _ _ hps);obtain ⟨C', hC', g1, g2, _⟩ := qX0 parts pv.toList T.zero z.cells cs (by simpa using hl) hp hzr h1 hf;refine ⟨.agg C', ?_, ?_⟩
     ·simp [Instr.build, run_underlying hu, typeInfo, zeroValue, hi, hz, Array.mapM_eq_mapM_toList, hpl, hC']
     ·simp only [Rel]; exact ⟨C'.toList, by simp, g1, g2⟩
  | array n e =>
   have hu := zz0 hT hs;simp only [hs] at h ⊢;cases hE : kc0 P e with
   | none => rw [hE] at h; cases h
   | some E =>
    simp only [hE] at h ⊢;cases hf : zT0 H (fun i => some (i * E.sz, E.sz)) T.zero parts with
    | none => rw [hf] at h; cases h
    | some cs =>
     simp only;obtain ⟨C', hC', g1, g2, _⟩ := qX0 parts pv.toList T.zero z.cells cs (by simpa using hl) hp hzr h1 hf;refine ⟨.agg C', ?_, ?_⟩
     ·simp [Instr.build, run_underlying hu, typeInfo, zeroValue, hi, hz, vf0 hE, hC']
     ·simp only [Rel]; exact ⟨C'.toList, by simp, g1, g2⟩
  | _ => simp only [hs] at h; cases h
theorem km0 (s : Nat) : ∀ (n : Nat) (cs : List AV), (vx0 s n cs).length = n
 | 0, _ => rfl
 | n + 1, cs => by simp [vx0, km0 s n]
theorem zae9 (s : Nat) : ∀ (n : Nat) (cs : List AV) (i : Nat), i < n → (vx0 s n cs)[i]? = some ((cs.drop (i * s)).take s)
 | n + 1, cs, 0, _ => by simp [vx0]
 | n + 1, cs, i + 1, h => by
  simp only [vx0, List.getElem?_cons_succ];rw [zae9 s n _ i (by omega), List.drop_drop];congr 3
  rw [Nat.add_mul]; omega
theorem xk0 {E : Env} {zs : List AV} {z : Array Value} (hz : RelL E zs z.toList) (s : Nat) (hs : z.size = s) : ∀ n, RelL E (List.replicate n zs).flatten (madeCells z (n * s)).toList
 | 0 => by simp [madeCells, RelL]
 | n + 1 => by
  have ih := xk0 hz s hs n;have e : (madeCells z ((n + 1) * s)).toList = z.toList ++ (madeCells z (n * s)).toList := by
   apply List.ext_getElem?;intro i;simp only [madeCells, Array.toList_map, Array.toList_range, List.getElem?_map, List.getElem?_range];by_cases hi : i < s
   ·have hi2 : i < (n + 1) * s := by rw [Nat.add_mul]; omega
    rw [List.getElem?_append_left (by simp; omega), List.getElem?_range hi2];have hi3 : i < z.size := by omega
    simp [Nat.mod_eq_of_lt hi3, hi3]
   ·rw [List.getElem?_append_right (by simp; omega)];simp only [Array.length_toList, List.getElem?_map];by_cases hi2 : i < (n + 1) * s
    ·have hi3 : i - z.size < n * s := by rw [Nat.add_mul] at hi2; omega
     rw [List.getElem?_range hi2, List.getElem?_range hi3];simp only [Option.map_some];have : i % z.size = (i - z.size) % z.size := by
      have h1 : z.size ≤ i := by omega
      rw [← Nat.mod_eq_sub_mod h1]
     rw [this]
    ·have hi3 : ¬ i - z.size < n * s := by rw [Nat.add_mul] at hi2; omega
     rw [List.getElem?_eq_none (by simp; omega), List.getElem?_eq_none (by simp; omega)]
  rw [e, List.replicate_succ, List.flatten_cons];exact hz.append ih
theorem way9 (hok : S.Ok H) {t : TypeId} {len : Nat} {parts : List (Nat × AV)} {pv : Array (Nat × Value)} (hl : parts.length = pv.size)
  (hp : ∀ (i : Nat) (p : Nat × AV) (q : Nat × Value), parts[i]? = some p → pv.toList[i]? = some q → p.1 = q.1 ∧ Rel (S.env H) p.2 q.2) (h : (qm0 P H t len parts).1 = true) :
  ∃ r C ce, (Instr.buildSlice t len pv).run P S.w = .ok r (S.imm (.cells C ce)).w ∧ Rel ((S.imm (.cells C ce)).env H) (qm0 P H t len parts).2 r := by
 unfold qm0 at *;cases hs : shp P t with
 | slice e =>
  obtain ⟨TT, hTT, hsh⟩ := xc0 hs (by simp);have hu := zi0 hTT hsh;simp only [hs] at h ⊢;cases hE : kc0 P e with
  | none => rw [hE] at h; cases h
  | some E =>
   obtain ⟨i, d, z, hi, hd, hz, h1, hEE⟩ := ve0 hE;have hzr : RelL (S.env H) E.zero z.cells.toList := by rw [hEE]; exact kl0 _ _
   simp only [hE] at h ⊢;cases hf : zT0 H (fun i => some (i * E.sz, E.sz)) (List.replicate len E.zero).flatten parts with
   | none => rw [hf] at h; cases h
   | some cs =>
    simp only [hf, Bool.and_eq_true, decide_eq_true_eq, beq_iff_eq] at h ⊢;obtain ⟨⟨hb0, hb⟩, hzl⟩ := h;have hzs : z.cells.size = E.sz := by rw [← hzl, hzr.length]; simp
    have hrel := xk0 hzr E.sz hzs len;have hone : ∀ u ∈ (madeCells z.cells (len * E.sz)).toList, u.oneCell' = true := by
     intro u hu;simp only [madeCells, Array.toList_map, Array.toList_range, List.mem_map, List.mem_range] at hu;obtain ⟨q, hq, rfl⟩ := hu;have hpos : 0 < z.cells.size := by
      rcases Nat.eq_zero_or_pos z.cells.size with h0|h0
      ·rw [← hzs, h0] at hq; simp at hq
      ·exact h0
     have hlt : q % z.cells.size < z.cells.size := Nat.mod_lt _ hpos;rw [getElem!_pos z.cells _ hlt];exact h1 _ (by simp)
    obtain ⟨C', hC', g1, g2, g3⟩ := qX0 parts pv.toList _ (madeCells z.cells (len * E.sz)) cs (by simpa using hl) hp hrel hone hf;have hcl : cs.length = len * E.sz := by rw [g1.length, Array.length_toList, g3, size_madeCells]
    have hEsz : E.sz = i.size := by rw [hEE]
    refine ⟨.slice (some ⟨S.w.heap.size, 0, none⟩) len len, C', e, ?_, ?_⟩
    ·have c1 : ¬ (len * E.sz > 2 ^ 24) := by omega
     by_cases h0 : len * E.sz = 0
     ·have hC0 : madeCells z.cells (len * E.sz) = (Array.range 0).map (fun x => (#[] : Array Value)[x % (#[] : Array Value).size]!) := by
       rw [h0]; simp [madeCells]
      rw [hC0] at hC';simp only [Instr.buildSlice, Sem.run_bind, run_underlying hu, vf0 hE, Result.andThen_ok, c1, if_false, h0, if_true, Sem.run_pure, newRow, run_newObj, Sem.run_ite];simp at hC';simp [hC', St.imm]
     ·simp only [Instr.buildSlice, Sem.run_bind, run_underlying hu, vf0 hE, Result.andThen_ok, c1, if_false, h0, Sem.run_ite, Sem.run_pure];simp only [madeCells] at hC';simp [hC', St.imm, zeroValue, typeInfo, hi, hz, newRow]
    ·cases len with
     | zero => simp [Rel, vx0, maxLen]
     | succ len0 =>
     show Rel _ (.sl E.sz (vx0 E.sz (len0 + 1) cs) (some (len0 + 1))) _;generalize len0 + 1 = len at *;simp only [Rel];refine ⟨some ⟨S.w.heap.size, 0, none⟩, len, by rw [km0], by rw [km0]; exact Nat.le_refl _, ?_, fun k hk => by injection hk, ?_⟩
     ·simp only [maxLen]; omega
     ·refine .inr ⟨S.w.heap.size, 0, rfl, RelE.mk fun j el hj => ?_⟩;have hjl : j < len := by
       have := (List.getElem?_eq_some_iff.1 hj).1
       rwa [km0] at this
      rw [zae9 _ _ _ _ hjl] at hj;injection hj with hj
      subst hj;have hb2 : j * E.sz + E.sz ≤ len * E.sz := by
       rw [← Nat.succ_mul]; exact Nat.mul_le_mul_right _ hjl
      refine ⟨by simp; omega, RelC.mk fun q a hq => ?_⟩;rw [List.getElem?_take] at hq;split at hq
      ·rw [List.getElem?_drop] at hq;obtain ⟨v, hv, hr⟩ := g1.get hq;refine ⟨v, ?_, g2 v (List.mem_of_getElem? hv), hr.mono ((vaI9 hok _ _).le (Nat.le_refl _))⟩;rw [show ((S.imm (.cells C' e)).env H).M = (S.imm (.cells C' e)).M from rfl, xaT9];simpa using hv
      ·cases hq
 | _ => simp only [hs] at h; cases h
theorem ko0 {isS : Bool} {len cap : Nat} {lo hi mx : Option Value} {l h m : Int} (hlo : (lo = none ∧ l = 0) ∨ ∃ k, lo = some (.int k l)) (hhi : (hi = none ∧ mx = none ∧ h = len) ∨ ∃ k, hi = some (.int k h))
  (hmx : (mx = none ∧ m = cap) ∨ ∃ k, mx = some (.int k m)) (h0 : 0 ≤ l) (h1 : l ≤ h) (h2 : h ≤ m) (h3 : m ≤ cap) (w : World) :
  (Instr.sliceBounds isS len cap lo hi mx).run P w = .ok (l.toNat, h.toNat, m.toNat) w := by
 have bd : ∀ (k : IntKind) (i : Int) (y : Nat) (code : BoundsCode), 0 ≤ i → i ≤ y → (Instr.sliceBound (.int k i) y code).run P w = .ok i.toNat w :=
  fun k i y code a b => run_sliceBound w k i y code a b
 have hm' : ((m.toNat : Nat) : Int) = m := Int.toNat_of_nonneg (by omega);have hh' : ((h.toNat : Nat) : Int) = h := Int.toNat_of_nonneg (by omega);rcases hmx with ⟨rfl, rfl⟩|⟨km, rfl⟩
 ·rcases hhi with ⟨rfl, _, rfl⟩|⟨kh, rfl⟩
  ·rcases hlo with ⟨rfl, rfl⟩|⟨kl, rfl⟩
   ·simp [Instr.sliceBounds]
   ·simp [Instr.sliceBounds, bd kl l len _ h0 h1]
  ·rcases hlo with ⟨rfl, rfl⟩|⟨kl, rfl⟩
   ·simp [Instr.sliceBounds, bd kh h cap _ (by omega) h2]
   ·simp [Instr.sliceBounds, bd kh h cap _ (by omega) h2, bd kl l h.toNat _ h0 (by omega)]
 ·rcases hhi with ⟨_, h, _⟩|⟨kh, rfl⟩
  ·cases h
  ·rcases hlo with ⟨rfl, rfl⟩|⟨kl, rfl⟩
   ·simp [Instr.sliceBounds, bd km m cap _ (by omega) h3, bd kh h m.toNat _ (by omega) (by omega)]
   ·simp [Instr.sliceBounds, bd km m cap _ (by omega) h3, bd kh h m.toNat _ (by omega) (by omega), bd kl l h.toNat _ h0 (by omega)]
def RelO (E : Env) : Option AV → Option Value → Prop
 | none, v => v = none
 | some a, v => ∃ u, v = some u ∧ Rel E a u
theorem zam9 {E : Env} {k : IntKind} {n : Int} {v : Option Value} (h : RelO E (some (.int k n)) v) : v = some (.int k n) := by
 obtain ⟨u, rfl, hr⟩ := h;simp only [Rel] at hr;rw [hr]
theorem xbC9 {E : Env} {x : Option AV} {v : Option Value} {l : Int} (h : waS9 x = some l) (hr : RelO E x v) : (v = none ∧ l = 0) ∨ ∃ k, v = some (.int k l) := by
 unfold waS9 at h;split at h
 ·injection h with h; exact .inl ⟨hr, h.symm⟩
 ·injection h with h; subst h; exact .inr ⟨_, zam9 hr⟩
 ·cases h
theorem wT0 {E : Env} {x : Option AV} {v : Option Value} {n : Nat} {h : Int} (hh : zR0 x n = some h) (hr : RelO E x v) :
  (v = none ∧ x = none ∧ h = n) ∨ ∃ k, v = some (.int k h) := by
 unfold zR0 at hh;split at hh
 ·injection hh with hh; exact .inl ⟨hr, rfl, hh.symm⟩
 ·injection hh with hh; subst hh; exact .inr ⟨_, zam9 hr⟩
 ·cases hh
theorem zaC9 {E : Env} {s : Nat} {es : List (List AV)} {c : Option Nat} {a : Option Addr} {cap : Nat} (hr : Rel E (.sl s es c) (.slice a es.length cap)) {l h m : Nat} (hlh : l ≤ h) (hn : h ≤ es.length) (hhm : h ≤ m) (hm : m ≤ cap) (c' : Option Nat)
  (hc : ∀ k, c' = some k → m - l = k) (sz : Nat) (hsz : es = [] ∨ s = sz) :
  Rel E (.sl s ((es.take h).drop l) c') (.slice (if m = l then a else a.map (·.add (l * sz))) (h - l) (m - l)) := by
 simp only [Rel] at hr ⊢;obtain ⟨a', cap', e, h1, h2, h3, h4⟩ := hr;injection e with e1 _ e3; subst e1; subst e3
 have hlen : ((es.take h).drop l).length = h - l := by simp; omega
 refine ⟨_, _, by rw [hlen], by rw [hlen]; omega, by omega, fun k hk => hc k hk, ?_⟩;by_cases hne : h = l
 ·left
  apply List.eq_nil_of_length_eq_zero;omega
 ·right
  have hes : es ≠ [] := by intro e; subst e; simp at hn; omega
  obtain ⟨g, off, ha, he⟩ := h4.resolve_left hes;have hs := hsz.resolve_left hes;subst hs; subst ha;refine ⟨g, off + l * s, ?_, RelE.mk fun i e hi => ?_⟩
  ·rw [if_neg (by omega)]; simp [xl0]
  ·rw [List.getElem?_drop, List.getElem?_take] at hi;split at hi
   ·have := he.get hi;refine ⟨this.1, ?_⟩;have h5 := this.2
    rwa [Nat.add_mul, ← Nat.add_assoc] at h5
   ·cases hi
theorem zX0 (s : Nat) : ∀ (n : Nat) (cs : List AV), (vx0 s n cs).length = n
 | 0, _ => rfl
 | n + 1, cs => by rw [vx0, List.length_cons, zX0 s n]
theorem xbO9 {E : Env} (s : Nat) : ∀ (cs : List AV) (g off : Nat), RelC E cs g off → RelC E (cs.take s) g off ∧ RelC E (cs.drop s) g (off + min s cs.length) := fun cs g off h => by
 refine ⟨RelC.mk fun j a hj => ?_, RelC.mk fun j a hj => ?_⟩
 ·rw [List.getElem?_take] at hj;split at hj
  ·exact h.get hj
  ·cases hj
 ·rw [List.getElem?_drop] at hj;have hlt : s + j < cs.length := (List.getElem?_eq_some_iff.1 hj).1;obtain ⟨v, q⟩ := h.get hj;refine ⟨v, ?_⟩;rw [Nat.min_eq_left (by omega), Nat.add_assoc];exact q
theorem wap9 {E : Env} (s : Nat) : ∀ (n : Nat) (cs : List AV) (g off : Nat), cs.length = n * s → RelC E cs g off → RelE E s (vx0 s n cs) g off
 | 0, _, _, _, _, _ => trivial
 | n + 1, cs, g, off, hl, h => by
  rw [Nat.succ_mul] at hl;obtain ⟨h1, h2⟩ := xbO9 s cs g off h;rw [Nat.min_eq_left (by omega)] at h2;refine ⟨by rw [List.length_take]; omega, h1, wap9 s n _ _ _ (by rw [List.length_drop]; omega) h2⟩
theorem wbO9 {t : TypeId} {x : AV} {lo hi mx : Option AV} {u : Value} {vl vh vm : Option Value} (hx : Rel (S.env H) x u) (hl : RelO (S.env H) lo vl) (hh : RelO (S.env H) hi vh) (hm : RelO (S.env H) mx vm) (h : (wH0 P H t x lo hi mx).1 = true) :
  ∃ r, (Instr.sliceAt t u vl vh vm).run P S.w = .ok r S.w ∧ Rel (S.env H) (wH0 P H t x lo hi mx).2 r := by
 unfold wH0 at *;cases hlo : waS9 lo with
 | none => rw [hlo] at h; cases h
 | some l =>
  have hlv := xbC9 hlo hl;simp only [hlo] at h ⊢;split at h
  ·rename_i e s es c hs;obtain ⟨T0, hT0, hsh⟩ := xc0 hs (by simp);have hu := zi0 hT0 hsh;cases hT : kc0 P e with
   | none => rw [hT] at h; cases h
   | some T =>
    simp only [hT] at h ⊢;have hx' := hx;simp only [Rel] at hx';obtain ⟨a, cap, rfl, hcap, _, hck, _⟩ := hx';have hrun : ∀ (l h m : Int), (Instr.sliceBounds true es.length cap vl vh vm).run P S.w = .ok (l.toNat, h.toNat, m.toNat) S.w →
      (Instr.sliceAt t (.slice a es.length cap) vl vh vm).run P S.w = .ok (.slice (if m.toNat = l.toNat then a else a.map (·.add (l.toNat * T.sz))) (h.toNat - l.toNat) (m.toNat - l.toNat)) S.w := by
     intro l h m hb;simp [Instr.sliceAt, run_underlying hu, Instr.slice, hb, vf0 hT]
    cases hhi : zR0 hi es.length with
    | none => simp only [hhi] at h; first|cases h|(split at h <;> cases h)
    | some hv =>
     have hhv := wT0 hhi hh;simp only [hhi] at h ⊢;cases mx with
     | none =>
      have hvm : vm = none := hm;subst hvm;simp only [Bool.and_eq_true, decide_eq_true_eq, Bool.or_eq_true, List.isEmpty_iff, beq_iff_eq] at h ⊢;obtain ⟨⟨⟨h1, h2⟩, h3⟩, h4⟩ := h;have hb := ko0 (P := P) (isS := true) (len := es.length) (cap := cap) (m := cap) hlv (hhv.imp (fun q => ⟨q.1, rfl, q.2.2⟩) id) (.inl ⟨rfl, rfl⟩) h2 h3 (by omega) (Int.le_refl _) S.w;refine ⟨_, hrun _ _ _ hb, ?_⟩;refine zaC9 hx (by omega) (by omega) (by omega) (by omega) _ (fun k hk => ?_) T.sz h1;cases c with
      | none => cases hk
      | some c =>
       have := hck c rfl;simp only [Option.map_some, Option.some.injEq] at hk;omega
     | some mv =>
      cases mv with
      | int km m =>
       have hvm := zam9 hm;subst hvm;simp only [Bool.and_eq_true, decide_eq_true_eq, Bool.or_eq_true, List.isEmpty_iff, beq_iff_eq] at h ⊢;obtain ⟨⟨⟨⟨⟨⟨h0, h1⟩, h2⟩, h3⟩, h4⟩, h5⟩, h6⟩ := h;have hb := ko0 (P := P) (isS := true) (len := es.length) (cap := cap) (m := m) hlv (hhv.imp (fun q => by rw [q.2.1] at h0; cases h0) id) (.inr ⟨km, rfl⟩) h2 h3 h5 (by omega) S.w;refine ⟨_, hrun _ _ _ hb, ?_⟩;exact zaC9 hx (by omega) (by omega) (by omega) (by omega) _ (fun k hk => by injection hk) T.sz h1
      | _ => simp only at h; cases h
  ·rename_i e b n h0 c hs;obtain ⟨T0, hT0, hsh⟩ := xc0 hs (by simp);have hu := zi0 hT0 hsh;cases hT : kc0 P e with
   | none => rw [hT] at h; cases h
   | some T =>
    simp only [hT] at h ⊢;cases hhi : zR0 hi n with
    | none => simp only [hhi] at h; first|cases h|(split at h <;> cases h)
    | some hv =>
     have hhv := wT0 hhi hh;simp only [hhi] at h ⊢;have fin : ∀ (m : Option Int) (c' : Option Nat), zj0 H b h0 = true → l = 0 → 0 ≤ hv → hv ≤ n → (vm = none ∧ m = none ∧ c' = c) ∨ (∃ km mm, vm = some (.int km mm) ∧ m = some mm ∧ hv ≤ mm ∧ mm ≤ n ∧ c' = some mm.toNat ∧ hi.isSome = true) →
       ∃ r, (Instr.sliceAt t u vl vh vm).run P S.w = .ok r S.w ∧ Rel (S.env H) (.own b hv.toNat h0 c') r := by
      intro m c' hlen hl0 hv0 hvn hcase;obtain ⟨s, hs', hnh, hc⟩ := qu0 hx hlen;subst hl0;rcases hc with ⟨hμ, ⟨a0, rfl⟩, rfl, hcc⟩|⟨g, k, cap, hg, rfl, hncap, hcapk, hcn, hcs⟩
      ·have hv00 : hv = 0 := by omega
       subst hv00;have hb : (Instr.sliceBounds true 0 0 vl vh vm).run P S.w = .ok (0, 0, 0) S.w := by
        rcases hcase with ⟨rfl, _, _⟩|⟨km, mm, rfl, _, q1, q2, _, hsome⟩
        ·exact ko0 (P := P) (isS := true) (len := 0) (cap := 0) (m := 0) hlv (hhv.imp (fun q => ⟨q.1, rfl, by simp⟩) id) (.inl ⟨rfl, rfl⟩) (by omega) (by omega) (by omega) (by omega) S.w
        ·have : mm = 0 := by omega
         subst this;exact ko0 (P := P) (isS := true) (len := 0) (cap := 0) (m := 0) hlv (hhv.imp (fun q => by rw [q.2.1] at hsome; cases hsome) id) (.inr ⟨km, rfl⟩) (by omega) (by omega) (by omega) (by omega) S.w
       refine ⟨_, by simp [Instr.sliceAt, run_underlying hu, Instr.slice, hb, vf0 hT]; rfl, ?_⟩;refine vh0 hs' (by simp) (.inl ⟨hμ, ⟨_, rfl⟩, rfl, ?_⟩);rcases hcase with ⟨_, _, rfl⟩|⟨km, mm, _, _, q1, q2, rfl, _⟩
       ·exact hcc
       ·right; congr 1; omega
      ·rcases hcase with ⟨rfl, _, rfl⟩|⟨km, mm, rfl, _, q1, q2, rfl, hsome⟩
       ·have hb := ko0 (P := P) (isS := true) (len := n) (cap := cap) (m := cap) hlv (hhv.imp (fun q => ⟨q.1, rfl, q.2.2⟩) id) (.inl ⟨rfl, rfl⟩) (by omega) hv0 (by omega) (Int.le_refl _) S.w;refine ⟨.slice (some ⟨g, 0, none⟩) hv.toNat cap, ?_, ?_⟩
        ·simp only [Instr.sliceAt, Sem.run_bind, run_underlying hu, Result.andThen_ok, Instr.slice, hb, vf0 hT, Sem.run_pure];by_cases hc0 : cap = 0
         ·simp [hc0]
         ·simp [xl0]
        ·exact vh0 hs' (by omega) (.inr ⟨g, k, cap, hg, rfl, by omega, hcapk, hcn, hcs⟩)
       ·have hb := ko0 (P := P) (isS := true) (len := n) (cap := cap) (m := mm) hlv (hhv.imp (fun q => by rw [q.2.1] at hsome; cases hsome) id) (.inr ⟨km, rfl⟩) (by omega) hv0 q1 (by omega) S.w;refine ⟨.slice (some ⟨g, 0, none⟩) hv.toNat mm.toNat, ?_, ?_⟩
        ·simp only [Instr.sliceAt, Sem.run_bind, run_underlying hu, Result.andThen_ok, Instr.slice, hb, vf0 hT, Sem.run_pure];by_cases hc0 : mm.toNat = 0
         ·simp [hc0]
         ·simp [xl0]
        ·exact vh0 hs' (by omega) (.inr ⟨g, k, mm.toNat, hg, rfl, by omega, by omega, fun q => (by cases q), fun j hj => (by injection hj)⟩)
     cases mx with
     | none =>
      have hvm : vm = none := hm;by_cases hl0 : l = 0
      rotate_left
      ·rw [if_neg hl0] at h ⊢;simp only [Bool.and_eq_true, decide_eq_true_eq] at h;obtain ⟨⟨⟨⟨q1, q0⟩, q2⟩, q3⟩, q4⟩ := h;obtain ⟨s, hs', hnh, hc⟩ := qu0 hx q1;subst hvm;rcases hc with ⟨hμ, ⟨a0, rfl⟩, rfl, hcc⟩|⟨g, k, cap, hg, rfl, hncap, hcapk, hcn, hcs⟩
       ·omega
       ·have hb := ko0 (P := P) (isS := true) (len := n) (cap := cap) (m := cap) hlv (hhv.imp (fun q => ⟨q.1, rfl, q.2.2⟩) id) (.inl ⟨rfl, rfl⟩) q2 (by omega) (by omega) (Int.le_refl _) S.w;obtain ⟨t', es', hb', hl'⟩ := xbs9 hs';have hsz : s = T.sz := by rw [hs'] at q0; simpa using q0
        refine ⟨.slice (some ⟨g, l.toNat * s, none⟩) (hv.toNat - l.toNat) (cap - l.toNat), ?_, ?_⟩
        ·simp only [Instr.sliceAt, Sem.run_bind, run_underlying hu, Result.andThen_ok, Instr.slice, hb, vf0 hT, Sem.run_pure];have hc0 : ¬ cap = l.toNat := by omega
         simp [hc0, xl0, hsz]
        ·simp only [Rel];exact ⟨s, h0, hs', Nat.le_refl _, fun _ => ⟨by omega, g, k, _, hg, rfl⟩⟩
      rw [if_pos hl0] at h ⊢;simp only [Bool.and_eq_true, decide_eq_true_eq] at h ⊢;exact fin none c h.1.1.1 h.1.1.2 h.1.2 h.2 (.inl ⟨hvm, rfl, rfl⟩)
     | some mv =>
      cases mv with
      | int km m =>
       have hvm := zam9 hm;simp only [Bool.and_eq_true, decide_eq_true_eq] at h ⊢;obtain ⟨⟨⟨⟨⟨q0, q1⟩, q2⟩, q3⟩, q4⟩, q5⟩ := h;exact fin (some m) (some m.toNat) q1 q2 q3 (by omega) (.inr ⟨km, m, hvm, rfl, q4, q5, rfl, q0⟩)
      | _ => simp only at h; cases h
  ·rename_i s hs;obtain ⟨T0, hT0, hsh⟩ := xc0 hs (by simp);have hu := wI0 hT0 hsh;cases mx with
   | some _ => simp only at h; cases h
   | none =>
    have hvm : vm = none := hm;subst hvm;simp only at h ⊢;cases hhi : zR0 hi s.length with
    | none => simp only [hhi] at h; first|cases h|(split at h <;> cases h)
    | some hv =>
     have hhv := wT0 hhi hh;simp only [hhi] at h ⊢;simp only [Bool.and_eq_true, decide_eq_true_eq] at h ⊢;have e1 := hx; simp only [Rel] at e1; subst e1;have hsz : (ByteArray.mk s.toArray).size = s.length := rfl;have hb := ko0 (P := P) (isS := false) (len := s.length) (cap := s.length) (m := s.length) hlv (hhv.imp (fun q => ⟨q.1, rfl, q.2.2⟩) id) (.inl ⟨rfl, rfl⟩) h.1.1 h.1.2 h.2 (Int.le_refl _) S.w;refine ⟨.string ((ByteArray.mk s.toArray).extract l.toNat hv.toNat), ?_, ?_⟩
     ·simp [Instr.sliceAt, run_underlying hu, Instr.slice, hsz, hb]
     ·simp only [Rel];congr 1
      apply ByteArray.ext;apply Array.ext';simp [ByteArray.data_extract, List.extract, List.drop_take]
  ·rename_i n e cs hs;obtain ⟨T0, hT0, hsh⟩ := xc0 hs (by simp);have hu := zz0 hT0 hsh;cases hT : kc0 P e with
   | none => rw [hT] at h; cases h
   | some T =>
    simp only [hT, Bool.and_eq_true, decide_eq_true_eq, Option.isNone_iff_eq_none] at h ⊢;obtain ⟨⟨⟨⟨rfl, rfl⟩, rfl⟩, hn⟩, hmx⟩ := h;have hvl : vl = none := hl;have hvh : vh = none := hh;have hvm : vm = none := hm;subst hvl; subst hvh; subst hvm;have e1 := hx;simp only [Rel, Nat.add_zero] at e1;obtain ⟨g, off, rfl, hc⟩ := e1;have hb := ko0 (P := P) (isS := false) (len := n) (cap := n) (lo := none) (hi := none) (mx := none) (l := 0) (h := n) (m := n) (.inl ⟨rfl, rfl⟩) (.inl ⟨rfl, rfl, rfl⟩) (.inl ⟨rfl, rfl⟩) (by omega) (by omega) (by omega) (by omega) S.w;have hr : (Instr.sliceAt t (.pointer (some ⟨g, off, none⟩)) none none none).run P S.w = .ok (.slice (some ⟨g, off, none⟩) n n) S.w := by
     have e0 : (⟨g, off, none⟩ : Addr).add 0 = ⟨g, off, none⟩ := rfl;simp only [Int.toNat_zero, Int.toNat_natCast] at hb;simp [Instr.sliceAt, run_underlying hu, Instr.sureAddr, hb, vf0 hT, e0]
    refine ⟨_, hr, ?_⟩;simp only [Rel];have hl := zX0 T.sz n cs;refine ⟨some ⟨g, off, none⟩, n, by rw [hl], by rw [hl]; exact Nat.le_refl _, hmx, fun k hk => by injection hk, .inr ⟨g, off, rfl, ?_⟩⟩;exact wap9 T.sz n cs g off hn hc
  ·cases h
end
section
variable {P : Program} {E : Env}
theorem vaT9 (a c : List UInt8) : ((⟨a.toArray⟩ : ByteArray) == ⟨c.toArray⟩) = decide (a = c) := by
 have : ((⟨a.toArray⟩ : ByteArray) == ⟨c.toArray⟩) = (a.toArray == c.toArray) := rfl;rw [this];simp only [List.beq_toArray];exact Bool.eq_iff_iff.2 (by simp)
theorem qbt9 {a b : AV} {u v : Value} (h : xbN9 a b = true) (ha : Rel E a u) (hb : Rel E b v) : a = b ∧ u = v ∧ ∀ D, Instr.sameBits D u v = true := by
 unfold xbN9 at h;split at h
 ·simp only [Bool.and_eq_true, beq_iff_eq] at h;obtain ⟨rfl, rfl⟩ := h;simp only [Rel] at ha hb;subst ha; subst hb;exact ⟨rfl, rfl, fun D => by cases D <;> simp [Instr.sameBits]⟩
 ·have h := beq_iff_eq.1 h; subst h;simp only [Rel] at ha hb;subst ha; subst hb;exact ⟨rfl, rfl, fun D => by cases D <;> simp [Instr.sameBits]⟩
 ·have h := beq_iff_eq.1 h; subst h;simp only [Rel] at ha hb;subst ha; subst hb;exact ⟨rfl, rfl, fun D => by cases D <;> simp [Instr.sameBits, vaT9]⟩
 ·cases h
theorem zbt9 : ∀ {as bs : List AV} {us vs : List Value}, wbN9 as bs = true → RelL E as us → RelL E bs vs → as = bs ∧ us = vs ∧ ∀ D, ((us.zip vs).all fun (x, y) => Instr.sameBits D x y) = true
 | [], [], us, vs, _, ha, hb => by
  simp only [RelL] at ha hb; subst ha; subst hb; simp
 | [], _ :: _, _, _, h, _, _ => by cases h
 | _ :: _, [], _, _, h, _, _ => by cases h
 | a :: as, b :: bs, us, vs, h, ha, hb => by
  simp only [wbN9, Bool.and_eq_true] at h;simp only [RelL] at ha hb;obtain ⟨u, us, rfl, h1, h2⟩ := ha;obtain ⟨v, vs, rfl, k1, k2⟩ := hb;obtain ⟨e1, e2, e3⟩ := qbt9 h.1 h1 k1;obtain ⟨f1, f2, f3⟩ := zbt9 h.2 h2 k2;subst e1; subst e2; subst f1; subst f2;exact ⟨rfl, rfl, fun D => by simp only [List.zip_cons_cons, List.all_cons, e3, Bool.true_and]; exact f3 D⟩
theorem vco9 {a b : AV} {u v : Value} (h : xQ0 a b = true) (ha : Rel E a u) (hb : Rel E b v) : a = b ∧ u = v ∧ Instr.sameBits 10000 u v = true := by
 unfold xQ0 at h;split at h
 ·simp only [Rel] at ha hb;obtain ⟨us, rfl, hu, _⟩ := ha;obtain ⟨vs, rfl, hv, _⟩ := hb;obtain ⟨e1, e2, e3⟩ := zbt9 h hu hv;subst e1; subst e2;refine ⟨rfl, rfl, ?_⟩;simp only [Instr.sameBits, beq_self_eq_true, Bool.true_and];exact e3 9999
 ·obtain ⟨e1, e2, e3⟩ := qbt9 h ha hb;exact ⟨e1, e2, e3 _⟩
theorem xv0 (w : World) (em : Bool) : ∀ (d : Nat) (t : TypeId) (x : AV) (v : Value), Rel E x v → keyA P d t x = true → ∀ D, d ≤ D → (Instr.checkKey em D t v).run P w = .ok () w
 | 0, t, x, v, _, h, _, _ => by simp [keyA] at h
 | d + 1, t, x, v, hx, h, D, hD => by
  obtain ⟨D, rfl⟩ : ∃ D', D = D' + 1 := ⟨D - 1, by omega⟩;unfold keyA at h;split at h
  ·rename_i kk k a hs;obtain ⟨T, hT, hsh⟩ := xc0 hs (by simp);have hu := zaI9 hT hsh;have e1 : v = .int k a := by simpa [Rel] using hx
   subst e1;simp [Instr.checkKey, run_underlying hu]
  ·rename_i a hs;obtain ⟨T, hT, hsh⟩ := xc0 hs (by simp);have hu := qaI9 hT hsh;have e1 : v = .bool a := by simpa [Rel] using hx
   subst e1;simp [Instr.checkKey, run_underlying hu]
  ·rename_i a hs;obtain ⟨T, hT, hsh⟩ := xc0 hs (by simp);have hu := wI0 hT hsh;have e1 : v = .string ⟨a.toArray⟩ := by simpa [Rel] using hx
   subst e1;simp [Instr.checkKey, run_underlying hu]
  ·rename_i n e cs hs;obtain ⟨T, hT, hsh⟩ := xc0 hs (by simp);have hu := zz0 hT hsh;simp only [Rel] at hx;obtain ⟨vs, rfl, hl, h1⟩ := hx;split at h
   ·rename_i F hF;have hi : ∃ i, P.info? e = some i ∧ i.size = F.sz := by
     obtain ⟨i, dd, z, hi, _, hz, _, hE⟩ := ve0 hF;exact ⟨i, hi, by rw [hE]⟩
    obtain ⟨i, hi, his⟩ := hi;rw [Instr.checkKey];simp only [Sem.run_bind, run_underlying hu, Result.andThen_ok];simp only [Std.Legacy.Range.forIn_eq_forIn_range', Std.Legacy.Range.size, Nat.sub_zero, Nat.add_one_sub_one, Nat.div_one];rw [List.range_eq_range'] at h;have each := List.all_eq_true.1 h;clear h;generalize List.range' 0 n = is at each;induction is with
    | nil => simp
    | cons j is ih =>
     have hj := each j (by simp);simp only [Bool.and_eq_true] at hj;obtain ⟨p, hp, hrp⟩ := wm0 (P := P) (w := w) hF hl h1 hj.1;have hc := xv0 w em d e _ p hrp hj.2 D (by omega);have hsz : (sizeOf e).run P w = .ok F.sz w := by simp [sizeOf, typeInfo, hi, his]
     simp only [List.forIn_cons, Sem.run_bind, hsz, Result.andThen_ok, Sem.run_pure, hp, hc];exact ih (fun y hy => each y (by simp [hy]))
   ·cases h
  ·rename_i fs cs hs;obtain ⟨T, hT, hsh⟩ := xc0 hs (by simp);obtain ⟨F, hu, hfs⟩ := qN0 hT hsh;simp only [Rel] at hx;obtain ⟨vs, rfl, hl, h1⟩ := hx;rw [Instr.checkKey];simp only [Sem.run_bind, run_underlying hu, Result.andThen_ok];subst hfs;rw [← Array.forIn_toList];have each := List.all_eq_true.1 h;clear h hu hsh hT hs;generalize F.toList = fs at *;induction fs with
   | nil => simp
   | cons f fs ih =>
    have hj := each (f.offset, f.type) (by simp);simp only at hj;split at hj
    ·rename_i G hG;simp only [Bool.and_eq_true] at hj;obtain ⟨p, hp, hrp⟩ := wm0 (P := P) (w := w) hG hl h1 hj.1;have hc := xv0 w em d f.type _ p hrp hj.2 D (by omega);have ih' := ih (fun y hy => each y (by simp at hy ⊢; exact .inr hy));by_cases hn : f.name = "_"
     ·simpa [List.forIn_cons, hn] using ih'
     ·simpa [List.forIn_cons, hn, Sem.run_bind, hp, hc] using ih'
    ·cases hj
  ·cases h
def zu0 (k : AV) : List (AV × AV) → List MapEntry → Nat → Option (Nat × Value)
 | p :: es, e :: ents, i => if xQ0 k p.1 = true then some (i, e.val) else zu0 k es ents (i + 1)
 | _, _, _ => none
def RelM (E : Env) : List (AV × AV) → List MapEntry → Prop
 | [], es => es = []
 | p :: ps, es => ∃ e r, es = e :: r ∧ Rel E p.1 e.key ∧ Rel E p.2 e.val ∧ RelM E ps r
theorem vbO9 : ∀ {es : List (AV × AV)} {l : List MapEntry}, es.length = l.length → (∀ (i : Nat) (p : AV × AV), es[i]? = some p → ∃ e, l[i]? = some e ∧ Rel E p.1 e.key ∧ Rel E p.2 e.val) → RelM E es l
 | [], l, hl, _ => List.eq_nil_of_length_eq_zero hl.symm
 | p :: es, [], hl, _ => by simp at hl
 | p :: es, e :: l, hl, h => by
  obtain ⟨e', he, h1, h2⟩ := h 0 p rfl;simp at he; subst he;exact ⟨e, l, rfl, h1, h2, vbO9 (by simpa using hl) fun i p hi => by simpa using h (i + 1) p (by simpa using hi)⟩
theorem kaI9 : ∀ {es : List (AV × AV)} {l : List MapEntry}, RelM E es l → es.length = l.length ∧ ∀ (i : Nat) (p : AV × AV), es[i]? = some p → ∃ e, l[i]? = some e ∧ Rel E p.1 e.key ∧ Rel E p.2 e.val
 | [], l, h => by simp only [RelM] at h; subst h; simp
 | p :: es, l, h => by
  simp only [RelM] at h;obtain ⟨e, r, rfl, h1, h2, h3⟩ := h;obtain ⟨l1, l2⟩ := kaI9 h3;refine ⟨by simp [l1], fun i q hi => ?_⟩;cases i with
  | zero => simp at hi; subst hi; exact ⟨e, rfl, h1, h2⟩
  | succ i => simpa using l2 i q (by simpa using hi)
theorem mapIn_iff {es : List (AV × AV)} {ents : Array MapEntry} : MapIn E es ents ↔ RelM E es ents.toList :=
 ⟨fun h => vbO9 (by simpa using h.1) fun i p hi => by simpa using h.2 i p hi, fun h => ⟨by simpa using (kaI9 h).1, fun i p hi => by simpa using (kaI9 h).2 i p hi⟩⟩
theorem xR0 (w : World) {kT : TypeId} {k : AV} {kv : Value} (hk : Rel E k kv) (hT : eqTy P 8 kT = true) : ∀ (es : List (AV × AV)) (ents : List MapEntry) (i : Nat), RelM E es ents → (es.all fun p => (eqA P 8 kT k p.1).1 && ((eqA P 8 kT k p.1).2 == xQ0 k p.1)) = true →
  (Instr.findAsking kT kv ents i).run P w = .ok (zu0 k es ents i) w
 | [], ents, i, hr, _ => by simp only [RelM] at hr; subst hr; simp [Instr.findAsking, zu0]
 | p :: es, ents, i, hr, h => by
  simp only [RelM] at hr;obtain ⟨e, r, rfl, h1, h2, h3⟩ := hr;simp only [List.all_cons, Bool.and_eq_true, beq_iff_eq] at h;have he := zaT9 (P := P) w 8 kT _ _ _ _ hk h1 hT h.1.1 10000 (by decide);have ih := xR0 w hk hT es r (i + 1) h3 (by simpa using h.2);unfold Instr.findAsking zu0;have he' : (Op.equal kT kv e.key).run P w = .ok (eqA P 8 kT k p.1).2 w := he;simp only [Sem.run_bind, he', Result.andThen_ok, h.1.2];cases xQ0 k p.1
  ·simpa using ih
  ·simp
theorem xaC9 {kT : TypeId} {kd : TypeDesc} {k : AV} {kv : Value} (hkd : P.underlying kT = some kd) (hk : Rel E k kv) : ∀ (es : List (AV × AV)) (ents : List MapEntry) (i : Nat) (r : Option (Nat × Value)), RelM E es ents → (es.all fun p => (eqA P 8 kT k p.1).1 && ((eqA P 8 kT k p.1).2 == xQ0 k p.1)) = true →
  Instr.findNow kd kv ents i = some r → r = zu0 k es ents i
 | [], ents, i, r, hr, _, hf => by
  simp only [RelM] at hr; subst hr;simp only [Instr.findNow, Option.some.injEq] at hf;subst hf; simp [zu0]
 | p :: es, ents, i, r, hr, h, hf => by
  simp only [RelM] at hr;obtain ⟨e, l, rfl, h1, h2, h3⟩ := hr;simp only [List.all_cons, Bool.and_eq_true, beq_iff_eq] at h;have key : ∀ b, Instr.sameNow kd kv e.key = some b → b = xQ0 k p.1 := by
   intro b hb;have h11 := h.1.1;rw [← h.1.2];unfold eqA at h11 ⊢;split at h11
   ·rename_i kk k1 a k2 c hs hp;rw [hp] at h1;have e1 : kv = .int k1 a := by simpa [Rel] using hk
    have e2 : e.key = .int k2 c := by simpa [Rel] using h1
    rw [e1, e2] at hb;have hkk : k1 = k2 := by simpa using h11
    subst hkk;unfold Instr.sameNow at hb;split at hb
    ·rename_i q1 q2 q3;cases q2; cases q3
     simp at hb;rw [← hb];exact Bool.eq_iff_iff.2 (by simp)
    ·cases ‹Value.int _ _ = .string _›
    ·cases ‹Value.int _ _ = .bool _›
    ·cases hb
   ·rename_i a c hs hp;rw [hp] at h1;have e1 : kv = .bool a := by simpa [Rel] using hk
    have e2 : e.key = .bool c := by simpa [Rel] using h1
    rw [e1, e2] at hb;unfold Instr.sameNow at hb;split at hb
    ·cases ‹Value.bool _ = .int _ _›
    ·cases ‹Value.bool _ = .string _›
    ·rename_i q2 q3;cases q2; cases q3
     simp at hb;rw [← hb]
    ·cases hb
   ·rename_i a c hs hp;rw [hp] at h1;have e1 : kv = .string ⟨a.toArray⟩ := by simpa [Rel] using hk
    have e2 : e.key = .string ⟨c.toArray⟩ := by simpa [Rel] using h1
    rw [e1, e2] at hb;unfold Instr.sameNow at hb;split at hb
    ·cases ‹Value.string _ = .int _ _›
    ·rename_i q2 q3;cases q2; cases q3
     simp only [Option.some.injEq] at hb;rw [← hb];exact vaT9 a c
    ·cases ‹Value.string _ = .bool _›
    ·cases hb
   ·simp only [Rel] at hk;obtain ⟨us, rfl, _⟩ := hk;simp [Instr.sameNow] at hb
   ·simp only [Rel] at hk;obtain ⟨us, rfl, _⟩ := hk;simp [Instr.sameNow] at hb
   ·cases h11
  unfold Instr.findNow at hf;split at hf
  ·rename_i hs;have := key _ hs;rw [zu0, ← this, if_pos rfl];injection hf with hf; exact hf.symm
  ·rename_i hs;have := key _ hs;rw [zu0, ← this, if_neg (by simp)];exact xaC9 hkd hk es l (i + 1) r h3 (by simpa using h.2) hf
  ·cases hf
theorem vap9 (w : World) {kT : TypeId} {k : AV} {kv : Value} {es : List (AV × AV)} {ents : List MapEntry} (hk : Rel E k kv) (hr : RelM E es ents) (h : vaS9 P kT es k = true) :
  (Instr.findKey kT kv ents).run P w = .ok (zu0 k es ents 0) w := by
 simp only [vaS9, Bool.and_eq_true] at h;have hu : ∃ kd, P.underlying kT = some kd := by
  have h1 := h.1.1;unfold eqTy at h1;split at h1 <;> first|exact ⟨_, by assumption⟩|cases h1
 obtain ⟨kd, hkd⟩ := hu;unfold Instr.findKey;simp only [Sem.run_bind, run_underlying hkd, Result.andThen_ok];split
 ·rename_i r hf;rw [xaC9 hkd hk es ents 0 r hr h.2 hf]; simp
 ·exact xR0 w hk h.1.1 es ents 0 hr h.2
theorem waC9 {k z : AV} : ∀ (es : List (AV × AV)) (ents : List MapEntry) (i : Nat), RelM E es ents →
  match zu0 k es ents i with
  | some q => hasA es k = true ∧ Rel E (xao9 z es k) q.2
  | none => hasA es k = false ∧ xao9 z es k = z
 | [], ents, i, hr => by simp [zu0, hasA, xao9]
 | p :: es, ents, i, hr => by
  simp only [RelM] at hr;obtain ⟨e, l, rfl, h1, h2, h3⟩ := hr;simp only [zu0];by_cases hs : xQ0 k p.1 = true
  ·rw [if_pos hs];simp only [hasA, xao9, List.any_cons, List.find?_cons, hs, Bool.true_or, true_and];exact h2
  ·rw [if_neg hs];have ih := waC9 (k := k) (z := z) es l (i + 1) h3;have hs' : xQ0 k p.1 = false := by simpa using hs
   have e1 : hasA (p :: es) k = hasA es k := by simp [hasA, hs']
   have e2 : xao9 z (p :: es) k = xao9 z es k := by simp [xao9, List.find?_cons, hs']
   rw [e1, e2];exact ih
end
section
variable {P : Program} {S : St} {H : List Blk}
theorem kco9 (hok : S.Ok H) {x : AV} {v : Value} {es : List (AV × AV)} (hx : Rel (S.env H) x v) (h : qz0 H x = some es) :
  ∃ ents : Array MapEntry, RelM (S.env H) es ents.toList ∧ ((v = .map none ∧ ents = #[]) ∨ ∃ g clock, v = .map (some g) ∧ S.w.heap[g]? = some (.map ents clock)) := by
 unfold qz0 at h;split at h
 ·rename_i b;split at h
  ·rename_i kt vt es' hb;injection h with h; subst h
   simp only [Rel] at hx;obtain ⟨g, hg, rfl⟩ := hx;have hg : S.ν b = some g := by
    have : mpOf S.ν H b = some g := hg;simpa [mpOf, hb] using this
   obtain ⟨g', o, h1, h2, h3, ents, clock, rfl, h5⟩ := hok.ob b _ hb;rw [hg] at h1; injection h1 with h1; subst h1
   exact ⟨ents, mapIn_iff.1 h5, .inr ⟨g, clock, rfl, h3⟩⟩
  ·cases h
 ·injection h with h; subst h
  have : v = .map none := by simpa [Rel] using hx
  subst this;exact ⟨#[], rfl, .inl ⟨rfl, rfl⟩⟩
 ·cases h
theorem qcp9 {t : TypeId} {T : TI} (hT : kc0 P t = some T) (w : World) (E : Env) : ∃ z, (zeroValue t).run P w = .ok z w ∧ Rel E (zbC9 P t) z := by
 obtain ⟨i, d, z, hi, _, hz, _, _⟩ := ve0 hT;refine ⟨z, ?_, ?_⟩
 ·simp [zeroValue, typeInfo, hi, hz]
 ·simp only [zbC9, hi, hz]; exact kaR9 E z
theorem wbC9 (hok : S.Ok H) {t : TypeId} {x ix : AV} {u v : Value} (hx : Rel (S.env H) x u) (hi : Rel (S.env H) ix v) (ok : Bool) (h : (wao9 P H t x ix ok).1 = true) :
  ∃ r, (Instr.lookup t u v ok).run P S.w = .ok r S.w ∧ Rel (S.env H) (wao9 P H t x ix ok).2 r := by
 unfold wao9 at h ⊢;split at h
 ·rename_i kT eT hs;obtain ⟨T, hT, hsh⟩ := xc0 hs (by simp);have hu := qae9 hT hsh;split at h
  ·rename_i F es hF hm;obtain ⟨ents, hr, hv⟩ := kco9 hok hx hm;have hmk := h;simp only [vaS9, Bool.and_eq_true] at h;have hck := xv0 (P := P) S.w ents.isEmpty 8 kT ix v hi h.1.2 10000 (by decide);have hfk := vap9 S.w hi hr hmk;obtain ⟨z, hz, hzr⟩ := qcp9 hF S.w (S.env H);have hlook := waC9 (k := ix) (z := zbC9 P eT) es ents.toList 0 hr;have key : (Instr.lookup t u v ok).run P S.w = .ok (match zu0 ix es ents.toList 0 with|some q => (if ok = true then Value.tuple #[q.2, .bool true] else q.2)|none => (if ok = true then Value.tuple #[z, .bool false] else z)) S.w := by
    unfold Instr.lookup;rcases hv with ⟨rfl, rfl⟩|⟨g, clock, rfl, hg⟩
    ·simp only [Sem.run_bind, Sem.run_pure, run_underlying hu, Result.andThen_ok, hck, hfk];cases zu0 ix es (#[] : Array MapEntry).toList 0 <;> simp only [Sem.run_bind, Sem.run_pure, Result.andThen_ok, hz]
    ·have hgo : (getObj g).run P S.w = .ok (.map ents clock) S.w := by simp [getObj, Sem.run, hg]
     simp only [Sem.run_bind, Sem.run_pure, run_underlying hu, Result.andThen_ok, hgo, hck, hfk];cases zu0 ix es ents.toList 0 <;> simp only [Sem.run_bind, Sem.run_pure, Result.andThen_ok, hz]
   refine ⟨_, key, ?_⟩;simp only [hF, hm];cases hq : zu0 ix es ents.toList 0 with
   | none =>
    rw [hq] at hlook;simp only [hlook.1, hlook.2];cases ok
    ·exact hzr
    ·simp only [cond_true, if_true, Rel];exact ⟨[z, .bool false], rfl, by simp only [RelL]; exact ⟨_, _, rfl, hzr, _, _, rfl, by simp [Rel], rfl⟩⟩
   | some q =>
    rw [hq] at hlook;simp only [hlook.1];cases ok
    ·exact hlook.2
    ·simp only [cond_true, if_true, Rel];exact ⟨[q.2, .bool true], rfl, by simp only [RelL]; exact ⟨_, _, rfl, hlook.2, _, _, rfl, by simp [Rel], rfl⟩⟩
  ·cases h
 ·cases h
end
section
variable {P : Program} {S : St} {H : List Blk}
def Yields (P : Program) (S : St) (H : List Blk) (x : Sem Next) (r : AV) : Prop :=
 ∃ v S', x.run P S.w = .ok (.value v) S'.w ∧ S'.Ok H ∧ Ext H.length S H S' H ∧ Rel (S'.env H) r v
theorem Yields.same (hok : S.Ok H) {x : Sem Value} {r : AV} {v : Value} (h : x.run P S.w = .ok v S.w) (hr : Rel (S.env H) r v) : Yields P S H (do pure (.value (← x))) r :=
 ⟨v, S, by simp [h], hok, Ext.refl _ _ _, hr⟩
theorem Yields.of (hok : S.Ok H) {x : Sem Value} {r : AV} (h : ∃ v, x.run P S.w = .ok v S.w ∧ Rel (S.env H) r v) : Yields P S H (do pure (.value (← x))) r :=
 let ⟨_, h1, h2⟩ := h
 Yields.same hok h1 h2
theorem xam9 {E : Env} {ρ : Operand → AV} {ρv : Operand → Value} (hρ : ∀ x, Rel E (ρ x) (ρv x)) (x : Option Operand) (h : (x.all fun y => (ρ y).ok) = true) : RelO E (x.map fun y => (ρ y).strip) (x.map ρv) := by
 cases x with
 | none => rfl
 | some y => exact ⟨_, rfl, (hρ y).strip (by simpa using h)⟩
theorem zcp9 (hok : S.Ok H) {ρ : Operand → AV} {ρv : Operand → Value} (hρ : ∀ x, Rel (S.env H) (ρ x) (ρv x)) (hconst : ∀ v, ρv (.const v) = v) (o : Oper) (h : (zf0 P o.op ρ H).1 = true) :
  Yields P S H (execOp ρv o) (zf0 P o.op ρ H).2 := by
 obtain ⟨dst, op, type, pos, after, guard⟩ := o;simp only at h ⊢;have st : ∀ x, (ρ x).ok = true → Rel (S.env H) (ρ x).strip (ρv x) := fun x hx => (hρ x).strip hx;cases op with
 | move x => exact ⟨ρv x, S, rfl, hok, Ext.refl _ _ _, st x h⟩
 | assign x => exact ⟨ρv x, S, rfl, hok, Ext.refl _ _ _, st x h⟩
 | pick c x y =>
  simp only [zf0] at h ⊢;split at h
  ·rename_i b hb;simp only [Bool.and_eq_true] at h;have hc := st c h.1;rw [hb] at hc;have hcv : ρv c = .bool b := by simpa [Rel] using hc
   refine ⟨if b = true then ρv x else ρv y, S, ?_, hok, Ext.refl _ _ _, ?_⟩
   ·simp [execOp, hcv, asBool]
   ·refine Rel.ite (fun hb' => ?_) fun hb' => ?_
    ·subst hb'; exact st x (by simpa using h.2)
    ·subst hb'; exact st y (by simpa using h.2)
  ·cases h
 | load t p =>
  simp only [zf0, Bool.and_eq_true] at h ⊢;exact Yields.of hok (kbs9 hok (st p h.1) h.2)
 | nilCheck x =>
  simp only [zf0] at h ⊢;split at h
  ·rename_i b i o hh hx;simp only [Bool.and_eq_true] at h;have hr := st x h.1;rw [hx] at hr;obtain ⟨s, g, k, hs, hg, hv⟩ := kB0 hr h.2;exact ⟨ρv x, S, by simp [execOp, hv], hok, Ext.refl _ _ _, hr⟩
  ·rename_i cs o hx;have hr := st x h;rw [hx] at hr;have hr' := hr;simp only [Rel] at hr';obtain ⟨g, off, hv, _⟩ := hr';exact ⟨ρv x, S, by simp [execOp, hv], hok, Ext.refl _ _ _, hr⟩
  ·rename_i f c hx;have hr := st x h;rw [hx] at hr;have hr' := hr;simp only [Rel] at hr';obtain ⟨vs, hv, _⟩ := hr';exact ⟨ρv x, S, by simp [execOp, hv], hok, Ext.refl _ _ _, hr⟩
  ·cases h
 | fieldAddr s x f =>
  simp only [zf0, Bool.and_eq_true] at h ⊢;exact Yields.of hok (xaI9 hok (st x h.1) h.2)
 | field s x f =>
  simp only [zf0, Bool.and_eq_true] at h ⊢;exact Yields.of hok (vbN9 (st x h.1) h.2)
 | indexAddr t x i =>
  simp only [zf0, Bool.and_eq_true] at h ⊢;exact Yields.of hok (waI9 hok (st x h.1) (st i h.2.1) h.2.2)
 | index t x i =>
  simp only [zf0, Bool.and_eq_true] at h ⊢;exact Yields.of hok (kbN9 (st x h.1) (st i h.2.1) h.2.2)
 | binOp op t x y yt =>
  simp only [zf0] at h ⊢;split at h
  ·rename_i neg v hn;simp only [Bool.and_eq_true] at h;have hy := (zaj9 hn).1;have := zcP9 op t x y hn (st x h.1) h.2;have hv : ρv y = v := by rw [hy]; exact hconst v
   rw [← hv] at this;rw [← hv];exact Yields.of hok this
  ·simp only [Bool.and_eq_true] at h;exact Yields.of hok (qcP9 op t x y (st x h.1) (st y h.2.1) h.2.2)
 | unOp op t x =>
  simp only [zf0, Bool.and_eq_true] at h ⊢;exact Yields.of hok (kdh9 (st x h.1) h.2)
 | convert src dst x =>
  simp only [zf0, Bool.and_eq_true] at h ⊢;exact Yields.of hok (vbh9 hok (st x h.1) h.2)
 | extract x i =>
  simp only [zf0] at h ⊢;split at h
  ·rename_i vs hx;split at h
   ·rename_i v hv;have hr := st x h;rw [hx] at hr;simp only [Rel] at hr;obtain ⟨us, hu, hl⟩ := hr;obtain ⟨u, hu2, hr2⟩ := hl.get hv;exact ⟨u, S, by simp [execOp, hu, Instr.extract, hu2], hok, Ext.refl _ _ _, hr2⟩
   ·cases h
  ·cases h
 | slice t x lo hi mx =>
  simp only [zf0, Bool.and_eq_true] at h ⊢;exact Yields.of hok (wbO9 (st x h.1.1.1.1) (xam9 hρ lo h.1.1.1.2) (xam9 hρ hi h.1.1.2) (xam9 hρ mx h.1.2) h.2)
 | build t parts =>
  simp only [zf0, Bool.and_eq_true, List.all_eq_true] at h ⊢;refine Yields.of hok (zbO9 (by simp) (fun i p q hp hq => ?_) h.2);simp only [Array.toList_map, List.getElem?_map] at hp hq;cases hx : parts.toList[i]? with
  | none => rw [hx] at hp; cases hp
  | some z =>
   rw [hx] at hp hq;injection hp with hp; injection hq with hq; subst hp; subst hq
   exact ⟨rfl, st z.2 (h.1 z (List.mem_of_getElem? hx))⟩
 | buildSlice t len parts =>
  simp only [zf0, Bool.and_eq_true, List.all_eq_true] at h ⊢;obtain ⟨r, C, ce, hr, hrr⟩ := way9 (P := P) hok (t := t) (len := len) (parts := parts.toList.map fun p => (p.1, (ρ p.2).strip)) (pv := parts.map fun p => (p.1, ρv p.2)) (by simp) (fun i p q hp hq => by
   simp only [Array.toList_map, List.getElem?_map] at hp hq;cases hx : parts.toList[i]? with
   | none => rw [hx] at hp; cases hp
   | some z =>
    rw [hx] at hp hq;injection hp with hp; injection hq with hq; subst hp; subst hq
    exact ⟨rfl, st z.2 (h.1 z (List.mem_of_getElem? hx))⟩) h.2
  exact ⟨r, S.imm (.cells C ce), by simp [execOp, hr], vdh9 hok C ce, vaI9 hok C ce, hrr⟩
 | makeFunc fn first captured =>
  cases fn with
  | func f =>
   refine ⟨_, S, rfl, hok, Ext.refl _ _ _, ?_⟩;cases hf : first.toList with
   | nil =>
    simp only [zf0, hf, List.all_eq_true] at h ⊢;have hfe : first = #[] := by apply Array.ext'; simpa using hf
    simp only [Rel, hfe];refine ⟨captured.toList.map ρv, by simp; apply Array.ext'; simp, RelL.mk (by simp) fun i a v ha hv => ?_⟩;simp only [List.getElem?_map] at ha hv;cases hx : captured.toList[i]? with
    | none => rw [hx] at ha; cases ha
    | some z =>
     rw [hx] at ha hv;injection ha with ha; injection hv with hv; subst ha; subst hv
     exact st z (h z (List.mem_of_getElem? hx))
   | cons x0 xs =>
    simp only [zf0, hf, Bool.and_eq_true] at h ⊢;have hce : captured = #[] := by
     have := h.1;rw [List.isEmpty_iff] at this;apply Array.ext'; simpa using this
    have hfs : first = (x0 :: xs).toArray := by apply Array.ext'; simpa using hf
    simp only [Rel, hce, hfs];refine ⟨(x0 :: xs).map ρv, by simp, RelL.mk (by simp) fun i a v ha hv => ?_⟩;rw [List.getElem?_map] at ha hv;cases hx : (x0 :: xs)[i]? with
    | none => rw [hx] at ha; cases ha
    | some z =>
     rw [hx] at ha hv;injection ha with ha; injection hv with hv; subst ha; subst hv
     exact st z (List.all_eq_true.1 h.2 z (List.mem_of_getElem? hx))
  | _ => cases h
 | lookup t x i ok =>
  simp only [zf0, Bool.and_eq_true] at h ⊢;exact Yields.of hok (wbC9 hok (st x h.1) (st i h.2.1) ok h.2.2)
 | call c =>
  obtain ⟨callee, args, argTypes⟩ := c;cases callee with
  | builtin b =>
   cases b with
   | len =>
    simp only [zf0] at h ⊢;split at h
    ·rename_i x t ts ha ht;simp only [Bool.and_eq_true] at h;obtain ⟨u, hu, hr⟩ := xcP9 (P := P) hok (ts := argTypes) (t := t) (by rw [← Array.getElem?_toList, ht]; rfl) type (st x h.1) h.2;refine ⟨u, S, ?_, hok, Ext.refl _ _ _, hr⟩;have : args.map ρv = #[ρv x] := by apply Array.ext'; simp [ha]
     simp [execOp, resolve, invoke, builtin, this, hu]
    ·cases h
   | cap =>
    simp only [zf0] at h ⊢;split at h
    ·rename_i x t ts ha ht;simp only [Bool.and_eq_true] at h;obtain ⟨u, hu, hr⟩ := wcP9 (P := P) (ts := argTypes) (t := t) (by rw [← Array.getElem?_toList, ht]; rfl) type (st x h.1) h.2;refine ⟨u, S, ?_, hok, Ext.refl _ _ _, hr⟩;have : args.map ρv = #[ρv x] := by apply Array.ext'; simp [ha]
     simp [execOp, resolve, invoke, builtin, this, hu]
    ·cases h
   | max =>
    simp only [zf0] at h ⊢;split at h
    ·rename_i x y ha;simp only [Bool.and_eq_true] at h;obtain ⟨u, hu, hr⟩ := vcP9 (P := P) (ts := argTypes) (ty := type) (st x h.1) (st y h.2.1) h.2.2;refine ⟨u, S, ?_, hok, Ext.refl _ _ _, hr⟩;have : args.map ρv = #[ρv x, ρv y] := by apply Array.ext'; simp [ha]
     simp [execOp, resolve, invoke, builtin, this, hu]
    ·cases h
   | min =>
    simp only [zf0] at h ⊢;split at h
    ·rename_i x y ha;simp only [Bool.and_eq_true] at h;obtain ⟨u, hu, hr⟩ := kcP9 (P := P) (ts := argTypes) (ty := type) (st x h.1) (st y h.2.1) h.2.2;refine ⟨u, S, ?_, hok, Ext.refl _ _ _, hr⟩;have : args.map ρv = #[ρv x, ρv y] := by apply Array.ext'; simp [ha]
     simp [execOp, resolve, invoke, builtin, this, hu]
    ·cases h
   | _ => cases h
  | _ => cases h
 | _ => cases h
end
end Go.V

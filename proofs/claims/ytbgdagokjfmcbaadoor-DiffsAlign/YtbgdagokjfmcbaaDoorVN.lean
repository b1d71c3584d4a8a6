/- The library V: maps are made and written. -/
import Derived.Test.YtbgdagokjfmcbaaDoorV9
import Derived.Deep.Draws
import Derived.RangeFuncRecord
set_option linter.unusedVariables false
set_option linter.unusedSimpArgs false
namespace Go.V
open Go Go.RowKit
def upd {α : Type} (f : Nat → α) (b : Nat) (v : α) : Nat → α := fun x => if x = b then v else f x
theorem qf0 {α : Type} (f : Nat → α) (b : Nat) (v : α) : upd f b v b = v := by simp [upd]
theorem kg0 {α : Type} (f : Nat → α) {b x : Nat} (v : α) (h : x ≠ b) : upd f b v x = f x := by simp [upd, h]
section
variable {P : Program} {S : St} {H : List Blk}
theorem qp0 {b s : Nat} {t : TypeId} {es : List (List AV)} (h : b < H.length) : shOf (H.set b (.row s t es)) b = some (s, es.length) := by
 simp [shOf, h]
theorem kap9 {b x : Nat} {B : Blk} (h : x ≠ b) : shOf (H.set b B) x = shOf H x := by
 simp only [shOf, List.getElem?_set_ne (Ne.symm h)]
theorem qaq9 {ν : Nat → Option Nat} {b x : Nat} {B : Blk} (h : x ≠ b) : mpOf ν (H.set b B) x = mpOf ν H x := by
 simp only [mpOf, List.getElem?_set_ne (Ne.symm h)]
theorem kA0 {b : Nat} {B : Blk} (h : b < H.length) : shOf (H ++ [B]) b = shOf H b := by
 simp only [shOf, List.getElem?_append_left h]
theorem kj0 {s : Nat} {t : TypeId} {es : List (List AV)} : shOf (H ++ [.row s t es]) H.length = some (s, es.length) := by
 simp [shOf]
theorem qB0 {ν : Nat → Option Nat} {b : Nat} {B : Blk} (h : b < H.length) : mpOf ν (H ++ [B]) b = mpOf ν H b := by
 simp only [mpOf, List.getElem?_append_left h]
def St.put (S : St) (g : Nat) (cs : Array Value) : St := { S with w := S.w.setRow g cs }
theorem wcK9 (g : Nat) (cs : Array Value) {b s : Nat} {t t' : TypeId} {s' : Nat} {es es' : List (List AV)} (hb : H[b]? = some (.row s t es)) (x : Nat) : (S.put g cs).at (H.set b (.row s' t' es')) x = S.at H x := by
 by_cases hx : x = b
 ·subst hx;have hlt := (List.getElem?_eq_some_iff.1 hb).1;simp only [St.at, St.put, List.getElem?_set_self hlt, hb]
 ·simp only [St.at, St.put, List.getElem?_set_ne (Ne.symm hx)]
theorem zaq9 (hok : S.Ok H) {b s g k : Nat} {t : TypeId} {es es' : List (List AV)} {cs : Array Value} (cs' : Array Value) (hb : H[b]? = some (.row s t es)) (hg : S.μ b = some (g, k)) (hl : es.length ≤ es'.length) :
  Ext H.length S H (S.put g cs') (H.set b (.row s t es')) where
 os := rfl
 tape := rfl
 output := rfl
 size := by simp [St.put, World.setRow]
 keep i hi hno := by
  refine setRow_other S.w g i cs' fun e => hno ⟨b, ?_⟩;subst e;simp [St.at, hb, hg]
 M i o h := h
 dom i h := .inl h
 own i h := by
  obtain ⟨x, hx⟩ := h;rw [wcK9 g cs' hb] at hx;exact .inl ⟨x, hx⟩
 sh x s' cur hx hs := by
  by_cases e : x = b
  ·subst e;rw [qo0 hb] at hs;injection hs with hs; injection hs with h1 h2; subst h1
   exact ⟨es'.length, by omega, qp0 hx, fun _ => rfl⟩
  ·exact ⟨cur, Nat.le_refl _, by rw [kap9 e]; exact hs, fun _ => rfl⟩
 ν x g' hx hs := by
  by_cases e : x = b
  ·subst e; simp [mpOf, hb] at hs
  ·rw [qaq9 e]; exact hs
 len h := by simp
theorem xbt9 (hok : S.Ok H) {b s g k : Nat} {t : TypeId} {es es' : List (List AV)} {cs' : Array Value} (hb : H[b]? = some (.row s t es)) (hg : S.μ b = some (g, k)) (hl : es.length ≤ es'.length) (hk : es'.length ≤ k)
  (hsz : cs'.size = k * s) (hrow : RowIn (S.env H) s es' cs') : (S.put g cs').Ok (H.set b (.row s t es')) := by
 have hext := zaq9 hok cs' hb hg hl (cs := cs');have hle := hext.le (Nat.le_refl _);have hne : ∀ x, x ≠ b → ∀ g', S.at H x = some g' → g' ≠ g := fun x hx g' hx' e => hx (hok.inj x b g (by rw [← e]; exact hx') (by simp [St.at, hb, hg]));obtain ⟨g0, k0, cs, q1, q2, q3, q4, q5, q6, q7⟩ := (hok.row b s t es hb).resolve_left (fun h => by rw [h.1] at hg; cases hg);rw [hg] at q1; injection q1 with q1; injection q1 with e1 e2; subst e1; subst e2
 have hMg : ∀ i o, S.M i = some o → i ≠ g := fun i o hi e => by rw [e, q2] at hi; cases hi
 refine ⟨fun i o hi => ?_, fun x s' t' es2 hx => ?_, fun x ob0 hx => ?_, fun x y g' hx hy => ?_⟩
 ·show (S.w.setRow g cs').heap[i]? = some o;rw [setRow_other S.w g i cs' (hMg i o hi)];exact hok.imm i o hi
 ·by_cases e : x = b
  ·subst e;have hlt := (List.getElem?_eq_some_iff.1 hb).1;rw [List.getElem?_set_self hlt] at hx;injection hx with hx; injection hx with h1 h2 h3; subst h1; subst h2; subst h3
   exact .inr ⟨g, k, cs', hg, q2, setRow_heap S.w g cs cs' t (0, 0) q3, hsz, hk, q6, hrow.mono hle⟩
  ·rw [List.getElem?_set_ne (Ne.symm e)] at hx;rcases hok.row x s' t' es2 hx with h|⟨g', k', cs2, h1, h2, h3, h4, h5, h6, h7⟩
   ·exact .inl h
   ·refine .inr ⟨g', k', cs2, h1, h2, ?_, h4, h5, h6, h7.mono hle⟩;show (S.w.setRow g cs').heap[g']? = _;rw [setRow_other S.w g g' cs' (hne x e g' (by simp [St.at, hx, h1]))];exact h3
 ·have e : x ≠ b := by
   rintro rfl;have hlt := (List.getElem?_eq_some_iff.1 hb).1;rw [List.getElem?_set_self hlt] at hx;cases hx
  rw [List.getElem?_set_ne (Ne.symm e)] at hx;obtain ⟨g', ob1, h1, h2, h3, h4⟩ := hok.ob x ob0 hx;refine ⟨g', ob1, h1, h2, ?_, h4.mono hle⟩;show (S.w.setRow g cs').heap[g']? = _;rw [setRow_other S.w g g' cs' (hne x e g' (by simp [St.at, hx, h1]))];exact h3
 ·rw [wcK9 g cs' hb] at hx hy;exact hok.inj x y g' hx hy
def St.fresh (S : St) (b k : Nat) (t : TypeId) (cs : Array Value) (n : Nat) : St := { S with μ := upd S.μ b (some (S.w.heap.size, k)), w := (S.w.drewN n).alloc (.cells cs t) }
theorem wam9 (hok : S.Ok H) {b s : Nat} {t : TypeId} {es es' : List (List AV)} (k : Nat) (cs : Array Value) (n : Nat) (hb : H[b]? = some (.row s t es)) (hl : es.length < es'.length) :
  Ext H.length S H (S.fresh b k t cs n) (H.set b (.row s t es')) where
 os := rfl
 tape := rfl
 output := rfl
 size := by simp [St.fresh]
 keep i hi hno := Below.heap_alloc (S.w.drewN n) (.cells cs t) i hi
 M i o h := h
 dom i h := .inl h
 own i h := by
  obtain ⟨x, hx⟩ := h;by_cases e : x = b
  ·subst e;have hlt := (List.getElem?_eq_some_iff.1 hb).1;simp [St.at, St.fresh, qf0, hlt] at hx;exact .inr (by omega)
  ·left
   refine ⟨x, ?_⟩;simpa only [St.at, St.fresh, List.getElem?_set_ne (Ne.symm e), kg0 _ _ e] using hx
 sh x s' cur hx hs := by
  by_cases e : x = b
  ·subst e;rw [qo0 hb] at hs;injection hs with hs; injection hs with h1 h2; subst h1
   exact ⟨es'.length, by omega, qp0 hx, fun q => by omega⟩
  ·exact ⟨cur, Nat.le_refl _, by rw [kap9 e]; exact hs, fun _ => kg0 _ _ e⟩
 ν x g' hx hs := by
  by_cases e : x = b
  ·subst e; simp [mpOf, hb] at hs
  ·rw [qaq9 e]; exact hs
 len h := by simp
theorem wi0 (b k : Nat) (t : TypeId) (cs : Array Value) (n : Nat) {i : Nat} {o : Obj} (h : S.w.heap[i]? = some o) : (S.fresh b k t cs n).w.heap[i]? = some o := by
 have hlt := (Array.getElem?_eq_some_iff.1 h).1;show ((S.w.drewN n).alloc (.cells cs t)).heap[i]? = _;rw [Below.heap_alloc (S.w.drewN n) (.cells cs t) i hlt];exact h
theorem wR0 (b k : Nat) (t : TypeId) (cs : Array Value) (n : Nat) : (S.fresh b k t cs n).w.heap[S.w.heap.size]? = some (.cells cs t (0, 0)) := heap_alloc_new (S.w.drewN n) _
theorem kbh9 (hok : S.Ok H) {b s : Nat} {t : TypeId} {es es' : List (List AV)} {k : Nat} {cs : Array Value} (n : Nat) (hb : H[b]? = some (.row s t es)) (hl : es.length < es'.length) (hk : es'.length ≤ k) (hm : k ≤ maxLen)
  (hsz : cs.size = k * s) (hrow : RowIn (S.env H) s es' cs) : (S.fresh b k t cs n).Ok (H.set b (.row s t es')) := by
 have hle := (wam9 hok k cs n hb hl).le (Nat.le_refl _);have hnew : S.M S.w.heap.size = none := by
  cases ho : S.M S.w.heap.size with
  | none => rfl
  | some o => have := M_lt hok (k := S.w.heap.size) (by rw [ho]; simp); omega
 have hat : ∀ x, x ≠ b → (S.fresh b k t cs n).at (H.set b (.row s t es')) x = S.at H x := fun x e => by
  simp only [St.at, St.fresh, List.getElem?_set_ne (Ne.symm e), kg0 _ _ e]
 have hatb : (S.fresh b k t cs n).at (H.set b (.row s t es')) b = some S.w.heap.size := by
  have hlt := (List.getElem?_eq_some_iff.1 hb).1;simp [St.at, St.fresh, qf0, hlt]
 refine ⟨fun i o hi => wi0 b k t cs n (hok.imm i o hi), fun x s' t' es2 hx => ?_, fun x ob0 hx => ?_, fun x y g' hx hy => ?_⟩
 ·by_cases e : x = b
  ·subst e;have hlt := (List.getElem?_eq_some_iff.1 hb).1;rw [List.getElem?_set_self hlt] at hx;injection hx with hx; injection hx with h1 h2 h3; subst h1; subst h2; subst h3
   exact .inr ⟨S.w.heap.size, k, cs, qf0 _ _ _, hnew, wR0 x k t cs n, hsz, hk, hm, hrow.mono hle⟩
  ·rw [List.getElem?_set_ne (Ne.symm e)] at hx;rcases hok.row x s' t' es2 hx with h|⟨g', k', cs2, h1, h2, h3, h4, h5, h6, h7⟩
   ·exact .inl ⟨(kg0 _ _ e).trans h.1, h.2⟩
   ·exact .inr ⟨g', k', cs2, (kg0 _ _ e).trans h1, h2, wi0 b k t cs n h3, h4, h5, h6, h7.mono hle⟩
 ·have e : x ≠ b := by
   rintro rfl;have hlt := (List.getElem?_eq_some_iff.1 hb).1;rw [List.getElem?_set_self hlt] at hx;cases hx
  rw [List.getElem?_set_ne (Ne.symm e)] at hx;obtain ⟨g', ob1, h1, h2, h3, h4⟩ := hok.ob x ob0 hx;exact ⟨g', ob1, h1, h2, wi0 b k t cs n h3, h4.mono hle⟩
 ·by_cases ex : x = b
  ·by_cases ey : y = b
   ·rw [ex, ey]
   ·rw [ex, hatb] at hx; rw [hat y ey] at hy;injection hx with hx
    have := qaj9 hok hy;omega
  ·by_cases ey : y = b
   ·rw [ey, hatb] at hy; rw [hat x ex] at hx;injection hy with hy
    have := qaj9 hok hx;omega
   ·rw [hat x ex] at hx; rw [hat y ey] at hy;exact hok.inj x y g' hx hy
theorem kI0 (hok : S.Ok H) {s : Nat} {t : TypeId} {es : List (List AV)} (k : Nat) (cs : Array Value) (n : Nat) : Ext H.length S H (S.fresh H.length k t cs n) (H ++ [.row s t es]) where
 os := rfl
 tape := rfl
 output := rfl
 size := by simp [St.fresh]
 keep i hi hno := Below.heap_alloc (S.w.drewN n) (.cells cs t) i hi
 M i o h := h
 dom i h := .inl h
 own i h := by
  obtain ⟨x, hx⟩ := h;by_cases e : x < H.length
  ·left
   refine ⟨x, ?_⟩;simpa only [St.at, St.fresh, List.getElem?_append_left e, kg0 _ _ (show x ≠ H.length by omega)] using hx
  ·right
   by_cases e2 : x = H.length
   ·subst e2;simp [St.at, St.fresh, qf0] at hx;omega
   ·have : (H ++ [Blk.row s t es])[x]? = none := List.getElem?_eq_none (by simp; omega);simp [St.at, this] at hx
 sh x s' cur hx hs := ⟨cur, Nat.le_refl _, by rw [kA0 hx]; exact hs, fun _ => kg0 _ _ (show x ≠ H.length by omega)⟩
 ν x g' hx hs := by rw [qB0 hx]; exact hs
 len h := by simp
theorem xaq9 (hok : S.Ok H) {s : Nat} {t : TypeId} {es : List (List AV)} {k : Nat} {cs : Array Value} (n : Nat) (hk : es.length ≤ k) (hm : k ≤ maxLen)
  (hsz : cs.size = k * s) (hrow : RowIn (S.env H) s es cs) : (S.fresh H.length k t cs n).Ok (H ++ [.row s t es]) := by
 have hle := (kI0 hok (s := s) (t := t) (es := es) k cs n).le (Nat.le_refl _);have hnew : S.M S.w.heap.size = none := by
  cases ho : S.M S.w.heap.size with
  | none => rfl
  | some o => have := M_lt hok (k := S.w.heap.size) (by rw [ho]; simp); omega
 have hat : ∀ x, x < H.length → (S.fresh H.length k t cs n).at (H ++ [.row s t es]) x = S.at H x := fun x e => by
  simp only [St.at, St.fresh, List.getElem?_append_left e, kg0 _ _ (show x ≠ H.length by omega)]
 have hatb : (S.fresh H.length k t cs n).at (H ++ [.row s t es]) H.length = some S.w.heap.size := by
  simp [St.at, St.fresh, qf0]
 have hge : ∀ x g', (S.fresh H.length k t cs n).at (H ++ [.row s t es]) x = some g' → x < H.length ∨ x = H.length := fun x g' hx => by
  by_cases e : x ≤ H.length
  ·omega
  ·have : (H ++ [Blk.row s t es])[x]? = none := List.getElem?_eq_none (by simp; omega);simp [St.at, this] at hx
 refine ⟨fun i o hi => wi0 H.length k t cs n (hok.imm i o hi), fun x s' t' es2 hx => ?_, fun x ob0 hx => ?_, fun x y g' hx hy => ?_⟩
 ·by_cases e : x < H.length
  ·rw [List.getElem?_append_left e] at hx;rcases hok.row x s' t' es2 hx with h|⟨g', k', cs2, h1, h2, h3, h4, h5, h6, h7⟩
   ·exact .inl ⟨(kg0 _ _ (show x ≠ H.length by omega)).trans h.1, h.2⟩
   ·exact .inr ⟨g', k', cs2, (kg0 _ _ (show x ≠ H.length by omega)).trans h1, h2, wi0 H.length k t cs n h3, h4, h5, h6, h7.mono hle⟩
  ·have e2 : x = H.length := by
    have := (List.getElem?_eq_some_iff.1 hx).1;simp at this;omega
   subst e2;simp at hx;obtain ⟨h1, h2, h3⟩ := hx;subst h1; subst h2; subst h3;exact .inr ⟨S.w.heap.size, k, cs, qf0 _ _ _, hnew, wR0 _ k t cs n, hsz, hk, hm, hrow.mono hle⟩
 ·by_cases e : x < H.length
  ·rw [List.getElem?_append_left e] at hx;obtain ⟨g', ob1, h1, h2, h3, h4⟩ := hok.ob x ob0 hx;exact ⟨g', ob1, h1, h2, wi0 H.length k t cs n h3, h4.mono hle⟩
  ·have e2 : x = H.length := by
    have := (List.getElem?_eq_some_iff.1 hx).1;simp at this;omega
   subst e2;simp at hx
 ·rcases hge x g' hx with ex|ex
  ·rcases hge y g' hy with ey|ey
   ·rw [hat x ex] at hx; rw [hat y ey] at hy;exact hok.inj x y g' hx hy
   ·rw [ey, hatb] at hy; rw [hat x ex] at hx;injection hy with hy
    have := qaj9 hok hx;omega
  ·rcases hge y g' hy with ey|ey
   ·rw [ex, hatb] at hx; rw [hat y ey] at hy;injection hx with hx
    have := qaj9 hok hy;omega
   ·rw [ex, ey]
end
def bad3 : Bool × AV × List Blk := (false, .top, [])
def qn0 (H : List Blk) (sz : Nat) : AV → Option (List (List AV))
 | .sl s es _ => if (es.isEmpty || s == sz) = true then some es else none
 | .own b n h _ =>
  match H[b]? with
  | some (.row s _ es) => if (decide (h = es.length) && s == sz) = true then some (es.take n) else none
  | _ => none
 | .str l => if sz = 1 then some (l.map fun b => [.int .u8 b.toNat]) else none
 | _ => none
def vR0 (P : Program) (H : List Blk) (t : TypeId) : Bool × AV × List Blk :=
 match kc0 P t with
 | some T => (T.zero.length == T.sz, .ptr H.length 0 0 1, H ++ [.row T.sz t [T.zero]])
 | none => bad3
def eBox (H : List Blk) (t : TypeId) (x : AV) : Bool × AV × List Blk :=
 match x.cells? H with
 | some cs => (true, .ptr H.length 0 0 1, H ++ [.row cs.length t [cs]])
 | none => bad3
def xX0 (P : Program) (H : List Blk) (t : TypeId) (p x : AV) : Bool × AV × List Blk :=
 match kc0 P t, p, x.cells? H with
 | some T, .ptr b i o h, some cs =>
  match H[b]? with
  | some (.row s bt es) =>
   (decide (h = es.length) && decide (i < es.length) && cs.length == T.sz && decide (o + cs.length ≤ s), .tup [],
    H.set b (.row s bt (es.set i ((es.getD i []).take o ++ cs ++ (es.getD i []).drop (o + cs.length)))))
  | _ => bad3
 | _, _, _ => bad3
def vay9 (P : Program) (H : List Blk) (t : TypeId) (l c : AV) : Bool × AV × List Blk :=
 match shp P t, l, c with
 | .slice e, .int _ l, .int _ c =>
  match kc0 P e with
  | some E => (decide (0 ≤ l) && decide (l ≤ c) && decide ((E.bytes : Int) * c ≤ 281474976710656) && decide (c ≤ maxLen) && E.zero.length == E.sz,
    .own H.length l.toNat l.toNat (some c.toNat), H ++ [.row E.sz e (List.replicate l.toNat E.zero)])
  | none => bad3
 | _, _, _ => bad3
def kay9 (P : Program) (t : TypeId) : Bool := match shp P t with|.slice _|.str => true|_ => false
def xu0 (P : Program) (H : List Blk) (t t1 : TypeId) (d x : AV) : Bool × AV × List Blk :=
 match shp P t with
 | .slice e =>
  match kc0 P e with
  | some E =>
   match qn0 H E.sz x with
   | some news =>
    match d with
    | .own b n h c =>
     match H[b]? with
     | some (.row s bt es) =>
      let es' := es.take n ++ news ++ es.drop (n + news.length)
      let ok := kay9 P t1 && decide (0 < E.sz) && E.zero.length == E.sz && decide (h = es.length) && s == E.sz && bt == e && decide (n + news.length ≤ maxLen) && decide ((n + news.length) * E.bytes ≤ 140737488355328) && bt != zco9
      match c with
      | none => (ok, .own b (n + news.length) es'.length none, H.set b (.row s bt es'))
      | some k =>
       if n + news.length ≤ k then (ok, .own b (n + news.length) es'.length (some k), H.set b (.row s bt es'))
       else (ok, .own H.length (n + news.length) (n + news.length) none, H ++ [.row E.sz e (es.take n ++ news)])
     | _ => bad3
    | .sl s es c =>
     match news with
     | [] => (kay9 P t1, .sl s es c, H)
     | _ :: _ =>
     match c with
     | some k =>
      (kay9 P t1 && decide (0 < E.sz) && E.zero.length == E.sz && (es.isEmpty || s == E.sz) && decide (k < es.length + news.length) && decide (es.length + news.length ≤ maxLen) && decide ((es.length + news.length) * E.bytes ≤ 140737488355328),
       .own H.length (es.length + news.length) (es.length + news.length) none, H ++ [.row E.sz e (es ++ news)])
     | none => bad3
    | _ => bad3
   | none => bad3
  | none => bad3
 | _ => bad3
def waq9 : AV → Option (Nat × Nat × Nat × Nat)
 | .own b n h _ => some (b, 0, n, h)
 | .sub b i n h => some (b, i, n, h)
 | _ => none
def qcQ9 : AV → Bool
 | .str _ => false
 | _ => true
def qaJ9 (P : Program) (H : List Blk) (t : TypeId) (d x : AV) : Bool × AV × List Blk :=
 match shp P t with
 | .slice e =>
  match kc0 P e with
  | some E =>
   match qn0 H E.sz x, waq9 d with
   | some news, some (b, i, n, h) =>
    match H[b]? with
    | some (.row s bt es) =>
     (decide (0 < n) && decide (h = es.length) && s == E.sz && qcQ9 x, .int .i64 (min news.length n : Nat),
      H.set b (.row s bt (es.take i ++ news.take (min news.length n) ++ es.drop (i + min news.length n))))
    | _ => bad3
   | _, _ => bad3
  | none => bad3
 | _ => bad3
def qF0 (P : Program) (H : List Blk) (t : TypeId) (r : Option AV) : Bool × AV × List Blk :=
 match shp P t with
 | .map kT eT => (match r with|none => true|some (.int _ _) => true|_ => false, .mp H.length, H ++ [.ob (.map kT eT [])])
 | _ => bad3
def vT0 (P : Program) (H : List Blk) (t : TypeId) (m k x : AV) : Bool × AV × List Blk :=
 match shp P t, m with
 | .map kT _, .mp b =>
  match H[b]? with
  | some (.ob (.map k0 v0 es)) => (vaS9 P kT es k, .tup [], H.set b (.ob (.map k0 v0 (updA es k x))))
  | _ => bad3
 | _, _ => bad3
def wA0 : Op → Bool
 | .alloc _|.box _ _|.store _ _ _|.makeSlice _ _ _|.makeMap _ _|.mapUpdate _ _ _ _|.insert _ _ _ _ => true
 | .call { callee := .builtin .append, .. } => true
 | .call { callee := .builtin .copy, .. } => true
 | _ => false
def xg0 (P : Program) (o : Op) (ρ : Operand → AV) (H : List Blk) : Bool × AV × List Blk :=
 let on (x : Operand) (r : Bool × AV × List Blk) : Bool × AV × List Blk := ((ρ x).ok && r.1, r.2)
 match o with
 | .alloc t => vR0 P H t
 | .box t x => on x (eBox H t (ρ x).strip)
 | .store t p x => on p (on x (xX0 P H t (ρ p).strip (ρ x).strip))
 | .makeSlice t l c => on l (on c (vay9 P H t (ρ l).strip (ρ c).strip))
 | .makeMap t r => ((r.all fun y => (ρ y).ok) && (qF0 P H t (r.map fun y => (ρ y).strip)).1, (qF0 P H t (r.map fun y => (ρ y).strip)).2)
 | .mapUpdate t m k x => on m (on k (on x (vT0 P H t (ρ m).strip (ρ k).strip (ρ x).strip)))
 | .insert t m k x => on m (on k (on x (vT0 P H t (ρ m).strip (ρ k).strip (ρ x).strip)))
 | .call { callee := .builtin .append, args, argTypes } =>
  match args.toList, argTypes.toList with
  | [d, x], [t, t1] => on d (on x (xu0 P H t t1 (ρ d).strip (ρ x).strip))
  | _, _ => bad3
 | .call { callee := .builtin .copy, args, argTypes } =>
  match args.toList, argTypes.toList with
  | [d, x], [t, _] => on d (on x (qaJ9 P H t (ρ d).strip (ρ x).strip))
  | _, _ => bad3
 | _ => bad3
def qJ0 (P : Program) (S : St) (H : List Blk) (x : Sem Next) (r : AV) (H' : List Blk) : Prop :=
 ∃ nx v S', x.run P S.w = .ok nx S'.w ∧ (nx = .value v ∨ (nx = .skip ∧ v = undef)) ∧ S'.Ok H' ∧ Ext H.length S H S' H' ∧ Rel (S'.env H') r v
theorem vaC9 {α : Type} (l vs : List α) (off q : Nat) (h : off + vs.length ≤ l.length) :
  (l.take off ++ vs ++ l.drop (off + vs.length))[q]? = if q < off then l[q]? else if q < off + vs.length then vs[q - off]? else l[q]? := by
 have ht : (l.take off).length = off := by simp; omega
 by_cases h1 : q < off
 ·rw [if_pos h1, List.append_assoc, List.getElem?_append_left (by omega), List.getElem?_take, if_pos h1]
 ·rw [if_neg h1, List.append_assoc, List.getElem?_append_right (by omega), ht];by_cases h2 : q < off + vs.length
  ·rw [if_pos h2, List.getElem?_append_left (by omega)]
  ·rw [if_neg h2, List.getElem?_append_right (by omega), List.getElem?_drop];congr 1
   omega
section
variable {P : Program} {S : St} {H : List Blk}
theorem vaq9 {E : Env} {cs : List AV} {C : Array Value} (h : RelL E cs C.toList) (h1 : ∀ u ∈ C.toList, u.oneCell' = true) : RowIn E cs.length [cs] C := by
 intro i e hi;cases i with
 | zero =>
  simp at hi; subst hi;refine ⟨rfl, fun j a hj => ?_⟩;obtain ⟨v, hv, hr⟩ := h.get hj;exact ⟨v, by simpa using hv, h1 v (List.mem_of_getElem? hv), hr⟩
 | succ i => simp at hi
theorem xs0 (b k : Nat) (t : TypeId) (cs : Array Value) (n : Nat) : (S.fresh b k t cs n).μ b = some (S.w.heap.size, k) := qf0 _ _ _
theorem kbO9 (hok : S.Ok H) {t : TypeId} (h : (vR0 P H t).1 = true) : qJ0 P S H (do pure (.value (← Instr.alloc t true (.tuple #[])))) (vR0 P H t).2.1 (vR0 P H t).2.2 := by
 unfold vR0 at *;cases hT : kc0 P t with
 | none => rw [hT] at h; cases h
 | some T =>
  obtain ⟨i, d, z, hi, hd, hz, h1, hTT⟩ := ve0 hT;simp only [hT, beq_iff_eq] at h ⊢;have hzr : RelL (S.env H) T.zero z.cells.toList := by rw [hTT]; exact kl0 _ _
  have hsz : z.cells.size = T.sz := by rw [← h, hzr.length]; simp
  refine ⟨_, .pointer (some ⟨S.w.heap.size, 0, none⟩), S.fresh H.length 1 t z.cells 0, ?_, .inl rfl, xaq9 hok 0 (by simp) (by simp [maxLen]) (by omega) (by rw [← h]; exact vaq9 hzr h1), kI0 hok _ _ _, ?_⟩
  ·simp [Instr.alloc, zeroValue, typeInfo, hi, hz, newVar, newRow, St.fresh]; rfl
  ·exact vad9 kj0 (xs0 _ _ _ _ _) (by simp)
theorem zcQ9 (hok : S.Ok H) {t : TypeId} {x : AV} {v : Value} (hx : Rel (S.env H) x v) (h : (eBox H t x).1 = true) : qJ0 P S H (do pure (.value (← Instr.box t v))) (eBox H t x).2.1 (eBox H t x).2.2 := by
 unfold eBox at *;cases hc : x.cells? H with
 | none => rw [hc] at h; cases h
 | some cs =>
  simp only;obtain ⟨hr, h1⟩ := qC0 hx hc;have hl : cs.length = v.cells.size := by rw [hr.length]; simp
  refine ⟨_, .pointer (some ⟨S.w.heap.size, 0, none⟩), S.fresh H.length 1 t v.cells 0, ?_, .inl rfl, xaq9 hok 0 (by simp) (by simp [maxLen]) (by omega) (vaq9 hr h1), kI0 hok _ _ _, ?_⟩
  ·simp [Instr.box, newVar, newRow, St.fresh]; rfl
  ·exact vad9 kj0 (xs0 _ _ _ _ _) (by simp)
theorem vbC9 {E : Env} {s i o : Nat} {es : List (List AV)} {C : Array Value} {e cs : List AV} {vs : List Value} (hrow : RowIn E s es C) (hi : es[i]? = some e) (hr : RelL E cs vs) (h1 : ∀ u ∈ vs, u.oneCell' = true)
  (ho : o + cs.length ≤ s) (hC : (i + 1) * s ≤ C.size) :
  RowIn E s (es.set i (e.take o ++ cs ++ e.drop (o + cs.length))) (C.toList.take (i * s + o) ++ vs ++ C.toList.drop (i * s + o + vs.length)).toArray := by
 obtain ⟨hl, hce⟩ := hrow i e hi;have hlv := hr.length;have hil := (List.getElem?_eq_some_iff.1 hi).1;have hC' : i * s + o + vs.length ≤ C.toList.length := by rw [Nat.add_mul] at hC; simp; omega
 intro i' e' hi';have key : ∀ q, ((C.toList.take (i * s + o) ++ vs ++ C.toList.drop (i * s + o + vs.length)).toArray)[q]? = if q < i * s + o then C[q]? else if q < i * s + o + vs.length then vs[q - (i * s + o)]? else C[q]? := fun q => by
  have := vaC9 C.toList vs (i * s + o) q hC';simpa using this
 by_cases e1 : i' = i
 ·subst e1;rw [List.getElem?_set_self hil] at hi';injection hi' with hi'; subst hi'
  refine ⟨by simp; omega, fun j a hj => ?_⟩;rw [key];rw [vaC9 e cs o j (by omega)] at hj;by_cases c1 : j < o
  ·rw [if_pos c1] at hj;rw [if_pos (by omega)];exact hce j a hj
  ·rw [if_neg c1] at hj;rw [if_neg (by omega)];by_cases c2 : j < o + cs.length
   ·rw [if_pos c2] at hj;rw [if_pos (by omega), show i' * s + j - (i' * s + o) = j - o from by omega];obtain ⟨v, hv, hrv⟩ := hr.get hj;exact ⟨v, hv, h1 v (List.mem_of_getElem? hv), hrv⟩
   ·rw [if_neg c2] at hj;rw [if_neg (by omega)];exact hce j a hj
 ·rw [List.getElem?_set_ne (Ne.symm e1)] at hi';obtain ⟨hl', hce'⟩ := hrow i' e' hi';refine ⟨hl', fun j a hj => ?_⟩;have hjs : j < s := by rw [← hl']; exact (List.getElem?_eq_some_iff.1 hj).1
  rw [key];rcases Nat.lt_or_gt_of_ne e1 with c|c
  ·have : (i' + 1) * s ≤ i * s := Nat.mul_le_mul_right _ c;rw [Nat.add_mul] at this;rw [if_pos (by omega)];exact hce' j a hj
  ·have : (i + 1) * s ≤ i' * s := Nat.mul_le_mul_right _ c;rw [Nat.add_mul] at this;rw [if_neg (by omega), if_neg (by omega)];exact hce' j a hj
theorem qbP9 (hok : S.Ok H) {t : TypeId} {p x : AV} {u v : Value} (hp : Rel (S.env H) p u) (hx : Rel (S.env H) x v) (h : (xX0 P H t p x).1 = true) :
  qJ0 P S H (do Instr.storeAt t u v; pure .skip) (xX0 P H t p x).2.1 (xX0 P H t p x).2.2 := by
 unfold xX0 at *;split at h
 ·rename_i T b i o hh cs hT hc;cases hb : H[b]? with
  | none => rw [hb] at h; cases h
  | some B =>
   cases B with
   | ob _ => rw [hb] at h; cases h
   | row s bt es =>
    simp only [hb, Bool.and_eq_true, decide_eq_true_eq, beq_iff_eq] at h ⊢;obtain ⟨⟨⟨h1, h2⟩, h3⟩, h4⟩ := h;have hl : zj0 H b hh = true := by simp [zj0, qo0 hb, h1]
    obtain ⟨s', g, k, hs, hg, hv⟩ := kB0 hp hl;rw [qo0 hb] at hs; injection hs with hs; injection hs with hs _; subst hs
    obtain ⟨hr, ho⟩ := qC0 hx hc;have hlen : cs.length = v.cells.size := by rw [hr.length]; simp
    obtain ⟨g0, k0, C, q1, q2, q3, q4, q5, q6, q7⟩ := (hok.row b s bt es hb).resolve_left (fun q => by rw [q.1] at hg; cases hg);rw [hg] at q1; injection q1 with q1; injection q1 with e1 e2; subst e1; subst e2
    have he : es[i]? = some es[i] := List.getElem?_eq_getElem h2;have hd : es.getD i [] = es[i] := by rw [List.getD_eq_getElem?_getD, he]; rfl
    have hik : (i + 1) * s ≤ k * s := Nat.mul_le_mul_right _ (by omega);have hik2 := hik;rw [Nat.add_mul] at hik2;have hst := run_storeCells_at P g (i * s + o) bt v.cells.toList 0 C S.w q3 (by simp; omega) ho;simp only [Nat.add_zero] at hst;rw [hd];refine ⟨.skip, undef, S.put g (C.toList.take (i * s + o) ++ v.cells.toList ++ C.toList.drop (i * s + o + v.cells.toList.length)).toArray, ?_, .inr ⟨rfl, rfl⟩, ?_, zaq9 hok _ hb hg (by simp) (cs := C), by simp [Rel, RelL, undef]⟩
    ·subst hv;have c1 : ¬ (v.cells.size ≠ T.sz) := by omega
     simp only [Instr.storeAt, Instr.sureAddr, Sem.run_bind, Sem.run_pure, Result.andThen_ok, storeVar, vf0 hT, Sem.run_ite, c1, if_false];rw [hst];rfl
    ·refine xbt9 hok hb hg (by simp) (by simp; omega) ?_ ?_
     ·simp; omega
     ·exact vbC9 q7 he hr ho h4 (by omega)
 ·cases h
theorem xcp9 (hok : S.Ok H) {t : TypeId} {l c : AV} {u v : Value} (hl : Rel (S.env H) l u) (hc : Rel (S.env H) c v) (h : (vay9 P H t l c).1 = true) :
  qJ0 P S H (do pure (.value (← Instr.makeSlice t u v))) (vay9 P H t l c).2.1 (vay9 P H t l c).2.2 := by
 unfold vay9 at *;split at h
 ·rename_i e k1 l k2 c hs;obtain ⟨TT, hTT, hsh⟩ := xc0 hs (by simp);have hu := zi0 hTT hsh;have e1 := hl; simp only [Rel] at e1; subst e1;have e2 := hc; simp only [Rel] at e2; subst e2;cases hE : kc0 P e with
  | none => rw [hE] at h; cases h
  | some E =>
   obtain ⟨i, d, z, hi, hd, hz, h1, hEE⟩ := ve0 hE;have hzr : RelL (S.env H) E.zero z.cells.toList := by rw [hEE]; exact kl0 _ _
   simp only [hE, Bool.and_eq_true, decide_eq_true_eq, beq_iff_eq] at h ⊢;obtain ⟨⟨⟨⟨h0, hlc⟩, hb⟩, hm⟩, hzl⟩ := h;have hzs : z.cells.size = E.sz := by rw [← hzl, hzr.length]; simp
   have hEsz : E.sz = i.size := by rw [hEE]
   have hEb : E.bytes = i.bytes := by rw [hEE]
   have hm' : c ≤ 9223372036854775807 := by simp only [maxLen] at hm; omega
   have hr := run_make (P := P) S.w t e i z hu hi hz k1 k2 l c h0 hlc (by rw [← hEb]; exact hb) hm';have hcm : c.toNat ≤ maxLen := by simp only [maxLen] at hm ⊢; omega
   refine ⟨_, .slice (some ⟨S.w.heap.size, 0, none⟩) l.toNat c.toNat, S.fresh H.length c.toNat e (madeCells z.cells (c.toNat * i.size)) 0, ?_, .inl rfl, xaq9 hok 0 (by simp; omega) hcm (by rw [size_madeCells, hEsz]) ?_, kI0 hok _ _ _, ?_⟩
   ·simp only [Sem.run_bind, hr, Result.andThen_ok, Sem.run_pure];rfl
   ·have hfl := xk0 hzr E.sz hzs c.toNat;intro q el hq;rw [List.getElem?_replicate] at hq;split at hq
    ·rename_i hql;injection hq with hq; subst hq
     refine ⟨hzl, fun j a hj => ?_⟩;have hjs : j < E.sz := by rw [← hzl]; exact (List.getElem?_eq_some_iff.1 hj).1
     have hpos : 0 < z.cells.size := by omega
     have hqj : q * E.sz + j < c.toNat * i.size := by
      rw [← hEsz];have : (q + 1) * E.sz ≤ c.toNat * E.sz := Nat.mul_le_mul_right _ (by omega);rw [Nat.add_mul] at this;omega
     have hmod : (q * E.sz + j) % z.cells.size = j := by
      rw [hzs, Nat.add_comm, Nat.add_mul_mod_self_right, Nat.mod_eq_of_lt hjs]
     obtain ⟨v, hv, hrv⟩ := hzr.get hj;refine ⟨v, ?_, h1 v (List.mem_of_getElem? hv), hrv⟩;have hjz : j < z.cells.size := by omega
     simp only [madeCells, Array.getElem?_map, Array.getElem?_range, hqj, if_true, Option.map_some, hmod];rw [getElem!_pos z.cells j hjz];simpa [hjz] using hv
    ·cases hq
   ·have hsh' : shOf (H ++ [.row E.sz e (List.replicate l.toNat E.zero)]) H.length = some (E.sz, l.toNat) := by rw [kj0]; simp
    refine vh0 hsh' (Nat.le_refl _) (.inr ⟨S.w.heap.size, c.toNat, c.toNat, xs0 _ _ _ _ _, rfl, by omega, Nat.le_refl _, fun q => (by cases q), fun j hj => ?_⟩);injection hj
 ·cases h
end
section
variable {P : Program} {S : St} {H : List Blk}
theorem xae9 {E : Env} {s : Nat} : ∀ (es : List (List AV)) (g off : Nat), RelE E s es g off →
  ∃ C : List Value, C.length = es.length * s ∧ RowIn E s es C.toArray ∧ (∀ u ∈ C, u.oneCell' = true) ∧ ∀ (j : Nat) (u : Value), C[j]? = some u → qx0 E.M g (off + j) = some u
 | [], g, off, _ => ⟨[], by simp, fun i e hi => by simp at hi, by simp, by simp⟩
 | e :: es, g, off, h => by
  have h0 := h.get (i := 0) rfl;simp only [RelE] at h;obtain ⟨h1, h2, h3⟩ := h;obtain ⟨C, c1, c2, c3, c4⟩ := xae9 es g (off + s) h3;have hx : ∃ vs : List Value, RelL E e vs ∧ (∀ u ∈ vs, u.oneCell' = true) ∧ ∀ (j : Nat) (v : Value), vs[j]? = some v → qx0 E.M g (off + j) = some v := by
   clear h0 h3 c1 c2 c3 c4;have aux : ∀ (as : List AV) (off : Nat), RelC E as g off → ∃ vs : List Value, RelL E as vs ∧ (∀ u ∈ vs, u.oneCell' = true) ∧ ∀ (j : Nat) (v : Value), vs[j]? = some v → qx0 E.M g (off + j) = some v := by
    intro as;induction as with
    | nil => intro off _; exact ⟨[], by simp [RelL], by simp, by simp⟩
    | cons a as ih =>
     intro off hc;simp only [RelC] at hc;obtain ⟨⟨u, hu, ho, hr⟩, hc2⟩ := hc;obtain ⟨vs, v1, v2, v3⟩ := ih (off + 1) hc2;refine ⟨u :: vs, ?_, ?_, ?_⟩
     ·simp only [RelL]; exact ⟨u, vs, rfl, hr, v1⟩
     ·intro x hx;rcases List.mem_cons.1 hx with rfl|hx
      ·exact ho
      ·exact v2 x hx
     ·intro j v hj;cases j with
      | zero => simp at hj; subst hj; simpa using hu
      | succ j =>
       have := v3 j v (by simpa using hj)
       rwa [show off + 1 + j = off + (j + 1) from by omega] at this
   exact aux e off h2
  obtain ⟨vs, v1, v2, v3⟩ := hx;have hvl : vs.length = s := by rw [← v1.length, h1]
  refine ⟨vs ++ C, ?_, ?_, ?_, ?_⟩
  ·simp [hvl, c1, Nat.add_mul]; omega
  ·intro i el hi;cases i with
   | zero =>
    simp at hi; subst hi;refine ⟨h1, fun j a hj => ?_⟩;have hjs : j < s := by rw [← h1]; exact (List.getElem?_eq_some_iff.1 hj).1
    obtain ⟨v, hv, hr⟩ := v1.get hj;refine ⟨v, ?_, v2 v (List.mem_of_getElem? hv), hr⟩;simp only [Nat.zero_mul, Nat.zero_add, List.getElem?_toArray];rw [List.getElem?_append_left (by omega)];exact hv
   | succ i =>
    obtain ⟨l1, l2⟩ := c2 i el (by simpa using hi);refine ⟨l1, fun j a hj => ?_⟩;obtain ⟨v, hv, ho, hr⟩ := l2 j a hj;refine ⟨v, ?_, ho, hr⟩;simp only [List.getElem?_toArray] at hv ⊢;rw [List.getElem?_append_right (by rw [hvl, Nat.add_mul]; omega), hvl, show (i + 1) * s + j - s = i * s + j from by rw [Nat.add_mul]; omega];exact hv
  ·intro u hu;rcases List.mem_append.1 hu with hu|hu
   ·exact v2 u hu
   ·exact c3 u hu
  ·intro j u hj;by_cases hjs : j < vs.length
   ·rw [List.getElem?_append_left hjs] at hj;exact v3 j u hj
   ·rw [List.getElem?_append_right (by omega), hvl] at hj;have := c4 (j - s) u hj
    rwa [show off + s + (j - s) = off + j from by omega] at this
theorem kT0 (hok : S.Ok H) {sz : Nat} {x : AV} {v : Value} {es : List (List AV)} (hr : Rel (S.env H) x v) (h : qn0 H sz x = some es) :
  ∃ C : List Value, (∀ W : World, (Builtin.lenOf v).run P W = .ok es.length W) ∧ (∀ W : World, (∀ a, W.cell? a = S.w.cell? a) → (Builtin.firstCells sz es.length v).run P W = .ok C.toArray W) ∧
   C.length = es.length * sz ∧ (∀ u ∈ C, u.oneCell' = true) ∧ RowIn (S.env H) sz es C.toArray := by
 unfold qn0 at h;split at h
 ·rename_i s es' c;split at h
  ·rename_i hc;injection h with h; subst h
   have hr' := hr;simp only [Rel] at hr';obtain ⟨a, cap, rfl, h1, h2, h3, h4⟩ := hr';by_cases he : es' = []
   ·subst he;refine ⟨[], fun W => by simp [Builtin.lenOf], fun W _ => ?_, by simp, by simp, fun i e hi => by simp at hi⟩;cases a <;> simp [Builtin.firstCells, loadCells, loadCellsFrom]
   ·obtain ⟨g, off, rfl, hre⟩ := h4.resolve_left he;have hs : s = sz := by
     have : es'.isEmpty = false := by simpa using he
     simpa [this] using hc
    subst hs;obtain ⟨C, c1, c2, c3, c4⟩ := xae9 es' g off hre;refine ⟨C, fun W => by simp [Builtin.lenOf], fun W hW => ?_, c1, c3, c2⟩;refine run_firstCells_some W s es'.length ⟨g, off, none⟩ _ _ C c1 fun j u hu => ?_;rw [hW, xl0];exact qam9 hok (c4 j u hu)
  ·cases h
 ·rename_i b n hh c;split at h
  ·rename_i s t es' hb;split at h
   ·rename_i hc;injection h with h; subst h
    simp only [Bool.and_eq_true, decide_eq_true_eq, beq_iff_eq] at hc;obtain ⟨hc1, hc2⟩ := hc;subst hc2;have hl : zj0 H b hh = true := by simp [zj0, qo0 hb, hc1]
    obtain ⟨s', hs, hn, hcase⟩ := qu0 hr hl;have hlen : (es'.take n).length = n := by simp; omega
    rcases hcase with ⟨_, ⟨a0, rfl⟩, rfl, _⟩|⟨g, k, cap, hg, rfl, _, _, _, _⟩
    ·refine ⟨[], fun W => by simp [Builtin.lenOf], fun W _ => ?_, by simp, by simp, fun i e hi => by simp at hi⟩;cases a0 <;> simp [Builtin.firstCells, loadCells, loadCellsFrom]
    ·obtain ⟨g0, k0, C, q1, q2, q3, q4, q5, q6, q7⟩ := (hok.row b s t es' hb).resolve_left (fun q => by rw [q.1] at hg; cases hg);rw [hg] at q1; injection q1 with q1; injection q1 with e1 e2; subst e1; subst e2
     have hnk : n * s ≤ C.size := by rw [q4]; exact Nat.mul_le_mul_right _ (by omega)
     refine ⟨C.toList.take (n * s), fun W => by simp [Builtin.lenOf, hlen], fun W hW => ?_, by rw [hlen]; simp; omega, ?_, ?_⟩
     ·rw [hlen];refine run_firstCells_some W s n ⟨g, 0, none⟩ _ _ _ (by simp; omega) fun j u hu => ?_;rw [hW, xl0];rw [List.getElem?_take] at hu;split at hu
      ·simp [World.cell?, q3];simpa using hu
      ·cases hu
     ·intro u hu;obtain ⟨j, hj⟩ := List.mem_iff_getElem?.1 hu;rw [List.getElem?_take] at hj;split at hj
      ·rename_i hjn;have hs0 : 0 < s := by
        rcases Nat.eq_zero_or_pos s with h0|h0
        ·subst h0; simp at hjn
        ·exact h0
       have hi : j / s < n := Nat.div_lt_of_lt_mul (by rwa [Nat.mul_comm] at hjn);have hi2 : j / s < es'.length := by omega
       obtain ⟨l1, l2⟩ := q7 (j / s) es'[j / s] (List.getElem?_eq_getElem hi2);have hm : j % s < es'[j / s].length := by rw [l1]; exact Nat.mod_lt _ hs0
       obtain ⟨w, hw, ho, _⟩ := l2 (j % s) _ (List.getElem?_eq_getElem hm);rw [show j / s * s + j % s = j from by rw [Nat.mul_comm]; exact Nat.div_add_mod j s] at hw;have : u = w := by
        have h5 : C[j]? = some u := by simpa using hj
        rw [hw] at h5; injection h5 with h5; exact h5.symm
       rw [this]; exact ho
      ·cases hj
     ·intro i e hi;rw [List.getElem?_take] at hi;split at hi
      ·rename_i hin;obtain ⟨l1, l2⟩ := q7 i e hi;refine ⟨l1, fun j a hj => ?_⟩;obtain ⟨w, hw, ho, hrr⟩ := l2 j a hj;refine ⟨w, ?_, ho, hrr⟩;have hjs : j < s := by rw [← l1]; exact (List.getElem?_eq_some_iff.1 hj).1
       have : (i + 1) * s ≤ n * s := Nat.mul_le_mul_right _ hin;rw [Nat.add_mul] at this;simp only [List.getElem?_toArray, List.getElem?_take];rw [if_pos (by omega)];simpa using hw
      ·cases hi
   ·cases h
  ·cases h
 ·rename_i l;split at h
  ·rename_i hz;injection h with h; subst h; subst hz
   have e1 := hr; simp only [Rel] at e1; subst e1;refine ⟨l.map fun b => .int .u8 b.toNat, fun W => by simp [Builtin.lenOf]; rfl, fun W _ => ?_, by simp, by simp [Value.oneCell'], ?_⟩
   ·simp only [Builtin.firstCells, List.length_map, Sem.run_pure];congr 1
    apply Array.ext';simp [ByteArray.data_extract]
   ·intro i e hi;rw [List.getElem?_map] at hi;cases hli : l[i]? with
    | none => rw [hli] at hi; cases hi
    | some b =>
     rw [hli] at hi;injection hi with hi; subst hi
     refine ⟨rfl, fun j a hj => ?_⟩;cases j with
     | zero =>
      simp at hj; subst hj;exact ⟨.int .u8 b.toNat, by simp [hli], rfl, by simp [Rel]⟩
     | succ j => simp at hj
  ·cases h
 ·cases h
end
section rows
variable {E : Env} {s : Nat}
theorem zw0 {as bs : List (List AV)} {A B : List Value} (ha : RowIn E s as A.toArray) (hl : A.length = as.length * s) (hb : RowIn E s bs B.toArray) : RowIn E s (as ++ bs) (A ++ B).toArray := by
 intro i e hi;by_cases hil : i < as.length
 ·rw [List.getElem?_append_left hil] at hi;obtain ⟨l1, l2⟩ := ha i e hi;refine ⟨l1, fun j a hj => ?_⟩;obtain ⟨v, hv, hr⟩ := l2 j a hj;refine ⟨v, ?_, hr⟩;have hjs : j < s := by rw [← l1]; exact (List.getElem?_eq_some_iff.1 hj).1
  have : (i + 1) * s ≤ as.length * s := Nat.mul_le_mul_right _ hil;rw [Nat.add_mul] at this;simp only [List.getElem?_toArray] at hv ⊢;rw [List.getElem?_append_left (by omega)];exact hv
 ·rw [List.getElem?_append_right (by omega)] at hi;obtain ⟨l1, l2⟩ := hb _ e hi;refine ⟨l1, fun j a hj => ?_⟩;obtain ⟨v, hv, hr⟩ := l2 j a hj;refine ⟨v, ?_, hr⟩;have : as.length * s ≤ i * s := Nat.mul_le_mul_right _ (by omega);simp only [List.getElem?_toArray] at hv ⊢;rw [List.getElem?_append_right (by omega), hl];rw [Nat.sub_mul] at hv
  rwa [show i * s + j - as.length * s = i * s - as.length * s + j from by omega]
theorem kbC9 {as : List (List AV)} {A : List Value} (ha : RowIn E s as A.toArray) (Z : List Value) : RowIn E s as (A ++ Z).toArray := by
 intro i e hi;obtain ⟨l1, l2⟩ := ha i e hi;refine ⟨l1, fun j a hj => ?_⟩;obtain ⟨v, hv, hr⟩ := l2 j a hj;refine ⟨v, ?_, hr⟩;simp only [List.getElem?_toArray] at hv ⊢;have := (List.getElem?_eq_some_iff.1 hv).1;rw [List.getElem?_append_left (by omega)];exact hv
theorem wae9 {es : List (List AV)} {C : Array Value} (h : RowIn E s es C) (n : Nat) : RowIn E s (es.take n) (C.toList.take (n * s)).toArray := by
 intro i e hi;rw [List.getElem?_take] at hi;split at hi
 ·rename_i hin;obtain ⟨l1, l2⟩ := h i e hi;refine ⟨l1, fun j a hj => ?_⟩;obtain ⟨v, hv, hr⟩ := l2 j a hj;refine ⟨v, ?_, hr⟩;have hjs : j < s := by rw [← l1]; exact (List.getElem?_eq_some_iff.1 hj).1
  have : (i + 1) * s ≤ n * s := Nat.mul_le_mul_right _ hin;rw [Nat.add_mul] at this;simp only [List.getElem?_toArray, List.getElem?_take];rw [if_pos (by omega)];simpa using hv
 ·cases hi
theorem kaC9 {es : List (List AV)} {C : Array Value} (h : RowIn E s es C) (n : Nat) : RowIn E s (es.drop n) (C.toList.drop (n * s)).toArray := by
 intro i e hi;rw [List.getElem?_drop] at hi;obtain ⟨l1, l2⟩ := h _ e hi;refine ⟨l1, fun j a hj => ?_⟩;obtain ⟨v, hv, hr⟩ := l2 j a hj;refine ⟨v, ?_, hr⟩;simp only [List.getElem?_toArray, List.getElem?_drop];rw [Nat.add_mul, Nat.add_assoc] at hv;simpa using hv
end rows
section
variable {P : Program} {S : St} {H : List Blk}
theorem kaq9 {t : TypeId} (h : kay9 P t = true) : (∃ e, P.underlying t = some (.slice e)) ∨ P.underlying t = some .string := by
 unfold kay9 at h;split at h
 ·rename_i e hs;obtain ⟨T, hT, hsh⟩ := xc0 hs (by simp);exact .inl ⟨_, zi0 hT hsh⟩
 ·rename_i hs;obtain ⟨T, hT, hsh⟩ := xc0 hs (by simp);exact .inr (wI0 hT hsh)
 ·cases h
theorem zF0 {t t1 ty e : TypeId} {i : TypeInfo} (ht : P.underlying t = some (.slice e)) (h1 : kay9 P t1 = true) (hi : P.info? e = some i) (base : Option Addr) (n cap m : Nat) (v : Value) (C : List Value) (w w' : World)
  (hl : (Builtin.lenOf v).run P w = .ok m w) (hf : (Builtin.firstCells i.size m v).run P w = .ok C.toArray w) (hroom : n + m ≤ cap)
  (hst : ∀ a, base = some a → (storeCells (a.add (n * i.size)) C).run P w = .ok () w') (hno : base = none → w' = w) :
  (Builtin.append_ #[t, t1] ty #[.slice base n cap, v]).run P w = .ok (.slice base (n + m) cap) w' := by
 cases base with
 | none =>
  have := hno rfl; subst this;rcases kaq9 h1 with ⟨e', hd⟩|hd
  ·simp [Builtin.append_, run_underlying ht, run_underlying hd, Go.sizeOf, typeInfo, hi, hl, hf, hroom]
  ·simp [Builtin.append_, run_underlying ht, run_underlying hd, Go.sizeOf, typeInfo, hi, hl, hf, hroom]
 | some a =>
  have := hst a rfl;rcases kaq9 h1 with ⟨e', hd⟩|hd
  ·simp [Builtin.append_, run_underlying ht, run_underlying hd, Go.sizeOf, typeInfo, hi, hl, hf, hroom, this]
  ·simp [Builtin.append_, run_underlying ht, run_underlying hd, Go.sizeOf, typeInfo, hi, hl, hf, hroom, this]
theorem qaz9 {t t1 ty e : TypeId} {i : TypeInfo} {z : Value} (ht : P.underlying t = some (.slice e)) (h1 : kay9 P t1 = true) (hi : P.info? e = some i) (hz0 : i.zero = some z) (base : Option Addr) (n cap m : Nat) (v : Value) (C O : List Value) (w : World)
  (hl : (Builtin.lenOf v).run P w = .ok m w) (hf : (Builtin.firstCells i.size m v).run P w.drew = .ok C.toArray w.drew) (hfo : (Builtin.firstCells i.size n (.slice base n cap)).run P w.drew = .ok O.toArray w.drew) (hroom : ¬ n + m ≤ cap)
  (h63 : n + m ≤ maxLen) (hb : (n + m) * i.bytes ≤ 140737488355328) :
  (Builtin.append_ #[t, t1] ty #[.slice base n cap, v]).run P w = .ok (.slice (some ⟨w.heap.size, 0, none⟩) (n + m) (grownCap w (n + m) cap e))
   (w.drew.alloc (.cells (O ++ C ++ (Builtin.zeroCells z.cells (grownCap w (n + m) cap e - (n + m))).toList).toArray e)) := by
 have hfit := growslice_fits (bytes := i.bytes) (show cap < n + m by omega) hb;have h63' : ¬ (9223372036854775807 < ((n : Int) + (m : Int))) := by simp only [maxLen] at h63; omega
 have h48' : ¬ (281474976710656 < Builtin.nextslicecap (n + m) cap * i.bytes) := by omega
 have key : (Builtin.append_ #[t, t1] ty #[.slice base n cap, v]).run P w = .ok (.slice (some ⟨w.heap.size, 0, none⟩) (n + m) (grownCap w (n + m) cap e))
   (w.drew.alloc (.cells (O.toArray ++ C.toArray ++ (Builtin.zeroCells z.cells (grownCap w (n + m) cap e - (n + m)))) e)) := by
  rcases kaq9 h1 with ⟨e', hd⟩|hd
  ·simp [Builtin.append_, run_underlying ht, run_underlying hd, Go.sizeOf, typeInfo, zeroValue, hi, hz0, hl, hf, hfo, hroom, h63', h48', Question.forced, newRow, grownCap];congr 2
   apply Array.ext';simp [List.append_assoc]
  ·simp [Builtin.append_, run_underlying ht, run_underlying hd, Go.sizeOf, typeInfo, zeroValue, hi, hz0, hl, hf, hfo, hroom, h63', h48', Question.forced, newRow, grownCap];congr 2
   apply Array.ext';simp [List.append_assoc]
 rw [key];congr 3
 apply Array.ext';simp [List.append_assoc]
theorem qbD9 (hok : S.Ok H) {t t1 ty : TypeId} {d x : AV} {u v : Value} (hd : Rel (S.env H) d u) (hx : Rel (S.env H) x v) (h : (xu0 P H t t1 d x).1 = true) :
  qJ0 P S H (do pure (.value (← Builtin.append_ #[t, t1] ty #[u, v]))) (xu0 P H t t1 d x).2.1 (xu0 P H t t1 d x).2.2 := by
 unfold xu0 at *;split at h
 ·rename_i e hs;obtain ⟨TT, hTT, hsh⟩ := xc0 hs (by simp);have hu := zi0 hTT hsh;cases hE : kc0 P e with
  | none => simp only [hE] at h; cases h
  | some E =>
   obtain ⟨i, dd, z, hi, _, hz, h1z, hEE⟩ := ve0 hE;have hzr : RelL (S.env H) E.zero z.cells.toList := by rw [hEE]; exact kl0 _ _
   have hEsz : i.size = E.sz := by rw [hEE]
   have hEb : i.bytes = E.bytes := by rw [hEE]
   simp only [hE] at h ⊢;cases hsrc : qn0 H E.sz x with
   | none => simp only [hsrc] at h; cases h
   | some news =>
    obtain ⟨C, s1, s2, s3, s4, s5⟩ := kT0 (P := P) hok hx hsrc;have s2w := s2 S.w fun _ => rfl;have s2d := s2 S.w.drew fun _ => rfl;simp only [hsrc] at h ⊢
    -- what lies in a new block
    have hout : ∀ (base : Option Addr) (n cap : Nat) (as : List (List AV)) (O : List Value), u = .slice base n cap → kay9 P t1 = true → 0 < E.sz → E.zero.length = E.sz → ¬ n + news.length ≤ cap → n + news.length ≤ maxLen → (n + news.length) * E.bytes ≤ 140737488355328 →
      as.length = n → O.length = n * E.sz → RowIn (S.env H) E.sz as O.toArray → (Builtin.firstCells E.sz n (.slice base n cap)).run P S.w.drew = .ok O.toArray S.w.drew →
      ∃ K cs, (Builtin.append_ #[t, t1] ty #[u, v]).run P S.w = .ok (.slice (some ⟨S.w.heap.size, 0, none⟩) (n + news.length) K) ((S.w.drewN 1).alloc (.cells cs e)) ∧
       n + news.length ≤ K ∧ K ≤ maxLen ∧ cs.size = K * E.sz ∧ RowIn (S.env H) E.sz (as ++ news) cs := by
     intro base n cap as O hbase hsrc1 hpos hzl hroom h63 hbytes hasl hOl hOr hfo;subst hbase;have hr := qaz9 (P := P) (ty := ty) hu hsrc1 hi hz base n cap news.length v C O S.w (s1 S.w) (by rw [hEsz]; exact s2d) (by rw [hEsz]; exact hfo) hroom h63 (by rw [hEb]; exact hbytes);have hzs : z.cells.size = E.sz := by rw [← hzl, hzr.length]; simp
     have hge := grownCap_ge S.w (n + news.length) cap e;refine ⟨_, _, hr, hge, grownCap_le_maxLen S.w _ cap e h63, ?_, ?_⟩
     ·simp only [List.size_toArray, List.length_append, Array.length_toList, size_zeroCells, hzs, hOl, s3, ← Nat.add_mul];congr 1
      omega
     ·exact kbC9 (zw0 hOr (by rw [hOl, hasl]) s5) _
    split at h
    ·rename_i b n hh c;cases hb : H[b]? with
     | none => simp only [hb] at h; cases h
     | some B =>
      cases B with
      | ob _ => simp only [hb] at h; cases h
      | row s bt es =>
       simp only [hb] at h ⊢;have fin : (kay9 P t1 && decide (0 < E.sz) && E.zero.length == E.sz && decide (hh = es.length) && s == E.sz && bt == e && decide (n + news.length ≤ maxLen) && decide ((n + news.length) * E.bytes ≤ 140737488355328) && bt != zco9) = true →
         ((c = none ∨ ∃ k, c = some k ∧ n + news.length ≤ k) → qJ0 P S H (do pure (.value (← Builtin.append_ #[t, t1] ty #[u, v]))) (.own b (n + news.length) (es.take n ++ news ++ es.drop (n + news.length)).length c) (H.set b (.row s bt (es.take n ++ news ++ es.drop (n + news.length))))) ∧
         ((∃ k, c = some k ∧ ¬ n + news.length ≤ k) → qJ0 P S H (do pure (.value (← Builtin.append_ #[t, t1] ty #[u, v]))) (.own H.length (n + news.length) (n + news.length) none) (H ++ [.row E.sz e (es.take n ++ news)])) := by
        intro hc;simp only [Bool.and_eq_true, decide_eq_true_eq, beq_iff_eq, bne_iff_ne] at hc;obtain ⟨⟨⟨⟨⟨⟨⟨⟨c1, c2⟩, c3⟩, c4⟩, c5⟩, c6⟩, c7⟩, c8⟩, c9⟩ := hc;subst c5; subst c6; subst c4;have hl : zj0 H b es.length = true := by simp [zj0, qo0 hb]
        obtain ⟨s', hs', hnh, hcase⟩ := qu0 hd hl;rw [qo0 hb] at hs'; injection hs' with hs'; injection hs' with e1 _; subst e1
        have hzs : z.cells.size = E.sz := by rw [← c3, hzr.length]; simp
        have htl : (es.take n).length = n := by simp; omega
        have hlt := (List.getElem?_eq_some_iff.1 hb).1;rcases hcase with ⟨hμ, ⟨a0, rfl⟩, hn0, hc0⟩|⟨g, k, cap, hg, rfl, hncap, hcapk, hcn, hcs⟩
        ·-- the row lies nowhere yet
         subst hn0;have hes : es = [] := by
          rcases hok.row b E.sz bt es hb with q|⟨g, k, _, q, _⟩
          ·exact q.2.resolve_right c9
          ·rw [hμ] at q; cases q
         subst hes;by_cases hm : news = []
         ·subst hm;have hC : C = [] := List.eq_nil_of_length_eq_zero (by simpa using s3);subst hC;have hr := zF0 (P := P) (ty := ty) hu c1 hi a0 0 0 0 v [] S.w S.w (s1 S.w) (by rw [hEsz]; exact s2w) (by omega) (fun a q => by simp [storeCells]) (fun _ => rfl);refine ⟨fun hcc => ⟨_, .slice a0 0 0, S, by simp [hr], .inl rfl, ?_, ?_, ?_⟩, fun hcc => ?_⟩
          ·have : H.set b (.row E.sz bt ((([] : List (List AV)).take 0) ++ [] ++ ([] : List (List AV)).drop (0 + 0))) = H := by
            apply List.ext_getElem?;intro q;by_cases e : q = b
            ·subst e; rw [List.getElem?_set_self hlt, hb]; simp
            ·rw [List.getElem?_set_ne (Ne.symm e)]
           simp only [List.length_nil] at this ⊢;rw [this]; exact hok
          ·have : H.set b (.row E.sz bt ((([] : List (List AV)).take 0) ++ [] ++ ([] : List (List AV)).drop (0 + 0))) = H := by
            apply List.ext_getElem?;intro q;by_cases e : q = b
            ·subst e; rw [List.getElem?_set_self hlt, hb]; simp
            ·rw [List.getElem?_set_ne (Ne.symm e)]
           simp only [List.length_nil] at this ⊢;rw [this]; exact Ext.refl _ _ _
          ·refine vh0 (qp0 hlt) (by simp) (.inl ⟨hμ, ⟨_, rfl⟩, by simp, hc0⟩)
          ·obtain ⟨kk, rfl, hk⟩ := hcc;simp at hk
         ·have hpos : 0 < news.length := by
           cases news with
           | nil => exact absurd rfl hm
           | cons _ _ => simp
          obtain ⟨K, cs, hr, k1, k2, k3, k4⟩ := hout a0 0 0 [] [] rfl c1 c2 c3 (by omega) c7 c8 rfl (by simp) (fun q e hq => by simp at hq) (by cases a0 <;> simp [Builtin.firstCells, loadCells, loadCellsFrom]);simp only [Nat.zero_add] at hr k1 k4;simp only [List.nil_append] at k4;refine ⟨fun hcc => ?_, fun hcc => ?_⟩
          ·have hcn : c = none := by
            rcases hcc with q|⟨kk, q, hk⟩
            ·exact q
            ·rcases hc0 with q2|q2
             ·exact q2
             ·rw [q] at q2; injection q2 with q2; omega
           subst hcn;have hE : (([] : List (List AV)).take 0 ++ news ++ ([] : List (List AV)).drop (0 + news.length)) = news := by simp
           rw [hE];refine ⟨_, .slice (some ⟨S.w.heap.size, 0, none⟩) news.length K, S.fresh b K bt cs 1, by simp [hr]; rfl, .inl rfl, kbh9 hok 1 hb hpos k1 k2 k3 k4, wam9 hok K cs 1 hb hpos, ?_⟩;rw [Nat.zero_add];exact vh0 (qp0 hlt) (Nat.le_refl _) (.inr ⟨S.w.heap.size, K, K, xs0 _ _ _ _ _, rfl, k1, Nat.le_refl _, fun _ => rfl, fun j hj => (by cases hj)⟩)
          ·refine ⟨_, .slice (some ⟨S.w.heap.size, 0, none⟩) news.length K, S.fresh H.length K bt cs 1, by simp [hr]; rfl, .inl rfl, ?_, ?_, ?_⟩
           ·have := xaq9 hok (t := bt) (es := news) 1 k1 k2 k3 k4;simpa using this
           ·have := kI0 hok (t := bt) (s := E.sz) (es := news) K cs 1;simpa using this
           ·have hsh2 : shOf (H ++ [.row E.sz bt (([] : List (List AV)).take 0 ++ news)]) H.length = some (E.sz, 0 + news.length) := by rw [kj0]; simp
            rw [Nat.zero_add] at hsh2 ⊢;exact vh0 hsh2 (Nat.le_refl _) (.inr ⟨S.w.heap.size, K, K, xs0 _ _ _ _ _, rfl, k1, Nat.le_refl _, fun _ => rfl, fun j hj => (by cases hj)⟩)
        ·obtain ⟨g0, k0, cur, q1, q2, q3, q4, q5, q6, q7⟩ := (hok.row b E.sz bt es hb).resolve_left (fun q => by rw [q.1] at hg; cases hg);rw [hg] at q1; injection q1 with q1; injection q1 with e1 e2; subst e1; subst e2
         have hnk : n * E.sz ≤ cur.size := by rw [q4]; exact Nat.mul_le_mul_right _ (by omega)
         have hfo : (Builtin.firstCells E.sz n (.slice (some ⟨g, 0, none⟩) n cap)).run P S.w.drew = .ok (cur.toList.take (n * E.sz)).toArray S.w.drew := by
          refine run_firstCells_some S.w.drew E.sz n ⟨g, 0, none⟩ _ _ _ (by simp; omega) fun j u hu => ?_;rw [xl0];rw [List.getElem?_take] at hu;split at hu
          ·show S.w.cell? ⟨g, 0 + j, none⟩ = some u;simp [World.cell?, q3];simpa using hu
          ·cases hu
         by_cases hroom : n + news.length ≤ cap
         ·have hfit : n * E.sz + C.length ≤ cur.size := by rw [s3, q4, ← Nat.add_mul]; exact Nat.mul_le_mul_right _ (by omega)
          have hst := run_storeCells_at P g (n * E.sz) bt C 0 cur S.w q3 (by simpa using hfit) s4;simp only [Nat.add_zero] at hst;have hr := zF0 (P := P) (ty := ty) hu c1 hi (some ⟨g, 0, none⟩) n cap news.length v C S.w _ (s1 S.w) (by rw [hEsz]; exact s2w) hroom (fun a q => by injection q with q; subst q; rw [xl0, hEsz, Nat.zero_add]; exact hst) (fun q => by cases q);refine ⟨fun hcc => ?_, fun hcc => ?_⟩
          ·have hlen : es.length ≤ (es.take n ++ news ++ es.drop (n + news.length)).length := by simp; omega
           have hlen2 : (es.take n ++ news ++ es.drop (n + news.length)).length ≤ k := by simp; omega
           have hlen3 : n + news.length ≤ (es.take n ++ news ++ es.drop (n + news.length)).length := by simp; omega
           refine ⟨_, .slice (some ⟨g, 0, none⟩) (n + news.length) cap, S.put g (cur.toList.take (n * E.sz) ++ C ++ cur.toList.drop (n * E.sz + C.length)).toArray, by simp [hr]; rfl, .inl rfl, xbt9 hok hb hg hlen hlen2 ?_ ?_, zaq9 hok _ hb hg hlen (cs := cur), ?_⟩
           ·simp; omega
           ·have hA := zw0 (wae9 q7 n) (by rw [htl]; simp; omega) s5;have hB := kaC9 q7 (n + news.length);have := zw0 hA (by rw [List.length_append, List.length_append, htl, s3, Nat.add_mul]; simp; omega) hB
            rwa [show (n + news.length) * E.sz = n * E.sz + C.length from by rw [s3, Nat.add_mul]] at this
           ·exact vh0 (qp0 hlt) hlen3 (.inr ⟨g, k, cap, hg, rfl, hroom, hcapk, hcn, hcs⟩)
          ·obtain ⟨kk, rfl, hk⟩ := hcc;have := hcs kk rfl;omega
         ·obtain ⟨K, cs, hr, k1, k2, k3, k4⟩ := hout (some ⟨g, 0, none⟩) n cap (es.take n) (cur.toList.take (n * E.sz)) rfl c1 c2 c3 hroom c7 c8 htl (by simp; omega) (wae9 q7 n) hfo;refine ⟨fun hcc => ?_, fun hcc => ?_⟩
          ·have hcn' : c = none := by
            rcases hcc with q|⟨kk, q, hk⟩
            ·exact q
            ·have := hcs kk q; omega
           subst hcn';have := hcn rfl;have hE : es.take n ++ news ++ es.drop (n + news.length) = es.take n ++ news := by
            rw [List.drop_of_length_le (by omega), List.append_nil]
           rw [hE];have hpos : es.length < (es.take n ++ news).length := by simp; omega
           have hl2 : (es.take n ++ news).length = n + news.length := by simp; omega
           refine ⟨_, .slice (some ⟨S.w.heap.size, 0, none⟩) (n + news.length) K, S.fresh b K bt cs 1, by simp [hr]; rfl, .inl rfl, kbh9 hok 1 hb hpos (by omega) k2 k3 k4, wam9 hok K cs 1 hb hpos, ?_⟩;refine vh0 (qp0 hlt) (by omega) (.inr ⟨S.w.heap.size, K, K, xs0 _ _ _ _ _, rfl, k1, Nat.le_refl _, fun _ => rfl, fun j hj => (by cases hj)⟩)
          ·have hl2 : (es.take n ++ news).length = n + news.length := by simp; omega
           refine ⟨_, .slice (some ⟨S.w.heap.size, 0, none⟩) (n + news.length) K, S.fresh H.length K bt cs 1, by simp [hr]; rfl, .inl rfl, xaq9 hok 1 (by omega) k2 k3 k4, kI0 hok K cs 1, ?_⟩;have hsh2 : shOf (H ++ [.row E.sz bt (es.take n ++ news)]) H.length = some (E.sz, n + news.length) := by rw [kj0, hl2]
           exact vh0 hsh2 (Nat.le_refl _) (.inr ⟨S.w.heap.size, K, K, xs0 _ _ _ _ _, rfl, k1, Nat.le_refl _, fun _ => rfl, fun j hj => (by cases hj)⟩)
       cases c with
       | none => exact (fin h).1 (.inl rfl)
       | some k =>
        simp only at h ⊢;by_cases hk : n + news.length ≤ k
        ·simp only [hk, if_true] at h ⊢;exact (fin h).1 (.inr ⟨k, rfl, hk⟩)
        ·simp only [hk, if_false] at h ⊢;exact (fin h).2 ⟨k, rfl, hk⟩
    ·rename_i s es c;cases news with
     | nil =>
      simp only at h ⊢;have hd' := hd;simp only [Rel] at hd';obtain ⟨a, cap, rfl, d1, d2, d3, d4⟩ := hd';have hC : C = [] := by apply List.eq_nil_of_length_eq_zero; rw [s3]; simp
      subst hC;have hr := zF0 (P := P) (ty := ty) hu h hi a es.length cap 0 v [] S.w S.w (s1 S.w) (by rw [hEsz]; exact s2w) (by omega) (fun a q => by rfl) (fun _ => rfl);exact ⟨_, .slice a es.length cap, S, by simp [hr], .inl rfl, hok, Ext.refl _ _ _, hd⟩
     | cons n0 ns =>
     simp only at h ⊢;generalize n0 :: ns = news at *;cases c with
     | none => simp only at h; cases h
     | some k =>
      simp only [Bool.and_eq_true, decide_eq_true_eq, beq_iff_eq, Bool.or_eq_true, List.isEmpty_iff] at h ⊢;obtain ⟨⟨⟨⟨⟨⟨c1, c2⟩, c3⟩, c4⟩, c5⟩, c6⟩, c7⟩ := h;have hd' := hd;simp only [Rel] at hd';obtain ⟨a, cap, rfl, d1, d2, d3, d4⟩ := hd';have := d3 k rfl;subst this;have hO : ∃ O : List Value, O.length = es.length * E.sz ∧ RowIn (S.env H) E.sz es O.toArray ∧ (Builtin.firstCells E.sz es.length (.slice a es.length cap)).run P S.w.drew = .ok O.toArray S.w.drew := by
       by_cases he : es = []
       ·subst he;refine ⟨[], by simp, fun q e hq => by simp at hq, ?_⟩;cases a <;> simp [Builtin.firstCells, loadCells, loadCellsFrom]
       ·obtain ⟨g, off, rfl, hre⟩ := d4.resolve_left he;have hs := c4.resolve_left he;subst hs;obtain ⟨O, o1, o2, o3, o4⟩ := xae9 es g off hre;refine ⟨O, o1, o2, run_firstCells_some S.w.drew _ es.length ⟨g, off, none⟩ _ _ O o1 fun j u hu => ?_⟩;rw [xl0];exact qam9 hok (o4 j u hu)
      obtain ⟨O, o1, o2, o3⟩ := hO;obtain ⟨K, cs, hr, k1, k2, k3, k4⟩ := hout a es.length cap es O rfl c1 c2 c3 (by omega) c6 c7 rfl o1 o2 o3;refine ⟨_, .slice (some ⟨S.w.heap.size, 0, none⟩) (es.length + news.length) K, S.fresh H.length K e cs 1, by simp [hr]; rfl, .inl rfl, xaq9 hok 1 (by simpa using k1) k2 k3 k4, kI0 hok K cs 1, ?_⟩;have hsh2 : shOf (H ++ [.row E.sz e (es ++ news)]) H.length = some (E.sz, es.length + news.length) := by rw [kj0]; simp
      exact vh0 hsh2 (Nat.le_refl _) (.inr ⟨S.w.heap.size, K, K, xs0 _ _ _ _ _, rfl, k1, Nat.le_refl _, fun _ => rfl, fun j hj => (by cases hj)⟩)
    ·cases h
 ·cases h
end
set_option autoImplicit false
section
variable {P : Program} {S : St} {H : List Blk}
theorem zbD9 (hok : S.Ok H) {sz m : Nat} {x : AV} {v : Value} {es : List (List AV)} (hr : Rel (S.env H) x v) (h : qn0 H sz x = some es) (hm : m ≤ es.length) (hx : qcQ9 x = true) :
  ∃ C : List Value, (∀ W : World, (Builtin.lenOf v).run P W = .ok es.length W) ∧ (Builtin.firstCells sz m v).run P S.w = .ok C.toArray S.w ∧
   C.length = m * sz ∧ (∀ u ∈ C, u.oneCell' = true) ∧ RowIn (S.env H) sz (es.take m) C.toArray := by
 obtain ⟨_, hlen, _⟩ := kT0 (P := P) hok hr h;have fin : ∀ (x' : AV) (v' : Value), Rel (S.env H) x' v' → qn0 H sz x' = some (es.take m) → (Builtin.firstCells sz m v).run P S.w = (Builtin.firstCells sz m v').run P S.w → ∃ C : List Value, (∀ W : World, (Builtin.lenOf v).run P W = .ok es.length W) ∧ (Builtin.firstCells sz m v).run P S.w = .ok C.toArray S.w ∧
   C.length = m * sz ∧ (∀ u ∈ C, u.oneCell' = true) ∧ RowIn (S.env H) sz (es.take m) C.toArray := fun x' v' h1 h2 h3 => by
  obtain ⟨C, c1, c2, c3, c4, c5⟩ := kT0 (P := P) hok h1 h2;have hl : (es.take m).length = m := by simp; omega
  rw [hl] at c2 c3;exact ⟨C, hlen, h3.trans (c2 S.w fun _ => rfl), c3, c4, c5⟩
 cases x with
 | sl s es' c =>
  simp only [qn0] at h;split at h
  ·rename_i hc;injection h with h; subst h
   have hr' := hr;simp only [Rel] at hr';obtain ⟨a, cap, rfl, h1, h2, h3, h4⟩ := hr';refine fin (.sl s (es'.take m) none) (.slice a m cap) ?_ ?_ (by cases a <;> rfl)
   ·simp only [Rel];refine ⟨a, cap, by simp; omega, by simp; omega, h2, (fun k q => by cases q), ?_⟩;rcases h4 with rfl|⟨g, off, h5, h6⟩
    ·exact .inl (by simp)
    ·refine .inr ⟨g, off, h5, ?_⟩;have ht : ∀ (es' : List (List AV)) (m off : Nat), RelE (S.env H) s es' g off → RelE (S.env H) s (es'.take m) g off := fun es' => by
      induction es' with
      | nil => intro m off h; simpa using h
      | cons e es' ih =>
       intro m off h6;cases m with
       | zero => simp [RelE]
       | succ m =>
        simp only [RelE, List.take_succ_cons] at h6 ⊢;exact ⟨h6.1, h6.2.1, ih m _ h6.2.2⟩
     exact ht es' m off h6
   ·unfold qn0;simp only;rw [if_pos];cases es' with
    | nil => simp
    | cons e es' => simp at hc; simp [hc]
  ·cases h
 | own b n hh c =>
  simp only [qn0] at h;split at h
  ·rename_i s t es' hb;split at h
   ·rename_i hc;injection h with h; subst h
    have hc' := hc;simp only [Bool.and_eq_true, decide_eq_true_eq, beq_iff_eq] at hc';have hl : zj0 H b hh = true := by simp [zj0, qo0 hb, hc'.1]
    obtain ⟨s', hs, hn, hcase⟩ := qu0 hr hl;have hmn : m ≤ n := by simp at hm; omega
    have hsrc : qn0 H sz (.own b m hh (some m)) = some ((es'.take n).take m) := by
     unfold qn0;simp only [hb];rw [if_pos hc, List.take_take, Nat.min_eq_left hmn]
    rcases hcase with ⟨hμ, ⟨a0, rfl⟩, rfl, hc0⟩|⟨g, k, cap, hg, rfl, h1, h2, h3, h4⟩
    ·obtain rfl : m = 0 := by omega
     refine fin (.own b 0 hh (some 0)) (.slice a0 0 0) ?_ hsrc rfl;exact vh0 hs (by omega) (.inl ⟨hμ, ⟨_, rfl⟩, rfl, .inr rfl⟩)
    ·refine fin (.own b m hh (some m)) (.slice (some ⟨g, 0, none⟩) m m) ?_ hsrc rfl;exact vh0 hs (by omega) (.inr ⟨g, k, m, hg, rfl, Nat.le_refl _, by omega, (fun q => by cases q), fun j hj => by injection hj⟩)
   ·cases h
  ·cases h
 | str l => cases hx
 | _ => simp [qn0] at h
theorem wcp9 (hok : S.Ok H) {t t1 ty : TypeId} {d x : AV} {u v : Value} (hd : Rel (S.env H) d u) (hx : Rel (S.env H) x v) (h : (qaJ9 P H t d x).1 = true) :
  qJ0 P S H (do pure (.value (← Builtin.copy_ #[t, t1] ty #[u, v]))) (qaJ9 P H t d x).2.1 (qaJ9 P H t d x).2.2 := by
 unfold qaJ9 at *;split at h
 ·rename_i e hs;obtain ⟨TT, hTT, hsh⟩ := xc0 hs (by simp);have hu := zi0 hTT hsh;cases hE : kc0 P e with
  | none => simp only [hE] at h; cases h
  | some E =>
   simp only [hE] at h ⊢;cases hsrc : qn0 H E.sz x with
   | none => simp only [hsrc] at h; cases h
   | some news =>
    cases hdr : waq9 d with
    | none => simp only [hsrc, hdr] at h; cases h
    | some q =>
    obtain ⟨b, i, n, hh⟩ := q;simp only [hsrc, hdr] at h ⊢;cases hb : H[b]? with
    | none => simp only [hb] at h; cases h
    | some B =>
     cases B with
     | ob _ => simp only [hb] at h; cases h
     | row s bt es =>
      simp only [hb, Bool.and_eq_true, decide_eq_true_eq, beq_iff_eq] at h ⊢;obtain ⟨⟨⟨h1, h2⟩, h3⟩, h4⟩ := h;subst h3;have hl : zj0 H b hh = true := by simp [zj0, qo0 hb, h2]
      have hdst : ∃ g k cap, S.μ b = some (g, k) ∧ u = .slice (some ⟨g, i * E.sz, none⟩) n cap ∧ i + n ≤ hh := by
       cases d with
       | own b' n' h' c =>
        simp only [waq9] at hdr;injection hdr with q; injection q with q1 q; injection q with q2 q; injection q with q3 q4
        subst q1 q2 q3 q4;obtain ⟨s', hs', hnh, hcase⟩ := qu0 hd hl;rcases hcase with ⟨_, _, hn0, _⟩|⟨g, k, cap, hg, rfl, _⟩
        ·omega
        ·exact ⟨g, k, cap, hg, by simp, by omega⟩
       | sub b' i' n' h' =>
        simp only [waq9] at hdr;injection hdr with q; injection q with q1 q; injection q with q2 q; injection q with q3 q4
        subst q1 q2 q3 q4;simp only [Rel] at hd;obtain ⟨s', cur, r1, r2, r3⟩ := hd;have r1 : shOf H b' = some (s', cur) := r1;rw [qo0 hb] at r1; injection r1 with r1; injection r1 with e1 e2
        obtain ⟨r4, g, k, cap, hg, hv⟩ := r3 (by omega);subst e1;exact ⟨g, k, cap, hg, hv, r4⟩
       | _ => simp [waq9] at hdr
      obtain ⟨g, k, cap, hg, rfl, hin⟩ := hdst;obtain ⟨C, s1, s2, s3, s4, s5⟩ := zbD9 (P := P) (m := min news.length n) hok hx hsrc (Nat.min_le_left ..) h4;obtain ⟨g0, k0, cur, q1, q2, q3, q4, q5, q6, q7⟩ := (hok.row b E.sz bt es hb).resolve_left (fun q => by rw [q.1] at hg; cases hg);rw [hg] at q1; injection q1 with q1; injection q1 with e1 e2; subst e1; subst e2
      have hmn : min news.length n ≤ n := Nat.min_le_right ..;have hml : min news.length n ≤ news.length := Nat.min_le_left ..;generalize hm : min news.length n = m at *;have hfit : i * E.sz + C.length ≤ cur.size := by rw [s3, q4, ← Nat.add_mul]; exact Nat.mul_le_mul_right _ (by omega)
      have hst := run_storeCells_at P g (i * E.sz) bt C 0 cur S.w q3 (by simpa using hfit) s4;simp only [Nat.add_zero] at hst;have hlen : (es.take i ++ news.take m ++ es.drop (i + m)).length = es.length := by simp; omega
      have htl : (es.take i).length = i := by simp; omega
      have htm : (news.take m).length = m := by simp; omega
      refine ⟨.value (.int .i64 (m : Int)), .int .i64 (m : Int), S.put g (cur.toList.take (i * E.sz) ++ C ++ cur.toList.drop (i * E.sz + C.length)).toArray, ?_, .inl rfl, xbt9 hok hb hg (by omega) (by omega) ?_ ?_, zaq9 hok _ hb hg (by omega) (cs := cur), ?_⟩
      ·have hm' : Nat.min news.length n = m := hm;simp only [Builtin.copy_, Sem.run_bind, run_underlying hu, Result.andThen_ok, s1, vf0 hE, hm', s2, List.getElem?_toArray, List.getElem?_cons_zero, List.getElem?_cons_succ];simp [hst, s2, goInt];rfl
      ·simp; omega
      ·have hA := zw0 (wae9 q7 i) (by rw [htl]; simp; omega) s5;have hB := kaC9 q7 (i + m);have := zw0 hA (by rw [List.length_append, List.length_append, htl, s3, htm, Nat.add_mul]; simp; omega) hB
       rwa [show (i + m) * E.sz = i * E.sz + C.length from by rw [s3, Nat.add_mul]] at this
      ·simp [Rel]
 ·cases h
end
section
variable {P : Program} {E : Env}
theorem qU0 (k : AV) : ∀ (es : List (AV × AV)) (l : List MapEntry) (i : Nat), zu0 k es l i = (zu0 k es l 0).map fun q => (q.1 + i, q.2)
 | [], l, i => by simp [zu0]
 | p :: es, [], i => by simp [zu0]
 | p :: es, e :: l, i => by
  simp only [zu0];split
  ·simp
  ·rw [qU0 k es l (i + 1), qU0 k es l (0 + 1)];cases zu0 k es l 0 with
   | none => rfl
   | some q => simp; omega
theorem wbt9 {k x : AV} {kv xv : Value} (hk : Rel E k kv) (hx : Rel E x xv) : ∀ (es : List (AV × AV)) (l : List MapEntry), RelM E es l →
  match zu0 k es l 0 with
  | some q => (∃ e, l[q.1]? = some e ∧ Instr.sameBits 10000 e.key kv = true) ∧ RelM E (updA es k x) (l.modify q.1 fun e => { e with key := kv, val := xv })
  | none => ∀ c, RelM E (updA es k x) (l ++ [{ key := kv, val := xv, born := c }])
 | [], l, hr => by
  simp only [RelM] at hr; subst hr;simp only [zu0, updA, List.nil_append];intro c;exact ⟨_, [], rfl, hk, hx, rfl⟩
 | p :: es, l, hr => by
  simp only [RelM] at hr;obtain ⟨e, l, rfl, h1, h2, h3⟩ := hr;simp only [zu0, updA];by_cases hs : xQ0 k p.1 = true
  ·rw [if_pos hs, if_pos hs];obtain ⟨e1, e2, e3⟩ := vco9 hs hk h1;refine ⟨⟨e, rfl, by rw [← e2] at e3 ⊢; exact e3⟩, ?_⟩;simp only [List.modify_zero_cons];exact ⟨_, l, rfl, hk, hx, h3⟩
  ·rw [if_neg hs, if_neg hs, qU0];have ih := wbt9 hk hx es l h3;cases hq : zu0 k es l 0 with
   | none =>
    rw [hq] at ih;simp only [Option.map_none];intro c;exact ⟨e, _, rfl, h1, h2, ih c⟩
   | some q =>
    rw [hq] at ih;simp only [Option.map_some];obtain ⟨⟨e', he, hb⟩, ih⟩ := ih;refine ⟨⟨e', by simpa using he, hb⟩, ?_⟩;simp only [List.modify_succ_cons];exact ⟨e, _, rfl, h1, h2, ih⟩
end
section
variable {P : Program} {S : St} {H : List Blk}
def St.newob (S : St) (k : Nat) (o : Obj) : St := { S with ν := upd S.ν k (some S.w.heap.size), w := S.w.alloc o }
theorem kaT9 (hok : S.Ok H) (x : OB) (o : Obj) : Ext H.length S H (S.newob H.length o) (H ++ [.ob x]) where
 os := rfl
 tape := rfl
 output := rfl
 size := by simp [St.newob]
 keep i hi hno := Below.heap_alloc S.w o i hi
 M i o h := h
 dom i h := .inl h
 own i h := by
  obtain ⟨b, hb⟩ := h;by_cases e : b < H.length
  ·left
   refine ⟨b, ?_⟩;simpa only [St.at, St.newob, List.getElem?_append_left e, kg0 _ _ (show b ≠ H.length by omega)] using hb
  ·right
   by_cases e2 : b = H.length
   ·subst e2;simp [St.at, St.newob, qf0] at hb;omega
   ·have : (H ++ [Blk.ob x])[b]? = none := List.getElem?_eq_none (by simp; omega);simp [St.at, this] at hb
 sh b s cur hb hs := ⟨cur, Nat.le_refl _, by simpa [shOf, List.getElem?_append_left hb] using hs, fun _ => rfl⟩
 ν b g hb hg := by
  have e : (S.newob H.length o).ν b = S.ν b := kg0 _ _ (by omega);simpa [mpOf, List.getElem?_append_left hb, e] using hg
 len h := by simp
theorem vcp9 (hok : S.Ok H) {x : OB} {o : Obj} (hin : ObIn (S.env H) x o) : (S.newob H.length o).Ok (H ++ [.ob x]) := by
 have hle := (kaT9 hok x o).le (Nat.le_refl _);have hnew : S.M S.w.heap.size = none := by
  cases ho : S.M S.w.heap.size with
  | none => rfl
  | some o => have := M_lt hok (k := S.w.heap.size) (by rw [ho]; simp); omega
 have hold : ∀ g o', S.w.heap[g]? = some o' → (S.newob H.length o).w.heap[g]? = some o' := fun g o' h =>
  (Below.heap_alloc S.w o g (Array.getElem?_eq_some_iff.1 h).1).trans h
 have hat : ∀ b, b < H.length → (S.newob H.length o).at (H ++ [.ob x]) b = S.at H b := fun b e => by
  simp only [St.at, St.newob, List.getElem?_append_left e, kg0 _ _ (show b ≠ H.length by omega)]
 have hatb : (S.newob H.length o).at (H ++ [.ob x]) H.length = some S.w.heap.size := by
  simp [St.at, St.newob, qf0]
 have hge : ∀ b g', (S.newob H.length o).at (H ++ [.ob x]) b = some g' → b < H.length ∨ b = H.length := fun b g' hb => by
  by_cases e : b ≤ H.length
  ·omega
  ·have : (H ++ [Blk.ob x])[b]? = none := List.getElem?_eq_none (by simp; omega);simp [St.at, this] at hb
 refine ⟨fun i o' hi => hold i o' (hok.imm i o' hi), fun b s' t' es2 hb => ?_, fun b x' hb => ?_, fun b y g' hx hy => ?_⟩
 ·have hlt : b < H.length := by
   rcases Nat.lt_or_ge b H.length with q|q
   ·exact q
   ·have := (List.getElem?_eq_some_iff.1 hb).1;simp at this;have e : b = H.length := by omega
    subst e; simp at hb
  rw [List.getElem?_append_left hlt] at hb;rcases hok.row b s' t' es2 hb with h|⟨g', k', cs2, h1, h2, h3, h4, h5, h6, h7⟩
  ·exact .inl h
  ·exact .inr ⟨g', k', cs2, h1, h2, hold _ _ h3, h4, h5, h6, h7.mono hle⟩
 ·rcases Nat.lt_or_ge b H.length with hlt|q
  ·rw [List.getElem?_append_left hlt] at hb;obtain ⟨g', o1, h1, h2, h3, h4⟩ := hok.ob b x' hb;exact ⟨g', o1, (kg0 _ _ (show b ≠ H.length by omega)).trans h1, h2, hold _ _ h3, h4.mono hle⟩
  ·have e : b = H.length := by
    have := (List.getElem?_eq_some_iff.1 hb).1;simp at this; omega
   subst e;simp at hb; subst hb;exact ⟨_, o, qf0 _ _ _, hnew, World.alloc_heap_new S.w o, hin.mono hle⟩
 ·rcases hge b g' hx with ex|ex
  ·rcases hge y g' hy with ey|ey
   ·rw [hat b ex] at hx; rw [hat y ey] at hy;exact hok.inj b y g' hx hy
   ·rw [ey, hatb] at hy; rw [hat b ex] at hx;injection hy with hy
    have := qaj9 hok hx;omega
  ·rcases hge y g' hy with ey|ey
   ·rw [ex, hatb] at hx; rw [hat y ey] at hy;injection hx with hx
    have := qaj9 hok hy;omega
   ·rw [ex, ey]
def St.setob (S : St) (g : Nat) (o : Obj) : St := { S with w := S.w.putObj g o }
theorem qar9 {b : Nat} {x x' : OB} (hb : H[b]? = some (.ob x)) (g : Nat) (o : Obj) : (S.setob g o).env (H.set b (.ob x')) = S.env H := by
 have hlt := (List.getElem?_eq_some_iff.1 hb).1;simp only [St.env, St.setob];congr 1
 ·funext y
  by_cases e : y = b
  ·subst e; simp only [shOf, List.getElem?_set_self hlt, hb]
  ·simp only [shOf, List.getElem?_set_ne (Ne.symm e)]
 ·funext y
  by_cases e : y = b
  ·subst e; simp only [mpOf, List.getElem?_set_self hlt, hb]
  ·simp only [mpOf, List.getElem?_set_ne (Ne.symm e)]
theorem vbt9 {b : Nat} {x x' : OB} (hb : H[b]? = some (.ob x)) (g : Nat) (o : Obj) (y : Nat) : (S.setob g o).at (H.set b (.ob x')) y = S.at H y := by
 have hlt := (List.getElem?_eq_some_iff.1 hb).1;by_cases e : y = b
 ·subst e; simp only [St.at, List.getElem?_set_self hlt, hb, St.setob]
 ·simp only [St.at, List.getElem?_set_ne (Ne.symm e), St.setob]
theorem zbP9 (hok : S.Ok H) {b g : Nat} {x : OB} (x' : OB) (hb : H[b]? = some (.ob x)) (hg : S.ν b = some g) (o : Obj) : Ext H.length S H (S.setob g o) (H.set b (.ob x')) where
 os := rfl
 tape := rfl
 output := rfl
 size := by simp [St.setob]
 keep i hi hno := World.putObj_heap_other (by rintro rfl; exact hno ⟨b, by simp [St.at, hb, hg]⟩)
 M i o h := h
 dom i h := .inl h
 own i h := by
  obtain ⟨y, hy⟩ := h;rw [vbt9 hb] at hy;exact .inl ⟨y, hy⟩
 sh y s cur hy hs := ⟨cur, Nat.le_refl _, by
  have := congrArg (fun E : Env => E.sh y) (qar9 (S := S) (x' := x') hb g o);exact this.trans hs, fun _ => rfl⟩
 ν y g' hy hg' := by
  have := congrArg (fun E : Env => E.ν y) (qar9 (S := S) (x' := x') hb g o);exact this.trans hg'
 len h := by simp
theorem kcp9 (hok : S.Ok H) {b g : Nat} {x x' : OB} {o : Obj} (hb : H[b]? = some (.ob x)) (hg : S.ν b = some g) (hin : ObIn (S.env H) x' o) : (S.setob g o).Ok (H.set b (.ob x')) := by
 have hlt := (List.getElem?_eq_some_iff.1 hb).1;have hatb : S.at H b = some g := by simp [St.at, hb, hg]
 have hne : ∀ y k, y ≠ b → S.at H y = some k → k ≠ g := fun y k hy hk e => hy (hok.inj y b g (by rw [← e]; exact hk) hatb);have hother : ∀ k, k ≠ g → (S.setob g o).w.heap[k]? = S.w.heap[k]? := fun k hk => World.putObj_heap_other hk;obtain ⟨g1, o1, q1, q2, q3, _⟩ := hok.ob b x hb;rw [hg] at q1; injection q1 with q1; subst q1
 have henv := qar9 (S := S) (x' := x') hb g o;refine ⟨fun i o' hi => ?_, fun y s t es hy => ?_, fun y z hy => ?_, fun y z k hy hz => ?_⟩
 ·have hi' : S.M i = some o' := hi;exact (hother i (by rintro rfl; rw [q2] at hi'; cases hi')).trans (hok.imm i o' hi')
 ·rw [henv];have e : y ≠ b := by
   rintro rfl;rw [List.getElem?_set_self hlt] at hy; cases hy
  rw [List.getElem?_set_ne (Ne.symm e)] at hy;rcases hok.row y s t es hy with q|⟨g', k, cs, h1, h2, h3, h4⟩
  ·exact .inl q
  ·exact .inr ⟨g', k, cs, h1, h2, (hother g' (hne y g' e (by simp [St.at, hy, h1]))).trans h3, h4⟩
 ·rw [henv];by_cases e : y = b
  ·subst e;rw [List.getElem?_set_self hlt] at hy;injection hy with hy; injection hy with hy; subst hy
   exact ⟨g, o, hg, q2, World.putObj_heap_same (Array.getElem?_eq_some_iff.1 q3).1, hin⟩
  ·rw [List.getElem?_set_ne (Ne.symm e)] at hy;obtain ⟨g', o', h1, h2, h3, h4⟩ := hok.ob y z hy;exact ⟨g', o', h1, h2, (hother g' (hne y g' e (by simp [St.at, hy, h1]))).trans h3, h4⟩
 ·rw [vbt9 hb] at hy hz;exact hok.inj y z k hy hz
theorem qbi9 (hok : S.Ok H) {t : TypeId} {r : Option AV} {rv : Option Value} (hr : RelO (S.env H) r rv) (h : (qF0 P H t r).1 = true) :
  qJ0 P S H (do pure (.value (← Instr.makeMap t rv))) (qF0 P H t r).2.1 (qF0 P H t r).2.2 := by
 unfold qF0 at *;split at h
 ·rename_i kT eT hs;obtain ⟨T, hT, hsh⟩ := xc0 hs (by simp);have hu := qae9 hT hsh;have hin : ObIn (S.env H) (.map kT eT []) (.map #[] 0) := ⟨#[], 0, rfl, rfl, by simp⟩;have hrun : (Instr.makeMap t rv).run P S.w = .ok (.map (some S.w.heap.size)) (S.w.alloc (.map #[] 0)) := by
   cases r with
   | none =>
    simp only [RelO] at hr; subst hr;simp [Instr.makeMap, Sem.run_bind, run_newObj_alloc, Result.andThen]
   | some a =>
    simp only [RelO] at hr;obtain ⟨u, rfl, hu'⟩ := hr;cases a with
    | int k n =>
     have : u = .int k n := by simpa [Rel] using hu'
     subst this;simp [Instr.makeMap, Sem.run_bind, run_underlying hu, asInt, asIntOf, run_newObj_alloc, Result.andThen]
    | _ => simp at h
  refine ⟨.value (.map (some S.w.heap.size)), .map (some S.w.heap.size), S.newob H.length (.map #[] 0), ?_, .inl rfl, vcp9 hok hin, kaT9 hok _ _, ?_⟩
  ·simp [Sem.run_bind, hrun, Result.andThen]; rfl
  ·simp only [Rel];exact ⟨_, by simp [St.env, mpOf, St.newob, qf0], rfl⟩
 ·cases h
theorem qaD9 (hok : S.Ok H) {t : TypeId} {m k x : AV} {mv kv xv : Value} (hm : Rel (S.env H) m mv) (hk : Rel (S.env H) k kv) (hx : Rel (S.env H) x xv) (h : (vT0 P H t m k x).1 = true) :
  qJ0 P S H (do Instr.mapUpdate t mv kv xv; pure .skip) (vT0 P H t m k x).2.1 (vT0 P H t m k x).2.2 := by
 unfold vT0 at *;split at h
 ·rename_i kT eT b hs;obtain ⟨T, hT, hsh⟩ := xc0 hs (by simp);have hu := qae9 hT hsh;split at h
  ·rename_i k0 v0 es hb;have hmk := h;simp only [vaS9, Bool.and_eq_true] at h;simp only [Rel] at hm;obtain ⟨g, hg, rfl⟩ := hm;have hg : S.ν b = some g := by
    have : mpOf S.ν H b = some g := hg;simpa [mpOf, hb] using this
   obtain ⟨g', o, h1, h2, h3, ents, clock, rfl, h5⟩ := hok.ob b _ hb;rw [hg] at h1; injection h1 with h1; subst h1
   have hr := mapIn_iff.1 h5;have hck := xv0 (P := P) S.w false 8 kT k kv hk h.1.2 10000 (by decide);have hfk := vap9 S.w hk hr hmk;have hgo : (getObj g).run P S.w = .ok (.map ents clock) S.w := by simp [getObj, Sem.run, h3]
   have hso : ∀ o', (setObj g o').run P S.w = .ok () (S.w.putObj g o') := fun o' => by simp [setObj, Sem.run, h3, World.putObj]
   have hup := wbt9 hk hx es ents.toList hr;have fin : ∀ ob', ObIn (S.env H) (.map k0 v0 (updA es k x)) ob' → (Instr.mapUpdate t (.map (some g)) kv xv).run P S.w = .ok () (S.w.putObj g ob') →
     qJ0 P S H (do Instr.mapUpdate t (.map (some g)) kv xv; pure .skip) (.tup []) (H.set b (.ob (.map k0 v0 (updA es k x)))) := fun ob' hin hrun =>
    ⟨.skip, undef, S.setob g ob', by simp [Sem.run_bind, hrun, Result.andThen, St.setob], .inr ⟨rfl, rfl⟩, kcp9 hok hb hg hin, zbP9 hok _ hb hg ob', by simp [Rel, RelL, undef]⟩
   simp only [hb];cases hq : zu0 k es ents.toList 0 with
   | none =>
    rw [hq] at hup;refine fin (.map (ents.push { key := kv, val := xv, born := clock }) (clock + 1)) ⟨_, _, rfl, mapIn_iff.2 (by simpa using hup clock)⟩ ?_;simp only [Instr.mapUpdate, Sem.run_bind, run_underlying hu, Result.andThen_ok, hgo, hck, hfk, hq, hso]
   | some q =>
    rw [hq] at hup;obtain ⟨⟨e, he, hbits⟩, hup⟩ := hup;refine fin (.map (ents.modify q.1 fun e => { e with key := kv, val := xv }) clock) ⟨_, _, rfl, mapIn_iff.2 (by simpa using hup)⟩ ?_;have he' : ents[q.1]? = some e := by simpa using he
    simp only [Instr.mapUpdate, Sem.run_bind, run_underlying hu, Result.andThen_ok, hgo, hck, hfk, hq, he', Option.map_some, Option.getD_some, Instr.keyThatStays, hbits, if_true, Sem.run_pure, hso]
  ·cases h
 ·cases h
end
end Go.V

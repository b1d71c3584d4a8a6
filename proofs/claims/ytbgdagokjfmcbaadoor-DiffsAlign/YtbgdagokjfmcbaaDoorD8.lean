import Derived.Test.YtbgdagokjfmcbaaDoorD3
import Derived.Test.YtbgdagokjfmcbaaDoorV33
namespace Go.Proofs
open Go Go.V
set_option linter.unusedVariables false
set_option linter.unusedSimpArgs false
set_option maxHeartbeats 0
set_option maxRecDepth 100000
theorem xp0 (xs : List Int) : idsE kX0 (ints xs) = true := wl0 _ xs
theorem vaN9 {α : Type} (l : List α) (i : Nat) (v d : α) (h : i < l.length) : (l.set i v).getD i d = v := by simp [List.getD_eq_getElem?_getD, h]
theorem xt0 (xs : List Int) (k : Nat) (h : k < xs.length) : xs.drop k = xs.getD k 0 :: xs.drop (k + 1) := by
 rw [List.drop_eq_getElem_cons h]; simp [h]
def lexI : List Int → List Int → Int
 | x :: xs, y :: ys => if x < y then -1 else if y < x then 1 else lexI xs ys
 | _, _ => 0
def cmpM (xs ys : List Int) : Int := if xs.length < ys.length then -1 else if ys.length < xs.length then 1 else lexI xs ys
theorem zab9 (xs ys : List Int) (k : Nat) (h1 : k < xs.length) (h2 : k < ys.length) : lexI (xs.drop k) (ys.drop k) = if xs.getD k 0 < ys.getD k 0 then -1 else if ys.getD k 0 < xs.getD k 0 then 1 else lexI (xs.drop (k + 1)) (ys.drop (k + 1)) := by
 rw [List.drop_eq_getElem_cons h1, List.drop_eq_getElem_cons h2]; simp [lexI, h1, h2]
set_option maxRecDepth 100000 in
theorem qaG9 (xs ys : List Int) (c d : Option Nat) (hx : xs.length ≤ 1000000) (hy : ys.length ≤ 1000000) : PC Tryd.prog G0 52 [.sl 1 (ints xs) c, .sl 1 (ints ys) d] (.int .i64 (cmpM xs ys)) := by
 refine wf0 0 40 [.tmp 4] Tryd.func52 rfl rfl rfl (by simp) ?_;intro s ⟨a0, a1, hz⟩;simp only [Nat.zero_add] at a1;clear hz;repeat' (first|refine nv ?_|(with_reducible first|refine gG ?_ ?_|refine ⟨fun h => ?_, fun h => ?_⟩ <;> try omega|refine andG ?_)|simp (disch := try exact qa0) only [push_cast, simprocAttr, a0, a1, zb0, wc0, qh0])
 ·simp only [cmpM, if_pos h]
 ·rename_i h1;simp only [cmpM, if_neg h1, if_pos h]
 ·rename_i h1;have hlen : xs.length = ys.length := by omega
  have hcm : cmpM xs ys = lexI xs ys := by simp only [cmpM, if_neg h1, if_neg h]
  refine go_loop rfl (fun m s H => ∃ k, k ≤ xs.length ∧ m = xs.length - k ∧ H = [] ∧ s 0 = .sl 1 (ints xs) c ∧ s 1 = .sl 1 (ints ys) d ∧ s 5 = .int .i64 (k : Int) ∧ lexI xs ys = lexI (xs.drop k) (ys.drop k)) trivial (Weak.refl _ _) ⟨0, by omega, rfl, rfl, ?_⟩ ?_
  ·(simp (disch := try exact qa0) only [push_cast, simprocAttr, a0, a1, zb0, wc0, qh0]) <;> (first|rfl|exact ⟨rfl, rfl⟩|omega|(congr 1; omega)|(simp; done)|((repeat' apply And.intro) <;> first|rfl|omega|(congr 1; omega)))
  ·rintro m s H ⟨k, hk, rfl, rfl, a0, a1, a5, hlex⟩;repeat' (first|refine nv ?_|(with_reducible first|refine gG ?_ ?_|refine ⟨fun h => ?_, fun h => ?_⟩ <;> try omega|refine andG ?_)|simp (disch := try exact qa0) only [push_cast, simprocAttr, a0, a1, a5, zb0, wc0, qh0])
   ·have h3 := zab9 xs ys k (by omega) (by omega);rw [hcm, hlex, h3, if_pos h]
   ·rename_i h2;have h3 := zab9 xs ys k (by omega) (by omega);rw [hcm, hlex, h3, if_neg h2, if_pos h]
   ·rename_i h2;have h3 := zab9 xs ys k (by omega) (by omega);refine qZ0 ⟨trivial, xs.length - (k + 1), _, _, by omega, Weak.refl _ _, k + 1, by omega, rfl, rfl, ?_⟩;simp (disch := try exact qa0) only [push_cast, simprocAttr, a0, a1, a5, zb0, wc0, qh0];rw [hlex, h3, if_neg h2, if_neg h];try rfl
   ·have : k = xs.length := by omega
    subst this;rw [hcm, hlex, List.drop_length];cases ys.drop xs.length <;> rfl
def vcZ9 (xs ys : List Int) : Bool := decide (cmpM xs ys = 0)
set_option maxRecDepth 100000 in
theorem kcb9 (xs ys : List Int) (c d : Option Nat) (hx : xs.length ≤ 1000000) (hy : ys.length ≤ 1000000) : PC Tryd.prog G0 22 [.sl 1 (ints xs) c, .sl 1 (ints ys) d] (.bool (vcZ9 xs ys)) := by
 refine wf0 0 9 [.tmp 4] Tryd.func22 rfl rfl rfl (by simp) ?_;intro s ⟨a0, a1, hz⟩;simp only [Nat.zero_add] at a1;clear hz;repeat' (first|refine nv ?_|(with_reducible first|refine gG ?_ ?_|refine ⟨fun h => ?_, fun h => ?_⟩ <;> try omega|refine andG ?_)|(refine ⟨_, _, kf0 (qaG9 xs ys c d hx hy) (by simp [idsL, AV.ids, xp0]) _, ?_⟩)|simp (disch := try exact qa0) only [push_cast, simprocAttr, a0, a1, en52, xp0])
 rfl
def badI (n x : Int) : Bool := decide (x < 0) || decide (n ≤ x)
def wB0 (w : List Int) (n : Int) : Int := if 16 < n ∨ 256 < w.length then 3 else if n < 1 then 1 else if w.any (badI n) then 1 else 0
set_option maxRecDepth 100000 in
theorem kcZ9 (x : Int) : PC Tryd.prog G0 109 [.int .i64 x] (.bool false) := by
 refine wf0 0 6 [.tmp 2] Tryd.func109 rfl rfl rfl (by simp) ?_;intro s ⟨a0, hz⟩;clear hz;repeat' (first|refine nv ?_|(with_reducible first|refine gG ?_ ?_|refine ⟨fun h => ?_, fun h => ?_⟩ <;> try omega|refine andG ?_)|(refine ⟨_, _, kf0 (qaG9 xs ys c d hx hy) (by simp [idsL, AV.ids, xp0]) _, ?_⟩)|simp (disch := try exact qa0) only [push_cast, simprocAttr, a0])
def cmpI (x y : Int) : Int := if x < y then -1 else if y < x then 1 else 0
set_option maxRecDepth 100000 in
theorem kcz9 (x y : Int) : PC Tryd.prog G0 102 [.int .i64 x, .int .i64 y] (.int .i64 (cmpI x y)) := by
 refine wf0 0 20 [.tmp 4] Tryd.func102 rfl rfl rfl (by simp) ?_;intro s ⟨a0, a1, hz⟩;simp only [Nat.zero_add] at a1;clear hz;repeat' (first|refine nv ?_|(with_reducible first|refine gG ?_ ?_|refine ⟨fun h => ?_, fun h => ?_⟩ <;> try omega|refine andG ?_)|(refine ⟨_, _, kf0 (kcZ9 _) (by simp [idsL, AV.ids]) _, ?_⟩)|simp (disch := try exact qa0) only [push_cast, simprocAttr, a0, a1, wdp9])
 ·rw [cmpI, if_pos h]
 ·rename_i h1; rw [cmpI, if_neg h1, if_pos h]
 ·rename_i h1; rw [cmpI, if_neg h1, if_neg h]
def orM : List Int → Int
 | [] => 0
 | x :: xs => if x = 0 then orM xs else x
set_option maxRecDepth 100000 in
theorem or33 (xs : List Int) (c : Option Nat) (hx : xs.length ≤ 1000000) : PC Tryd.prog G0 101 [.sl 1 (ints xs) c] (.int .i64 (orM xs)) := by
 refine wf0 0 18 [.tmp 2] Tryd.func101 rfl rfl rfl (by simp) ?_;intro s ⟨a0, hz⟩;clear hz;repeat' (first|refine nv ?_|(with_reducible first|refine gG ?_ ?_|refine ⟨fun h => ?_, fun h => ?_⟩ <;> try omega|refine andG ?_)|simp (disch := try exact qa0) only [push_cast, simprocAttr, a0, zb0, wc0, qh0])
 refine go_loop rfl (fun m s H => ∃ k, k ≤ xs.length ∧ m = xs.length - k ∧ H = [] ∧ s 3 = .int .i64 0 ∧ s 6 = .sl 1 (ints xs) c ∧ s 7 = .int .i64 xs.length ∧ s 8 = .int .i64 (k : Int) ∧ orM xs = orM (xs.drop k)) trivial (Weak.refl _ _) ⟨0, by omega, rfl, rfl, ?_⟩ ?_
 ·(simp (disch := try exact qa0) only [push_cast, simprocAttr, a0, zb0, wc0, qh0]) <;> (first|rfl|exact ⟨rfl, rfl⟩|omega|(congr 1; omega)|(simp; done)|((repeat' apply And.intro) <;> first|rfl|omega|(congr 1; omega)))
 ·rintro m s H ⟨k, hk, rfl, rfl, a3, a6, a7, a8, hm⟩;repeat' (first|refine nv ?_|(with_reducible first|refine gG ?_ ?_|refine ⟨fun h => ?_, fun h => ?_⟩ <;> try omega|refine andG ?_)|simp (disch := try exact qa0) only [push_cast, simprocAttr, a3, a6, a7, a8, zb0, wc0, qh0])
  ·have h2 := xt0 xs k (by omega);rw [hm, h2, orM, if_neg h]
  ·have h2 := xt0 xs k (by omega);refine qZ0 ⟨by first|trivial|omega, xs.length - (k + 1), _, _, by omega, Weak.refl _ _, k + 1, by omega, rfl, rfl, ?_⟩;simp (disch := try exact qa0) only [push_cast, simprocAttr, a3, a6, a7, a8, zb0, wc0, qh0];rw [hm, h2, orM, if_pos h]
  ·have : k = xs.length := by omega
   subst this;rw [hm, List.drop_length];rfl
def scM : List Int → List Int → Int
 | [], [] => 0
 | [], _ :: _ => -1
 | _ :: _, [] => 1
 | x :: xs, y :: ys => if cmpI x y = 0 then scM xs ys else cmpI x y
set_option maxRecDepth 100000 in
theorem xav9 (xs ys : List Int) (c d : Option Nat) (hx : xs.length ≤ 1000000) (hy : ys.length ≤ 1000000) : PC Tryd.prog G0 103 [.sl 1 (ints xs) c, .sl 1 (ints ys) d] (.int .i64 (scM xs ys)) := by
 refine wf0 0 36 [.tmp 4] Tryd.func103 rfl rfl rfl (by simp) ?_;intro s ⟨a0, a1, hz⟩;simp only [Nat.zero_add] at a1;clear hz;repeat' (first|refine nv ?_|(with_reducible first|refine gG ?_ ?_|refine ⟨fun h => ?_, fun h => ?_⟩ <;> try omega|refine andG ?_)|simp (disch := try exact qa0) only [push_cast, simprocAttr, a0, a1, zb0, wc0, qh0])
 refine go_loop rfl (fun m s H => ∃ k, k ≤ xs.length ∧ k ≤ ys.length ∧ m = xs.length - k ∧ H = [] ∧ s 0 = .sl 1 (ints xs) c ∧ s 1 = .sl 1 (ints ys) d ∧ s 9 = .sl 1 (ints xs) c ∧ s 10 = .int .i64 xs.length ∧ s 11 = .int .i64 (k : Int) ∧ scM xs ys = scM (xs.drop k) (ys.drop k)) trivial (Weak.refl _ _) ⟨0, by omega, by omega, rfl, rfl, ?_⟩ ?_
 ·(simp (disch := try exact qa0) only [push_cast, simprocAttr, a0, a1, zb0, wc0, qh0]) <;> (first|rfl|exact ⟨rfl, rfl⟩|omega|(congr 1; omega)|(simp; done)|((repeat' apply And.intro) <;> first|rfl|omega|(congr 1; omega)))
 ·rintro m s H ⟨k, hk, hk2, rfl, rfl, a0, a1, a9, a10, a11, hm⟩;repeat' (first|refine nv ?_|(with_reducible first|refine gG ?_ ?_|refine ⟨fun h => ?_, fun h => ?_⟩ <;> try omega|refine andG ?_)|(refine ⟨_, _, kf0 (kcz9 _ _) (by simp [idsL, AV.ids]) _, ?_⟩)|simp (disch := try exact qa0) only [push_cast, simprocAttr, a0, a1, a9, a10, a11, zb0, wc0, qh0, vcy9])
  ·have h2 := xt0 xs k (by omega);have h3 : ys.drop k = [] := List.drop_eq_nil_of_le h;rw [hm, h2, h3]; rfl
  ·have h2 := xt0 xs k (by omega);have h3 := xt0 ys k (by omega);rw [hm, h2, h3, scM, if_neg h]
  ·have h2 := xt0 xs k (by omega);have h3 := xt0 ys k (by omega);refine qZ0 ⟨trivial, xs.length - (k + 1), _, _, by omega, Weak.refl _ _, k + 1, by omega, by omega, rfl, rfl, ?_⟩;simp (disch := try exact qa0) only [push_cast, simprocAttr, a0, a1, a9, a10, a11, zb0, wc0, qh0, vcy9];rw [hm, h2, h3, scM, if_pos h]
  ·have h1 : xs.drop k = [] := List.drop_eq_nil_of_le (by omega);have h3 := xt0 ys k (by omega);rw [hm, h1, h3]; rfl
  ·have h1 : xs.drop k = [] := List.drop_eq_nil_of_le (by omega);have h3 : ys.drop k = [] := List.drop_eq_nil_of_le (by omega);rw [hm, h1, h3]; rfl
set_option maxRecDepth 100000 in
theorem qcA9 (xs ys : List Int) (c d : Option Nat) (hx : xs.length ≤ 1000000) (hy : ys.length ≤ 1000000) : PC Tryd.prog G0 93 [.sl 1 (ints xs) c, .sl 1 (ints ys) d] (.int .i64 (orM [cmpI xs.length ys.length, scM xs ys])) := by
 refine wf0 0 15 [.tmp 4] Tryd.func93 rfl rfl rfl (by simp) ?_;intro s ⟨a0, a1, hz⟩;simp only [Nat.zero_add] at a1;clear hz;repeat' (first|refine nv ?_|(with_reducible first|refine gG ?_ ?_|refine ⟨fun h => ?_, fun h => ?_⟩ <;> try omega|refine andG ?_)|(first|(refine ⟨_, _, kf0 (kcz9 _ _) (by simp [idsL, AV.ids]) _, ?_⟩)|(refine ⟨_, _, kf0 (xav9 xs ys c d hx hy) (by simp [idsL, AV.ids, xp0]) _, ?_⟩)|(refine ⟨_, _, kf0 (or33 [cmpI xs.length ys.length, scM xs ys] _ (by simp)) (by simp [idsL, AV.ids, xp0]) _, ?_⟩))|simp (disch := try exact qa0) only [push_cast, simprocAttr, a0, a1, zb0, zdp9, vcy9, xdp9])
theorem xbJ9 (b n h : Nat) (t : TypeId) (es : List (List AV)) (c : Option Nat) (H : List Blk) (hb : H[b]? = some (.row 1 t es)) (hh : h = es.length) : qg0 Tryd.prog G0 60 [.own b n h c] H (.own b n h (some n)) H := by
 subst hh;refine vQ0 9 [.tmp 2] Tryd.func60 rfl rfl rfl (by simp) ?_;intro s ⟨a0, hz⟩;clear hz;repeat' (first|refine nv ?_|(with_reducible first|refine gG ?_ ?_|refine ⟨fun h => ?_, fun h => ?_⟩ <;> try omega|refine andG ?_)|(first|(refine ⟨_, _, kf0 (kcz9 _ _) (by simp [idsL, AV.ids]) _, ?_⟩)|(refine ⟨_, _, kf0 (xav9 xs ys c d hx hy) (by simp [idsL, AV.ids, xp0]) _, ?_⟩)|(refine ⟨_, _, kf0 (or33 [cmpI xs.length ys.length, scM xs ys] _ (by simp)) (by simp [idsL, AV.ids, xp0]) _, ?_⟩))|simp (disch := try exact qa0) only [push_cast, simprocAttr, a0, hb])
set_option maxRecDepth 100000 in
theorem xbn9 (k : Nat) (c : Option Nat) : PC Tryd.prog G0 61 [.sl k [] c] (.sl 0 [] (some 0)) := by
 refine wf0 1 8 [.tmp 2] Tryd.func61 rfl rfl rfl (by simp) ?_;intro s ⟨a0, hz⟩;clear hz;repeat' (first|refine nv ?_|(with_reducible first|refine gG ?_ ?_|refine ⟨fun h => ?_, fun h => ?_⟩ <;> try omega|refine andG ?_)|(first|(refine ⟨_, _, kf0 (kcz9 _ _) (by simp [idsL, AV.ids]) _, ?_⟩)|(refine ⟨_, _, kf0 (xav9 xs ys c d hx hy) (by simp [idsL, AV.ids, xp0]) _, ?_⟩)|(refine ⟨_, _, kf0 (or33 [cmpI xs.length ys.length, scM xs ys] _ (by simp)) (by simp [idsL, AV.ids, xp0]) _, ?_⟩))|simp (disch := try exact qa0) only [push_cast, simprocAttr, a0])
theorem qcc9 (x : Int) (xs : List Int) : ints (x :: xs) = [.int .i64 x] :: ints xs := rfl
theorem qda9 (xs : List Int) (k : Nat) (c : Option Nat) (H : List Blk) (hk : xs = [] ∨ k = 1) (hx : xs.length ≤ 1000000) : qg0 Tryd.prog G0 61 [.sl k (ints xs) c] H (.own H.length xs.length xs.length none) (H ++ [.row 1 3 (ints xs)]) := by
 cases xs with
 | nil => exact zS0 (kf0 (xbn9 k c) (by simp [idsL, idsE, AV.ids]) H) 1 3
 | cons x xs =>
  obtain rfl := hk.resolve_left (by simp);simp only [List.length_cons] at hx;refine vQ0 8 [.tmp 2] Tryd.func61 rfl rfl rfl (by simp) ?_;intro s ⟨a0, hz⟩;clear hz;repeat' (first|refine nv ?_|(with_reducible first|refine gG ?_ ?_|refine ⟨fun h => ?_, fun h => ?_⟩ <;> try omega|refine andG ?_)|simp (disch := try exact qa0) only [push_cast, simprocAttr, a0, qcc9, zb0])
  first|exact wb0|fail
theorem zda9 (x n : Int) (b : Nat) (H : List Blk) (hb : H[b]? = some (.row 1 3 [[.int .i64 n]])) : qg0 Tryd.prog G0 100 [.int .i64 x, .ptr b 0 0 1] H (.bool (badI n x)) H := by
 refine vQ0 11 [.tmp 3] Tryd.func100 rfl rfl rfl (by simp) ?_;intro s ⟨a0, a1, hz⟩;simp only [Nat.zero_add, Nat.reduceAdd] at a1;clear hz;repeat' (first|refine nv ?_|(with_reducible first|refine gG ?_ ?_|refine ⟨fun h => ?_, fun h => ?_⟩ <;> try omega|refine andG ?_)|simp (disch := try exact qa0) only [push_cast, simprocAttr, a0, a1, hb])
 rfl
def idxM (p : Int → Bool) : List Int → Int
 | [] => -1
 | x :: xs => if p x = true then 0 else if idxM p xs < 0 then -1 else idxM p xs + 1
theorem zcA9 (p : Int → Bool) (xs : List Int) : decide (0 ≤ idxM p xs) = xs.any p := by
 induction xs with
 | nil => rfl
 | cons x xs ih =>
  rw [List.any_cons, ← ih, idxM];cases p x
  ·simp only [Bool.false_eq_true, if_false, Bool.false_or];split
   ·rename_i h; rw [decide_eq_false (by omega), decide_eq_false (by omega)]
   ·rename_i h; rw [decide_eq_true (by omega), decide_eq_true (by omega)]
  ·simp
theorem wbn9 (p : Int → Bool) : ∀ (xs : List Int) (k : Nat), (∀ j, j < k → p (xs.getD j 0) = false) → k ≤ xs.length → idxM p xs = if idxM p (xs.drop k) < 0 then -1 else idxM p (xs.drop k) + k
 | xs, 0, _, _ => by
  rw [List.drop_zero];split
  ·rename_i h;have : ∀ ys, -1 ≤ idxM p ys := fun ys => by
    induction ys with
    | nil => simp [idxM]
    | cons y ys ih => rw [idxM]; split; omega; split <;> omega
   have := this xs; omega
  ·simp
 | [], k + 1, _, hk => by simp at hk
 | x :: xs, k + 1, h, hk => by
  have h0 : p x = false := h 0 (by omega);have ih := wbn9 p xs k (fun j hj => h (j + 1) (by omega)) (by simpa using hk);rw [idxM, h0, if_neg (by simp), List.drop_succ_cons, ih];generalize idxM p (xs.drop k) = d at *;by_cases hd : d < 0
  ·simp [hd]
  ·simp only [if_neg hd]; rw [if_neg (by omega)]; push_cast; omega
theorem vbn9 (p : Int → Bool) (g : FuncId) (cap : List AV) (xs : List Int) (c : Option Nat) (H : List Blk) (hent : zc0 Tryd.prog g = true) (hp : ∀ x, qg0 Tryd.prog G0 g (.int .i64 x :: cap) H (.bool (p x)) H) (hx : xs.length ≤ 1000000) :
  qg0 Tryd.prog G0 108 [.sl 1 (ints xs) c, .fn g cap] H (.int .i64 (idxM p xs)) H := by
 refine vQ0 19 [.tmp 4] Tryd.func108 rfl rfl rfl (by simp) ?_;intro s ⟨a0, a1, hz⟩;simp only [Nat.zero_add, Nat.reduceAdd] at a1;clear hz;repeat' (first|refine nv ?_|(with_reducible first|refine gG ?_ ?_|refine ⟨fun h => ?_, fun h => ?_⟩ <;> try omega|refine andG ?_)|refine cl_ (hp _) ?_|simp (disch := try exact qa0) only [push_cast, simprocAttr, a0, a1, zb0, wc0, qh0, hent])
 refine go_loop rfl (fun m s H' => ∃ k, k ≤ xs.length ∧ m = xs.length - k ∧ H' = H ∧ s 0 = .sl 1 (ints xs) c ∧ s 1 = .fn g cap ∧ s 7 = .int .i64 xs.length ∧ s 8 = .int .i64 (k : Int) ∧ ∀ j, j < k → p (xs.getD j 0) = false) trivial (Weak.refl _ _) ⟨0, by omega, rfl, rfl, ?_⟩ ?_
 ·(simp (disch := try exact qa0) only [push_cast, simprocAttr, a0, a1, zb0, wc0, qh0, hent]) <;> (first|rfl|exact ⟨rfl, rfl⟩|omega|(congr 1; omega)|(simp; done)|((repeat' apply And.intro) <;> first|rfl|omega|(congr 1; omega)))
 ·rintro m s H' ⟨k, hk, rfl, rfl, a0, a1, a7, a8, hm⟩;repeat' (first|refine nv ?_|(with_reducible first|refine gG ?_ ?_|refine ⟨fun h => ?_, fun h => ?_⟩ <;> try omega|refine andG ?_)|refine cl_ (hp _) ?_|simp (disch := try exact qa0) only [push_cast, simprocAttr, a0, a1, a7, a8, zb0, wc0, qh0, hent])
  ·rw [wbn9 p xs k hm hk, xt0 xs k (by omega), idxM, if_pos h]; simp
  ·refine qb0 (xs.length - (k + 1)) (by omega) (by first|exact wb0|fail) ⟨k + 1, by omega, rfl, rfl, ?_⟩;simp (disch := try exact qa0) only [push_cast, simprocAttr, a0, a1, a7, a8, zb0, wc0, qh0, hent];exact fun j hj => by
    rcases Nat.lt_or_ge j k with q|q
    ·exact hm j q
    ·obtain rfl : j = k := by omega
     exact h
  ·obtain rfl : k = xs.length := by omega
   rw [wbn9 p xs _ hm hk]; simp [idxM]
theorem contains46 (p : Int → Bool) (g : FuncId) (cap : List AV) (xs : List Int) (c : Option Nat) (H : List Blk) (hent : zc0 Tryd.prog g = true) (hp : ∀ x, qg0 Tryd.prog G0 g (.int .i64 x :: cap) H (.bool (p x)) H) (hx : xs.length ≤ 1000000) :
  qg0 Tryd.prog G0 99 [.sl 1 (ints xs) c, .fn g cap] H (.bool (xs.any p)) H := by
 refine vQ0 9 [.tmp 4] Tryd.func99 rfl rfl rfl (by simp) ?_;intro s ⟨a0, a1, hz⟩;simp only [Nat.zero_add, Nat.reduceAdd] at a1;clear hz;repeat' (first|refine nv ?_|(with_reducible first|refine gG ?_ ?_|refine ⟨fun h => ?_, fun h => ?_⟩ <;> try omega|refine andG ?_)|refine cl_ (vbn9 p g cap xs c H hent hp hx) ?_|simp (disch := try exact qa0) only [push_cast, simprocAttr, a0, a1])
 exact congrArg AV.bool (zcA9 p xs)
theorem qdq9 (xs : List Int) (c : Option Nat) (n : Int) (hx : xs.length ≤ 1000000) : PC Tryd.prog G0 92 [.sl 1 (ints xs) c, .int .i64 n] (.int .i64 (wB0 xs n)) := by
 refine wf0 0 19 [.tmp 4] Tryd.func92 rfl rfl rfl (by simp) ?_;intro s ⟨a0, a1, hz⟩;simp only [Nat.zero_add, Nat.reduceAdd] at a1;clear hz;repeat' (first|refine nv ?_|(with_reducible first|refine gG ?_ ?_|refine ⟨fun h => ?_, fun h => ?_⟩ <;> try omega|refine andG ?_)|refine cl_ (contains46 (badI n) 100 _ xs c _ en100 (fun x => zda9 x n 0 _ rfl) hx) ?_|simp (disch := try exact qa0) only [push_cast, simprocAttr, a0, a1, zb0])
 ·rw [wB0, if_pos (by omega)]
 ·rename_i h1;rw [wB0, if_neg (by omega)];rcases h with h|h
  ·rw [if_pos h]
  ·simp [h]
 ·rename_i h1;rw [wB0, if_neg (by omega), if_neg h.1, h.2]; rfl
theorem vbw9 : ∀ (xs ys : List Int), xs.length = ys.length → scM xs ys = lexI xs ys
 | [], [], _ => rfl
 | [], _ :: _, h => by simp at h
 | _ :: _, [], h => by simp at h
 | x :: xs, y :: ys, h => by
  have ih := vbw9 xs ys (by simpa using h);rw [scM, lexI, ih, cmpI];by_cases h1 : x < y
  ·simp [h1]
  ·by_cases h2 : y < x
   ·simp [h1, h2]
   ·simp [h1, h2]
theorem xcA9 (xs ys : List Int) : orM [cmpI xs.length ys.length, scM xs ys] = cmpM xs ys := by
 rw [cmpM];by_cases h1 : xs.length < ys.length
 ·have : cmpI xs.length ys.length = -1 := by rw [cmpI, if_pos (by omega)]
  rw [if_pos h1, this]; rfl
 ·by_cases h2 : ys.length < xs.length
  ·have : cmpI xs.length ys.length = 1 := by rw [cmpI, if_neg (by omega), if_pos (by omega)]
   rw [if_neg h1, if_pos h2, this]; rfl
  ·have : cmpI xs.length ys.length = 0 := by rw [cmpI, if_neg (by omega), if_neg (by omega)]
   rw [if_neg h1, if_neg h2, this, vbw9 xs ys (by omega)];simp [orM];exact fun e => e.symm
theorem zcc9 (xs ys : List Int) (c d : Option Nat) (hx : xs.length ≤ 1000000) (hy : ys.length ≤ 1000000) : PC Tryd.prog G0 93 [.sl 1 (ints xs) c, .sl 1 (ints ys) d] (.int .i64 (cmpM xs ys)) := xcA9 xs ys ▸ qcA9 xs ys c d hx hy
def fitE (o n : Int) (e : Edg) : Bool := (decide (e.1 = -1) && decide (e.2 = -1)) || (decide (0 ≤ e.1) && decide (e.1 < n) && decide (0 ≤ e.2) && decide (e.2 < o))
def idxL {α : Type} (p : α → Bool) : List α → Int
 | [] => -1
 | x :: xs => if p x then 0 else if idxL p xs < 0 then -1 else idxL p xs + 1
theorem wcA9 {α : Type} (p : α → Bool) (xs : List α) : decide (0 ≤ idxL p xs) = xs.any p := by
 induction xs with
 | nil => simp [idxL]
 | cons x xs ih =>
  rw [idxL, List.any_cons, ← ih];cases p x
  ·simp only [Bool.false_eq_true, if_false, Bool.false_or];split
   ·rename_i h; rw [decide_eq_false (by omega), decide_eq_false (by omega)]
   ·rename_i h; rw [decide_eq_true (by omega), decide_eq_true (by omega)]
  ·simp
theorem kaN9 {α : Type} (p : α → Bool) (d : α) : ∀ (xs : List α) (k : Nat), (∀ j, j < k → p (xs.getD j d) = false) → k < xs.length → p (xs.getD k d) = true → idxL p xs = k
 | [], _, _, h, _ => by simp at h
 | x :: xs, 0, _, _, h => by simp at h; simp [idxL, h]
 | x :: xs, k + 1, hb, hk, h => by
  have h0 : p x = false := by simpa using hb 0 (by omega)
  have := kaN9 p d xs k (fun j hj => by simpa using hb (j + 1) (by omega)) (by simpa using hk) (by simpa using h);rw [idxL, h0, this];simp;omega
theorem xcc9 {α : Type} (p : α → Bool) (d : α) (xs : List α) (hb : ∀ j, j < xs.length → p (xs.getD j d) = false) : idxL p xs = -1 := by
 induction xs with
 | nil => rfl
 | cons x xs ih =>
  have h0 : p x = false := by simpa using hb 0 (by simp)
  have := ih fun j hj => by simpa using hb (j + 1) (by simpa using hj)
  rw [idxL, h0, this]; simp
set_option maxRecDepth 100000 in
theorem zdq9 (i o : Int) (l : List Row) (c : Option Nat) (e : Edg) (hl : l.length ≤ 1000000) : PC Tryd.prog G0 88 [mA i o l c, .agg (eA e)] (.bool (fitE o l.length e)) := by
 obtain ⟨x, y⟩ := e;unfold eA mA fitE;by_cases h : x = -1 ∧ y = -1
 ·obtain ⟨rfl, rfl⟩ := h;refine wf0 0 33 [.tmp 4] Tryd.func88 rfl rfl rfl (by simp) ?_;intro s ⟨a0, a1, hz⟩;simp only [Nat.zero_add, Nat.reduceAdd] at a1;clear hz;repeat' (first|refine nv ?_|(with_reducible first|refine gG ?_ ?_|refine ⟨fun h => ?_, fun h => ?_⟩ <;> try omega|refine andG ?_)|refine cp_ qcM9 ?_|simp (disch := try exact qa0) only [push_cast, simprocAttr, a0, a1, Int.reduceNeg, Int.reduceEq])
  all_goals omega
 ·have hA : (decide (x = -1) && decide (y = -1)) = false := by simpa using h
  refine wf0 0 33 [.tmp 4] Tryd.func88 rfl rfl rfl (by simp) ?_;intro s ⟨a0, a1, hz⟩;simp only [Nat.zero_add, Nat.reduceAdd] at a1;clear hz;repeat' (first|refine nv ?_|(with_reducible first|refine gG ?_ ?_|refine ⟨fun h => ?_, fun h => ?_⟩ <;> try omega|refine andG ?_)|refine cp_ qcM9 ?_|simp (disch := try exact qa0) only [push_cast, simprocAttr, a0, a1, hA])
  all_goals omega
def zdH9 (i o : Int) (l : List Row) (c : Option Nat) : Blk := .row 3 30 [[.int .i64 i, .int .i64 o, .sl 1 (xb0 l) c]]
set_option maxRecDepth 100000 in
theorem xda9 (i o : Int) (l : List Row) (c : Option Nat) (e : Edg) (hl : l.length ≤ 1000000) (b : Nat) (H : List Blk) (hb : H[b]? = some (.row 3 30 [[.int .i64 i, .int .i64 o, .sl 1 (xb0 l) c]])) (hbel : H.all (Blk.below H.length) = true) : qg0 Tryd.prog G0 87 [.agg (eA e), .ptr b 0 0 1] H (.bool (!fitE o l.length e)) H := by
 have hF := zdq9 i o l c e hl;unfold mA at hF;obtain ⟨x, y⟩ := e;unfold eA at *;have hb' : ∀ B, (H ++ [B])[b]? = some (Blk.row 3 30 [[.int .i64 i, .int .i64 o, .sl 1 (xb0 l) c]]) := fun B => by rw [List.getElem?_append_left (List.getElem?_eq_some_iff.1 hb).1]; exact hb
 refine zcX9 (K := [.row 2 91 [[.int .i64 x, .int .i64 y]]]) ?_ hbel rfl;refine vQ0 8 [.tmp 3] Tryd.func87 rfl rfl rfl (by simp) ?_;intro s ⟨a0, a1, hz⟩;simp only [Nat.zero_add, Nat.reduceAdd] at a1;clear hz;repeat' (first|refine nv ?_|(with_reducible first|refine gG ?_ ?_|refine ⟨fun h => ?_, fun h => ?_⟩ <;> try omega|refine andG ?_)|refine cp_ hF ?_ (hi := by (simp [idsL, idsE, AV.ids, eA, ke0]))|simp (disch := try exact qa0) only [push_cast, simprocAttr, a0, a1, hb'])
set_option maxRecDepth 100000 in
theorem kbn9 (p : Edg → Bool) (g : FuncId) (cap : List AV) (r : List Edg) (c : Option Nat) (H : List Blk) (hent : zc0 Tryd.prog g = true) (hp : ∀ x, qg0 Tryd.prog G0 g (.agg (eA x) :: cap) H (.bool (p x)) H) (hx : r.length ≤ 1000000) :
  qg0 Tryd.prog G0 94 [.sl 2 (rowA r) c, .fn g cap] H (.int .i64 (idxL p r)) H := by
 refine vQ0 19 [.tmp 4] Tryd.func94 rfl rfl rfl (by simp) ?_;intro s ⟨a0, a1, hz⟩;simp only [Nat.zero_add, Nat.reduceAdd] at a1;clear hz;repeat' (first|refine nv ?_|(with_reducible first|refine gG ?_ ?_|refine ⟨fun h => ?_, fun h => ?_⟩ <;> try omega|refine andG ?_)|simp (disch := try exact qa0) only [push_cast, simprocAttr, a0, a1])
 refine go_loop rfl (fun mz s' H' => ∃ k : Nat, k ≤ r.length ∧ mz = r.length - k ∧ H' = H ∧ s' 0 = .sl 2 (rowA r) c ∧ s' 1 = .fn g cap ∧ s' 7 = .int .i64 r.length ∧ s' 8 = .int .i64 k ∧ ∀ j, j < k → p (r.getD j (0, 0)) = false) (m := r.length) (by first|exact wb0|fail) (Weak.refl _ _) ⟨0, by omega, by omega, rfl, ?_⟩ ?_
 ·simp (disch := try exact qa0) only [push_cast, simprocAttr, a0, a1];exact fun j hj => by omega
 ·rintro mz s' H' ⟨k, hk, rfl, rfl, b0, b1, b7, b8, ik⟩;rcases Nat.lt_or_ge k r.length with hlt|hge
  ·have e1 := zg0 r k hlt;have hP := hp (r.getD k (0, 0));have hn := kaN9 p (0, 0) r k ik hlt;have hs := fun h => zaN9 ik (show p (r.getD k (0, 0)) = false from h);generalize r.getD k (0, 0) = x at *;obtain ⟨x, y⟩ := x;simp only [eA] at e1 hP;repeat' (first|refine nv ?_|(with_reducible first|refine gG ?_ ?_|refine ⟨fun h => ?_, fun h => ?_⟩ <;> try omega|refine andG ?_)|refine cl_ hP ?_|simp (disch := try exact qa0) only [push_cast, simprocAttr, b0, b1, b7, b8, e1, hent])
   ·rw [hn h]
   ·refine qb0 (r.length - (k + 1)) (by omega) (by first|exact wb0|fail) ⟨k + 1, by omega, rfl, rfl, ?_⟩;simp (disch := try exact qa0) only [push_cast, simprocAttr, b0, b1, b7, b8, e1, hent];exact hs h
  ·obtain rfl : k = r.length := by omega
   repeat' (first|refine nv ?_|(with_reducible first|refine gG ?_ ?_|refine ⟨fun h => ?_, fun h => ?_⟩ <;> try omega|refine andG ?_)|refine cl_ hP ?_|simp (disch := try exact qa0) only [push_cast, simprocAttr, b0, b1, b7, b8])
   rw [xcc9 p (0, 0) r ik]
set_option maxRecDepth 100000 in
theorem wbJ9 (p : Edg → Bool) (g : FuncId) (cap : List AV) (r : List Edg) (c : Option Nat) (H : List Blk) (hent : zc0 Tryd.prog g = true) (hp : ∀ x, qg0 Tryd.prog G0 g (.agg (eA x) :: cap) H (.bool (p x)) H) (hx : r.length ≤ 1000000) :
  qg0 Tryd.prog G0 86 [.sl 2 (rowA r) c, .fn g cap] H (.bool (r.any p)) H := by
 refine vQ0 9 [.tmp 4] Tryd.func86 rfl rfl rfl (by simp) ?_;intro s ⟨a0, a1, hz⟩;simp only [Nat.zero_add, Nat.reduceAdd] at a1;clear hz;repeat' (first|refine nv ?_|(with_reducible first|refine gG ?_ ?_|refine ⟨fun h => ?_, fun h => ?_⟩ <;> try omega|refine andG ?_)|refine cl_ (kbn9 p g cap r c H hent hp hx) ?_|simp (disch := try exact qa0) only [push_cast, simprocAttr, a0, a1])
 exact congrArg AV.bool (wcA9 p r)
def kba9 (i o n : Int) (r : List Edg) : Bool := decide ((r.length : Int) = i) && r.all (fitE o n)
def we0 (i o : Int) (l : List Row) : Int := if 16 < i ∨ 16 < o ∨ 64 < l.length then 3 else if i < 1 ∨ o < 1 ∨ l.length < 1 then 1 else if ∀ j, j < l.length → kba9 i o l.length (l.getD j ([], none)).1 = true then 0 else 1
theorem wda9 {α : Type} (p : α → Bool) (l : List α) : (l.any fun x => !p x) = !l.all p := by
 induction l with
 | nil => rfl
 | cons x xs ih => simp [ih]
set_option maxRecDepth 100000 in
theorem qbo9 (i o : Int) (l : List Row) (z : Nat) (c : Option Nat) (hz : l = [] ∨ z = 1) (hl : l.length ≤ 1000000) (hr : ∀ j, j < l.length → (l.getD j ([], none)).1.length ≤ 1000000) : PC Tryd.prog G0 72 [.agg [.int .i64 i, .int .i64 o, .sl z (xb0 l) c]] (.int .i64 (we0 i o l)) := by
 refine wf0 1 51 [.tmp 2] Tryd.func72 rfl rfl rfl (by simp) ?_;intro s ⟨a0, hz⟩;clear hz;repeat' (first|refine nv ?_|(with_reducible first|refine gG ?_ ?_|refine ⟨fun h => ?_, fun h => ?_⟩ <;> try omega|refine andG ?_)|simp (disch := try exact qa0) only [push_cast, simprocAttr, a0])
 ·congr 1
  rw [we0, if_pos (by omega)]
 ·congr 1
  rw [we0, if_neg (by omega), if_pos (by omega)]
 ·rename_i h1;obtain rfl : z = 1 := by
   rcases hz with q|q
   ·rw [q] at h; simp at h
   ·exact q
  refine go_loop rfl (fun mz s' H' => ∃ k : Nat, k ≤ l.length ∧ mz = l.length - k ∧ H' = [.row 3 30 [[.int .i64 i, .int .i64 o, .sl 1 (xb0 l) c]]] ∧ s' 1 = .ptr 0 0 0 1 ∧ s' 34 = .sl 1 (xb0 l) c ∧ s' 35 = .int .i64 l.length ∧ s' 36 = .int .i64 k ∧ ∀ j, j < k → kba9 i o l.length (l.getD j ([], none)).1 = true) (m := l.length) (by first|exact wb0|fail) (Weak.refl _ _) ⟨0, by omega, by omega, rfl, ?_⟩ ?_
  ·simp (disch := try exact qa0) only [push_cast, simprocAttr, a0];exact fun j hj => by omega
  ·rintro mz s' H' ⟨k, hk, rfl, rfl, b1, b34, b35, b36, ik⟩;rcases Nat.lt_or_ge k l.length with hlt|hge
   ·have e1 := xf0 l k hlt;have hq := hr k hlt;have hs := zaN9 (P := fun j => kba9 i o l.length (l.getD j ([], none)).1 = true) (k := k) ik;have hno : kba9 i o l.length (l.getD k ([], none)).1 = false → we0 i o l = 1 := fun h => by
     rw [we0, if_neg (by omega), if_neg (by omega), if_neg];intro hh;rw [hh k hlt] at h; cases h
    have hC := wbJ9 (fun x => !fitE o l.length x) 87 [.ptr 0 0 0 1] (l.getD k ([], none)).1 (l.getD k ([], none)).2 [.row 3 30 [[.int .i64 i, .int .i64 o, .sl 1 (xb0 l) c]]] en87 (fun x => xda9 i o l c x hl 0 _ rfl (by simp [Blk.below, idsE, idsL, AV.ids])) hq;simp only [wda9, kba9] at hC hs hno;generalize (l.getD k ([], none)).2 = cc at *;generalize (l.getD k ([], none)).1 = r at *;repeat' (first|refine nv ?_|(with_reducible first|refine gG ?_ ?_|refine ⟨fun h => ?_, fun h => ?_⟩ <;> try omega|refine andG ?_)|refine cl_ hC ?_|simp (disch := try exact qa0) only [push_cast, simprocAttr, b1, b34, b35, b36, e1])
    ·congr 1
     refine (hno ?_).symm;rcases h with h|h <;> simp [h]
    ·refine qb0 (l.length - (k + 1)) (by omega) (by first|exact wb0|fail) ⟨k + 1, by omega, rfl, rfl, ?_⟩;simp (disch := try exact qa0) only [push_cast, simprocAttr, b1, b34, b35, b36, e1];refine hs ?_;simp [h.1, h.2]
   ·obtain rfl : k = l.length := by omega
    repeat' (first|refine nv ?_|(with_reducible first|refine gG ?_ ?_|refine ⟨fun h => ?_, fun h => ?_⟩ <;> try omega|refine andG ?_)|refine cl_ hC ?_|simp (disch := try exact qa0) only [push_cast, simprocAttr, b1, b34, b35, b36])
    congr 1
    rw [we0, if_neg (by omega), if_neg (by omega), if_pos ik]
end Go.Proofs

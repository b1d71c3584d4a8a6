import Derived.Test.YtcoakjnmnommpaaGreatDoorA2
namespace Go.Proofs
open Go Go.V
set_option linter.unusedVariables false
set_option linter.unusedSimpArgs false
set_option maxHeartbeats 0
def kd0 (l : List LC) : List (List Int) := l.map Prod.fst
theorem ve0 (l : List LC) : (kd0 l).length = l.length := by simp [kd0]
theorem qan9 (l : List LC) (s : Nat) (h : s < l.length) : (kd0 l).getD s [] = (l.getD s ([], none)).1 := by simp [kd0, h]
def toOk (n x : Int) : Bool := decide (0 ≤ x) && decide (x < n)
theorem xaa9 (sym n : Int) (r : List Int) : xK0 sym n r = (decide ((r.length : Int) = sym) && r.all (toOk n)) := rfl
theorem cD3 {sym : Int} {l : List LC} {m : Nat} (h : 16 < sym ∨ 256 < l.length) : vd0 sym (kd0 l) m = 3 := by
 rw [vd0, if_pos (by rw [ve0]; exact h)]
theorem cD1 {sym : Int} {l : List LC} {m : Nat} (h : ¬ (16 < sym ∨ 256 < l.length)) (h2 : sym < 1 ∨ l.length < 1 ∨ m ≠ l.length) : vd0 sym (kd0 l) m = 1 := by
 rw [vd0, if_neg (by rw [ve0]; exact h), if_pos];rw [ve0];rcases h2 with q|q|q
 ·exact .inl q
 ·exact .inr (.inl q)
 ·exact .inr (.inr (.inl q))
theorem cD1r {sym : Int} {l : List LC} {m : Nat} (h : ¬ (16 < sym ∨ 256 < l.length)) {s : Nat} (hs : s < l.length) (h2 : xK0 sym l.length (l.getD s ([], none)).1 = false) : vd0 sym (kd0 l) m = 1 := by
 rw [vd0, if_neg (by rw [ve0]; exact h), if_pos];rw [ve0];refine .inr (.inr (.inr ?_));rw [z'i];refine ⟨_, wc0 (d := []) (i := s) (by rw [ve0]; exact hs), ?_⟩;rw [qan9 l s hs, h2]; decide
theorem cD0 {sym : Int} {l : List LC} {m : Nat} (h : ¬ (16 < sym ∨ 256 < l.length)) (h1 : ¬ sym < 1) (h2 : ¬ l.length < 1) (h3 : m = l.length) (h4 : ∀ s, s < l.length → xK0 sym l.length (l.getD s ([], none)).1 = true) : vd0 sym (kd0 l) m = 0 := by
 rw [vd0, if_neg (by rw [ve0]; exact h), if_neg];rw [ve0];simp only [not_or, n'B, ne_eq, z'B];refine ⟨h1, h2, h3, ?_⟩;rw [l'j];intro r hr;obtain ⟨s, hs, rfl⟩ := l'G hr;have hs' : s < l.length := by rw [ve0] at hs; exact hs
 have := h4 s hs';rw [← qan9 l s hs', l'b, l'e hs] at this;exact this
theorem qcm9 {sym n : Int} {r : List Int} (h : (r.length : Int) ≠ sym) : xK0 sym n r = false := by
 rw [xaa9, decide_eq_false h]; rfl
theorem kcI9 {sym n : Int} {r : List Int} {a : Nat} (ha : a < r.length) (h : toOk n (r.getD a 0) = false) : xK0 sym n r = false := by
 have : r.all (toOk n) = false := by
  rw [z'i];exact ⟨_, wc0 (d := 0) (i := a) ha, by rw [h]; decide⟩
 rw [xaa9, this, z'q]
theorem zcm9 {sym n : Int} {r : List Int} (h : (r.length : Int) = sym) (h2 : ∀ a, a < r.length → toOk n (r.getD a 0) = true) : xK0 sym n r = true := by
 rw [xaa9, decide_eq_true h, n'o, l'j];intro x hx;obtain ⟨a, ha, rfl⟩ := l'G hx;have := h2 a ha;rw [l'b, l'e ha] at this;exact this
set_option maxRecDepth 100000 in
theorem qcJ9 (sym : Int) (zr : Nat) (l : List LC) (c : Option Nat) (za : Nat) (ac : List Bool) (ca : Option Nat) (hzr : l = [] ∨ zr = 1)
  (hl : l.length ≤ 9223372036854775807) (hac : ac.length ≤ 9223372036854775807) (hr : ∀ s, s < l.length → (l.getD s ([], none)).1.length ≤ 9223372036854775807) :
  PC Tryz.prog G0 21 [dA sym zr l c za ac ca] (.int .i64 (vd0 sym (kd0 l) ac.length)) := by
 have hz := wcI9 sym l.length;have hRl := zb0 l;have hAl := zc0 ac;have hidR : ∀ p, idsE p (rowL l) = true := fun p => vc0 _ _;have hidA : ∀ p, idsE p (qb0 ac) = true := fun p => zd0 _ _;have hg := fun s h => xg0 l s h;unfold dA;by_cases h16 : 16 < sym ∨ 256 < l.length
 ·rw [cD3 h16];rw [if_pos (by omega)] at hz;generalize rowL l = RN at *;generalize qb0 ac = BA at *;refine qc0 0 60 [.tmp 2] Tryz.func21 rfl rfl rfl (by simp) ?_;intro s ⟨a0, hz⟩;clear hz;repeat' (first|refine nv ?_|(with_reducible first|refine gG ?_ ?_|refine ⟨fun h => ?_, fun h => ?_⟩ <;> try omega|refine andG ?_)|refine cp_ hz ?_ (hi := by (simp [idsL, idsE, AV.ids, hidR, hidA]))|simp (disch := try exact qa0) only [push_cast, simprocAttr, a0, hRl])
 ·rw [if_neg (by omega)] at hz;by_cases hb : sym < 1 ∨ l.length < 1 ∨ ac.length ≠ l.length
  ·rw [cD1 h16 hb];generalize rowL l = RN at *;generalize qb0 ac = BA at *;by_cases h1 : sym < 1
   ·skip
    refine qc0 0 60 [.tmp 2] Tryz.func21 rfl rfl rfl (by simp) ?_;intro s ⟨a0, hz⟩;clear hz;repeat' (first|refine nv ?_|(with_reducible first|refine gG ?_ ?_|refine ⟨fun h => ?_, fun h => ?_⟩ <;> try omega|refine andG ?_)|refine cp_ hz ?_ (hi := by (simp [idsL, idsE, AV.ids, hidR, hidA]))|simp (disch := try exact qa0) only [push_cast, simprocAttr, a0, hRl, h1])
   ·by_cases h2 : l.length < 1
    ·have h2' : (l.length : Int) < 1 := by omega
     refine qc0 0 60 [.tmp 2] Tryz.func21 rfl rfl rfl (by simp) ?_;intro s ⟨a0, hz⟩;clear hz;repeat' (first|refine nv ?_|(with_reducible first|refine gG ?_ ?_|refine ⟨fun h => ?_, fun h => ?_⟩ <;> try omega|refine andG ?_)|refine cp_ hz ?_ (hi := by (simp [idsL, idsE, AV.ids, hidR, hidA]))|simp (disch := try exact qa0) only [push_cast, simprocAttr, a0, hRl, h1, h2'])
    ·have h2' : ¬ (l.length : Int) < 1 := by omega
     have h3 : ¬ ((ac.length : Int) = l.length) := by omega
     have h3' : ¬ (ac.length = l.length) := by omega
     refine qc0 0 60 [.tmp 2] Tryz.func21 rfl rfl rfl (by simp) ?_;intro s ⟨a0, hz⟩;clear hz;repeat' (first|refine nv ?_|(with_reducible first|refine gG ?_ ?_|refine ⟨fun h => ?_, fun h => ?_⟩ <;> try omega|refine andG ?_)|refine cp_ hz ?_ (hi := by (simp [idsL, idsE, AV.ids, hidR, hidA]))|simp (disch := try exact qa0) only [push_cast, simprocAttr, a0, hRl, hAl, h1, h2', h3, h3'])
  ·have h1 : ¬ sym < 1 := fun q => hb (.inl q);have h2 : ¬ l.length < 1 := fun q => hb (.inr (.inl q));have h2' : ¬ (l.length : Int) < 1 := by omega
   have h3 : ac.length = l.length := Classical.byContradiction fun q => hb (.inr (.inr q));have hc1 := fun s hs h => cD1r (m := ac.length) h16 (s := s) hs h;have hc0 := cD0 h16 h1 h2 h3;generalize rowL l = RN at *;generalize qb0 ac = BA at *;generalize vd0 sym (kd0 l) ac.length = R at *;refine qc0 0 60 [.tmp 2] Tryz.func21 rfl rfl rfl (by simp) ?_;intro s ⟨a0, hz⟩;clear hz;repeat' (first|refine nv ?_|(with_reducible first|refine gG ?_ ?_|refine ⟨fun h => ?_, fun h => ?_⟩ <;> try omega|refine andG ?_)|refine cp_ hz ?_ (hi := by (simp [idsL, idsE, AV.ids, hidR, hidA]))|simp (disch := try exact qa0) only [push_cast, simprocAttr, a0, hRl, hAl, h1, h2', h3])
   refine go_loop rfl (fun mz s' H' => ∃ k : Nat, k ≤ l.length ∧ mz = l.length - k ∧ H' = [.row 3 47 [[.int .i64 sym, .sl zr RN c, .sl za BA ca]]] ∧ s' 1 = .ptr 0 0 0 1 ∧ s' 3 = .int .i64 l.length ∧ s' 34 = .sl zr RN c ∧ s' 35 = .int .i64 l.length ∧ s' 36 = .int .i64 k ∧ (∀ j, j < k → xK0 sym l.length (l.getD j ([], none)).1 = true)) (m := l.length) (by first|exact va0|fail) (Weak.refl _ _) ⟨0, by omega, by omega, rfl, ?_⟩ ?_
   ·refine ⟨?_, ?_, ?_, ?_, ?_, fun j hj => by omega⟩;all_goals simp (disch := try exact qa0) only [push_cast, simprocAttr, a0, hRl, hAl, h1, h2', h3]
   ·rintro mz s' H' ⟨k, hk, rfl, rfl, b1, b3, b34, b35, b36, ik⟩;rcases l'i k l.length with hlt|hge
    ·obtain rfl := hzr.resolve_left (by intro h; rw [h] at hlt; simp at hlt);have e1 := hg k hlt;have hc1 := hc1 k hlt;have hsn := kaf9 (P := fun j => xK0 sym l.length (l.getD j ([], none)).1 = true) (k := k) ik;have hrk := hr k hlt;generalize l.getD k ([], none) = r at *;have hrl := xa0 r.1;have e2 := fun a h => xc0 r.1 a h;unfold lC at e1;by_cases hrs : (r.1.length : Int) = sym
     ·skip
      repeat' (first|refine nv ?_|(with_reducible first|refine gG ?_ ?_|refine ⟨fun h => ?_, fun h => ?_⟩ <;> try omega|refine andG ?_)|refine cp_ hz ?_ (hi := by (simp [idsL, idsE, AV.ids, hidR, hidA]))|simp (disch := try exact qa0) only [push_cast, simprocAttr, b1, b3, b34, b35, b36, e1, hrl, hrs])
      refine go_loop rfl (fun mz s' H' => ∃ a : Nat, a ≤ r.1.length ∧ mz = r.1.length - a ∧ H' = [.row 3 47 [[.int .i64 sym, .sl 1 RN c, .sl za BA ca]]] ∧ s' 1 = .ptr 0 0 0 1 ∧ s' 3 = .int .i64 l.length ∧ s' 34 = .sl 1 RN c ∧ s' 35 = .int .i64 l.length ∧ s' 36 = .int .i64 k ∧ s' 45 = .sl 1 (ints r.1) r.2 ∧ s' 46 = .int .i64 r.1.length ∧ s' 47 = .int .i64 a ∧ (∀ j, j < a → toOk l.length (r.1.getD j 0) = true)) (m := r.1.length) (by first|exact va0|fail) (Weak.refl _ _) ⟨0, by omega, by omega, rfl, ?_⟩ ?_
      ·refine ⟨?_, ?_, ?_, ?_, ?_, ?_, ?_, ?_, fun j hj => by omega⟩;all_goals simp (disch := try exact qa0) only [push_cast, simprocAttr, b1, b3, b34, b35, b36, e1, hrl, hrs]
      ·rintro mz s' H' ⟨a, ha, rfl, rfl, b1, b3, b34, b35, b36, b45, b46, b47, ia⟩;rcases l'i a r.1.length with hla|hga
       ·have e3 := e2 a hla;have hsa := kaf9 (P := fun j => toOk l.length (r.1.getD j 0) = true) (k := a) ia;have hrn := kcI9 (sym := sym) (n := l.length) (r := r.1) hla;generalize r.1.getD a 0 = x at *;by_cases hx1 : x < 0
        ·rw [hc1 (hrn (by rw [toOk, decide_eq_false (by omega)]; rfl))];repeat' (first|refine nv ?_|(with_reducible first|refine gG ?_ ?_|refine ⟨fun h => ?_, fun h => ?_⟩ <;> try omega|refine andG ?_)|refine cp_ hz ?_ (hi := by (simp [idsL, idsE, AV.ids, hidR, hidA]))|simp (disch := try exact qa0) only [push_cast, simprocAttr, b1, b3, b34, b35, b36, b45, b46, b47, e3, hrl, hx1])
        ·by_cases hx2 : (l.length : Int) ≤ x
         ·rw [hc1 (hrn (by rw [toOk, decide_eq_false (show ¬ x < l.length by omega), z'q]))];repeat' (first|refine nv ?_|(with_reducible first|refine gG ?_ ?_|refine ⟨fun h => ?_, fun h => ?_⟩ <;> try omega|refine andG ?_)|refine cp_ hz ?_ (hi := by (simp [idsL, idsE, AV.ids, hidR, hidA]))|simp (disch := try exact qa0) only [push_cast, simprocAttr, b1, b3, b34, b35, b36, b45, b46, b47, e3, hrl, hx1, hx2])
         ·have hsa := hsa (by rw [toOk, decide_eq_true (by omega), decide_eq_true (by omega)]; rfl);repeat' (first|refine nv ?_|(with_reducible first|refine gG ?_ ?_|refine ⟨fun h => ?_, fun h => ?_⟩ <;> try omega|refine andG ?_)|refine cp_ hz ?_ (hi := by (simp [idsL, idsE, AV.ids, hidR, hidA]))|simp (disch := try exact qa0) only [push_cast, simprocAttr, b1, b3, b34, b35, b36, b45, b46, b47, e3, hrl, hx1, hx2])
          refine za0 (r.1.length - (a + 1)) (by omega) (by first|exact va0|fail) ⟨a + 1, by omega, rfl, rfl, ?_, ?_, ?_, ?_, ?_, ?_, ?_, ?_, hsa⟩;all_goals simp (disch := try exact qa0) only [push_cast, simprocAttr, b1, b3, b34, b35, b36, b45, b46, b47, e3, hrl, hx1, hx2]
       ·obtain rfl : a = r.1.length := by omega
        have hsn := hsn (zcm9 hrs ia);repeat' (first|refine nv ?_|(with_reducible first|refine gG ?_ ?_|refine ⟨fun h => ?_, fun h => ?_⟩ <;> try omega|refine andG ?_)|refine cp_ hz ?_ (hi := by (simp [idsL, idsE, AV.ids, hidR, hidA]))|simp (disch := try exact qa0) only [push_cast, simprocAttr, b1, b3, b34, b35, b36, b45, b46, b47, hrl])
        refine za0 (l.length - (k + 1)) (by omega) (by first|exact va0|fail) ⟨k + 1, by omega, rfl, rfl, ?_, ?_, ?_, ?_, ?_, hsn⟩;all_goals simp (disch := try exact qa0) only [push_cast, simprocAttr, b1, b3, b34, b35, b36, b45, b46, b47, hrl]
     ·rw [hc1 (qcm9 hrs)];repeat' (first|refine nv ?_|(with_reducible first|refine gG ?_ ?_|refine ⟨fun h => ?_, fun h => ?_⟩ <;> try omega|refine andG ?_)|refine cp_ hz ?_ (hi := by (simp [idsL, idsE, AV.ids, hidR, hidA]))|simp (disch := try exact qa0) only [push_cast, simprocAttr, b1, b3, b34, b35, b36, e1, hrl, hrs])
    ·obtain rfl : k = l.length := by omega
     rw [hc0 ik];repeat' (first|refine nv ?_|(with_reducible first|refine gG ?_ ?_|refine ⟨fun h => ?_, fun h => ?_⟩ <;> try omega|refine andG ?_)|refine cp_ hz ?_ (hi := by (simp [idsL, idsE, AV.ids, hidR, hidA]))|simp (disch := try exact qa0) only [push_cast, simprocAttr, b1, b3, b34, b35, b36])
theorem kdl9 (l : List Int) (n : Nat) (m : Nat) : inL (l ++ [(n : Int)]) m = (inL l m || decide (m = n)) := by
 rw [l'u];simp [inL, z'e]
theorem kdO9 (m : Nat) : inL [] m = false := rfl
theorem qdm9 {p q : Nat → Bool} {n : Nat} (hn : n < 256) (hq : ∀ m, q m = (p m || decide (m = n))) : setL q = [.int .u64 (if n / 64 = 0 then wP p 0 ||| 2 ^ (n % 64) else wP p 0 : Nat), .int .u64 (if n / 64 = 1 then wP p 1 ||| 2 ^ (n % 64) else wP p 1 : Nat), .int .u64 (if n / 64 = 2 then wP p 2 ||| 2 ^ (n % 64) else wP p 2 : Nat), .int .u64 (if n / 64 = 3 then wP p 3 ||| 2 ^ (n % 64) else wP p 3 : Nat)] := by
 have e : q = fun m => p m || decide (m = n) := funext hq;rw [e, setL, zbV9 p n hn 0 (by decide), zbV9 p n hn 1 (by decide), zbV9 p n hn 2 (by decide), zbV9 p n hn 3 (by decide)];simp only [eq_comm]
set_option maxRecDepth 100000 in
theorem qdP9 (b z : Nat) (l : List Int) (c : Option Nat) (H : List Blk) (p : Nat → Bool) (hz : l = [] ∨ z = 1) (hl : l.length ≤ 9223372036854775807) (hr : ∀ x ∈ l, 0 ≤ x ∧ x < 256) (hb : H[b]? = some (.row 4 68 [setL p])) :
  wd0 Tryz.prog G0 67 [.ptr b 0 0 1, .sl z (ints l) c] H (.tup []) (H.set b (.row 4 68 [setL fun n => p n || inL l n])) := by
 have hil := xa0 l;have hlt := (l'c.1 hb).1;have hself : H.set b (.row 4 68 [setL p]) = H := by
  obtain ⟨h1, h2⟩ := l'c.1 hb;rw [← h2, List.set_getElem_self]
 have hget : ∀ X, (H.set b X)[b]? = some X := fun X => l't hlt;have hset : ∀ X Y : Blk, (H.set b X).set b Y = H.set b Y := fun X Y => List.set_set ..;refine zJ0 25 [] Tryz.func67 rfl rfl rfl (by simp) ?_;intro s ⟨a0, a1, hz⟩;simp only [l'm, Nat.reduceAdd] at a1;clear hz;repeat' (first|refine nv ?_|(with_reducible first|refine gG ?_ ?_|refine ⟨fun h => ?_, fun h => ?_⟩ <;> try omega|refine andG ?_)|simp (disch := try exact qa0) only [push_cast, simprocAttr, a0, a1, hil])
 refine go_loop rfl (fun mz s' H' => ∃ k : Nat, k ≤ l.length ∧ mz = l.length - k ∧ H' = H.set b (.row 4 68 [setL fun n => p n || inL (l.take k) n]) ∧ s' 0 = .ptr b 0 0 1 ∧ s' 6 = .sl z (ints l) c ∧ s' 7 = .int .i64 l.length ∧ s' 8 = .int .i64 k) (m := l.length) (by first|exact va0|fail) (Weak.refl _ _) ⟨0, by omega, by omega, by simp [kdO9, hself], ?_⟩ ?_
 ·simp (disch := try exact qa0) only [push_cast, simprocAttr, a0, a1, hil]
 ·rintro mz s' H' ⟨k, hk, rfl, rfl, b0, b6, b7, b8⟩;rcases l'i k l.length with hltk|hge
  ·obtain rfl := hz.resolve_left (by intro h; rw [h] at hltk; simp at hltk);have e1 := xc0 l k hltk;have hx := hr _ (wc0 (d := 0) hltk);have htk := xd0 l 0 k hltk;obtain ⟨n, hn⟩ : ∃ n : Nat, l.getD k 0 = n := ⟨(l.getD k 0).toNat, by omega⟩;rw [hn] at e1 hx htk;have hq2 : ∀ m, (p m || inL (l.take (k + 1)) m) = ((p m || inL (l.take k) m) || decide (m = n)) := fun m => by rw [htk, kdl9, n'q]
   have hput := qdm9 (p := fun m => p m || inL (l.take k) m) (q := fun m => p m || inL (l.take (k + 1)) m) (n := n) (by omega) hq2;have hwl := fun i => kn0 (fun m => p m || inL (l.take k) m) i;have hd2 : (n : Int).tmod 64 = ((n % 64 : Nat) : Int) := rfl;have hr64 : n % 64 < 64 := n'n _ (by decide);have hp64 : 2 ^ (n % 64) < 2 ^ 64 := z'n (by decide) hr64;have hsh := zeB9 (n % 64) hr64;have hor := fun i => xV0 (wP (fun m => p m || inL (l.take k) m) i) (2 ^ (n % 64)) (hwl i) hp64;have hq4 : n / 64 = 0 ∨ n / 64 = 1 ∨ n / 64 = 2 ∨ n / 64 = 3 := by omega
   have hd0 : (n : Int).tdiv 64 = ((n / 64 : Nat) : Int) := rfl;clear htk hr e1;have e1 := xc0 l k hltk;rw [hn] at e1;have hsL : setL (fun m => p m || inL (l.take k) m) = [.int .u64 (wP (fun m => p m || inL (l.take k) m) 0 : Nat), .int .u64 (wP (fun m => p m || inL (l.take k) m) 1 : Nat), .int .u64 (wP (fun m => p m || inL (l.take k) m) 2 : Nat), .int .u64 (wP (fun m => p m || inL (l.take k) m) 3 : Nat)] := rfl;have hshE : IntKind.u64.wrap (1 * 2 ^ min ((n : Int) % 64).toNat IntKind.u64.bits) = ((2 ^ (n % 64) : Nat) : Int) := hsh;rw [hsL];rcases hq4 with h4|h4|h4|h4
   ·have hdq : (n : Int).tdiv 64 = 0 := by rw [hd0, h4]; rfl
    simp only [h4, Nat.reduceEqDiff, ↓reduceIte, reduceIte] at hput;repeat' (first|refine nv ?_|(with_reducible first|refine gG ?_ ?_|refine ⟨fun h => ?_, fun h => ?_⟩ <;> try omega|refine andG ?_)|simp (disch := try exact qa0) only [push_cast, simprocAttr, b0, b6, b7, b8, e1, hil, hget, hset, hdq, hd2, Int.reduceToNat])
    refine za0 (l.length - (k + 1)) (by omega) (by first|exact va0|fail) ⟨k + 1, by omega, rfl, ?_, ?_⟩
    ·rw [hput, hshE, hor]
    ·simp (disch := try exact qa0) only [push_cast, simprocAttr, b0, b6, b7, b8, e1, hil, hget, hset, hdq, hd2, Int.reduceToNat]
   ·have hdq : (n : Int).tdiv 64 = 1 := by rw [hd0, h4]; rfl
    simp only [h4, Nat.reduceEqDiff, ↓reduceIte, reduceIte] at hput;repeat' (first|refine nv ?_|(with_reducible first|refine gG ?_ ?_|refine ⟨fun h => ?_, fun h => ?_⟩ <;> try omega|refine andG ?_)|simp (disch := try exact qa0) only [push_cast, simprocAttr, b0, b6, b7, b8, e1, hil, hget, hset, hdq, hd2, Int.reduceToNat])
    refine za0 (l.length - (k + 1)) (by omega) (by first|exact va0|fail) ⟨k + 1, by omega, rfl, ?_, ?_⟩
    ·rw [hput, hshE, hor]
    ·simp (disch := try exact qa0) only [push_cast, simprocAttr, b0, b6, b7, b8, e1, hil, hget, hset, hdq, hd2, Int.reduceToNat]
   ·have hdq : (n : Int).tdiv 64 = 2 := by rw [hd0, h4]; rfl
    simp only [h4, Nat.reduceEqDiff, ↓reduceIte, reduceIte] at hput;repeat' (first|refine nv ?_|(with_reducible first|refine gG ?_ ?_|refine ⟨fun h => ?_, fun h => ?_⟩ <;> try omega|refine andG ?_)|simp (disch := try exact qa0) only [push_cast, simprocAttr, b0, b6, b7, b8, e1, hil, hget, hset, hdq, hd2, Int.reduceToNat])
    refine za0 (l.length - (k + 1)) (by omega) (by first|exact va0|fail) ⟨k + 1, by omega, rfl, ?_, ?_⟩
    ·rw [hput, hshE, hor]
    ·simp (disch := try exact qa0) only [push_cast, simprocAttr, b0, b6, b7, b8, e1, hil, hget, hset, hdq, hd2, Int.reduceToNat]
   ·have hdq : (n : Int).tdiv 64 = 3 := by rw [hd0, h4]; rfl
    simp only [h4, Nat.reduceEqDiff, ↓reduceIte, reduceIte] at hput;repeat' (first|refine nv ?_|(with_reducible first|refine gG ?_ ?_|refine ⟨fun h => ?_, fun h => ?_⟩ <;> try omega|refine andG ?_)|simp (disch := try exact qa0) only [push_cast, simprocAttr, b0, b6, b7, b8, e1, hil, hget, hset, hdq, hd2, Int.reduceToNat])
    refine za0 (l.length - (k + 1)) (by omega) (by first|exact va0|fail) ⟨k + 1, by omega, rfl, ?_, ?_⟩
    ·rw [hput, hshE, hor]
    ·simp (disch := try exact qa0) only [push_cast, simprocAttr, b0, b6, b7, b8, e1, hil, hget, hset, hdq, hd2, Int.reduceToNat]
  ·obtain rfl : k = l.length := by omega
   rw [l'k (l'f _)];repeat' (first|refine nv ?_|(with_reducible first|refine gG ?_ ?_|refine ⟨fun h => ?_, fun h => ?_⟩ <;> try omega|refine andG ?_)|simp (disch := try exact qa0) only [push_cast, simprocAttr, b0, b6, b7, b8])
theorem zan9 : setL (fun _ => false) = [.int .u64 0, .int .u64 0, .int .u64 0, .int .u64 0] := by
 simp [setL, wdO9]
theorem kbV9 (p : Nat → Bool) : (setL p).length = 4 := rfl
theorem qaA9 {p q : Nat → Bool} (h : ∀ n, n < 256 → p n = q n) : setL p = setL q := by
 unfold setL;rw [qaY9 h 0, qaY9 h 1, qaY9 h 2, qaY9 h 3]
theorem xu0 (f : Nat → Bool) (p : Nat → Bool) : idsL f (setL p) = true := by simp [setL, idsL, AV.ids]
set_option maxRecDepth 100000 in
theorem of32 (z : Nat) (l : List Int) (c : Option Nat) (hz : l = [] ∨ z = 1) (hl : l.length ≤ 9223372036854775807) (hr : ∀ x ∈ l, 0 ≤ x ∧ x < 256) : PC Tryz.prog G0 41 [.sl z (ints l) c] (.agg (setL (inL l))) := by
 have hp := qdP9 0 z l c [.row 4 68 [setL fun _ => false]] (fun _ => false) hz hl hr rfl;rw [zan9] at hp;have e : (fun n => false || inL l n) = inL l := funext fun n => n'd _;rw [e] at hp;unfold setL at hp ⊢;refine qc0 0 6 [.cell 2 68] Tryz.func41 rfl rfl rfl (by simp) ?_;intro s ⟨a0, hz⟩;clear hz;repeat' (first|refine nv ?_|(with_reducible first|refine gG ?_ ?_|refine ⟨fun h => ?_, fun h => ?_⟩ <;> try omega|refine andG ?_)|refine cl_ hp ?_|simp (disch := try exact qa0) only [push_cast, simprocAttr, a0])
theorem xcm9 (p q : Nat → Bool) : ((List.range 256).any fun t => p t && q t) = !(decide (wP p 0 &&& wP q 0 = 0) && (decide (wP p 1 &&& wP q 1 = 0) && (decide (wP p 2 &&& wP q 2 = 0) && decide (wP p 3 &&& wP q 3 = 0)))) := by
 rw [kbw9 p q 0 (by decide), kbw9 p q 1 (by decide), kbw9 p q 2 (by decide), kbw9 p q 3 (by decide)];rw [l'u, l'y, l'M, z'f, z'f, z'f];simp only [decide_eq_false_iff_not, xbi9 _ _ (show 0 < 4 by decide), xbi9 _ _ (show 1 < 4 by decide), xbi9 _ _ (show 2 < 4 by decide), xbi9 _ _ (show 3 < 4 by decide)];constructor
 ·rintro ⟨t, ht, h⟩;have ht := l'o.1 ht;have hq : t / 64 = 0 ∨ t / 64 = 1 ∨ t / 64 = 2 ∨ t / 64 = 3 := by omega
  rcases hq with w|w|w|w
  ·exact .inl fun g => by have := g (t % 64) (by omega); rw [show 64 * 0 + t % 64 = t by omega, h] at this; cases this
  ·exact .inr (.inl fun g => by have := g (t % 64) (by omega); rw [show 64 * 1 + t % 64 = t by omega, h] at this; cases this)
  ·exact .inr (.inr (.inl fun g => by have := g (t % 64) (by omega); rw [show 64 * 2 + t % 64 = t by omega, h] at this; cases this))
  ·exact .inr (.inr (.inr fun g => by have := g (t % 64) (by omega); rw [show 64 * 3 + t % 64 = t by omega, h] at this; cases this))
 ·have key : ∀ i, i < 4 → (¬ ∀ b, b < 64 → (p (64 * i + b) && q (64 * i + b)) = false) → ∃ x, x ∈ List.range 256 ∧ (p x && q x) = true := fun i hi h => by
   simp only [z'o] at h;obtain ⟨b, hb, h⟩ := h;exact ⟨64 * i + b, l'o.2 (by omega), by simpa using h⟩
  rintro (h|h|h|h)
  ·exact key 0 (by decide) h
  ·exact key 1 (by decide) h
  ·exact key 2 (by decide) h
  ·exact key 3 (by decide) h
set_option maxRecDepth 100000 in
theorem xbK9 (p q : Nat → Bool) : PC Tryz.prog G0 40 [.agg (setL p), .agg (setL q)] (.bool ((List.range 256).any fun t => p t && q t)) := by
 rw [xcm9];have hw := fun i => qas9 (wP p i) (wP q i) (kn0 p i) (kn0 q i);have h0 := hw 0;have h1 := hw 1;have h2 := hw 2;have h3 := hw 3;clear hw;unfold setL;generalize wP p 0 &&& wP q 0 = w0 at *;generalize wP p 1 &&& wP q 1 = w1 at *;generalize wP p 2 &&& wP q 2 = w2 at *;generalize wP p 3 &&& wP q 3 = w3 at *;generalize wP p 0 = p0 at *;generalize wP p 1 = p1 at *;generalize wP p 2 = p2 at *;generalize wP p 3 = p3 at *;generalize wP q 0 = q0 at *;generalize wP q 1 = q1 at *;generalize wP q 2 = q2 at *;generalize wP q 3 = q3 at *;by_cases n0 : (w0 : Int) = 0
 rotate_left
 ·have g0 : ¬ w0 = 0 := by omega
  rw [show (!(decide (w0 = 0) && (decide (w1 = 0) && (decide (w2 = 0) && decide (w3 = 0))))) = true by simp [g0]];refine qc0 0 18 [.tmp 4] Tryz.func40 rfl rfl rfl (by simp) ?_;intro s ⟨a0, a1, hz⟩;simp only [l'm, Nat.reduceAdd] at a1;clear hz;repeat' (first|(first|refine nav ?_|(refine g0_ ?_; first|refine goD ?_|refine kx0 5 rfl ?_))|(with_reducible first|refine gG ?_ ?_|refine ⟨fun h => ?_, fun h => ?_⟩ <;> try omega|refine andG ?_)|simp (disch := try exact qa0) only [push_cast, simprocAttr, a0, a1, Int.reduceToNat, h0, n0])
 ·skip
  by_cases n1 : (w1 : Int) = 0
  rotate_left
  ·have g1 : ¬ w1 = 0 := by omega
   have z0 : w0 = 0 := by omega
   rw [show (!(decide (w0 = 0) && (decide (w1 = 0) && (decide (w2 = 0) && decide (w3 = 0))))) = true by simp [z0, g1]];refine qc0 0 18 [.tmp 4] Tryz.func40 rfl rfl rfl (by simp) ?_;intro s ⟨a0, a1, hz⟩;simp only [l'm, Nat.reduceAdd] at a1;clear hz;repeat' (first|(first|refine nav ?_|(refine g0_ ?_; first|refine goD ?_|refine kx0 5 rfl ?_))|(with_reducible first|refine gG ?_ ?_|refine ⟨fun h => ?_, fun h => ?_⟩ <;> try omega|refine andG ?_)|simp (disch := try exact qa0) only [push_cast, simprocAttr, a0, a1, Int.reduceToNat, h0, h1, n0, n1])
  ·skip
   by_cases n2 : (w2 : Int) = 0
   rotate_left
   ·have g2 : ¬ w2 = 0 := by omega
    have z0 : w0 = 0 := by omega
    have z1 : w1 = 0 := by omega
    rw [show (!(decide (w0 = 0) && (decide (w1 = 0) && (decide (w2 = 0) && decide (w3 = 0))))) = true by simp [z0, z1, g2]];refine qc0 0 18 [.tmp 4] Tryz.func40 rfl rfl rfl (by simp) ?_;intro s ⟨a0, a1, hz⟩;simp only [l'm, Nat.reduceAdd] at a1;clear hz;repeat' (first|(first|refine nav ?_|(refine g0_ ?_; first|refine goD ?_|refine kx0 5 rfl ?_))|(with_reducible first|refine gG ?_ ?_|refine ⟨fun h => ?_, fun h => ?_⟩ <;> try omega|refine andG ?_)|simp (disch := try exact qa0) only [push_cast, simprocAttr, a0, a1, Int.reduceToNat, h0, h1, h2, n0, n1, n2])
   ·skip
    by_cases n3 : (w3 : Int) = 0
    rotate_left
    ·have g3 : ¬ w3 = 0 := by omega
     have z0 : w0 = 0 := by omega
     have z1 : w1 = 0 := by omega
     have z2 : w2 = 0 := by omega
     rw [show (!(decide (w0 = 0) && (decide (w1 = 0) && (decide (w2 = 0) && decide (w3 = 0))))) = true by simp [z0, z1, z2, g3]];refine qc0 0 18 [.tmp 4] Tryz.func40 rfl rfl rfl (by simp) ?_;intro s ⟨a0, a1, hz⟩;simp only [l'm, Nat.reduceAdd] at a1;clear hz;repeat' (first|(first|refine nav ?_|(refine g0_ ?_; first|refine goD ?_|refine kx0 5 rfl ?_))|(with_reducible first|refine gG ?_ ?_|refine ⟨fun h => ?_, fun h => ?_⟩ <;> try omega|refine andG ?_)|simp (disch := try exact qa0) only [push_cast, simprocAttr, a0, a1, Int.reduceToNat, h0, h1, h2, h3, n0, n1, n2, n3])
    ·skip
     have z0 : w0 = 0 := by omega
     have z1 : w1 = 0 := by omega
     have z2 : w2 = 0 := by omega
     have z3 : w3 = 0 := by omega
     rw [show (!(decide (w0 = 0) && (decide (w1 = 0) && (decide (w2 = 0) && decide (w3 = 0))))) = false by simp [z0, z1, z2, z3]];refine qc0 0 18 [.tmp 4] Tryz.func40 rfl rfl rfl (by simp) ?_;intro s ⟨a0, a1, hz⟩;simp only [l'm, Nat.reduceAdd] at a1;clear hz;repeat' (first|(first|refine nav ?_|(refine g0_ ?_; first|refine goD ?_|refine kx0 5 rfl ?_))|(with_reducible first|refine gG ?_ ?_|refine ⟨fun h => ?_, fun h => ?_⟩ <;> try omega|refine andG ?_)|simp (disch := try exact qa0) only [push_cast, simprocAttr, a0, a1, Int.reduceToNat, h0, h1, h2, h3, n0, n1, n2, n3])
theorem kei9 {x c m : Nat} (h : x = 2 ^ c * (2 * m + 1)) : kcG9 x c := by
 refine ⟨?_, fun j hj => ?_⟩
 ·rw [h, Nat.testBit_two_pow_mul]; simp
 ·rw [h, Nat.testBit_two_pow_mul]; simp; omega
theorem zdP9 {x : Nat} (h0 : x ≠ 0) (h : x < 2 ^ 64) : kcG9 x (Lib.ctz 64 x) ∧ Lib.ctz 64 x < 64 := by
 obtain ⟨m, hm, hk⟩ := Lib.ctzFrom_spec 64 x (by omega) h;have e : Lib.ctz 64 x = Lib.ctzFrom 64 x := by simp [Lib.ctz, h0]
 rw [e];exact ⟨kei9 hm, hk⟩
theorem xdP9 {idx v : Nat} (hi : idx < 64) (h : Lib.deBruijn64tab.getD idx 0 = v) : tzG.getD idx .top = .int .u8 (v : Nat) := by
 rw [tzG, l'b, l'p];rw [l'b] at h;have hl : Lib.deBruijn64tab.length = 64 := rfl;rw [l'e (by rw [hl]; exact hi)] at h ⊢;simp only [Option.getD_some, Option.map_some] at h ⊢;rw [h]
theorem wdP9 {x idx : Nat} (key : IntKind.u64.wrap (bits BinOp.and IntKind.u64 (x : Int) (IntKind.u64.wrap (-(x : Int))) * 285870213051353865) / 288230376151711744 = (idx : Int)) :
  (IntKind.u64.wrap (bits BinOp.and IntKind.u64 (x : Int) (IntKind.u64.wrap (0 - (x : Int))) * 285870213051353865)).fdiv (2 ^ min (58 : Int).toNat IntKind.u64.bits) = (idx : Int) := by
 rw [← key, Int.zero_sub];have h58 : min (58 : Int).toNat IntKind.u64.bits = 58 := by decide
 have : (2 : Int) ^ 58 = 288230376151711744 := by simp
 rw [h58, this, Int.fdiv_eq_ediv_of_nonneg _ (by omega)]
theorem qej9 (x : Nat) (h0 : x ≠ 0) (h : x < 18446744073709551616) : ∃ idx, idx < 64 ∧ Lib.ctz 64 x < 64 ∧ tzG.getD idx .top = .int .u8 ((Lib.ctz 64 x : Nat) : Int) ∧
  (IntKind.u64.wrap (bits BinOp.and IntKind.u64 (x : Int) (IntKind.u64.wrap (0 - (x : Int))) * 285870213051353865)).fdiv (2 ^ min (58 : Int).toNat IntKind.u64.bits) = (idx : Int) := by
 have e64 : (2 : Nat) ^ 64 = 18446744073709551616 := by decide
 obtain ⟨hlow, hk⟩ := Lib.lowest_bit 64 x h0 (by rw [e64]; exact h);rw [e64] at hlow;obtain ⟨hi, htab⟩ := Lib.deBruijn64_at _ hk;exact ⟨_, hi, hk, xdP9 hi htab, wdP9 (tz64_key x _ h h0 hlow)⟩
theorem vdP9 : tzG.length = 64 := rfl
set_option maxRecDepth 100000 in
theorem tz74 (x : Nat) (h0 : x ≠ 0) (h : x < 18446744073709551616) : PC Tryz.prog G0 66 [.int .u64 x] (.int .i64 (Lib.ctz 64 x : Nat)) := by
 obtain ⟨idx, hi, hk, hcell, key2⟩ := qej9 x h0 h;have hlen := vdP9;have h00 : ¬ ((x : Int) = 0) := by omega
 generalize Lib.ctz 64 x = cz at *;have hG : G0 0 = some tzG := rfl;generalize tzG = T at *;have hwr : IntKind.i64.wrap (cz : Int) = cz := by rw [qR0 _ (by omega) (by omega)]
 have hi2 : (idx : Int) < 64 := by omega
 clear h;refine qc0 0 14 [.tmp 2] Tryz.func66 rfl rfl rfl (by simp) ?_;intro s ⟨a0, hz⟩;clear hz;repeat' (first|(first|(with_reducible refine xz0 (p := [0, 1, 1]) ?_)|refine nav ?_|(refine g0_ ?_; first|refine goD ?_))|(with_reducible first|refine gG ?_ ?_|refine ⟨fun h => ?_, fun h => ?_⟩ <;> try omega|refine andG ?_)|simp (disch := try exact qa0) only [push_cast, ↓reduceIte, reduceIte, reduceCtorEq, Nat.reduceAdd, Nat.reduceLT, Nat.reduceEqDiff, Nat.reduceLeDiff, Int.reduceAdd, Int.reduceLT, Int.reduceLE, Nat.reduceMul, a0, h00, hG, hlen, hcell, key2, evS, hi2, hwr, z's])
 refine Halt.mk ?_;repeat' (first|(refine nv ?_ <;> (try simp (disch := try exact qa0) only [push_cast, ↓reduceIte, reduceIte, reduceCtorEq, Nat.reduceAdd, Nat.reduceLT, Nat.reduceEqDiff, Nat.reduceLeDiff, Int.reduceAdd, Int.reduceLT, Int.reduceLE, Nat.reduceMul, a0, h00, hG, hlen, hcell, key2, evS, hi2, hwr, z's]))|(with_reducible first|refine gG ?_ ?_|refine ⟨fun h => ?_, fun h => ?_⟩ <;> try omega|refine andG ?_)|simp (disch := try exact qa0) only [push_cast, ↓reduceIte, reduceIte, reduceCtorEq, Nat.reduceAdd, Nat.reduceLT, Nat.reduceEqDiff, Nat.reduceLeDiff, Int.reduceAdd, Int.reduceLT, Int.reduceLE, Nat.reduceMul, a0, h00, hG, hlen, hcell, key2, evS, hi2, hwr, z's])
 all_goals omega
end Go.Proofs

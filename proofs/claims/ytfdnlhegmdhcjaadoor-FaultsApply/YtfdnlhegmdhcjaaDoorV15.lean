/- The library V, part 15: regions. -/
import Derived.Test.YtfdnlhegmdhcjaaDoorV12
import Derived.RangeFuncRecord
import Derived.OrdersIn
set_option linter.unusedVariables false
set_option linter.unusedSimpArgs false
namespace Go.V
open Go Go.RowKit
section rows
variable {E : Env} {s : Nat}
theorem rowIn_append {as bs : List (List AV)} {A B : List Value} (ha : RowIn E s as A.toArray) (hl : A.length = as.length * s) (hb : RowIn E s bs B.toArray) : RowIn E s (as ++ bs) (A ++ B).toArray := by
 intro i e hi
 by_cases hil : i < as.length
 ·rw [List.getElem?_append_left hil] at hi
  obtain ⟨l1, l2⟩ := ha i e hi
  refine ⟨l1, fun j a hj => ?_⟩
  obtain ⟨v, hv, hr⟩ := l2 j a hj
  refine ⟨v, ?_, hr⟩
  have hjs : j < s := by rw [← l1]; exact (List.getElem?_eq_some_iff.1 hj).1
  have : (i + 1) * s ≤ as.length * s := Nat.mul_le_mul_right _ hil
  rw [Nat.add_mul] at this
  simp only [List.getElem?_toArray] at hv ⊢
  rw [List.getElem?_append_left (by omega)]
  exact hv
 ·rw [List.getElem?_append_right (by omega)] at hi
  obtain ⟨l1, l2⟩ := hb _ e hi
  refine ⟨l1, fun j a hj => ?_⟩
  obtain ⟨v, hv, hr⟩ := l2 j a hj
  refine ⟨v, ?_, hr⟩
  have : as.length * s ≤ i * s := Nat.mul_le_mul_right _ (by omega)
  simp only [List.getElem?_toArray] at hv ⊢
  rw [List.getElem?_append_right (by omega), hl]
  rw [Nat.sub_mul] at hv
  rwa [show i * s + j - as.length * s = i * s - as.length * s + j from by omega]
theorem rowIn_more {as : List (List AV)} {A : List Value} (ha : RowIn E s as A.toArray) (Z : List Value) : RowIn E s as (A ++ Z).toArray := by
 intro i e hi
 obtain ⟨l1, l2⟩ := ha i e hi
 refine ⟨l1, fun j a hj => ?_⟩
 obtain ⟨v, hv, hr⟩ := l2 j a hj
 refine ⟨v, ?_, hr⟩
 simp only [List.getElem?_toArray] at hv ⊢
 have := (List.getElem?_eq_some_iff.1 hv).1
 rw [List.getElem?_append_left (by omega)]
 exact hv
theorem rowIn_take {es : List (List AV)} {C : Array Value} (h : RowIn E s es C) (n : Nat) : RowIn E s (es.take n) (C.toList.take (n * s)).toArray := by
 intro i e hi
 rw [List.getElem?_take] at hi
 split at hi
 ·rename_i hin
  obtain ⟨l1, l2⟩ := h i e hi
  refine ⟨l1, fun j a hj => ?_⟩
  obtain ⟨v, hv, hr⟩ := l2 j a hj
  refine ⟨v, ?_, hr⟩
  have hjs : j < s := by rw [← l1]; exact (List.getElem?_eq_some_iff.1 hj).1
  have : (i + 1) * s ≤ n * s := Nat.mul_le_mul_right _ hin
  rw [Nat.add_mul] at this
  simp only [List.getElem?_toArray, List.getElem?_take]
  rw [if_pos (by omega)]
  simpa using hv
 ·cases hi
theorem rowIn_drop {es : List (List AV)} {C : Array Value} (h : RowIn E s es C) (n : Nat) : RowIn E s (es.drop n) (C.toList.drop (n * s)).toArray := by
 intro i e hi
 rw [List.getElem?_drop] at hi
 obtain ⟨l1, l2⟩ := h _ e hi
 refine ⟨l1, fun j a hj => ?_⟩
 obtain ⟨v, hv, hr⟩ := l2 j a hj
 refine ⟨v, ?_, hr⟩
 simp only [List.getElem?_toArray, List.getElem?_drop]
 rw [Nat.add_mul, Nat.add_assoc] at hv
 simpa using hv
end rows
section
variable {P : Program} {S : St} {H : List Blk}
theorem isSrc_und {t : TypeId} (h : isSrc P t = true) : (∃ e, P.underlying t = some (.slice e)) ∨ P.underlying t = some .string := by
 unfold isSrc at h
 split at h
 ·rename_i e hs
  obtain ⟨T, hT, hsh⟩ := shp_some hs (by simp)
  exact .inl ⟨_, und_slice hT hsh⟩
 ·rename_i hs
  obtain ⟨T, hT, hsh⟩ := shp_some hs (by simp)
  exact .inr (und_str hT hsh)
 ·cases h
theorem run_append_in {t t1 ty e : TypeId} {i : TypeInfo} (ht : P.underlying t = some (.slice e)) (h1 : isSrc P t1 = true) (hi : P.info? e = some i) (base : Option Addr) (n cap m : Nat) (v : Value) (C : List Value) (w w' : World)
  (hl : (Builtin.lenOf v).run P w = .ok m w) (hf : (Builtin.firstCells i.size m v).run P w = .ok C.toArray w) (hroom : n + m ≤ cap)
  (hst : ∀ a, base = some a → (storeCells (a.add (n * i.size)) C).run P w = .ok () w') (hno : base = none → w' = w) :
  (Builtin.append_ #[t, t1] ty #[.slice base n cap, v]).run P w = .ok (.slice base (n + m) cap) w' := by
 cases base with
 | none =>
  have := hno rfl; subst this
  rcases isSrc_und h1 with ⟨e', hd⟩|hd
  ·simp [Builtin.append_, run_underlying ht, run_underlying hd, Go.sizeOf, typeInfo, hi, hl, hf, hroom]
  ·simp [Builtin.append_, run_underlying ht, run_underlying hd, Go.sizeOf, typeInfo, hi, hl, hf, hroom]
 | some a =>
  have := hst a rfl
  rcases isSrc_und h1 with ⟨e', hd⟩|hd
  ·simp [Builtin.append_, run_underlying ht, run_underlying hd, Go.sizeOf, typeInfo, hi, hl, hf, hroom, this]
  ·simp [Builtin.append_, run_underlying ht, run_underlying hd, Go.sizeOf, typeInfo, hi, hl, hf, hroom, this]
theorem run_append_out {t t1 ty e : TypeId} {i : TypeInfo} {z : Value} (ht : P.underlying t = some (.slice e)) (h1 : isSrc P t1 = true) (hi : P.info? e = some i) (hz0 : i.zero = some z) (base : Option Addr) (n cap m : Nat) (v : Value) (C O : List Value) (w : World)
  (hl : (Builtin.lenOf v).run P w = .ok m w) (hf : (Builtin.firstCells i.size m v).run P w.drew = .ok C.toArray w.drew) (hfo : (Builtin.firstCells i.size n (.slice base n cap)).run P w.drew = .ok O.toArray w.drew) (hroom : ¬ n + m ≤ cap)
  (h63 : n + m ≤ maxLen) (hb : (n + m) * i.bytes ≤ 140737488355328) :
  (Builtin.append_ #[t, t1] ty #[.slice base n cap, v]).run P w = .ok (.slice (some ⟨w.heap.size, 0, none⟩) (n + m) (grownCap w (n + m) cap e))
   (w.drew.alloc (.cells (O ++ C ++ (Builtin.zeroCells z.cells (grownCap w (n + m) cap e - (n + m))).toList).toArray e)) := by
 have hfit := growslice_fits (bytes := i.bytes) (show cap < n + m by omega) hb
 have h63' : ¬ (9223372036854775807 < ((n : Int) + (m : Int))) := by simp only [maxLen] at h63; omega
 have h48' : ¬ (281474976710656 < Builtin.nextslicecap (n + m) cap * i.bytes) := by omega
 have key : (Builtin.append_ #[t, t1] ty #[.slice base n cap, v]).run P w = .ok (.slice (some ⟨w.heap.size, 0, none⟩) (n + m) (grownCap w (n + m) cap e))
   (w.drew.alloc (.cells (O.toArray ++ C.toArray ++ (Builtin.zeroCells z.cells (grownCap w (n + m) cap e - (n + m)))) e)) := by
  rcases isSrc_und h1 with ⟨e', hd⟩|hd
  ·simp [Builtin.append_, run_underlying ht, run_underlying hd, Go.sizeOf, typeInfo, zeroValue, hi, hz0, hl, hf, hfo, hroom, h63', h48', Question.forced, newRow, grownCap]
   congr 2
   apply Array.ext'
   simp [List.append_assoc]
  ·simp [Builtin.append_, run_underlying ht, run_underlying hd, Go.sizeOf, typeInfo, zeroValue, hi, hz0, hl, hf, hfo, hroom, h63', h48', Question.forced, newRow, grownCap]
   congr 2
   apply Array.ext'
   simp [List.append_assoc]
 rw [key]
 congr 3
 apply Array.ext'
 simp [List.append_assoc]
theorem eAppend_ok (hok : S.Ok H) {t t1 ty : TypeId} {d x : AV} {u v : Value} (hd : Rel (S.env H) d u) (hx : Rel (S.env H) x v) (h : (eAppend P H t t1 d x).1 = true) :
  Turns P S H (do pure (.value (← Builtin.append_ #[t, t1] ty #[u, v]))) (eAppend P H t t1 d x).2.1 (eAppend P H t t1 d x).2.2 := by
 unfold eAppend at *
 split at h
 ·rename_i e hs
  obtain ⟨TT, hTT, hsh⟩ := shp_some hs (by simp)
  have hu := und_slice hTT hsh
  cases hE : tinfo P e with
  | none => simp only [hE] at h; cases h
  | some E =>
   obtain ⟨i, dd, z, hi, _, hz, h1z, hEE⟩ := tinfo_some hE
   have hzr : RelL (S.env H) E.zero z.cells.toList := by rw [hEE]; exact relL_ofCell _ _
   have hEsz : i.size = E.sz := by rw [hEE]
   have hEb : i.bytes = E.bytes := by rw [hEE]
   simp only [hE] at h ⊢
   cases hsrc : srcElems H E.sz x with
   | none => simp only [hsrc] at h; cases h
   | some news =>
    obtain ⟨C, s1, s2, s3, s4, s5⟩ := srcElems_ok (P := P) hok hx hsrc
    have s2w := s2 S.w fun _ => rfl
    have s2d := s2 S.w.drew fun _ => rfl
    simp only [hsrc] at h ⊢
    -- what lies in a new block
    have hout : ∀ (base : Option Addr) (n cap : Nat) (as : List (List AV)) (O : List Value), u = .slice base n cap → isSrc P t1 = true → 0 < E.sz → E.zero.length = E.sz → ¬ n + news.length ≤ cap → n + news.length ≤ maxLen → (n + news.length) * E.bytes ≤ 140737488355328 →
      as.length = n → O.length = n * E.sz → RowIn (S.env H) E.sz as O.toArray → (Builtin.firstCells E.sz n (.slice base n cap)).run P S.w.drew = .ok O.toArray S.w.drew →
      ∃ K cs, (Builtin.append_ #[t, t1] ty #[u, v]).run P S.w = .ok (.slice (some ⟨S.w.heap.size, 0, none⟩) (n + news.length) K) ((S.w.drewN 1).alloc (.cells cs e)) ∧
       n + news.length ≤ K ∧ K ≤ maxLen ∧ cs.size = K * E.sz ∧ RowIn (S.env H) E.sz (as ++ news) cs := by
     intro base n cap as O hbase hsrc1 hpos hzl hroom h63 hbytes hasl hOl hOr hfo
     subst hbase
     have hr := run_append_out (P := P) (ty := ty) hu hsrc1 hi hz base n cap news.length v C O S.w (s1 S.w) (by rw [hEsz]; exact s2d) (by rw [hEsz]; exact hfo) hroom h63 (by rw [hEb]; exact hbytes)
     have hzs : z.cells.size = E.sz := by rw [← hzl, hzr.length]; simp
     have hge := grownCap_ge S.w (n + news.length) cap e
     refine ⟨_, _, hr, hge, grownCap_le_maxLen S.w _ cap e h63, ?_, ?_⟩
     ·simp only [List.size_toArray, List.length_append, Array.length_toList, size_zeroCells, hzs, hOl, s3, ← Nat.add_mul]
      congr 1
      omega
     ·exact rowIn_more (rowIn_append hOr (by rw [hOl, hasl]) s5) _
    split at h
    ·rename_i b n hh c
     cases hb : H[b]? with
     | none => simp only [hb] at h; cases h
     | some B =>
      cases B with
      | ob _ => simp only [hb] at h; cases h
      | row s bt es =>
       simp only [hb] at h ⊢
       have fin : (isSrc P t1 && decide (0 < E.sz) && E.zero.length == E.sz && decide (hh = es.length) && s == E.sz && bt == e && decide (n + news.length ≤ maxLen) && decide ((n + news.length) * E.bytes ≤ 140737488355328) && bt != deadT) = true →
         ((c = none ∨ ∃ k, c = some k ∧ n + news.length ≤ k) → Turns P S H (do pure (.value (← Builtin.append_ #[t, t1] ty #[u, v]))) (.own b (n + news.length) (es.take n ++ news ++ es.drop (n + news.length)).length c) (H.set b (.row s bt (es.take n ++ news ++ es.drop (n + news.length))))) ∧
         ((∃ k, c = some k ∧ ¬ n + news.length ≤ k) → Turns P S H (do pure (.value (← Builtin.append_ #[t, t1] ty #[u, v]))) (.own H.length (n + news.length) (n + news.length) none) (H ++ [.row E.sz e (es.take n ++ news)])) := by
        intro hc
        simp only [Bool.and_eq_true, decide_eq_true_eq, beq_iff_eq, bne_iff_ne] at hc
        obtain ⟨⟨⟨⟨⟨⟨⟨⟨c1, c2⟩, c3⟩, c4⟩, c5⟩, c6⟩, c7⟩, c8⟩, c9⟩ := hc
        subst c5; subst c6; subst c4
        have hl : isLen H b es.length = true := by simp [isLen, shOf_of hb]
        obtain ⟨s', hs', hnh, hcase⟩ := rel_own hd hl
        rw [shOf_of hb] at hs'; injection hs' with hs'; injection hs' with e1 _; subst e1
        have hzs : z.cells.size = E.sz := by rw [← c3, hzr.length]; simp
        have htl : (es.take n).length = n := by simp; omega
        have hlt := (List.getElem?_eq_some_iff.1 hb).1
        rcases hcase with ⟨hμ, ⟨a0, rfl⟩, hn0, hc0⟩|⟨g, k, cap, hg, rfl, hncap, hcapk, hcn, hcs⟩
        ·-- the row lies nowhere yet
         subst hn0
         have hes : es = [] := by
          rcases hok.row b E.sz bt es hb with q|⟨g, k, _, q, _⟩
          ·exact q.2.resolve_right c9
          ·rw [hμ] at q; cases q
         subst hes
         by_cases hm : news = []
         ·subst hm
          have hC : C = [] := List.eq_nil_of_length_eq_zero (by simpa using s3)
          subst hC
          have hr := run_append_in (P := P) (ty := ty) hu c1 hi a0 0 0 0 v [] S.w S.w (s1 S.w) (by rw [hEsz]; exact s2w) (by omega) (fun a q => by simp [storeCells]) (fun _ => rfl)
          refine ⟨fun hcc => ⟨_, .slice a0 0 0, S, by simp [hr], .inl rfl, ?_, ?_, ?_⟩, fun hcc => ?_⟩
          ·have : H.set b (.row E.sz bt ((([] : List (List AV)).take 0) ++ [] ++ ([] : List (List AV)).drop (0 + 0))) = H := by
            apply List.ext_getElem?
            intro q
            by_cases e : q = b
            ·subst e; rw [List.getElem?_set_self hlt, hb]; simp
            ·rw [List.getElem?_set_ne (Ne.symm e)]
           simp only [List.length_nil] at this ⊢
           rw [this]; exact hok
          ·have : H.set b (.row E.sz bt ((([] : List (List AV)).take 0) ++ [] ++ ([] : List (List AV)).drop (0 + 0))) = H := by
            apply List.ext_getElem?
            intro q
            by_cases e : q = b
            ·subst e; rw [List.getElem?_set_self hlt, hb]; simp
            ·rw [List.getElem?_set_ne (Ne.symm e)]
           simp only [List.length_nil] at this ⊢
           rw [this]; exact Ext.refl _ _ _
          ·refine rel_own_mk (shOf_set_same hlt) (by simp) (.inl ⟨hμ, ⟨_, rfl⟩, by simp, hc0⟩)
          ·obtain ⟨kk, rfl, hk⟩ := hcc
           simp at hk
         ·have hpos : 0 < news.length := by
           cases news with
           | nil => exact absurd rfl hm
           | cons _ _ => simp
          obtain ⟨K, cs, hr, k1, k2, k3, k4⟩ := hout a0 0 0 [] [] rfl c1 c2 c3 (by omega) c7 c8 rfl (by simp) (fun q e hq => by simp at hq) (by cases a0 <;> simp [Builtin.firstCells, loadCells, loadCellsFrom])
          simp only [Nat.zero_add] at hr k1 k4
          simp only [List.nil_append] at k4
          refine ⟨fun hcc => ?_, fun hcc => ?_⟩
          ·have hcn : c = none := by
            rcases hcc with q|⟨kk, q, hk⟩
            ·exact q
            ·rcases hc0 with q2|q2
             ·exact q2
             ·rw [q] at q2; injection q2 with q2; omega
           subst hcn
           have hE : (([] : List (List AV)).take 0 ++ news ++ ([] : List (List AV)).drop (0 + news.length)) = news := by simp
           rw [hE]
           refine ⟨_, .slice (some ⟨S.w.heap.size, 0, none⟩) news.length K, S.fresh b K bt cs 1, by simp [hr]; rfl, .inl rfl, move_ok hok 1 hb hpos k1 k2 k3 k4, move_ext hok K cs 1 hb hpos, ?_⟩
           rw [Nat.zero_add]
           exact rel_own_mk (shOf_set_same hlt) (Nat.le_refl _) (.inr ⟨S.w.heap.size, K, K, fresh_env _ _ _ _ _, rfl, k1, Nat.le_refl _, fun _ => rfl, fun j hj => (by cases hj)⟩)
          ·refine ⟨_, .slice (some ⟨S.w.heap.size, 0, none⟩) news.length K, S.fresh H.length K bt cs 1, by simp [hr]; rfl, .inl rfl, ?_, ?_, ?_⟩
           ·have := new_ok hok (t := bt) (es := news) 1 k1 k2 k3 k4
            simpa using this
           ·have := new_ext hok (t := bt) (s := E.sz) (es := news) K cs 1
            simpa using this
           ·have hsh2 : shOf (H ++ [.row E.sz bt (([] : List (List AV)).take 0 ++ news)]) H.length = some (E.sz, 0 + news.length) := by rw [shOf_push_new]; simp
            rw [Nat.zero_add] at hsh2 ⊢
            exact rel_own_mk hsh2 (Nat.le_refl _) (.inr ⟨S.w.heap.size, K, K, fresh_env _ _ _ _ _, rfl, k1, Nat.le_refl _, fun _ => rfl, fun j hj => (by cases hj)⟩)
        ·obtain ⟨g0, k0, cur, q1, q2, q3, q4, q5, q6, q7⟩ := (hok.row b E.sz bt es hb).resolve_left (fun q => by rw [q.1] at hg; cases hg)
         rw [hg] at q1; injection q1 with q1; injection q1 with e1 e2; subst e1; subst e2
         have hnk : n * E.sz ≤ cur.size := by rw [q4]; exact Nat.mul_le_mul_right _ (by omega)
         have hfo : (Builtin.firstCells E.sz n (.slice (some ⟨g, 0, none⟩) n cap)).run P S.w.drew = .ok (cur.toList.take (n * E.sz)).toArray S.w.drew := by
          refine run_firstCells_some S.w.drew E.sz n ⟨g, 0, none⟩ _ _ _ (by simp; omega) fun j u hu => ?_
          rw [add_none]
          rw [List.getElem?_take] at hu
          split at hu
          ·show S.w.cell? ⟨g, 0 + j, none⟩ = some u
           simp [World.cell?, q3]
           simpa using hu
          ·cases hu
         by_cases hroom : n + news.length ≤ cap
         ·have hfit : n * E.sz + C.length ≤ cur.size := by rw [s3, q4, ← Nat.add_mul]; exact Nat.mul_le_mul_right _ (by omega)
          have hst := run_storeCells_at P g (n * E.sz) bt C 0 cur S.w q3 (by simpa using hfit) s4
          simp only [Nat.add_zero] at hst
          have hr := run_append_in (P := P) (ty := ty) hu c1 hi (some ⟨g, 0, none⟩) n cap news.length v C S.w _ (s1 S.w) (by rw [hEsz]; exact s2w) hroom (fun a q => by injection q with q; subst q; rw [add_none, hEsz, Nat.zero_add]; exact hst) (fun q => by cases q)
          refine ⟨fun hcc => ?_, fun hcc => ?_⟩
          ·have hlen : es.length ≤ (es.take n ++ news ++ es.drop (n + news.length)).length := by simp; omega
           have hlen2 : (es.take n ++ news ++ es.drop (n + news.length)).length ≤ k := by simp; omega
           have hlen3 : n + news.length ≤ (es.take n ++ news ++ es.drop (n + news.length)).length := by simp; omega
           refine ⟨_, .slice (some ⟨g, 0, none⟩) (n + news.length) cap, S.put g (cur.toList.take (n * E.sz) ++ C ++ cur.toList.drop (n * E.sz + C.length)).toArray, by simp [hr]; rfl, .inl rfl, put_ok hok hb hg hlen hlen2 ?_ ?_, put_ext hok _ hb hg hlen (cs := cur), ?_⟩
           ·simp; omega
           ·have hA := rowIn_append (rowIn_take q7 n) (by rw [htl]; simp; omega) s5
            have hB := rowIn_drop q7 (n + news.length)
            have := rowIn_append hA (by rw [List.length_append, List.length_append, htl, s3, Nat.add_mul]; simp; omega) hB
            rwa [show (n + news.length) * E.sz = n * E.sz + C.length from by rw [s3, Nat.add_mul]] at this
           ·exact rel_own_mk (shOf_set_same hlt) hlen3 (.inr ⟨g, k, cap, hg, rfl, hroom, hcapk, hcn, hcs⟩)
          ·obtain ⟨kk, rfl, hk⟩ := hcc
           have := hcs kk rfl
           omega
         ·obtain ⟨K, cs, hr, k1, k2, k3, k4⟩ := hout (some ⟨g, 0, none⟩) n cap (es.take n) (cur.toList.take (n * E.sz)) rfl c1 c2 c3 hroom c7 c8 htl (by simp; omega) (rowIn_take q7 n) hfo
          refine ⟨fun hcc => ?_, fun hcc => ?_⟩
          ·have hcn' : c = none := by
            rcases hcc with q|⟨kk, q, hk⟩
            ·exact q
            ·have := hcs kk q; omega
           subst hcn'
           have := hcn rfl
           have hE : es.take n ++ news ++ es.drop (n + news.length) = es.take n ++ news := by
            rw [List.drop_of_length_le (by omega), List.append_nil]
           rw [hE]
           have hpos : es.length < (es.take n ++ news).length := by simp; omega
           have hl2 : (es.take n ++ news).length = n + news.length := by simp; omega
           refine ⟨_, .slice (some ⟨S.w.heap.size, 0, none⟩) (n + news.length) K, S.fresh b K bt cs 1, by simp [hr]; rfl, .inl rfl, move_ok hok 1 hb hpos (by omega) k2 k3 k4, move_ext hok K cs 1 hb hpos, ?_⟩
           refine rel_own_mk (shOf_set_same hlt) (by omega) (.inr ⟨S.w.heap.size, K, K, fresh_env _ _ _ _ _, rfl, k1, Nat.le_refl _, fun _ => rfl, fun j hj => (by cases hj)⟩)
          ·have hl2 : (es.take n ++ news).length = n + news.length := by simp; omega
           refine ⟨_, .slice (some ⟨S.w.heap.size, 0, none⟩) (n + news.length) K, S.fresh H.length K bt cs 1, by simp [hr]; rfl, .inl rfl, new_ok hok 1 (by omega) k2 k3 k4, new_ext hok K cs 1, ?_⟩
           have hsh2 : shOf (H ++ [.row E.sz bt (es.take n ++ news)]) H.length = some (E.sz, n + news.length) := by rw [shOf_push_new, hl2]
           exact rel_own_mk hsh2 (Nat.le_refl _) (.inr ⟨S.w.heap.size, K, K, fresh_env _ _ _ _ _, rfl, k1, Nat.le_refl _, fun _ => rfl, fun j hj => (by cases hj)⟩)
       cases c with
       | none => exact (fin h).1 (.inl rfl)
       | some k =>
        simp only at h ⊢
        by_cases hk : n + news.length ≤ k
        ·simp only [hk, if_true] at h ⊢
         exact (fin h).1 (.inr ⟨k, rfl, hk⟩)
        ·simp only [hk, if_false] at h ⊢
         exact (fin h).2 ⟨k, rfl, hk⟩
    ·rename_i s es c
     cases news with
     | nil =>
      simp only at h ⊢
      have hd' := hd
      simp only [Rel] at hd'
      obtain ⟨a, cap, rfl, d1, d2, d3, d4⟩ := hd'
      have hC : C = [] := by apply List.eq_nil_of_length_eq_zero; rw [s3]; simp
      subst hC
      have hr := run_append_in (P := P) (ty := ty) hu h hi a es.length cap 0 v [] S.w S.w (s1 S.w) (by rw [hEsz]; exact s2w) (by omega) (fun a q => by rfl) (fun _ => rfl)
      exact ⟨_, .slice a es.length cap, S, by simp [hr], .inl rfl, hok, Ext.refl _ _ _, hd⟩
     | cons n0 ns =>
     simp only at h ⊢
     generalize n0 :: ns = news at *
     cases c with
     | none => simp only at h; cases h
     | some k =>
      simp only [Bool.and_eq_true, decide_eq_true_eq, beq_iff_eq, Bool.or_eq_true, List.isEmpty_iff] at h ⊢
      obtain ⟨⟨⟨⟨⟨⟨c1, c2⟩, c3⟩, c4⟩, c5⟩, c6⟩, c7⟩ := h
      have hd' := hd
      simp only [Rel] at hd'
      obtain ⟨a, cap, rfl, d1, d2, d3, d4⟩ := hd'
      have := d3 k rfl
      subst this
      have hO : ∃ O : List Value, O.length = es.length * E.sz ∧ RowIn (S.env H) E.sz es O.toArray ∧ (Builtin.firstCells E.sz es.length (.slice a es.length cap)).run P S.w.drew = .ok O.toArray S.w.drew := by
       by_cases he : es = []
       ·subst he
        refine ⟨[], by simp, fun q e hq => by simp at hq, ?_⟩
        cases a <;> simp [Builtin.firstCells, loadCells, loadCellsFrom]
       ·obtain ⟨g, off, rfl, hre⟩ := d4.resolve_left he
        have hs := c4.resolve_left he
        subst hs
        obtain ⟨O, o1, o2, o3, o4⟩ := relE_cells es g off hre
        refine ⟨O, o1, o2, run_firstCells_some S.w.drew _ es.length ⟨g, off, none⟩ _ _ O o1 fun j u hu => ?_⟩
        rw [add_none]
        exact imm_cell hok (o4 j u hu)
      obtain ⟨O, o1, o2, o3⟩ := hO
      obtain ⟨K, cs, hr, k1, k2, k3, k4⟩ := hout a es.length cap es O rfl c1 c2 c3 (by omega) c6 c7 rfl o1 o2 o3
      refine ⟨_, .slice (some ⟨S.w.heap.size, 0, none⟩) (es.length + news.length) K, S.fresh H.length K e cs 1, by simp [hr]; rfl, .inl rfl, new_ok hok 1 (by simpa using k1) k2 k3 k4, new_ext hok K cs 1, ?_⟩
      have hsh2 : shOf (H ++ [.row E.sz e (es ++ news)]) H.length = some (E.sz, es.length + news.length) := by rw [shOf_push_new]; simp
      exact rel_own_mk hsh2 (Nat.le_refl _) (.inr ⟨S.w.heap.size, K, K, fresh_env _ _ _ _ _, rfl, k1, Nat.le_refl _, fun _ => rfl, fun j hj => (by cases hj)⟩)
    ·cases h
 ·cases h
end
end Go.V
set_option linter.unusedVariables false
set_option linter.unusedSimpArgs false
namespace Go.V
open Go Go.RowKit
section
variable {P : Program} {E : Env}
theorem findI_shift (k : AV) : ∀ (es : List (AV × AV)) (l : List MapEntry) (i : Nat), findI k es l i = (findI k es l 0).map fun q => (q.1 + i, q.2)
 | [], l, i => by simp [findI]
 | p :: es, [], i => by simp [findI]
 | p :: es, e :: l, i => by
  simp only [findI]
  split
  ·simp
  ·rw [findI_shift k es l (i + 1), findI_shift k es l (0 + 1)]
   cases findI k es l 0 with
   | none => rfl
   | some q => simp; omega
theorem relM_upd {k x : AV} {kv xv : Value} (hk : Rel E k kv) (hx : Rel E x xv) : ∀ (es : List (AV × AV)) (l : List MapEntry), RelM E es l →
  match findI k es l 0 with
  | some q => (∃ e, l[q.1]? = some e ∧ Instr.sameBits 10000 e.key kv = true) ∧ RelM E (updA es k x) (l.modify q.1 fun e => { e with key := kv, val := xv })
  | none => ∀ c, RelM E (updA es k x) (l ++ [{ key := kv, val := xv, born := c }])
 | [], l, hr => by
  simp only [RelM] at hr; subst hr
  simp only [findI, updA, List.nil_append]
  intro c
  exact ⟨_, [], rfl, hk, hx, rfl⟩
 | p :: es, l, hr => by
  simp only [RelM] at hr
  obtain ⟨e, l, rfl, h1, h2, h3⟩ := hr
  simp only [findI, updA]
  by_cases hs : sameK k p.1 = true
  ·rw [if_pos hs, if_pos hs]
   obtain ⟨e1, e2, e3⟩ := sameK_eq hs hk h1
   refine ⟨⟨e, rfl, by rw [← e2] at e3 ⊢; exact e3⟩, ?_⟩
   simp only [List.modify_zero_cons]
   exact ⟨_, l, rfl, hk, hx, h3⟩
  ·rw [if_neg hs, if_neg hs, findI_shift]
   have ih := relM_upd hk hx es l h3
   cases hq : findI k es l 0 with
   | none =>
    rw [hq] at ih
    simp only [Option.map_none]
    intro c
    exact ⟨e, _, rfl, h1, h2, ih c⟩
   | some q =>
    rw [hq] at ih
    simp only [Option.map_some]
    obtain ⟨⟨e', he, hb⟩, ih⟩ := ih
    refine ⟨⟨e', by simpa using he, hb⟩, ?_⟩
    simp only [List.modify_succ_cons]
    exact ⟨e, _, rfl, h1, h2, ih⟩
end
section
variable {P : Program} {S : St} {H : List Blk}
def St.newob (S : St) (k : Nat) (o : Obj) : St := { S with ν := upd S.ν k (some S.w.heap.size), w := S.w.alloc o }
theorem newob_ext (hok : S.Ok H) (x : OB) (o : Obj) : Ext H.length S H (S.newob H.length o) (H ++ [.ob x]) where
 os := rfl
 tape := rfl
 output := rfl
 size := by simp [St.newob]
 keep i hi hno := Below.heap_alloc S.w o i hi
 M i o h := h
 dom i h := .inl h
 own i h := by
  obtain ⟨b, hb⟩ := h
  by_cases e : b < H.length
  ·left
   refine ⟨b, ?_⟩
   simpa only [St.at, St.newob, List.getElem?_append_left e, upd_ne _ _ (show b ≠ H.length by omega)] using hb
  ·right
   by_cases e2 : b = H.length
   ·subst e2
    simp [St.at, St.newob, upd_same] at hb
    omega
   ·have : (H ++ [Blk.ob x])[b]? = none := List.getElem?_eq_none (by simp; omega)
    simp [St.at, this] at hb
 sh b s cur hb hs := ⟨cur, Nat.le_refl _, by simpa [shOf, List.getElem?_append_left hb] using hs, fun _ => rfl⟩
 ν b g hb hg := by
  have e : (S.newob H.length o).ν b = S.ν b := upd_ne _ _ (by omega)
  simpa [mpOf, List.getElem?_append_left hb, e] using hg
 len h := by simp
theorem newob_ok (hok : S.Ok H) {x : OB} {o : Obj} (hin : ObIn (S.env H) x o) : (S.newob H.length o).Ok (H ++ [.ob x]) := by
 have hle := (newob_ext hok x o).le (Nat.le_refl _)
 have hnew : S.M S.w.heap.size = none := by
  cases ho : S.M S.w.heap.size with
  | none => rfl
  | some o => have := M_lt hok (k := S.w.heap.size) (by rw [ho]; simp); omega
 have hold : ∀ g o', S.w.heap[g]? = some o' → (S.newob H.length o).w.heap[g]? = some o' := fun g o' h =>
  (Below.heap_alloc S.w o g (Array.getElem?_eq_some_iff.1 h).1).trans h
 have hat : ∀ b, b < H.length → (S.newob H.length o).at (H ++ [.ob x]) b = S.at H b := fun b e => by
  simp only [St.at, St.newob, List.getElem?_append_left e, upd_ne _ _ (show b ≠ H.length by omega)]
 have hatb : (S.newob H.length o).at (H ++ [.ob x]) H.length = some S.w.heap.size := by
  simp [St.at, St.newob, upd_same]
 have hge : ∀ b g', (S.newob H.length o).at (H ++ [.ob x]) b = some g' → b < H.length ∨ b = H.length := fun b g' hb => by
  by_cases e : b ≤ H.length
  ·omega
  ·have : (H ++ [Blk.ob x])[b]? = none := List.getElem?_eq_none (by simp; omega)
   simp [St.at, this] at hb
 refine ⟨fun i o' hi => hold i o' (hok.imm i o' hi), fun b s' t' es2 hb => ?_, fun b x' hb => ?_, fun b y g' hx hy => ?_⟩
 ·have hlt : b < H.length := by
   rcases Nat.lt_or_ge b H.length with q|q
   ·exact q
   ·have := (List.getElem?_eq_some_iff.1 hb).1
    simp at this
    have e : b = H.length := by omega
    subst e; simp at hb
  rw [List.getElem?_append_left hlt] at hb
  rcases hok.row b s' t' es2 hb with h|⟨g', k', cs2, h1, h2, h3, h4, h5, h6, h7⟩
  ·exact .inl h
  ·exact .inr ⟨g', k', cs2, h1, h2, hold _ _ h3, h4, h5, h6, h7.mono hle⟩
 ·rcases Nat.lt_or_ge b H.length with hlt|q
  ·rw [List.getElem?_append_left hlt] at hb
   obtain ⟨g', o1, h1, h2, h3, h4⟩ := hok.ob b x' hb
   exact ⟨g', o1, (upd_ne _ _ (show b ≠ H.length by omega)).trans h1, h2, hold _ _ h3, h4.mono hle⟩
  ·have e : b = H.length := by
    have := (List.getElem?_eq_some_iff.1 hb).1
    simp at this; omega
   subst e
   simp at hb; subst hb
   exact ⟨_, o, upd_same _ _ _, hnew, World.alloc_heap_new S.w o, hin.mono hle⟩
 ·rcases hge b g' hx with ex|ex
  ·rcases hge y g' hy with ey|ey
   ·rw [hat b ex] at hx; rw [hat y ey] at hy
    exact hok.inj b y g' hx hy
   ·rw [ey, hatb] at hy; rw [hat b ex] at hx
    injection hy with hy
    have := own_lt hok hx
    omega
  ·rcases hge y g' hy with ey|ey
   ·rw [ex, hatb] at hx; rw [hat y ey] at hy
    injection hx with hx
    have := own_lt hok hy
    omega
   ·rw [ex, ey]
def St.setob (S : St) (g : Nat) (o : Obj) : St := { S with w := S.w.putObj g o }
theorem env_setob {b : Nat} {x x' : OB} (hb : H[b]? = some (.ob x)) (g : Nat) (o : Obj) : (S.setob g o).env (H.set b (.ob x')) = S.env H := by
 have hlt := (List.getElem?_eq_some_iff.1 hb).1
 simp only [St.env, St.setob]
 congr 1
 ·funext y
  by_cases e : y = b
  ·subst e; simp only [shOf, List.getElem?_set_self hlt, hb]
  ·simp only [shOf, List.getElem?_set_ne (Ne.symm e)]
 ·funext y
  by_cases e : y = b
  ·subst e; simp only [mpOf, List.getElem?_set_self hlt, hb]
  ·simp only [mpOf, List.getElem?_set_ne (Ne.symm e)]
theorem at_setob {b : Nat} {x x' : OB} (hb : H[b]? = some (.ob x)) (g : Nat) (o : Obj) (y : Nat) : (S.setob g o).at (H.set b (.ob x')) y = S.at H y := by
 have hlt := (List.getElem?_eq_some_iff.1 hb).1
 by_cases e : y = b
 ·subst e; simp only [St.at, List.getElem?_set_self hlt, hb, St.setob]
 ·simp only [St.at, List.getElem?_set_ne (Ne.symm e), St.setob]
theorem setob_ext (hok : S.Ok H) {b g : Nat} {x : OB} (x' : OB) (hb : H[b]? = some (.ob x)) (hg : S.ν b = some g) (o : Obj) : Ext H.length S H (S.setob g o) (H.set b (.ob x')) where
 os := rfl
 tape := rfl
 output := rfl
 size := by simp [St.setob]
 keep i hi hno := World.putObj_heap_other (by rintro rfl; exact hno ⟨b, by simp [St.at, hb, hg]⟩)
 M i o h := h
 dom i h := .inl h
 own i h := by
  obtain ⟨y, hy⟩ := h
  rw [at_setob hb] at hy
  exact .inl ⟨y, hy⟩
 sh y s cur hy hs := ⟨cur, Nat.le_refl _, by
  have := congrArg (fun E : Env => E.sh y) (env_setob (S := S) (x' := x') hb g o)
  exact this.trans hs, fun _ => rfl⟩
 ν y g' hy hg' := by
  have := congrArg (fun E : Env => E.ν y) (env_setob (S := S) (x' := x') hb g o)
  exact this.trans hg'
 len h := by simp
theorem setob_ok (hok : S.Ok H) {b g : Nat} {x x' : OB} {o : Obj} (hb : H[b]? = some (.ob x)) (hg : S.ν b = some g) (hin : ObIn (S.env H) x' o) : (S.setob g o).Ok (H.set b (.ob x')) := by
 have hlt := (List.getElem?_eq_some_iff.1 hb).1
 have hatb : S.at H b = some g := by simp [St.at, hb, hg]
 have hne : ∀ y k, y ≠ b → S.at H y = some k → k ≠ g := fun y k hy hk e => hy (hok.inj y b g (by rw [← e]; exact hk) hatb)
 have hother : ∀ k, k ≠ g → (S.setob g o).w.heap[k]? = S.w.heap[k]? := fun k hk => World.putObj_heap_other hk
 obtain ⟨g1, o1, q1, q2, q3, _⟩ := hok.ob b x hb
 rw [hg] at q1; injection q1 with q1; subst q1
 have henv := env_setob (S := S) (x' := x') hb g o
 refine ⟨fun i o' hi => ?_, fun y s t es hy => ?_, fun y z hy => ?_, fun y z k hy hz => ?_⟩
 ·have hi' : S.M i = some o' := hi
  exact (hother i (by rintro rfl; rw [q2] at hi'; cases hi')).trans (hok.imm i o' hi')
 ·rw [henv]
  have e : y ≠ b := by
   rintro rfl
   rw [List.getElem?_set_self hlt] at hy; cases hy
  rw [List.getElem?_set_ne (Ne.symm e)] at hy
  rcases hok.row y s t es hy with q|⟨g', k, cs, h1, h2, h3, h4⟩
  ·exact .inl q
  ·exact .inr ⟨g', k, cs, h1, h2, (hother g' (hne y g' e (by simp [St.at, hy, h1]))).trans h3, h4⟩
 ·rw [henv]
  by_cases e : y = b
  ·subst e
   rw [List.getElem?_set_self hlt] at hy
   injection hy with hy; injection hy with hy; subst hy
   exact ⟨g, o, hg, q2, World.putObj_heap_same (Array.getElem?_eq_some_iff.1 q3).1, hin⟩
  ·rw [List.getElem?_set_ne (Ne.symm e)] at hy
   obtain ⟨g', o', h1, h2, h3, h4⟩ := hok.ob y z hy
   exact ⟨g', o', h1, h2, (hother g' (hne y g' e (by simp [St.at, hy, h1]))).trans h3, h4⟩
 ·rw [at_setob hb] at hy hz
  exact hok.inj y z k hy hz
theorem eMakeMap_ok (hok : S.Ok H) {t : TypeId} {r : Option AV} {rv : Option Value} (hr : RelO (S.env H) r rv) (h : (eMakeMap P H t r).1 = true) :
  Turns P S H (do pure (.value (← Instr.makeMap t rv))) (eMakeMap P H t r).2.1 (eMakeMap P H t r).2.2 := by
 unfold eMakeMap at *
 split at h
 ·rename_i kT eT hs
  obtain ⟨T, hT, hsh⟩ := shp_some hs (by simp)
  have hu := und_map hT hsh
  have hin : ObIn (S.env H) (.map kT eT []) (.map #[] 0) := ⟨#[], 0, rfl, rfl, by simp⟩
  have hrun : (Instr.makeMap t rv).run P S.w = .ok (.map (some S.w.heap.size)) (S.w.alloc (.map #[] 0)) := by
   cases r with
   | none =>
    simp only [RelO] at hr; subst hr
    simp [Instr.makeMap, Sem.run_bind, run_newObj_alloc, Result.andThen]
   | some a =>
    simp only [RelO] at hr
    obtain ⟨u, rfl, hu'⟩ := hr
    cases a with
    | int k n =>
     have : u = .int k n := by simpa [Rel] using hu'
     subst this
     simp [Instr.makeMap, Sem.run_bind, run_underlying hu, asInt, asIntOf, run_newObj_alloc, Result.andThen]
    | _ => simp at h
  refine ⟨.value (.map (some S.w.heap.size)), .map (some S.w.heap.size), S.newob H.length (.map #[] 0), ?_, .inl rfl, newob_ok hok hin, newob_ext hok _ _, ?_⟩
  ·simp [Sem.run_bind, hrun, Result.andThen]; rfl
  ·simp only [Rel]
   exact ⟨_, by simp [St.env, mpOf, St.newob, upd_same], rfl⟩
 ·cases h
theorem eMapSet_ok (hok : S.Ok H) {t : TypeId} {m k x : AV} {mv kv xv : Value} (hm : Rel (S.env H) m mv) (hk : Rel (S.env H) k kv) (hx : Rel (S.env H) x xv) (h : (eMapSet P H t m k x).1 = true) :
  Turns P S H (do Instr.mapUpdate t mv kv xv; pure .skip) (eMapSet P H t m k x).2.1 (eMapSet P H t m k x).2.2 := by
 unfold eMapSet at *
 split at h
 ·rename_i kT eT b hs
  obtain ⟨T, hT, hsh⟩ := shp_some hs (by simp)
  have hu := und_map hT hsh
  split at h
  ·rename_i k0 v0 es hb
   have hmk := h
   simp only [mapOk, Bool.and_eq_true] at h
   simp only [Rel] at hm
   obtain ⟨g, hg, rfl⟩ := hm
   have hg : S.ν b = some g := by
    have : mpOf S.ν H b = some g := hg
    simpa [mpOf, hb] using this
   obtain ⟨g', o, h1, h2, h3, ents, clock, rfl, h5⟩ := hok.ob b _ hb
   rw [hg] at h1; injection h1 with h1; subst h1
   have hr := mapIn_iff.1 h5
   have hck := run_checkKey_A (P := P) S.w false 8 kT k kv hk h.1.2 10000 (by decide)
   have hfk := run_findKey S.w hk hr hmk
   have hgo : (getObj g).run P S.w = .ok (.map ents clock) S.w := by simp [getObj, Sem.run, h3]
   have hso : ∀ o', (setObj g o').run P S.w = .ok () (S.w.putObj g o') := fun o' => by simp [setObj, Sem.run, h3, World.putObj]
   have hup := relM_upd hk hx es ents.toList hr
   have fin : ∀ ob', ObIn (S.env H) (.map k0 v0 (updA es k x)) ob' → (Instr.mapUpdate t (.map (some g)) kv xv).run P S.w = .ok () (S.w.putObj g ob') →
     Turns P S H (do Instr.mapUpdate t (.map (some g)) kv xv; pure .skip) (.tup []) (H.set b (.ob (.map k0 v0 (updA es k x)))) := fun ob' hin hrun =>
    ⟨.skip, undef, S.setob g ob', by simp [Sem.run_bind, hrun, Result.andThen, St.setob], .inr ⟨rfl, rfl⟩, setob_ok hok hb hg hin, setob_ext hok _ hb hg ob', by simp [Rel, RelL, undef]⟩
   simp only [hb]
   cases hq : findI k es ents.toList 0 with
   | none =>
    rw [hq] at hup
    refine fin (.map (ents.push { key := kv, val := xv, born := clock }) (clock + 1)) ⟨_, _, rfl, mapIn_iff.2 (by simpa using hup clock)⟩ ?_
    simp only [Instr.mapUpdate, Sem.run_bind, run_underlying hu, Result.andThen_ok, hgo, hck, hfk, hq, hso]
   | some q =>
    rw [hq] at hup
    obtain ⟨⟨e, he, hbits⟩, hup⟩ := hup
    refine fin (.map (ents.modify q.1 fun e => { e with key := kv, val := xv }) clock) ⟨_, _, rfl, mapIn_iff.2 (by simpa using hup)⟩ ?_
    have he' : ents[q.1]? = some e := by simpa using he
    simp only [Instr.mapUpdate, Sem.run_bind, run_underlying hu, Result.andThen_ok, hgo, hck, hfk, hq, he', Option.map_some, Option.getD_some, Instr.keyThatStays, hbits, if_true, Sem.run_pure, hso]
  ·cases h
 ·cases h
end
end Go.V
set_option linter.unusedVariables false
set_option linter.unusedSimpArgs false
namespace Go.V
open Go Go.RowKit
abbrev Glob := Nat → Option (List AV)
def Env0 (M : Mem) : Env := ⟨M, fun _ => none, fun _ => none, fun _ => none⟩
def Globs (G : Glob) (M : Mem) : Prop := ∀ g cs, G g = some cs → ∃ (vs : List Value) (t : TypeId) (fr : Nat × Nat), M g = some (.cells vs.toArray t fr) ∧ RelL (Env0 M) cs vs ∧ ∀ u ∈ vs, u.oneCell' = true
theorem Globs.relC {G : Glob} {M : Mem} (h : Globs G M) {g : Nat} {cs : List AV} (hg : G g = some cs) : RelC (Env0 M) cs g 0 := by
 obtain ⟨vs, t, fr, h1, h2, h3⟩ := h g cs hg
 refine RelC.mk fun j a hj => ?_
 obtain ⟨v, hv, hr⟩ := h2.get hj
 exact ⟨v, by simp [mcell, Env0, h1, hv], h3 v (List.mem_of_getElem? hv), hr⟩
theorem env0_le (M M' : Mem) (h : ∀ k o, M k = some o → M' k = some o) (E : Env) (hE : E.M = M') : (Env0 M).le E :=
 ⟨(by rw [hE]; exact h), fun b s cur q => (by cases q), fun b g q => (by cases q)⟩
theorem Globs.mono {G : Glob} {M M' : Mem} (hg : Globs G M) (h : ∀ k o, M k = some o → M' k = some o) : Globs G M' :=
 fun g cs hc => let ⟨vs, t, fr, h1, h2, h3⟩ := hg g cs hc; ⟨vs, t, fr, h _ _ h1, RelL.mono (env0_le M M' h _ rfl) _ _ h2, h3⟩
def getA (a : List AV) (t : Nat) : AV := a.getD t (.tup [])
def putA (a : List AV) (d : Option Tmp) (v : AV) : List AV :=
 match d with
 | some d => a.set d v
 | none => a
def ev (G : Glob) (a : List AV) : Operand → AV
 | .tmp t => getA a t
 | .const v => ofVal v
 | .global g => match G g with|some cs => .iptr cs 0|none => .top
 | .func f => .fn f []
theorem getA_putA_ne {a : List AV} {t d : Nat} (v : AV) (h : d ≠ t) : getA (putA a (some d) v) t = getA a t := by
 simp [getA, putA, List.getD_eq_getElem?_getD, List.getElem?_set_ne h]
theorem putA_comm (a : List AV) {x y : Option Tmp} (v u : AV) (h : ∀ d, x = some d → y ≠ some d) : putA (putA a x v) y u = putA (putA a y u) x v := by
 cases x with
 | none => rfl
 | some d =>
  cases y with
  | none => rfl
  | some e =>
   have hne : d ≠ e := fun q => h d rfl (by rw [q])
   simp only [putA]
   exact List.set_comm _ _ hne
theorem rel_getA {E : Env} {a : List AV} {ts : Array Value} (h : RelL E a ts.toList) (t : Nat) : Rel E (getA a t) (ts.getD t undef) := by
 unfold getA
 rw [List.getD_eq_getElem?_getD]
 cases ha : a[t]? with
 | none =>
  have : ts.size ≤ t := by
   have h1 := List.getElem?_eq_none_iff.1 ha
   have := h.length
   simp at this
   omega
  rw [Array.getD_eq_getD_getElem?, Array.getElem?_eq_none this]
  simp [Rel, RelL, undef]
 | some v =>
  obtain ⟨u, hu, hr⟩ := h.get ha
  have : ts[t]? = some u := by simpa using hu
  rw [Array.getD_eq_getD_getElem?, this]
  exact hr
theorem rel_ev {G : Glob} {S : St} {H : List Blk} {a : List AV} {act : Act} (hG : Globs G S.M) (h : RelL (S.env H) a act.tmps.toList) (x : Operand) : Rel (S.env H) (ev G a x) (act.eval x) := by
 cases x with
 | tmp t => exact rel_getA h t
 | const v => exact rel_ofVal _ v
 | global g =>
  simp only [ev, Act.eval]
  split
  ·rename_i cs hg
   simp only [Rel]
   exact ⟨g, 0, rfl, (hG.relC hg).mono (env0_le S.M S.M (fun _ _ h => h) _ rfl)⟩
  ·simp [Rel]
 | func f => simp [ev, Act.eval, Rel, RelL]
theorem relL_put {E : Env} {a : List AV} {act : Act} (h : RelL E a act.tmps.toList) (d : Option Tmp) {r : AV} {v : Value} (hr : Rel E r v) : RelL E (putA a d r) (act.put d v).tmps.toList := by
 cases d with
 | none => exact h
 | some d => simpa [putA, Act.put] using h.set d hr
section
variable {P : Program} {S : St} {H : List Blk}
theorem estep_ok (hok : S.Ok H) {ρ : Operand → AV} {ρv : Operand → Value} (hρ : ∀ x, Rel (S.env H) (ρ x) (ρv x)) (o : Oper) (h : (estep P o.op ρ H).1 = true) :
  Turns P S H (execOp ρv o) (estep P o.op ρ H).2.1 (estep P o.op ρ H).2.2 := by
 obtain ⟨dst, op, type, pos, after, guard⟩ := o
 simp only at h ⊢
 have st : ∀ x, (ρ x).ok = true → Rel (S.env H) (ρ x).strip (ρv x) := fun x hx => (hρ x).strip hx
 cases op with
 | alloc t => exact eAlloc_ok hok h
 | box t x =>
  simp only [estep, Bool.and_eq_true] at h ⊢
  exact eBox_ok hok (st x h.1) h.2
 | store t p x =>
  simp only [estep, Bool.and_eq_true] at h ⊢
  exact eStore_ok hok (st p h.1) (st x h.2.1) h.2.2
 | makeSlice t l c =>
  simp only [estep, Bool.and_eq_true] at h ⊢
  exact eMake_ok hok (st l h.1) (st c h.2.1) h.2.2
 | makeMap t r =>
  simp only [estep, Bool.and_eq_true] at h ⊢
  exact eMakeMap_ok hok (relO_map hρ r h.1) h.2
 | mapUpdate t m k x =>
  simp only [estep, Bool.and_eq_true] at h ⊢
  exact eMapSet_ok hok (st m h.1) (st k h.2.1) (st x h.2.2.1) h.2.2.2
 | call c =>
  obtain ⟨callee, args, argTypes⟩ := c
  cases callee with
  | builtin b =>
   cases b with
   | append =>
    simp only [estep] at h ⊢
    split at h
    ·rename_i d x t t1 ha ht
     simp only [Bool.and_eq_true] at h
     have := eAppend_ok (P := P) (ty := type) hok (st d h.1) (st x h.2.1) h.2.2
     have hA : args.map ρv = #[ρv d, ρv x] := by apply Array.ext'; simp [ha]
     have hT : argTypes = #[t, t1] := by apply Array.ext'; simp [ht]
     obtain ⟨nx, v, S', h1, h2⟩ := this
     refine ⟨nx, v, S', ?_, h2⟩
     simpa [execOp, resolve, invoke, builtin, hA, hT] using h1
    ·cases h
   | _ => cases h
  | _ => cases h
 | _ => cases h
end
def ACalls (P : Program) (G : Glob) (f : FuncId) (args : List AV) (H : List Blk) (r : AV) (H' : List Blk) : Prop :=
 ∀ (S : St) (vals : List Value), S.Ok H → Globs G S.M → RelL (S.env H) args vals →
  Calls P f vals.toArray S.w fun e w' => ∃ v S', e = .returned v ∧ S'.w = w' ∧ S'.Ok H' ∧ Ext H.length S H S' H' ∧ Rel (S'.env H') r v
def fen (ro : Option Nat) : Fence := { Fence.wide with round := ro }
theorem callsIn_fen {ro : Option Nat} {n : Nat} {P : Program} {f : FuncId} {args : Array Value} {w : World} {R : Ending → World → Prop} (h : Calls P f args w R) : CallsIn (fen ro) n P f args w R := (callsIn_wide (n := n)).2 h
def AYield (P : Program) (G : Glob) (b : Nat) (args : List AV) (H : List Blk) (r : AV) (H' : List Blk) : Prop :=
 ∀ (S : St) (vals : List Value) (l : Nat), S.Ok H → Globs G S.M → RelL (S.env H) args vals → mpOf S.ν H b = some l →
  ∃ fn tmps assign body, (Instr.yield l vals.toArray).run P S.w = .ok (.round l fn tmps assign body) S.w ∧
   RoundIn Fence.wide 0 P l fn tmps assign body S.w fun e w' => ∃ v S', e = .returned v ∧ S'.w = w' ∧ S'.Ok H' ∧ Ext H.length S H S' H' ∧ Rel (S'.env H') r v
def enters (P : Program) (f : FuncId) : Bool :=
 match P.funcs[f]? with
 | some fn => fn.name != "runtime.NumGoroutine" && fn.body.isSome
 | none => false
def isMk : Op → Bool
 | .makeSlice _ _ _ => true
 | _ => false
def Made (P : Program) (o : Op) (ρ : Operand → AV) (H : List Blk) (r : AV) : Prop :=
 ∀ (oo : Oper), oo.op = o → ∀ (S : St) (ρv : Operand → Value), S.Ok H → (∀ x ∈ o.operands, Rel (S.env H) (ρ x) (ρv x)) → Turns P S H (execOp ρv oo) r H
inductive OpSem (P : Program) (G : Glob) (o : Op) (ρ : Operand → AV) (H : List Blk) : AV → List Blk → Prop where
 | pure (h : (pstep P o ρ H).1 = true) : OpSem P G o ρ H (pstep P o ρ H).2 H
 | eff (he : isEff o = true) (h : (estep P o ρ H).1 = true) : OpSem P G o ρ H (estep P o ρ H).2.1 (estep P o ρ H).2.2
 | call (c : Call) (f : Operand) (g : FuncId) (cap : List AV) (ho : o = .call c) (hc : c.callee = .value f) (hf : (ρ f).strip = .fn g cap) (hk : (ρ f).ok = true) (hent : enters P g = true)
   (hargs : (c.args.toList.all fun x => (ρ x).ok) = true) (r : AV) (H' : List Blk) (h : ACalls P G g ((c.args.toList.map fun x => (ρ x).strip) ++ cap) H r H') : OpSem P G o ρ H r H'
 | yield (c : Call) (f : Operand) (b : Nat) (ho : o = .call c) (hc : c.callee = .value f) (hf : (ρ f).strip = .yld b) (hk : (ρ f).ok = true)
   (hargs : (c.args.toList.all fun x => (ρ x).ok) = true) (r : AV) (H' : List Blk) (h : AYield P G b (c.args.toList.map fun x => (ρ x).strip) H r H') : OpSem P G o ρ H r H'
 | made (he : isMk o = true) (r : AV) (h : Made P o ρ H r) : OpSem P G o ρ H r H
theorem opSem_wp {P : Program} {G : Glob} {S : St} {H H' : List Blk} {r : AV} {a : List AV} {act : Act} {o : Oper} (h : OpSem P G o.op (ev G a) H r H') (hok : S.Ok H) (hG : Globs G S.M) (ha : RelL (S.env H) a act.tmps.toList)
  {K : Act → World → Prop} {Q : Exit → Act → World → Prop} (hK : ∀ v S', S'.Ok H' → Ext H.length S H S' H' → Rel (S'.env H') r v → K (act.put o.dst v) S'.w) {ro : Option Nat} : o.wpIn (fen ro) 0 P act S.w K Q := by
 have hρ := fun x => rel_ev (act := act) hG ha x
 refine ⟨fun _ _ => trivial, ?_⟩
 cases h with
 | pure h =>
  obtain ⟨v, S', h1, h2, h3, h4⟩ := pstep_ok hok hρ (fun v => rfl) o h
  rw [Oper.semAt_eq _ _ _ (fun c hc => by rw [hc] at h; cases h), h1]
  exact hK v S' h2 h3 h4
 | eff he h =>
  obtain ⟨nx, v, S', h1, hnx, h2, h3, h4⟩ := estep_ok hok hρ o h
  rw [Oper.semAt_eq _ _ _ (fun c hc => by rw [hc] at he; cases he), h1]
  rcases hnx with rfl|⟨rfl, rfl⟩
  ·exact hK v S' h2 h3 h4
  ·exact hK undef S' h2 h3 h4
 | made he r h =>
  obtain ⟨nx, v, S', h1, hnx, h2, h3, h4⟩ := h o rfl S act.eval hok fun x _ => hρ x
  rw [Oper.semAt_eq _ _ _ (fun c hc => (by rw [hc] at he; cases he)), h1]
  rcases hnx with rfl|⟨rfl, rfl⟩
  ·exact hK v S' h2 h3 h4
  ·exact hK undef S' h2 h3 h4
 | call c f g cap ho hc hf hk hent hargs r H' h =>
  have hfv := (hρ f).strip hk
  rw [hf] at hfv
  simp only [Rel] at hfv
  obtain ⟨caps, hfe, hcap⟩ := hfv
  have hrel : RelL (S.env H) ((c.args.toList.map fun x => (ev G a x).strip) ++ cap) (c.args.toList.map act.eval ++ caps) := by
   refine RelL.append (RelL.mk (by simp) fun i x v hx hv => ?_) hcap
   rw [List.getElem?_map] at hx hv
   cases hz : c.args.toList[i]? with
   | none => rw [hz] at hx; cases hx
   | some z =>
    rw [hz] at hx hv
    injection hx with hx; injection hv with hv; subst hx; subst hv
    exact (hρ z).strip (List.all_eq_true.1 hargs z (List.mem_of_getElem? hz))
  have hcall := h S _ hok hG hrel
  unfold enters at hent
  split at hent
  ·rename_i fn hfn
   simp only [Bool.and_eq_true, bne_iff_ne, ne_eq, Option.isSome_iff_exists] at hent
   obtain ⟨hname, body, hbody⟩ := hent
   have hn : (fn.name == "runtime.NumGoroutine") = false := by simpa using hname
   have hrun : (execOp act.eval o).run P S.w = .ok (.enter g (c.args.toList.map act.eval ++ caps).toArray) S.w := by
    have harr : c.args.map act.eval ++ caps.toArray = (c.args.toList.map act.eval ++ caps).toArray := by apply Array.ext'; simp
    simp only [execOp, ho, resolve, hc, hfe, Deferred.ofValue]
    simp [invoke, callFunc, hfn, hn, hbody]
    rw [← harr]
    simp
    exact hname
   rw [Oper.semAt_eq _ _ _ (fun c' hc' => by rw [ho] at hc'; cases hc'), hrun]
   refine ⟨fun q => (by cases q), callsIn_fen (hcall.mono fun e w' hh => ?_)⟩
   obtain ⟨v, S', rfl, rfl, h2, h3, h4⟩ := hh
   exact hK v S' h2 h3 h4
  ·cases hent
 | yield c f b ho hc hf hk hargs r H' h =>
  have hfv := (hρ f).strip hk
  rw [hf] at hfv
  simp only [Rel] at hfv
  obtain ⟨l, hl, hfe⟩ := hfv
  have hrel : RelL (S.env H) (c.args.toList.map fun x => (ev G a x).strip) (c.args.toList.map act.eval) := by
   refine RelL.mk (by simp) fun i x v hx hv => ?_
   rw [List.getElem?_map] at hx hv
   cases hz : c.args.toList[i]? with
   | none => rw [hz] at hx; cases hx
   | some z =>
    rw [hz] at hx hv
    injection hx with hx; injection hv with hv; subst hx; subst hv
    exact (hρ z).strip (List.all_eq_true.1 hargs z (List.mem_of_getElem? hz))
  obtain ⟨fn, tmps, assign, body, hy, hround⟩ := h S _ l hok hG hrel hl
  have hrun : (execOp act.eval o).run P S.w = .ok (.round l fn tmps assign body) S.w := by
   have harr : c.args.map act.eval = (c.args.toList.map act.eval).toArray := by apply Array.ext'; simp
   simp only [execOp, ho, resolve, hc, hfe, Deferred.ofValue]
   simp only [invoke, Sem.run_bind, Sem.run_pure, Result.andThen_ok]
   rw [← hy, ← harr]
   simp
  rw [Oper.semAt_eq _ _ _ (fun c' hc' => by rw [ho] at hc'; cases hc'), hrun]
  refine ⟨fun q => (by cases q), RoundIn.mono (F := fen ro) hround fun e w' hh => ?_⟩
  obtain ⟨v, S', rfl, rfl, h2, h3, h4⟩ := hh
  exact hK v S' h2 h3 h4
end Go.V
set_option linter.unusedVariables false
set_option linter.unusedSimpArgs false
namespace Go.V
open Go Go.RowKit
def gOf (v : AV) (want : Bool) : Option Bool :=
 match v with
 | .bool b => some (b == want)
 | .opt g (.bool b) => some (g && (b == want))
 | .tup [] => some false
 | _ => none
def gBool (ops : List Oper) (a : List AV) (j : Nat) (want : Bool) : Option Bool :=
 match ops[j]? with
 | some o =>
  match o.dst with
  | some d => gOf (getA a d) want
  | none => some false
 | none => some false
def Step1 (P : Program) (G : Glob) (ops : List Oper) (o : Oper) (a : List AV) (H : List Blk) (r : AV) (H' : List Blk) : Prop :=
 match o.guard with
 | none => OpSem P G o.op (ev G a) H r H'
 | some (j, want) => ∃ g, gBool ops a j want = some g ∧
   ((g = true ∧ OpSem P G o.op (ev G a) H r H') ∨ (g = false ∧ r = .tup [] ∧ H' = H) ∨ (∃ v, r = .opt g v ∧ H' = H ∧ (g = true → OpSem P G o.op (ev G a) H v H)))
theorem gBool_wanted {ops : List Oper} {a : List AV} {E : Env} {act : Act} (ha : RelL E a act.tmps.toList) {o : Oper} {j : Nat} {want g : Bool} (hg : o.guard = some (j, want)) (h : gBool ops a j want = some g) :
  Region.wanted o (yielded ops.toArray act.tmps) = g := by
 unfold Region.wanted
 rw [hg]
 unfold gBool at h
 simp only [yielded, List.getElem?_toArray]
 cases ho : ops[j]? with
 | none =>
  rw [ho] at h; cases h; rfl
 | some o' =>
  rw [ho] at h
  simp only at h
  cases hd : o'.dst with
  | none =>
   rw [hd] at h; injection h with h; subst h
   simp [hd]
  | some d =>
   rw [hd] at h
   simp only [gOf] at h
   simp only [Option.bind_some, hd]
   have hr := rel_getA ha d
   have hl := ha.length
   simp only [Array.length_toList] at hl
   have hget : ∀ v, act.tmps.getD d undef = v → v ≠ undef → act.tmps[d]? = some v := by
    intro v hv hne
    rw [Array.getD_eq_getD_getElem?] at hv
    cases hq : act.tmps[d]? with
    | none => rw [hq] at hv; exact absurd hv.symm hne
    | some u => rw [hq] at hv; simp at hv; rw [hv]
   have hund : act.tmps.getD d undef = undef → act.tmps[d]? = none ∨ act.tmps[d]? = some undef := by
    intro hv
    rw [Array.getD_eq_getD_getElem?] at hv
    cases hq : act.tmps[d]? with
    | none => exact .inl rfl
    | some u => rw [hq] at hv; simp at hv; subst hv; exact .inr rfl
   split at h
   ·rename_i b hb
    rw [hb] at hr
    have hv : act.tmps.getD d undef = .bool b := by simpa [Rel] using hr
    injection h with h; subst h
    rw [hget _ hv (by simp [undef])]
    cases b <;> cases want <;> rfl
   ·rename_i g' b hb
    rw [hb] at hr
    simp only [Rel] at hr
    injection h with h; subst h
    cases g' with
    | true =>
     have hv : act.tmps.getD d undef = .bool b := hr.1 rfl
     rw [hget _ hv (by simp [undef])]
     cases b <;> cases want <;> rfl
    | false =>
     rcases hund (hr.2 rfl) with q|q <;> rw [q] <;> rfl
   ·rename_i hb
    rw [hb] at hr
    simp only [Rel] at hr
    obtain ⟨vs, hv, hvs⟩ := hr
    simp only [RelL] at hvs
    subst hvs
    injection h with h; subst h
    rcases hund (by rw [hv]; rfl) with q|q <;> rw [q] <;> rfl
   ·cases h
theorem step1_wp {P : Program} {G : Glob} {S : St} {ops : List Oper} {H H' : List Blk} {r : AV} {a : List AV} {act : Act} {o : Oper} (h : Step1 P G ops o a H r H') (hok : S.Ok H) (hG : Globs G S.M) (ha : RelL (S.env H) a act.tmps.toList)
  {K : Act → World → Prop} {Q : Exit → Act → World → Prop} (hK : ∀ v S', S'.Ok H' → Ext H.length S H S' H' → Rel (S'.env H') r v → K (act.put o.dst v) S'.w) {ro : Option Nat} :
  (if Region.wanted o (yielded ops.toArray act.tmps) = true then o.wpIn (fen ro) 0 P act S.w K Q else (∀ f, o.about P S.w act.eval = some f → (fen ro).fn f) ∧ K (act.put o.dst undef) S.w) := by
 unfold Step1 at h
 split at h
 ·rename_i hg
  have hw : Region.wanted o (yielded ops.toArray act.tmps) = true := by simp [Region.wanted, hg]
  rw [if_pos hw]
  exact opSem_wp h hok hG ha hK
 ·rename_i j want hg
  obtain ⟨g, hgb, hcase⟩ := h
  have hw := gBool_wanted ha hg hgb
  rw [hw]
  rcases hcase with ⟨rfl, h⟩|⟨rfl, rfl, rfl⟩|⟨v, rfl, rfl, h⟩
  ·exact opSem_wp h hok hG ha hK
  ·exact ⟨fun _ _ => trivial, hK undef S hok (Ext.refl _ _ _) (by simp [Rel, RelL, undef])⟩
  ·cases g with
   | true =>
    refine opSem_wp (h rfl) hok hG ha fun u S' h1 h2 h3 => hK u S' h1 h2 ?_
    simp only [Rel]
    exact ⟨fun _ => h3, fun q => by cases q⟩
   | false =>
    refine ⟨fun _ _ => trivial, hK undef S hok (Ext.refl _ _ _) ?_⟩
    simp only [Rel]
    exact ⟨fun q => (by cases q), fun _ => trivial⟩
def Chain (P : Program) (G : Glob) (ops : List Oper) (K : List AV → List Blk → Prop) : List Oper → List AV → List Blk → Prop
 | [], a, H => K a H
 | o :: rest, a, H => ∃ r H', Step1 P G ops o a H r H' ∧ Chain P G ops K rest (putA a o.dst r) H'
def mark (g : Nat) : Deferred := { target := .collected g, args := #[] }
def St.Free (S : St) (H : List Blk) (g : Nat) : Prop := ¬ S.Owns H g ∧ S.M g = none
theorem St.Free.ext {n0 : Nat} {S S' : St} {H H' : List Blk} {g : Nat} (h : S.Free H g) (hg : g < S.w.heap.size) (he : Ext n0 S H S' H') : S'.Free H' g ∧ S'.w.heap[g]? = S.w.heap[g]? := by
 refine ⟨⟨fun q => ?_, ?_⟩, he.keep g hg h.1⟩
 ·rcases he.own g q with q|q
  ·exact h.1 q
  ·omega
 ·cases hM : S'.M g with
  | none => rfl
  | some o =>
   rcases he.dom g (by rw [hM]; simp) with q|q|q
   ·exact absurd h.2 q
   ·exact absurd q h.1
   ·omega
def Marks (S : St) (ds : List Deferred) (S' : St) (H' : List Blk) (ds' : List Deferred) : Prop :=
 ∃ Ds : List Nat, ds' = Ds.map mark ++ ds ∧ Ds.Pairwise (fun x y => y < x) ∧ ∀ g ∈ Ds, S.w.heap.size ≤ g ∧ S'.Free H' g ∧ S'.w.heap[g]? = some (.deferred (some []))
theorem Marks.refl (S S' : St) (H' : List Blk) (ds : List Deferred) : Marks S ds S' H' ds := ⟨[], rfl, .nil, fun _ h => by cases h⟩
theorem Marks.mono {n0 : Nat} {S S1 S2 : St} {H1 H2 : List Blk} {ds ds' : List Deferred} (h : Marks S ds S1 H1 ds') (he : Ext n0 S1 H1 S2 H2) : Marks S ds S2 H2 ds' := by
 obtain ⟨D, e, p, q⟩ := h
 refine ⟨D, e, p, fun g hg => ?_⟩
 obtain ⟨q1, q2, q3⟩ := q g hg
 obtain ⟨r1, r2⟩ := q2.ext (Array.getElem?_eq_some_iff.1 q3).1 he
 exact ⟨q1, r1, r2.trans q3⟩
theorem Marks.trans {n0 : Nat} {S S1 S2 : St} {H1 H2 : List Blk} {ds ds1 ds2 : List Deferred} (h : Marks S ds S1 H1 ds1) (k : Marks S1 ds1 S2 H2 ds2) (hsz : S.w.heap.size ≤ S1.w.heap.size) (he : Ext n0 S1 H1 S2 H2) : Marks S ds S2 H2 ds2 := by
 obtain ⟨D1, e1, p1, q1'⟩ := h.mono he
 have h1 : ∀ g ∈ D1, g < S1.w.heap.size := fun g hg => by
  obtain ⟨D1', e1', _, q⟩ := h
  have : D1' = D1 := by
   rw [e1] at e1'
   have := List.append_cancel_right e1'
   exact (List.map_inj_right (f := mark) fun x y hxy => by simpa [mark] using hxy).1 this.symm
  subst this
  exact (Array.getElem?_eq_some_iff.1 (q g hg).2.2).1
 obtain ⟨D2, e2, p2, q2⟩ := k
 refine ⟨D2 ++ D1, by rw [e2, e1]; simp, List.pairwise_append.2 ⟨p2, p1, fun x hx y hy => ?_⟩, fun g hg => ?_⟩
 ·have := (q2 x hx).1
  have := h1 y hy
  omega
 ·rcases List.mem_append.1 hg with h|h
  ·exact ⟨Nat.le_trans hsz (q2 g h).1, (q2 g h).2⟩
  ·exact q1' g h
def Ends (G : Glob) (n0 : Nat) (S : St) (H : List Blk) (ds : List Deferred) (Q : List AV → List Blk → Prop) (act : Act) (w : World) : Prop :=
 ∃ a' H' S', S'.w = w ∧ Q a' H' ∧ S'.Ok H' ∧ Ext n0 S H S' H' ∧ RelL (S'.env H') a' act.tmps.toList ∧ Marks S ds S' H' act.defers
theorem chain_wpOps {P : Program} {G : Glob} {n0 : Nat} {S0 : St} {H0 : List Blk} {ops : List Oper} {K : List AV → List Blk → Prop} {ds : List Deferred} {Q : Exit → Act → World → Prop} {ro : Option Nat}
  (hQ : ∀ act w, Ends G n0 S0 H0 ds K act w → Q .normal act w) :
  ∀ (l : List Oper) (k : Nat) (a : List AV) (H : List Blk) (S : St) (act : Act), (∀ j, l[j]? = ops[k + j]?) → Chain P G ops K l a H → S.Ok H → Globs G S.M → n0 ≤ H.length → Ext n0 S0 H0 S H → RelL (S.env H) a act.tmps.toList → Marks S0 ds S H act.defers →
   wpOpsIn (fen ro) 0 P ops.toArray Q (List.range' k l.length) act S.w
 | [], k, a, H, S, act, hl, hc, hok, hG, hn, hext, ha, hd => hQ _ _ ⟨a, H, S, rfl, hc, hok, hext, ha, hd⟩
 | o :: l, k, a, H, S, act, hl, hc, hok, hG, hn, hext, ha, hd => by
  obtain ⟨r, H', hs, hc'⟩ := hc
  have h0 : ops.toArray[k]? = some o := by have := hl 0; simpa using this.symm
  have hs1 := step1_wp (Q := Q) (ro := ro) (K := wpOpsIn (fen ro) 0 P ops.toArray Q (List.range' (k + 1) l.length)) hs hok hG ha fun v S' h1 h2 h3 => by
   have hlen : H.length ≤ H'.length := h2.len (Nat.le_refl _)
   exact chain_wpOps hQ l (k + 1) _ H' S' _ (fun j => by have := hl (j + 1); simpa [Nat.add_assoc, Nat.add_comm 1 j] using this) hc' h1 (hG.mono h2.M) (by omega) (hext.trans (h2.less hn (Nat.le_refl _))) (relL_put (RelL.mono (h2.le (Nat.le_refl _)) _ _ ha) _ h3) (by
    have e : (act.put o.dst v).defers = act.defers := by cases o.dst <;> rfl
    rw [e]; exact hd.mono h2)
  simp only [List.length_cons, List.range'_succ, wpOpsIn, h0]
  exact hs1
end Go.V

/- The library V, part 13: append; all operations that turn the own blocks. -/
import Derived.Test.YtjoldnonnjleoaaDoorV12
set_option linter.unusedVariables false
set_option linter.unusedSimpArgs false
namespace Go.V
open Go Go.RowKit

section rows
variable {E : Env} {s : Nat}
theorem rowIn_append {as bs : List (List AV)} {A B : List Value} (ha : RowIn E s as A.toArray) (hl : A.length = as.length * s) (hb : RowIn E s bs B.toArray) : RowIn E s (as ++ bs) (A ++ B).toArray := by
  intro i e hi
  by_cases hil : i < as.length
  · rw [List.getElem?_append_left hil] at hi
    obtain ⟨l1, l2⟩ := ha i e hi
    refine ⟨l1, fun j a hj => ?_⟩
    obtain ⟨v, hv, hr⟩ := l2 j a hj
    refine ⟨v, ?_, hr⟩
    have hjs : j < s := by rw [← l1]; exact (List.getElem?_eq_some_iff.1 hj).1
    have : (i + 1) * s ≤ as.length * s := Nat.mul_le_mul_right _ hil
    rw [Nat.add_mul] at this
    simp only [List.getElem?_toArray] at hv ⊢
    rw [List.getElem?_append_left (by omega)]
    exact hv
  · rw [List.getElem?_append_right (by omega)] at hi
    obtain ⟨l1, l2⟩ := hb _ e hi
    refine ⟨l1, fun j a hj => ?_⟩
    obtain ⟨v, hv, hr⟩ := l2 j a hj
    refine ⟨v, ?_, hr⟩
    have : as.length * s ≤ i * s := Nat.mul_le_mul_right _ (by omega)
    simp only [List.getElem?_toArray] at hv ⊢
    rw [List.getElem?_append_right (by omega), hl]
    rw [Nat.sub_mul] at hv
    rwa [show i * s + j - as.length * s = i * s - as.length * s + j from by omega]
theorem rowIn_more {as : List (List AV)} {A : List Value} (ha : RowIn E s as A.toArray) (Z : List Value) : RowIn E s as (A ++ Z).toArray := by
  intro i e hi
  obtain ⟨l1, l2⟩ := ha i e hi
  refine ⟨l1, fun j a hj => ?_⟩
  obtain ⟨v, hv, hr⟩ := l2 j a hj
  refine ⟨v, ?_, hr⟩
  simp only [List.getElem?_toArray] at hv ⊢
  have := (List.getElem?_eq_some_iff.1 hv).1
  rw [List.getElem?_append_left (by omega)]
  exact hv
theorem rowIn_take {es : List (List AV)} {C : Array Value} (h : RowIn E s es C) (n : Nat) : RowIn E s (es.take n) (C.toList.take (n * s)).toArray := by
  intro i e hi
  rw [List.getElem?_take] at hi
  split at hi
  · rename_i hin
    obtain ⟨l1, l2⟩ := h i e hi
    refine ⟨l1, fun j a hj => ?_⟩
    obtain ⟨v, hv, hr⟩ := l2 j a hj
    refine ⟨v, ?_, hr⟩
    have hjs : j < s := by rw [← l1]; exact (List.getElem?_eq_some_iff.1 hj).1
    have : (i + 1) * s ≤ n * s := Nat.mul_le_mul_right _ hin
    rw [Nat.add_mul] at this
    simp only [List.getElem?_toArray, List.getElem?_take]
    rw [if_pos (by omega)]
    simpa using hv
  · cases hi
theorem rowIn_drop {es : List (List AV)} {C : Array Value} (h : RowIn E s es C) (n : Nat) : RowIn E s (es.drop n) (C.toList.drop (n * s)).toArray := by
  intro i e hi
  rw [List.getElem?_drop] at hi
  obtain ⟨l1, l2⟩ := h _ e hi
  refine ⟨l1, fun j a hj => ?_⟩
  obtain ⟨v, hv, hr⟩ := l2 j a hj
  refine ⟨v, ?_, hr⟩
  simp only [List.getElem?_toArray, List.getElem?_drop]
  rw [Nat.add_mul, Nat.add_assoc] at hv
  simpa using hv
end rows

section
variable {P : Program} {S : St} {H : List Blk}

theorem isSrc_und {t : TypeId} (h : isSrc P t = true) : (∃ e, P.underlying t = some (.slice e)) ∨ P.underlying t = some .string := by
  unfold isSrc at h
  split at h
  · rename_i e hs
    obtain ⟨T, hT, hsh⟩ := shp_some hs (by simp)
    exact .inl ⟨_, und_slice hT hsh⟩
  · rename_i hs
    obtain ⟨T, hT, hsh⟩ := shp_some hs (by simp)
    exact .inr (und_str hT hsh)
  · cases h

theorem run_append_in {t t1 ty e : TypeId} {i : TypeInfo} (ht : P.underlying t = some (.slice e)) (h1 : isSrc P t1 = true) (hi : P.info? e = some i) (base : Option Addr) (n cap m : Nat) (v : Value) (C : List Value) (w w' : World)
    (hl : (Builtin.lenOf v).run P w = .ok m w) (hf : (Builtin.firstCells i.size m v).run P w = .ok C.toArray w) (hroom : n + m ≤ cap)
    (hst : ∀ a, base = some a → (storeCells (a.add (n * i.size)) C).run P w = .ok () w') (hno : base = none → w' = w) :
    (Builtin.append_ #[t, t1] ty #[.slice base n cap, v]).run P w = .ok (.slice base (n + m) cap) w' := by
  cases base with
  | none =>
    have := hno rfl; subst this
    rcases isSrc_und h1 with ⟨e', hd⟩ | hd
    · simp [Builtin.append_, run_underlying ht, run_underlying hd, Go.sizeOf, typeInfo, hi, hl, hf, hroom]
    · simp [Builtin.append_, run_underlying ht, run_underlying hd, Go.sizeOf, typeInfo, hi, hl, hf, hroom]
  | some a =>
    have := hst a rfl
    rcases isSrc_und h1 with ⟨e', hd⟩ | hd
    · simp [Builtin.append_, run_underlying ht, run_underlying hd, Go.sizeOf, typeInfo, hi, hl, hf, hroom, this]
    · simp [Builtin.append_, run_underlying ht, run_underlying hd, Go.sizeOf, typeInfo, hi, hl, hf, hroom, this]

theorem run_append_out {t t1 ty e : TypeId} {i : TypeInfo} {z : Value} (ht : P.underlying t = some (.slice e)) (h1 : isSrc P t1 = true) (hi : P.info? e = some i) (hz0 : i.zero = some z) (base : Option Addr) (n cap m : Nat) (v : Value) (C O : List Value) (w : World)
    (hl : (Builtin.lenOf v).run P w = .ok m w) (hf : (Builtin.firstCells i.size m v).run P w.drew = .ok C.toArray w.drew) (hfo : (Builtin.firstCells i.size n (.slice base n cap)).run P w.drew = .ok O.toArray w.drew) (hroom : ¬ n + m ≤ cap)
    (h63 : n + m ≤ maxLen) (hb : (n + m) * i.bytes ≤ 140737488355328) :
    (Builtin.append_ #[t, t1] ty #[.slice base n cap, v]).run P w = .ok (.slice (some ⟨w.heap.size, 0, none⟩) (n + m) (grownCap w (n + m) cap e))
      (w.drew.alloc (.cells (O ++ C ++ (Builtin.zeroCells z.cells (grownCap w (n + m) cap e - (n + m))).toList).toArray e)) := by
  have hfit := growslice_fits (bytes := i.bytes) (show cap < n + m by omega) hb
  have h63' : ¬ (9223372036854775807 < ((n : Int) + (m : Int))) := by simp only [maxLen] at h63; omega
  have h48' : ¬ (281474976710656 < Builtin.nextslicecap (n + m) cap * i.bytes) := by omega
  have key : (Builtin.append_ #[t, t1] ty #[.slice base n cap, v]).run P w = .ok (.slice (some ⟨w.heap.size, 0, none⟩) (n + m) (grownCap w (n + m) cap e))
      (w.drew.alloc (.cells (O.toArray ++ C.toArray ++ (Builtin.zeroCells z.cells (grownCap w (n + m) cap e - (n + m)))) e)) := by
    rcases isSrc_und h1 with ⟨e', hd⟩ | hd
    · simp [Builtin.append_, run_underlying ht, run_underlying hd, Go.sizeOf, typeInfo, zeroValue, hi, hz0, hl, hf, hfo, hroom, h63', h48', Question.forced, newRow, grownCap]
      congr 2
      apply Array.ext'
      simp [List.append_assoc]
    · simp [Builtin.append_, run_underlying ht, run_underlying hd, Go.sizeOf, typeInfo, zeroValue, hi, hz0, hl, hf, hfo, hroom, h63', h48', Question.forced, newRow, grownCap]
      congr 2
      apply Array.ext'
      simp [List.append_assoc]
  rw [key]
  congr 3
  apply Array.ext'
  simp [List.append_assoc]

theorem eAppend_ok (hok : S.Ok H) {t t1 ty : TypeId} {d x : AV} {u v : Value} (hd : Rel (S.env H) d u) (hx : Rel (S.env H) x v) (h : (eAppend P H t t1 d x).1 = true) :
    Turns P S H (do pure (.value (← Builtin.append_ #[t, t1] ty #[u, v]))) (eAppend P H t t1 d x).2.1 (eAppend P H t t1 d x).2.2 := by
  unfold eAppend at *
  split at h
  · rename_i e hs
    obtain ⟨TT, hTT, hsh⟩ := shp_some hs (by simp)
    have hu := und_slice hTT hsh
    cases hE : tinfo P e with
    | none => simp only [hE] at h; cases h
    | some E =>
      obtain ⟨i, dd, z, hi, _, hz, h1z, hEE⟩ := tinfo_some hE
      have hzr : RelL (S.env H) E.zero z.cells.toList := by rw [hEE]; exact relL_ofCell _ _
      have hEsz : i.size = E.sz := by rw [hEE]
      have hEb : i.bytes = E.bytes := by rw [hEE]
      simp only [hE] at h ⊢
      cases hsrc : srcElems H E.sz x with
      | none => simp only [hsrc] at h; cases h
      | some news =>
        obtain ⟨C, s1, s2, s3, s4, s5⟩ := srcElems_ok (P := P) hok hx hsrc
        have s2w := s2 S.w fun _ => rfl
        have s2d := s2 S.w.drew fun _ => rfl
        simp only [hsrc] at h ⊢
        -- what lies in a new block
        have hout : ∀ (base : Option Addr) (n cap : Nat) (as : List (List AV)) (O : List Value), u = .slice base n cap → isSrc P t1 = true → 0 < E.sz → E.zero.length = E.sz → ¬ n + news.length ≤ cap → n + news.length ≤ maxLen → (n + news.length) * E.bytes ≤ 140737488355328 →
            as.length = n → O.length = n * E.sz → RowIn (S.env H) E.sz as O.toArray → (Builtin.firstCells E.sz n (.slice base n cap)).run P S.w.drew = .ok O.toArray S.w.drew →
            ∃ K cs, (Builtin.append_ #[t, t1] ty #[u, v]).run P S.w = .ok (.slice (some ⟨S.w.heap.size, 0, none⟩) (n + news.length) K) ((S.w.drewN 1).alloc (.cells cs e)) ∧
              n + news.length ≤ K ∧ K ≤ maxLen ∧ cs.size = K * E.sz ∧ RowIn (S.env H) E.sz (as ++ news) cs := by
          intro base n cap as O hbase hsrc1 hpos hzl hroom h63 hbytes hasl hOl hOr hfo
          subst hbase
          have hr := run_append_out (P := P) (ty := ty) hu hsrc1 hi hz base n cap news.length v C O S.w (s1 S.w) (by rw [hEsz]; exact s2d) (by rw [hEsz]; exact hfo) hroom h63 (by rw [hEb]; exact hbytes)
          have hzs : z.cells.size = E.sz := by rw [← hzl, hzr.length]; simp
          have hge := grownCap_ge S.w (n + news.length) cap e
          refine ⟨_, _, hr, hge, grownCap_le_maxLen S.w _ cap e h63, ?_, ?_⟩
          · simp only [List.size_toArray, List.length_append, Array.length_toList, size_zeroCells, hzs, hOl, s3, ← Nat.add_mul]
            congr 1
            omega
          · exact rowIn_more (rowIn_append hOr (by rw [hOl, hasl]) s5) _
        split at h
        · rename_i b n hh c
          cases hb : H[b]? with
          | none => simp only [hb] at h; cases h
          | some B =>
            cases B with
            | ob _ => simp only [hb] at h; cases h
            | row s bt es =>
              simp only [hb] at h ⊢
              have fin : (isSrc P t1 && decide (0 < E.sz) && E.zero.length == E.sz && decide (hh = es.length) && s == E.sz && bt == e && decide (n + news.length ≤ maxLen) && decide ((n + news.length) * E.bytes ≤ 140737488355328)) = true → 
                  ((c = none ∨ ∃ k, c = some k ∧ n + news.length ≤ k) → Turns P S H (do pure (.value (← Builtin.append_ #[t, t1] ty #[u, v]))) (.own b (n + news.length) (es.take n ++ news ++ es.drop (n + news.length)).length c) (H.set b (.row s bt (es.take n ++ news ++ es.drop (n + news.length))))) ∧
                  ((∃ k, c = some k ∧ ¬ n + news.length ≤ k) → Turns P S H (do pure (.value (← Builtin.append_ #[t, t1] ty #[u, v]))) (.own H.length (n + news.length) (n + news.length) none) (H ++ [.row E.sz e (es.take n ++ news)])) := by
                intro hc
                simp only [Bool.and_eq_true, decide_eq_true_eq, beq_iff_eq] at hc
                obtain ⟨⟨⟨⟨⟨⟨⟨c1, c2⟩, c3⟩, c4⟩, c5⟩, c6⟩, c7⟩, c8⟩ := hc
                subst c5; subst c6; subst c4
                have hl : isLen H b es.length = true := by simp [isLen, shOf_of hb]
                obtain ⟨s', hs', hnh, hcase⟩ := rel_own hd hl
                rw [shOf_of hb] at hs'; injection hs' with hs'; injection hs' with e1 _; subst e1
                have hzs : z.cells.size = E.sz := by rw [← c3, hzr.length]; simp
                have htl : (es.take n).length = n := by simp; omega
                have hlt := (List.getElem?_eq_some_iff.1 hb).1
                rcases hcase with ⟨hμ, ⟨a0, rfl⟩, hn0, hc0⟩ | ⟨g, k, cap, hg, rfl, hncap, hcapk, hcn, hcs⟩
                · -- the row lies nowhere yet
                  subst hn0
                  have hes : es = [] := by
                    rcases hok.row b E.sz bt es hb with q | ⟨g, k, _, q, _⟩
                    · exact q.2
                    · rw [hμ] at q; cases q
                  subst hes
                  by_cases hm : news = []
                  · subst hm
                    have hC : C = [] := List.eq_nil_of_length_eq_zero (by simpa using s3)
                    subst hC
                    have hr := run_append_in (P := P) (ty := ty) hu c1 hi a0 0 0 0 v [] S.w S.w (s1 S.w) (by rw [hEsz]; exact s2w) (by omega) (fun a q => by simp [storeCells]) (fun _ => rfl)
                    refine ⟨fun hcc => ⟨_, .slice a0 0 0, S, by simp [hr], .inl rfl, ?_, ?_, ?_⟩, fun hcc => ?_⟩
                    · have : H.set b (.row E.sz bt ((([] : List (List AV)).take 0) ++ [] ++ ([] : List (List AV)).drop (0 + 0))) = H := by
                        apply List.ext_getElem?
                        intro q
                        by_cases e : q = b
                        · subst e; rw [List.getElem?_set_self hlt, hb]; simp
                        · rw [List.getElem?_set_ne (Ne.symm e)]
                      simp only [List.length_nil] at this ⊢
                      rw [this]; exact hok
                    · have : H.set b (.row E.sz bt ((([] : List (List AV)).take 0) ++ [] ++ ([] : List (List AV)).drop (0 + 0))) = H := by
                        apply List.ext_getElem?
                        intro q
                        by_cases e : q = b
                        · subst e; rw [List.getElem?_set_self hlt, hb]; simp
                        · rw [List.getElem?_set_ne (Ne.symm e)]
                      simp only [List.length_nil] at this ⊢
                      rw [this]; exact Ext.refl _ _ _
                    · refine rel_own_mk (shOf_set_same hlt) (by simp) (.inl ⟨hμ, ⟨_, rfl⟩, by simp, hc0⟩)
                    · obtain ⟨kk, rfl, hk⟩ := hcc
                      simp at hk
                  · have hpos : 0 < news.length := by
                      cases news with
                      | nil => exact absurd rfl hm
                      | cons _ _ => simp
                    obtain ⟨K, cs, hr, k1, k2, k3, k4⟩ := hout a0 0 0 [] [] rfl c1 c2 c3 (by omega) c7 c8 rfl (by simp) (fun q e hq => by simp at hq) (by cases a0 <;> simp [Builtin.firstCells, loadCells, loadCellsFrom])
                    simp only [Nat.zero_add] at hr k1 k4
                    simp only [List.nil_append] at k4
                    refine ⟨fun hcc => ?_, fun hcc => ?_⟩
                    · have hcn : c = none := by
                        rcases hcc with q | ⟨kk, q, hk⟩
                        · exact q
                        · rcases hc0 with q2 | q2
                          · exact q2
                          · rw [q] at q2; injection q2 with q2; omega
                      subst hcn
                      have hE : (([] : List (List AV)).take 0 ++ news ++ ([] : List (List AV)).drop (0 + news.length)) = news := by simp
                      rw [hE]
                      refine ⟨_, .slice (some ⟨S.w.heap.size, 0, none⟩) news.length K, S.fresh b K bt cs 1, by simp [hr]; rfl, .inl rfl, move_ok hok 1 hb hpos k1 k2 k3 k4, move_ext hok K cs 1 hb hpos, ?_⟩
                      rw [Nat.zero_add]
                      exact rel_own_mk (shOf_set_same hlt) (Nat.le_refl _) (.inr ⟨S.w.heap.size, K, K, fresh_env _ _ _ _ _, rfl, k1, Nat.le_refl _, fun _ => rfl, fun j hj => (by cases hj)⟩)
                    · refine ⟨_, .slice (some ⟨S.w.heap.size, 0, none⟩) news.length K, S.fresh H.length K bt cs 1, by simp [hr]; rfl, .inl rfl, ?_, ?_, ?_⟩
                      · have := new_ok hok (t := bt) (es := news) 1 k1 k2 k3 k4
                        simpa using this
                      · have := new_ext hok (t := bt) (s := E.sz) (es := news) K cs 1
                        simpa using this
                      · have hsh2 : shOf (H ++ [.row E.sz bt (([] : List (List AV)).take 0 ++ news)]) H.length = some (E.sz, 0 + news.length) := by rw [shOf_push_new]; simp
                        rw [Nat.zero_add] at hsh2 ⊢
                        exact rel_own_mk hsh2 (Nat.le_refl _) (.inr ⟨S.w.heap.size, K, K, fresh_env _ _ _ _ _, rfl, k1, Nat.le_refl _, fun _ => rfl, fun j hj => (by cases hj)⟩)
                · obtain ⟨g0, k0, cur, q1, q2, q3, q4, q5, q6, q7⟩ := (hok.row b E.sz bt es hb).resolve_left (fun q => by rw [q.1] at hg; cases hg)
                  rw [hg] at q1; injection q1 with q1; injection q1 with e1 e2; subst e1; subst e2
                  have hnk : n * E.sz ≤ cur.size := by rw [q4]; exact Nat.mul_le_mul_right _ (by omega)
                  have hfo : (Builtin.firstCells E.sz n (.slice (some ⟨g, 0, none⟩) n cap)).run P S.w.drew = .ok (cur.toList.take (n * E.sz)).toArray S.w.drew := by
                    refine run_firstCells_some S.w.drew E.sz n ⟨g, 0, none⟩ _ _ _ (by simp; omega) fun j u hu => ?_
                    rw [add_none]
                    rw [List.getElem?_take] at hu
                    split at hu
                    · show S.w.cell? ⟨g, 0 + j, none⟩ = some u
                      simp [World.cell?, q3]
                      simpa using hu
                    · cases hu
                  by_cases hroom : n + news.length ≤ cap
                  · have hfit : n * E.sz + C.length ≤ cur.size := by rw [s3, q4, ← Nat.add_mul]; exact Nat.mul_le_mul_right _ (by omega)
                    have hst := run_storeCells_at P g (n * E.sz) bt C 0 cur S.w q3 (by simpa using hfit) s4
                    simp only [Nat.add_zero] at hst
                    have hr := run_append_in (P := P) (ty := ty) hu c1 hi (some ⟨g, 0, none⟩) n cap news.length v C S.w _ (s1 S.w) (by rw [hEsz]; exact s2w) hroom (fun a q => by injection q with q; subst q; rw [add_none, hEsz, Nat.zero_add]; exact hst) (fun q => by cases q)
                    refine ⟨fun hcc => ?_, fun hcc => ?_⟩
                    · have hlen : es.length ≤ (es.take n ++ news ++ es.drop (n + news.length)).length := by simp; omega
                      have hlen2 : (es.take n ++ news ++ es.drop (n + news.length)).length ≤ k := by simp; omega
                      have hlen3 : n + news.length ≤ (es.take n ++ news ++ es.drop (n + news.length)).length := by simp; omega
                      refine ⟨_, .slice (some ⟨g, 0, none⟩) (n + news.length) cap, S.put g (cur.toList.take (n * E.sz) ++ C ++ cur.toList.drop (n * E.sz + C.length)).toArray, by simp [hr]; rfl, .inl rfl, put_ok hok hb hg hlen hlen2 ?_ ?_, put_ext hok _ hb hg hlen (cs := cur), ?_⟩
                      · simp; omega
                      · have hA := rowIn_append (rowIn_take q7 n) (by rw [htl]; simp; omega) s5
                        have hB := rowIn_drop q7 (n + news.length)
                        have := rowIn_append hA (by rw [List.length_append, List.length_append, htl, s3, Nat.add_mul]; simp; omega) hB
                        rwa [show (n + news.length) * E.sz = n * E.sz + C.length from by rw [s3, Nat.add_mul]] at this
                      · exact rel_own_mk (shOf_set_same hlt) hlen3 (.inr ⟨g, k, cap, hg, rfl, hroom, hcapk, hcn, hcs⟩)
                    · obtain ⟨kk, rfl, hk⟩ := hcc
                      have := hcs kk rfl
                      omega
                  · obtain ⟨K, cs, hr, k1, k2, k3, k4⟩ := hout (some ⟨g, 0, none⟩) n cap (es.take n) (cur.toList.take (n * E.sz)) rfl c1 c2 c3 hroom c7 c8 htl (by simp; omega) (rowIn_take q7 n) hfo
                    refine ⟨fun hcc => ?_, fun hcc => ?_⟩
                    · have hcn' : c = none := by
                        rcases hcc with q | ⟨kk, q, hk⟩
                        · exact q
                        · have := hcs kk q; omega
                      subst hcn'
                      have := hcn rfl
                      have hE : es.take n ++ news ++ es.drop (n + news.length) = es.take n ++ news := by
                        rw [List.drop_of_length_le (by omega), List.append_nil]
                      rw [hE]
                      have hpos : es.length < (es.take n ++ news).length := by simp; omega
                      have hl2 : (es.take n ++ news).length = n + news.length := by simp; omega
                      refine ⟨_, .slice (some ⟨S.w.heap.size, 0, none⟩) (n + news.length) K, S.fresh b K bt cs 1, by simp [hr]; rfl, .inl rfl, move_ok hok 1 hb hpos (by omega) k2 k3 k4, move_ext hok K cs 1 hb hpos, ?_⟩
                      refine rel_own_mk (shOf_set_same hlt) (by omega) (.inr ⟨S.w.heap.size, K, K, fresh_env _ _ _ _ _, rfl, k1, Nat.le_refl _, fun _ => rfl, fun j hj => (by cases hj)⟩)
                    · have hl2 : (es.take n ++ news).length = n + news.length := by simp; omega
                      refine ⟨_, .slice (some ⟨S.w.heap.size, 0, none⟩) (n + news.length) K, S.fresh H.length K bt cs 1, by simp [hr]; rfl, .inl rfl, new_ok hok 1 (by omega) k2 k3 k4, new_ext hok K cs 1, ?_⟩
                      have hsh2 : shOf (H ++ [.row E.sz bt (es.take n ++ news)]) H.length = some (E.sz, n + news.length) := by rw [shOf_push_new, hl2]
                      exact rel_own_mk hsh2 (Nat.le_refl _) (.inr ⟨S.w.heap.size, K, K, fresh_env _ _ _ _ _, rfl, k1, Nat.le_refl _, fun _ => rfl, fun j hj => (by cases hj)⟩)
              cases c with
              | none => exact (fin h).1 (.inl rfl)
              | some k =>
                simp only at h ⊢
                by_cases hk : n + news.length ≤ k
                · simp only [hk, if_true] at h ⊢
                  exact (fin h).1 (.inr ⟨k, rfl, hk⟩)
                · simp only [hk, if_false] at h ⊢
                  exact (fin h).2 ⟨k, rfl, hk⟩
        · rename_i s es c
          cases news with
          | nil =>
            simp only at h ⊢
            have hd' := hd
            simp only [Rel] at hd'
            obtain ⟨a, cap, rfl, d1, d2, d3, d4⟩ := hd'
            have hC : C = [] := by apply List.eq_nil_of_length_eq_zero; rw [s3]; simp
            subst hC
            have hr := run_append_in (P := P) (ty := ty) hu h hi a es.length cap 0 v [] S.w S.w (s1 S.w) (by rw [hEsz]; exact s2w) (by omega) (fun a q => by rfl) (fun _ => rfl)
            exact ⟨_, .slice a es.length cap, S, by simp [hr], .inl rfl, hok, Ext.refl _ _ _, hd⟩
          | cons n0 ns =>
          simp only at h ⊢
          generalize n0 :: ns = news at *
          cases c with
          | none => simp only at h; cases h
          | some k =>
            simp only [Bool.and_eq_true, decide_eq_true_eq, beq_iff_eq, Bool.or_eq_true, List.isEmpty_iff] at h ⊢
            obtain ⟨⟨⟨⟨⟨⟨c1, c2⟩, c3⟩, c4⟩, c5⟩, c6⟩, c7⟩ := h
            have hd' := hd
            simp only [Rel] at hd'
            obtain ⟨a, cap, rfl, d1, d2, d3, d4⟩ := hd'
            have := d3 k rfl
            subst this
            have hO : ∃ O : List Value, O.length = es.length * E.sz ∧ RowIn (S.env H) E.sz es O.toArray ∧ (Builtin.firstCells E.sz es.length (.slice a es.length cap)).run P S.w.drew = .ok O.toArray S.w.drew := by
              by_cases he : es = []
              · subst he
                refine ⟨[], by simp, fun q e hq => by simp at hq, ?_⟩
                cases a <;> simp [Builtin.firstCells, loadCells, loadCellsFrom]
              · obtain ⟨g, off, rfl, hre⟩ := d4.resolve_left he
                have hs := c4.resolve_left he
                subst hs
                obtain ⟨O, o1, o2, o3, o4⟩ := relE_cells es g off hre
                refine ⟨O, o1, o2, run_firstCells_some S.w.drew _ es.length ⟨g, off, none⟩ _ _ O o1 fun j u hu => ?_⟩
                rw [add_none]
                exact imm_cell hok (o4 j u hu)
            obtain ⟨O, o1, o2, o3⟩ := hO
            obtain ⟨K, cs, hr, k1, k2, k3, k4⟩ := hout a es.length cap es O rfl c1 c2 c3 (by omega) c6 c7 rfl o1 o2 o3
            refine ⟨_, .slice (some ⟨S.w.heap.size, 0, none⟩) (es.length + news.length) K, S.fresh H.length K e cs 1, by simp [hr]; rfl, .inl rfl, new_ok hok 1 (by simpa using k1) k2 k3 k4, new_ext hok K cs 1, ?_⟩
            have hsh2 : shOf (H ++ [.row E.sz e (es ++ news)]) H.length = some (E.sz, es.length + news.length) := by rw [shOf_push_new]; simp
            exact rel_own_mk hsh2 (Nat.le_refl _) (.inr ⟨S.w.heap.size, K, K, fresh_env _ _ _ _ _, rfl, k1, Nat.le_refl _, fun _ => rfl, fun j hj => (by cases hj)⟩)
        · cases h
  · cases h
end
end Go.V

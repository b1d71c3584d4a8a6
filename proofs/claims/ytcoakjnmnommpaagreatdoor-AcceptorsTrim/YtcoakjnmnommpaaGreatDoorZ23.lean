import Derived.Test.YtcoakjnmnommpaaGreatDoorZ15
import Derived.Test.YtcoakjnmnommpaaGreatDoorA18
import Derived.Test.YtcoakjnmnommpaaGreatDoorA54
namespace Go.Proofs
open Go Go.V Go.RowKit
set_option linter.unusedVariables false
set_option linter.unusedSimpArgs false
set_option maxHeartbeats 0
set_option maxRecDepth 100000
section
variable {A : Nat} {l : List RC} {st ac : List Int}
def smK (K : List Nat) (l : List Int) : List Nat := smL (natL l) K (natL l).length
theorem wbq9 {n : Nat} {K : List Nat} (hK : FiltF n K) {l : List Int} (hl : zf0 l n = true) : smK K l = (List.range K.length).filter fun i => (natL l).contains (K.getD i 0) := zcI9 hK ⟨_, qw0 hl⟩
theorem vbQ9 (i b : Nat) (K : List Nat) : smC l K i b = smK K (lstC l (K.getD i 0) b).1 := rfl
theorem qaG9 {n : Nat} {K : List Nat} (hK : FiltF n K) {l : List Int} (hl : zf0 l n = true) : zf0 (intN (smK K l)) K.length = true := by
 rw [wbq9 hK hl]; exact qj0 _ _
theorem kbQ9 (A : Nat) (l : List RC) (K : List Nat) : rowsV (tmC A l K) = (List.range K.length).map fun i => (List.range A).map fun b => intN (smC l K i b) := by
 simp [rowsV, tmC, rowV, Function.comp_def]
theorem zdk9 {K : List Nat} {i : Nat} (hi : i < K.length) : (rowsV (tmC A l K)).getD i [] = (List.range A).map fun b => intN (smC l K i b) := by
 rw [kbQ9]; simp [hi]
theorem xdk9 {K : List Nat} {i a : Nat} (hi : i < K.length) (ha : a < A) : ((rowsV (tmC A l K)).getD i []).getD a [] = intN (smC l K i a) := by
 rw [zdk9 hi]; simp [ha]
theorem zae9 (hok : OkNv A (rowsV l) st ac) {K : List Nat} (hK : FiltF l.length K) {i a : Nat} (hi : i < K.length) (ha : a < A) : zf0 (lstC l (K.getD i 0) a).1 l.length = true := hok.lst (hK.lt (zaB9 hi)) ha
theorem wdk9 (hok : OkNv A (rowsV l) st ac) {K : List Nat} (hK : FiltF l.length K) : OkNv A (rowsV (tmC A l K)) (intN (smK K st)) (intN (smK K ac)) := by
 have hn := hok.n
 have h1 := hok.st
 have h2 := hok.ac
 rw [qb0] at hn h1 h2
 have hl := qK0 hK
 have e : (rowsV (tmC A l K)).length = K.length := by rw [qb0, wN0]
 refine ⟨hok.a1, hok.a2, by omega, by rw [e]; exact qaG9 hK h1, by rw [e]; exact qaG9 hK h2, fun s hs => ?_, fun s a hs ha => ?_⟩
 ·rw [zdk9 (by omega)]; simp
 ·rw [xdk9 (by omega) ha, e, vbQ9]
  exact qaG9 hK (zae9 hok hK (by omega) ha)
theorem xak9 {n : Nat} {K : List Nat} (hK : FiltF n K) {l : List Int} (hl : zf0 l n = true) : (smK K l).length ≤ K.length := by
 rw [wbq9 hK hl]
 have := List.length_filter_le (fun i => (natL l).contains (K.getD i 0)) (List.range K.length)
 rwa [List.length_range] at this
theorem vbq9 {K : List Nat} {i : Nat} (hi : i < K.length) : (tmC A l K).getD i ([], none) = ((List.range A).map fun b => (intN (smC l K i b), some (smC l K i b).length), some A) := by simp [tmC, hi]
theorem qdf9 (hok : OkNv A (rowsV l) st ac) {K : List Nat} (hK : FiltF l.length K) : SizeN 1 (tmC A l K) 1 (intN (smK K st)) 1 (intN (smK K ac)) := by
 have hn := hok.n
 have h1 := hok.st
 have h2 := hok.ac
 have hA := hok.a2
 rw [qb0] at hn h1 h2
 have hl := qK0 hK
 have q1 := xak9 hK h1
 have q2 := xak9 hK h2
 refine ⟨.inr rfl, .inr rfl, .inr rfl, by rw [wN0]; omega, by rw [zb0]; omega, by rw [zb0]; omega, fun s hs => ?_, fun s a hs ha => ?_⟩
 ·rw [wN0] at hs
  rw [vbq9 hs]; simp; omega
 ·rw [wN0] at hs
  rw [vbq9 hs] at ha ⊢
  simp only [List.length_map, List.length_range] at ha
  have := xak9 hK (zae9 hok hK hs ha)
  simp only [List.getD_eq_getElem?_getD, List.getElem?_map, List.getElem?_range ha, Option.map_some, Option.getD_some, zb0, vbQ9] at this ⊢
  omega
theorem vdE9 (K : List Nat) : xdy9 (tmC A l K) := by
 refine ⟨fun s hs => ?_, fun s a hs ha => ?_⟩
 ·rw [wN0] at hs
  rw [vbq9 hs]; simp
 ·rw [wN0] at hs
  rw [vbq9 hs] at ha ⊢
  simp only [List.length_map, List.length_range] at ha
  simp only [List.getD_eq_getElem?_getD, List.getElem?_map, List.getElem?_range ha, Option.map_some, Option.getD_some, zb0]
theorem xbC9 {t : Nat} (ht : t < l.length) : (xh0 A l).getD t ([], none) = ((List.range A).map fun a => (intN (revG l t a), some (revG l t a).length), some A) := by simp [xh0, ht]
theorem zdf9 : xdy9 (xh0 A l) := by
 refine ⟨fun s hs => ?_, fun s a hs ha => ?_⟩
 ·rw [wi0] at hs
  rw [xbC9 hs]; simp
 ·rw [wi0] at hs
  rw [xbC9 hs] at ha ⊢
  simp only [List.length_map, List.length_range] at ha
  simp only [List.getD_eq_getElem?_getD, List.getElem?_map, List.getElem?_range ha, Option.map_some, Option.getD_some, zb0]
theorem kdE9 (hok : OkNv A (rowsV l) st ac) {K : List Nat} (hK : FiltF l.length K) : wbm9 A (tmC A l K) (intN (smK K st)) (intN (smK K ac)) A (tmN A l K K.length) (intN (wp0 st (intN K) K.length)) (intN (wp0 ac (intN K) K.length)) := by
 have h1 := hok.st
 have h2 := hok.ac
 rw [qb0] at h1 h2
 refine ⟨rfl, ?_, by rw [smK, vba9 hK h1], by rw [smK, vba9 hK h2]⟩
 rw [kbQ9]
 simp only [rowsV, tmN, List.map_map]
 refine List.map_congr_left fun i hi => ?_
 rw [List.mem_range] at hi
 simp only [Function.comp, rowV, tmR, List.map_map]
 refine List.map_congr_left fun b hb => ?_
 rw [List.mem_range] at hb
 simp only [Function.comp]
 rw [smC, vba9 hK (zae9 hok hK hi hb)]
theorem wcI9 : wbm9 A (xh0 A l) ac st A (rvN A l l.length) ac st := by
 refine ⟨rfl, ?_, rfl, rfl⟩
 rw [kbp9]
 simp only [rowsV, rvN, List.map_map]
 refine List.map_congr_left fun i hi => ?_
 simp only [Function.comp, rowV, rvR, List.map_map]
 rfl
theorem zeh9 (hok : OkNv A (rowsV l) st ac) {K : List Nat} (hK : FiltF l.length K) : SameF A (nfOf (rowsV (tmC A l K)) (intN (smK K st)) (intN (smK K ac))) (zcU9 (nfOf (rowsV l) st ac) K) := by
 have h1 := hok.st
 have h2 := hok.ac
 rw [qb0] at h1 h2
 have e : (rowsV (tmC A l K)).length = K.length := by rw [qb0, wN0]
 refine ⟨e, ?_, ?_, fun s a t hs ha ht => ?_⟩
 ·show natL (intN (smK K st)) = _
  rw [zN0, wbq9 hK h1]; rfl
 ·show natL (intN (smK K ac)) = _
  rw [zN0, wbq9 hK h2]; rfl
 ·have hs : s < K.length := by rw [← e]; exact hs
  have ht : t < K.length := by rw [← e]; exact ht
  show (((rowsV (tmC A l K)).getD s []).getD a []).contains (t : Int) = (((rowsV l).getD (K.getD s 0) []).getD a []).contains ((K.getD t 0 : Nat) : Int)
  have hr := zae9 hok hK hs ha
  have e2 : ((rowsV l).getD (K.getD s 0) []).getD a [] = (lstC l (K.getD s 0) a).1 := by
   rw [xw0 l _ (hK.lt (zaB9 hs)), wJ0 _ a (by rw [hok.row (hK.lt (zaB9 hs))]; exact ha)]; rfl
  rw [xdk9 hs ha, vbQ9, wbq9 hK hr, e2, ← qad9 (fun x hx => (vc0 hr x hx).1), Bool.eq_iff_iff, List.contains_iff_mem]
  simp only [intN, List.mem_map, List.mem_filter, List.mem_range]
  constructor
  ·rintro ⟨i, ⟨_, q⟩, e⟩
   obtain rfl : i = t := by omega
   exact q
  ·intro q
   exact ⟨t, ⟨ht, q⟩, rfl⟩
theorem qdF9 (hok : OkNv A (rowsV l) st ac) {w : List Nat} (hw : InA A w) : kB0 (nfOf (rowsV (tmC A l (kf0 A l st ac))) (intN (smK (kf0 A l st ac) st)) (intN (smK (kf0 A l st ac) ac))) w = kB0 (nfOf (rowsV l) st ac) w := by
 obtain ⟨hk, hF⟩ := xbQ9 hok
 rw [(zeh9 hok hF).lang (zbQ9 (wdk9 hok hF)).s hw, kcs9 _ (zbQ9 hok) A _ hk w hw]
theorem xdf9 (hok : OkNv A (rowsV l) st ac) {w : List Nat} (hw : InA A w) : kB0 (nfOf (rowsV (xh0 A l)) ac st) w.reverse = kB0 (nfOf (rowsV l) st ac) w := by
 rw [(qbQ9 hok).lang (zbQ9 (wba9 hok)).s hw.rev, qcU9 _ (zbQ9 hok)]
end
end Go.Proofs
namespace Go.Proofs
open Go Go.V Go.RowKit
set_option linter.unusedVariables false
set_option linter.unusedSimpArgs false
set_option maxHeartbeats 0
set_option maxRecDepth 100000
theorem vdk9 {A : Int} {l : List RC} {ca : Option Nat} {x : List Int} {cx : Option Nat} {y : List Int} {cy : Option Nat} {r : List RC} {cb : Option Nat} {x' : List Int} {cx' : Option Nat} {y' : List Int} {cy' : Option Nat} (hs : wbm9 A l x y A r x' y') (h1 : SizeN 1 l 1 x 1 y) (h2 : SizeN 1 r 1 x' 1 y') (hl : l.length ≤ 1000000 ∧ r.length ≤ 1000000 ∧ x.length ≤ 1000000 ∧ y.length ≤ 1000000)
  (il : ∀ s, s < l.length → (l.getD s ([], none)).1.length ≤ 1000000) (ir : ∀ s, s < r.length → (r.getD s ([], none)).1.length ≤ 1000000) (jl : ∀ s a, (((l.getD s ([], none)).1.getD a ([], none)).1).length ≤ 9223372036854775807) (jr : ∀ s a, (((r.getD s ([], none)).1.getD a ([], none)).1).length ≤ 9223372036854775807) :
  PC Tryz.prog G0 10 [nA A 1 l ca 1 x cx 1 y cy, nA A 1 r cb 1 x' cx' 1 y' cy'] (.int .i64 1) := by
 have h := vbm9 A 1 l ca 1 x cx 1 y cy A 1 r cb 1 x' cx' 1 y' cy' (.inr rfl) (.inr rfl) (.inr rfl) (.inr rfl) (.inr rfl) (.inr rfl) hl.1 hl.2.1 hl.2.2.1 hl.2.2.2 (by rw [← hs.2.2.1]; exact hl.2.2.1) (by rw [← hs.2.2.2]; exact hl.2.2.2) il ir jl jr
 rw [if_pos hs] at h
 exact h
theorem xae9 {l : List RC} (h : ∀ r ∈ l, ∀ q ∈ r.1, q.1.length ≤ 256) (s a : Nat) : (((l.getD s ([], none)).1.getD a ([], none)).1).length ≤ 256 := by
 rcases Nat.lt_or_ge s l.length with hs|hs
 ·have h1 := h _ (qd0 (d := ([], none)) hs)
  rcases Nat.lt_or_ge a (l.getD s ([], none)).1.length with ha|ha
  ·exact h1 _ (qd0 (d := ([], none)) ha)
  ·rw [show (l.getD s ([], none)).1.getD a ([], none) = ([], none) by rw [List.getD_eq_getElem?_getD, List.getElem?_eq_none ha]; rfl]; simp
 ·rw [show l.getD s ([], none) = ([], none) by rw [List.getD_eq_getElem?_getD, List.getElem?_eq_none hs]; rfl]; simp
theorem law3 (x : ND) (c : Option Nat) (hx : x.Ok) (w : List Nat) (cw : Option Nat) (hw : ∀ y ∈ w, y < 256) (hl : w.length ≤ 9223372036854775807) : PC Tryz.prog G0 3 [.agg (ndC x 3 c), .sl 1 (u8s w) cw] (.bool true) := by
 have hA := x.nN
 have hrl := x.rows_len x.n
 have hO := of9 x 3 c hx (.inr rfl)
 have hW := vdO9 1 w cw x.A (.inr rfl) hw hl (by omega)
 have hin := xdT9 (w := w) (A := x.A) (by omega)
 have hwl := qdE9 w x.A
 generalize wrdN w x.A = W at *
 have hcw := vbp9 (A := x.A) (by omega) hin (by omega)
 have hcw2 := vbp9 (A := x.A) (w := W.reverse) (by omega) hin.rev (by rw [List.length_reverse]; omega)
 have hok := x.okN
 have hsz := x.sizeN
 have hst := hok.st
 have hac := hok.ac
 rw [qb0] at hst hac
 generalize hL : x.rows x.n = L at *
 generalize hS : intN (bitS x.st x.n) = S at *
 generalize hF : intN (bitS x.ac x.n) = F at *
 obtain ⟨hkk, hKF⟩ := xbQ9 hok
 have hR := zaE9 x.A 1 L none 1 S none 1 F none hsz hok
 have hT := qeh9 x.A L none S none F none hsz hok
 have hRR := xan9 x.A 1 L none 1 S none 1 F none hsz hok
 have hRT := wcH9 x.A 1 L none S none F none hsz hok
 have hlt := qdF9 hok hin
 have hlr := xdf9 hok hin
 have hok2 := wdk9 hok hKF
 have hsz2 := qdf9 hok hKF
 have hsame2 := kdE9 hok hKF
 have hKl := qK0 hKF
 have hsl := xak9 hKF hst
 have hal := xak9 hKF hac
 have hLl : L.length ≤ 8 := by omega
 have hroom2 := vdE9 (A := x.A) (l := L) (kf0 x.A L S F)
 have htl := wN0 x.A L (kf0 x.A L S F)
 have hlist : ∀ s a, (((tmC x.A L (kf0 x.A L S F)).getD s ([], none)).1.getD a ([], none)).1.length ≤ 256 := xae9 fun r hr q hq => by
  obtain ⟨i, hi, rfl⟩ := List.mem_map.1 hr
  obtain ⟨b, hb, rfl⟩ := List.mem_map.1 hq
  rw [List.mem_range] at hi hb
  have := xak9 hKF (zae9 hok hKF hi hb)
  simp only [zb0, vbQ9]; omega
 have hlist2 : ∀ s a, (((tmN x.A L (kf0 x.A L S F) (kf0 x.A L S F).length).getD s ([], none)).1.getD a ([], none)).1.length ≤ 256 := xae9 fun r hr q hq => by
  obtain ⟨i, hi, rfl⟩ := List.mem_map.1 hr
  obtain ⟨b, hb, rfl⟩ := List.mem_map.1 hq
  have := kad9 (lstC L ((kf0 x.A L S F).getD i 0) b).1 (intN (kf0 x.A L S F)) (kf0 x.A L S F).length
  simp only [zb0]; omega
 have hk1 := kad9 S (intN (kf0 x.A L S F)) (kf0 x.A L S F).length
 have hk2 := kad9 F (intN (kf0 x.A L S F)) (kf0 x.A L S F).length
 have hnl := zcH9 x.A L (kf0 x.A L S F) (kf0 x.A L S F).length
 have hS2 := vdk9 (ca := some (kf0 x.A L S F).length) (cx := some (smK (kf0 x.A L S F) S).length) (cy := some (smK (kf0 x.A L S F) F).length) (cb := none) (cx' := none) (cy' := none) hsame2 hsz2 ⟨.inr rfl, .inr rfl, .inr rfl, by omega, by rw [zb0]; omega, by rw [zb0]; omega, fun s hs => by rw [hnl] at hs; simp [tmN, hs, tmR]; omega, fun s a _ _ => by have := hlist2 s a; omega⟩ (by rw [hnl, htl, zb0, zb0]; omega) (fun s hs => by rw [htl] at hs; rw [vbq9 hs]; simp; omega) (fun s hs => by rw [hnl] at hs; simp [tmN, hs, tmR]; omega) (fun s a => by have := hlist s a; omega) (fun s a => by have := hlist2 s a; omega)
 have hM2 := wdi9 x.A 1 (tmC x.A L (kf0 x.A L S F)) 1 (intN (smK (kf0 x.A L S F) S)) 1 (intN (smK (kf0 x.A L S F) F)) hsz2 hroom2
 rw [htl, zb0, zb0] at hM2
 change PC _ _ _ _ (.tup [nA x.A 1 (tmC x.A L (kf0 x.A L S F)) (some (kf0 x.A L S F).length) 1 (intN (smK (kf0 x.A L S F) S)) (some (smK (kf0 x.A L S F) S).length) 1 (intN (smK (kf0 x.A L S F) F)) (some (smK (kf0 x.A L S F) F).length), .int .i64 0]) at hT
 have hrok := wba9 hok
 have hrsz := qbq9 hok hsz
 have hrlist : ∀ s a, (((xh0 x.A L).getD s ([], none)).1.getD a ([], none)).1.length ≤ 256 := xae9 fun r hr q hq => by
  obtain ⟨i, hi, rfl⟩ := List.mem_map.1 hr
  obtain ⟨b, hb, rfl⟩ := List.mem_map.1 hq
  have := xas9 L i b
  simp only [zb0]; omega
 have hvlist : ∀ s a, (((rvN x.A L L.length).getD s ([], none)).1.getD a ([], none)).1.length ≤ 256 := xae9 fun r hr q hq => by
  obtain ⟨i, hi, rfl⟩ := List.mem_map.1 hr
  obtain ⟨b, hb, rfl⟩ := List.mem_map.1 hq
  have := xas9 L i b
  simp only [zb0, vcG9]; omega
 have hsl0 := xn0 hst
 have hal0 := xn0 hac
 have hS1 := vdk9 (ca := some L.length) (cx := some F.length) (cy := some S.length) (cb := none) (cx' := none) (cy' := none) (wcI9 (A := x.A) (l := L) (st := S) (ac := F)) hrsz ⟨.inr rfl, .inr rfl, .inr rfl, by rw [zt0]; omega, by omega, by omega, fun s hs => by rw [zt0] at hs; simp [rvN, hs, rvR]; omega, fun s a _ _ => by have := hvlist s a; omega⟩ (by rw [zt0, wi0]; omega) (fun s hs => by rw [wi0] at hs; rw [xbC9 hs]; simp; omega) (fun s hs => by rw [zt0] at hs; simp [rvN, hs, rvR]; omega) (fun s a => by have := hrlist s a; omega) (fun s a => by have := hvlist s a; omega)
 have hM1 := wdi9 x.A 1 (xh0 x.A L) 1 F 1 S hrsz zdf9
 rw [wi0] at hM1
 have hB := vdS9 1 (intN W) none (.inr rfl) (by rw [zb0]; omega)
 rw [show (intN W).reverse = intN W.reverse from List.map_reverse.symm] at hB
 have hacc : ∀ (l : List RC) (st ac : List Int) (v : List Nat), kG0 x.A (intN v) = 0 → OkNv x.A (rowsV l) st ac → accV x.A l st ac (intN v) = .tup [.bool (kB0 (nfOf (rowsV l) st ac) v), .int .i64 0] := fun l st ac v hv h => by
  rw [accV, if_neg (by rw [xaB9 h]; simp), if_neg (by rw [hv]; simp), zN0]
 have hA1 := wq0 x.A 1 (xh0 x.A L) (some L.length) 1 F (some F.length) 1 S (some S.length) hrsz 1 (intN W.reverse) none (.inr rfl) (by rw [zb0, List.length_reverse]; omega)
 rw [hacc _ _ _ _ hcw2 hrok, hlr] at hA1
 have hA2 := wq0 x.A 1 (tmC x.A L (kf0 x.A L S F)) (some (kf0 x.A L S F).length) 1 (intN (smK (kf0 x.A L S F) S)) (some (smK (kf0 x.A L S F) S).length) 1 (intN (smK (kf0 x.A L S F) F)) (some (smK (kf0 x.A L S F) F).length) hsz2 1 (intN W) none (.inr rfl) (by rw [zb0]; omega)
 rw [hacc _ _ _ _ hcw hok2, hlt] at hA2
 have hQ := qaD9 x.A 1 L none 1 S none 1 F none hsz hok 1 (intN W) none (.inr rfl) (by rw [zb0]; omega) (fun y hy => by
  obtain ⟨a, ha, rfl⟩ := List.mem_map.1 hy
  have := hin a ha
  omega)
 rw [zN0] at hQ
 have hlv := kdD9
 clear hlt hlr hok2 hsz2 hsame2 hkk hKF hroom2 htl hlist hlist2 hnl hrok hrsz hrlist hvlist hacc hcw hcw2 hin hk1 hk2 hsl hal hKl hsl0 hal0
 unfold nA at *
 have hid1 : ∀ p, idsE p (xc0 L) = true := fun p => wc0 _ _
 have hid2 : ∀ p, idsE p (ints S) = true := fun p => va0 _ _
 have hid3 : ∀ p, idsE p (ints F) = true := fun p => va0 _ _
 have hid4 : ∀ p, idsE p (ints (intN W)) = true := fun p => va0 _ _
 have hid5 : ∀ p, idsE p (ints (intN W.reverse)) = true := fun p => va0 _ _
 have hid6 : ∀ p, idsE p (xc0 (xh0 x.A L)) = true := fun p => wc0 _ _
 have hid7 : ∀ p, idsE p (xc0 (rvN x.A L L.length)) = true := fun p => wc0 _ _
 have hid8 : ∀ p, idsE p (xc0 (tmC x.A L (kf0 x.A L S F))) = true := fun p => wc0 _ _
 have hid9 : ∀ p, idsE p (xc0 (tmN x.A L (kf0 x.A L S F) (kf0 x.A L S F).length)) = true := fun p => wc0 _ _
 have hid10 : ∀ p, idsE p (u8s w) = true := fun p => zr0 _ _ fun x => by simp [idsL, AV.ids]
 have hid11 : ∀ p, idsE p (zad9 x.arcs) = true := fun p => zaO9 _ _
 have hid12 : ∀ p, idsE p (ints (intN (smK (kf0 x.A L S F) S))) = true := fun p => va0 _ _
 have hid13 : ∀ p, idsE p (ints (intN (smK (kf0 x.A L S F) F))) = true := fun p => va0 _ _
 have hid14 : ∀ p, idsE p (ints (intN (wp0 S (intN (kf0 x.A L S F)) (kf0 x.A L S F).length))) = true := fun p => va0 _ _
 have hid15 : ∀ p, idsE p (ints (intN (wp0 F (intN (kf0 x.A L S F)) (kf0 x.A L S F).length))) = true := fun p => va0 _ _
 generalize kB0 (nfOf (rowsV L) S F) W = b at *
 generalize xc0 L = e1 at *
 generalize ints (intN W) = e4 at *
 generalize ints (intN W.reverse) = e5 at *
 generalize xc0 (xh0 x.A L) = e6 at *
 generalize xc0 (rvN x.A L L.length) = e7 at *
 generalize xc0 (tmC x.A L (kf0 x.A L S F)) = e8 at *
 generalize xc0 (tmN x.A L (kf0 x.A L S F) (kf0 x.A L S F).length) = e9 at *
 generalize ints (intN (smK (kf0 x.A L S F) S)) = e12 at *
 generalize ints (intN (smK (kf0 x.A L S F) F)) = e13 at *
 generalize ints (intN (wp0 S (intN (kf0 x.A L S F)) (kf0 x.A L S F).length)) = e14 at *
 generalize ints (intN (wp0 F (intN (kf0 x.A L S F)) (kf0 x.A L S F).length)) = e15 at *
 generalize (smK (kf0 x.A L S F) S).length = n1 at *
 generalize (smK (kf0 x.A L S F) F).length = n2 at *
 generalize (kf0 x.A L S F).length = n3 at *
 generalize ints S = e2 at *
 generalize ints F = e3 at *
 generalize S.length = n4 at *
 generalize F.length = n5 at *
 unfold ndC at *
 generalize u8s w = e10 at *
 generalize zad9 x.arcs = e11 at *
 cases b with
 | true =>
  rw [if_pos rfl] at hQ
  refine vd0 0 94 [.tmp 4] Tryz.func3 rfl rfl rfl (by simp) ?_
  intro s ⟨a0, a1, hz⟩
  simp only [Nat.zero_add, Nat.reduceAdd] at a1
  clear hz
  repeat' (first|((first|refine nav ?_|(refine g0_ ?_; refine goD ?_)) <;> (try simp (disch := (first|exact za0|fail)) only [push_cast, simprocAttr, a0, a1]))|(with_reducible refine gG ?_ ?_)|((with_reducible refine And.intro (fun h => ?_) (fun h => ?_)) <;> try (exfalso; omega))|(with_reducible refine andG ?_)|(first|(refine ⟨_, _, qa0 (hO) (by (simp [idsL, idsE, AV.ids, *])) _, ?_⟩)|(refine ⟨_, qa0 (hO) (by (simp [idsL, idsE, AV.ids, *])) _, ?_⟩)|(refine ⟨_, fun _ => qa0 (hO) (by (simp [idsL, idsE, AV.ids, *])) _, ?_⟩)|(refine ⟨_, _, qa0 (hW) (by (simp [idsL, idsE, AV.ids, *])) _, ?_⟩)|(refine ⟨_, qa0 (hW) (by (simp [idsL, idsE, AV.ids, *])) _, ?_⟩)|(refine ⟨_, fun _ => qa0 (hW) (by (simp [idsL, idsE, AV.ids, *])) _, ?_⟩)|(refine ⟨_, _, qa0 (hR) (by (simp [idsL, idsE, AV.ids, *])) _, ?_⟩)|(refine ⟨_, qa0 (hR) (by (simp [idsL, idsE, AV.ids, *])) _, ?_⟩)|(refine ⟨_, fun _ => qa0 (hR) (by (simp [idsL, idsE, AV.ids, *])) _, ?_⟩)|(refine ⟨_, _, qa0 (hT) (by (simp [idsL, idsE, AV.ids, *])) _, ?_⟩)|(refine ⟨_, qa0 (hT) (by (simp [idsL, idsE, AV.ids, *])) _, ?_⟩)|(refine ⟨_, fun _ => qa0 (hT) (by (simp [idsL, idsE, AV.ids, *])) _, ?_⟩)|(refine ⟨_, _, qa0 (hRR) (by (simp [idsL, idsE, AV.ids, *])) _, ?_⟩)|(refine ⟨_, qa0 (hRR) (by (simp [idsL, idsE, AV.ids, *])) _, ?_⟩)|(refine ⟨_, fun _ => qa0 (hRR) (by (simp [idsL, idsE, AV.ids, *])) _, ?_⟩)|(refine ⟨_, _, qa0 (hRT) (by (simp [idsL, idsE, AV.ids, *])) _, ?_⟩)|(refine ⟨_, qa0 (hRT) (by (simp [idsL, idsE, AV.ids, *])) _, ?_⟩)|(refine ⟨_, fun _ => qa0 (hRT) (by (simp [idsL, idsE, AV.ids, *])) _, ?_⟩)|(refine ⟨_, _, qa0 (hS1) (by (simp [idsL, idsE, AV.ids, *])) _, ?_⟩)|(refine ⟨_, qa0 (hS1) (by (simp [idsL, idsE, AV.ids, *])) _, ?_⟩)|(refine ⟨_, fun _ => qa0 (hS1) (by (simp [idsL, idsE, AV.ids, *])) _, ?_⟩)|(refine ⟨_, _, qa0 (hS2) (by (simp [idsL, idsE, AV.ids, *])) _, ?_⟩)|(refine ⟨_, qa0 (hS2) (by (simp [idsL, idsE, AV.ids, *])) _, ?_⟩)|(refine ⟨_, fun _ => qa0 (hS2) (by (simp [idsL, idsE, AV.ids, *])) _, ?_⟩)|(refine ⟨_, _, qa0 (hM1) (by (simp [idsL, idsE, AV.ids, *])) _, ?_⟩)|(refine ⟨_, qa0 (hM1) (by (simp [idsL, idsE, AV.ids, *])) _, ?_⟩)|(refine ⟨_, fun _ => qa0 (hM1) (by (simp [idsL, idsE, AV.ids, *])) _, ?_⟩)|(refine ⟨_, _, qa0 (hM2) (by (simp [idsL, idsE, AV.ids, *])) _, ?_⟩)|(refine ⟨_, qa0 (hM2) (by (simp [idsL, idsE, AV.ids, *])) _, ?_⟩)|(refine ⟨_, fun _ => qa0 (hM2) (by (simp [idsL, idsE, AV.ids, *])) _, ?_⟩)|(refine ⟨_, _, qa0 (hB) (by (simp [idsL, idsE, AV.ids, *])) _, ?_⟩)|(refine ⟨_, qa0 (hB) (by (simp [idsL, idsE, AV.ids, *])) _, ?_⟩)|(refine ⟨_, fun _ => qa0 (hB) (by (simp [idsL, idsE, AV.ids, *])) _, ?_⟩)|(refine ⟨_, _, qa0 (hA1) (by (simp [idsL, idsE, AV.ids, *])) _, ?_⟩)|(refine ⟨_, qa0 (hA1) (by (simp [idsL, idsE, AV.ids, *])) _, ?_⟩)|(refine ⟨_, fun _ => qa0 (hA1) (by (simp [idsL, idsE, AV.ids, *])) _, ?_⟩)|(refine ⟨_, _, qa0 (hA2) (by (simp [idsL, idsE, AV.ids, *])) _, ?_⟩)|(refine ⟨_, qa0 (hA2) (by (simp [idsL, idsE, AV.ids, *])) _, ?_⟩)|(refine ⟨_, fun _ => qa0 (hA2) (by (simp [idsL, idsE, AV.ids, *])) _, ?_⟩)|(refine ⟨_, _, qa0 (hQ) (by (simp [idsL, idsE, AV.ids, *])) _, ?_⟩)|(refine ⟨_, qa0 (hQ) (by (simp [idsL, idsE, AV.ids, *])) _, ?_⟩)|(refine ⟨_, fun _ => qa0 (hQ) (by (simp [idsL, idsE, AV.ids, *])) _, ?_⟩)|(refine ⟨_, _, qa0 (hlv) (by (simp [idsL, idsE, AV.ids, *])) _, ?_⟩)|(refine ⟨_, qa0 (hlv) (by (simp [idsL, idsE, AV.ids, *])) _, ?_⟩)|(refine ⟨_, fun _ => qa0 (hlv) (by (simp [idsL, idsE, AV.ids, *])) _, ?_⟩))|simp (disch := (first|exact za0|fail)) only [push_cast, simprocAttr, a0, a1])
 | false =>
  rw [if_neg (by decide)] at hQ
  have hz : decide ((0 : Int) = 1) = false := rfl
  refine vd0 0 94 [.tmp 4] Tryz.func3 rfl rfl rfl (by simp) ?_
  intro s ⟨a0, a1, hz⟩
  simp only [Nat.zero_add, Nat.reduceAdd] at a1
  clear hz
  repeat' (first|((first|refine nav ?_|(refine g0_ ?_; refine goD ?_)) <;> (try simp (disch := (first|exact za0|fail)) only [push_cast, simprocAttr, a0, a1, hz]))|(with_reducible refine gG ?_ ?_)|((with_reducible refine And.intro (fun h => ?_) (fun h => ?_)) <;> try (exfalso; omega))|(with_reducible refine andG ?_)|(first|(refine ⟨_, _, qa0 (hO) (by (simp [idsL, idsE, AV.ids, *])) _, ?_⟩)|(refine ⟨_, qa0 (hO) (by (simp [idsL, idsE, AV.ids, *])) _, ?_⟩)|(refine ⟨_, fun _ => qa0 (hO) (by (simp [idsL, idsE, AV.ids, *])) _, ?_⟩)|(refine ⟨_, _, qa0 (hW) (by (simp [idsL, idsE, AV.ids, *])) _, ?_⟩)|(refine ⟨_, qa0 (hW) (by (simp [idsL, idsE, AV.ids, *])) _, ?_⟩)|(refine ⟨_, fun _ => qa0 (hW) (by (simp [idsL, idsE, AV.ids, *])) _, ?_⟩)|(refine ⟨_, _, qa0 (hR) (by (simp [idsL, idsE, AV.ids, *])) _, ?_⟩)|(refine ⟨_, qa0 (hR) (by (simp [idsL, idsE, AV.ids, *])) _, ?_⟩)|(refine ⟨_, fun _ => qa0 (hR) (by (simp [idsL, idsE, AV.ids, *])) _, ?_⟩)|(refine ⟨_, _, qa0 (hT) (by (simp [idsL, idsE, AV.ids, *])) _, ?_⟩)|(refine ⟨_, qa0 (hT) (by (simp [idsL, idsE, AV.ids, *])) _, ?_⟩)|(refine ⟨_, fun _ => qa0 (hT) (by (simp [idsL, idsE, AV.ids, *])) _, ?_⟩)|(refine ⟨_, _, qa0 (hRR) (by (simp [idsL, idsE, AV.ids, *])) _, ?_⟩)|(refine ⟨_, qa0 (hRR) (by (simp [idsL, idsE, AV.ids, *])) _, ?_⟩)|(refine ⟨_, fun _ => qa0 (hRR) (by (simp [idsL, idsE, AV.ids, *])) _, ?_⟩)|(refine ⟨_, _, qa0 (hRT) (by (simp [idsL, idsE, AV.ids, *])) _, ?_⟩)|(refine ⟨_, qa0 (hRT) (by (simp [idsL, idsE, AV.ids, *])) _, ?_⟩)|(refine ⟨_, fun _ => qa0 (hRT) (by (simp [idsL, idsE, AV.ids, *])) _, ?_⟩)|(refine ⟨_, _, qa0 (hS1) (by (simp [idsL, idsE, AV.ids, *])) _, ?_⟩)|(refine ⟨_, qa0 (hS1) (by (simp [idsL, idsE, AV.ids, *])) _, ?_⟩)|(refine ⟨_, fun _ => qa0 (hS1) (by (simp [idsL, idsE, AV.ids, *])) _, ?_⟩)|(refine ⟨_, _, qa0 (hS2) (by (simp [idsL, idsE, AV.ids, *])) _, ?_⟩)|(refine ⟨_, qa0 (hS2) (by (simp [idsL, idsE, AV.ids, *])) _, ?_⟩)|(refine ⟨_, fun _ => qa0 (hS2) (by (simp [idsL, idsE, AV.ids, *])) _, ?_⟩)|(refine ⟨_, _, qa0 (hM1) (by (simp [idsL, idsE, AV.ids, *])) _, ?_⟩)|(refine ⟨_, qa0 (hM1) (by (simp [idsL, idsE, AV.ids, *])) _, ?_⟩)|(refine ⟨_, fun _ => qa0 (hM1) (by (simp [idsL, idsE, AV.ids, *])) _, ?_⟩)|(refine ⟨_, _, qa0 (hM2) (by (simp [idsL, idsE, AV.ids, *])) _, ?_⟩)|(refine ⟨_, qa0 (hM2) (by (simp [idsL, idsE, AV.ids, *])) _, ?_⟩)|(refine ⟨_, fun _ => qa0 (hM2) (by (simp [idsL, idsE, AV.ids, *])) _, ?_⟩)|(refine ⟨_, _, qa0 (hB) (by (simp [idsL, idsE, AV.ids, *])) _, ?_⟩)|(refine ⟨_, qa0 (hB) (by (simp [idsL, idsE, AV.ids, *])) _, ?_⟩)|(refine ⟨_, fun _ => qa0 (hB) (by (simp [idsL, idsE, AV.ids, *])) _, ?_⟩)|(refine ⟨_, _, qa0 (hA1) (by (simp [idsL, idsE, AV.ids, *])) _, ?_⟩)|(refine ⟨_, qa0 (hA1) (by (simp [idsL, idsE, AV.ids, *])) _, ?_⟩)|(refine ⟨_, fun _ => qa0 (hA1) (by (simp [idsL, idsE, AV.ids, *])) _, ?_⟩)|(refine ⟨_, _, qa0 (hA2) (by (simp [idsL, idsE, AV.ids, *])) _, ?_⟩)|(refine ⟨_, qa0 (hA2) (by (simp [idsL, idsE, AV.ids, *])) _, ?_⟩)|(refine ⟨_, fun _ => qa0 (hA2) (by (simp [idsL, idsE, AV.ids, *])) _, ?_⟩)|(refine ⟨_, _, qa0 (hQ) (by (simp [idsL, idsE, AV.ids, *])) _, ?_⟩)|(refine ⟨_, qa0 (hQ) (by (simp [idsL, idsE, AV.ids, *])) _, ?_⟩)|(refine ⟨_, fun _ => qa0 (hQ) (by (simp [idsL, idsE, AV.ids, *])) _, ?_⟩)|(refine ⟨_, _, qa0 (hlv) (by (simp [idsL, idsE, AV.ids, *])) _, ?_⟩)|(refine ⟨_, qa0 (hlv) (by (simp [idsL, idsE, AV.ids, *])) _, ?_⟩)|(refine ⟨_, fun _ => qa0 (hlv) (by (simp [idsL, idsE, AV.ids, *])) _, ?_⟩))|simp (disch := (first|exact za0|fail)) only [push_cast, simprocAttr, a0, a1, hz])
end Go.Proofs

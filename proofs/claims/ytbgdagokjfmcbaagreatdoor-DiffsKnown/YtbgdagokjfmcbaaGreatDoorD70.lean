import Derived.Test.YtbgdagokjfmcbaaGreatDoorD26
import Derived.Test.YtbgdagokjfmcbaaGreatDoorNUM
namespace Go.Proofs
open Go Go.V
set_option linter.unusedVariables false
set_option linter.unusedSimpArgs false
def numsM (s sep : Bs) (many : Nat) : Option (List Int) := match numsV (splitM s sep) with|some xs => if xs.length = many then some xs else none|none => none
def readM (s : Bs) : Option Edg := if s = [45] then some (-1, -1) else match numsM s [47] 2 with|some [a, b] => some (a, b)|_ => none
def editC (c d : Bool) (M : Option (List Int)) (x y : Option Edg) : Option Ed :=
 match c, d, M, x, y with
 | true, true, some [a, b], some x, some y => some ⟨a, b, x, y⟩
 | _, _, _, _, _ => none
def editM (s : Bs) : Option Ed := editC (Lib.cut s [58, 32]).2.2 (Lib.cut (Lib.cut s [58, 32]).2.1 [32, 45, 62, 32]).2.2 (numsM (Lib.cut s [58, 32]).1 [32] 2) (readM (Lib.cut (Lib.cut s [58, 32]).2.1 [32, 45, 62, 32]).1) (readM (Lib.cut (Lib.cut s [58, 32]).2.1 [32, 45, 62, 32]).2.1)
theorem mark_one (c : UInt8) (r : Bs) : Mark (c :: r) 0 c := ⟨rfl, fun k hk => by omega⟩
theorem mark_arrow : Mark [32, 45, 62, 32] 2 62 := ⟨rfl, fun k hk => by
 have : k = 0 ∨ k = 1 := by omega
 rcases this with rfl|rfl <;> simp⟩
theorem numsM_back {s : Bs} {c : UInt8} {many : Nat} {xs : List Int} (h : numsM s [c] many = some xs) : Lib.join (xs.map Lib.itoa) [c] = s ∧ xs.length = many ∧ ∀ x ∈ xs, 0 ≤ x := by
 unfold numsM at h
 cases hv : numsV (splitM s [c]) with
 | none => rw [hv] at h; cases h
 | some ys =>
  rw [hv] at h
  dsimp only at h
  split at h
  ·rename_i hl
   injection h with h; subst h
   obtain ⟨e1, _⟩ := numsV_itoa hv
   have key : ∀ (l : List Bs) (ys : List Int), numsV l = some ys → ∀ x ∈ ys, 0 ≤ x := fun l => by
    induction l with
    | nil => intro ys h; injection h with h; subst h; simp
    | cons f r ih =>
     intro ys h
     rw [numsV] at h
     cases hf : numV f with
     | none => rw [hf] at h; simp at h
     | some x =>
      cases hr : numsV r with
      | none => rw [hf, hr] at h; simp at h
      | some zs =>
       rw [hf, hr] at h
       simp only [Option.some.injEq] at h; subst h
       intro y hy
       rcases List.mem_cons.1 hy with rfl|hy
       ·exact (numV_itoa hf).2
       ·exact ih zs hr y hy
   refine ⟨?_, hl, key _ _ hv⟩
   rw [e1]; exact (split_back [c] (by simp) _ s (Nat.le_refl _)).1
  ·cases h
theorem numsM_join {xs : List Int} {c : UInt8} (hc : c.toNat < 48 ∨ 57 < c.toNat) (hne : xs ≠ []) (h : ∀ x ∈ xs, 0 ≤ x ∧ x ≤ 999) : numsM (Lib.join (xs.map Lib.itoa) [c]) [c] xs.length = some xs := by
 unfold numsM
 rw [split_join (mark_one c []) _ (by simpa using hne) (fun p hp => by
  obtain ⟨x, hx, rfl⟩ := List.mem_map.1 hp
  exact digs_not (itoa_digs (h x hx).1) hc), itoa_numsV h]
 dsimp only
 rw [if_pos rfl]
theorem join_two (a b : Bs) (c : UInt8) : Lib.join [a, b] [c] = a ++ [c] ++ b := by rw [join_cons2, join_one]; simp
theorem two_of {xs : List Int} (h : xs.length = 2) : ∃ a b, xs = [a, b] := by
 match xs, h with
 | [a, b], _ => exact ⟨a, b, rfl⟩
def wideE (e : Edg) : Prop := e = (-1, -1) ∨ ((0 ≤ e.1 ∧ e.1 ≤ 999) ∧ 0 ≤ e.2 ∧ e.2 ≤ 999)
theorem textE_read {e : Edg} (h : wideE e) : readM (textE e) = some e := by
 rcases h with rfl|⟨h1, h2⟩
 ·rfl
 ·obtain ⟨a, b⟩ := e
  dsimp only at h1 h2
  have ht : textE (a, b) = Lib.itoa a ++ [47] ++ Lib.itoa b := by rw [textE, if_neg (by simp; omega)]
  have hne : ¬ Lib.itoa a ++ [47] ++ Lib.itoa b = [45] := fun q => by
   have := congrArg (fun l => (47 : UInt8) ∈ l) q
   simp at this
  have := numsM_join (xs := [a, b]) (c := 47) (by decide) (by simp) (fun x hx => by simp at hx; rcases hx with rfl|rfl <;> omega)
  rw [List.map_cons, List.map_cons, List.map_nil, join_two] at this
  rw [show ([a, b] : List Int).length = 2 from rfl] at this
  rw [readM, ht, if_neg hne, this]
theorem textE_no {e : Edg} (h : wideE e) {c : UInt8} (hc : c = 62 ∨ c = 10 ∨ c = 58) : ¬ c ∈ textE e := by
 unfold textE
 rcases h with rfl|⟨h1, h2⟩
 ·rcases hc with rfl|rfl|rfl <;> decide
 ·obtain ⟨a, b⟩ := e
  dsimp only at h1 h2
  rw [if_neg (by simp; omega)]
  have d1 := itoa_digs h1.1
  have d2 := itoa_digs h2.1
  have hc2 : c.toNat < 48 ∨ 57 < c.toNat := by rcases hc with rfl|rfl|rfl <;> decide
  have hc3 : c ≠ 47 := by rcases hc with rfl|rfl|rfl <;> decide
  intro q
  simp only [List.mem_append, List.mem_singleton] at q
  rcases q with (q|q)|q
  ·exact digs_not d1 hc2 q
  ·exact hc3 q
  ·exact digs_not d2 hc2 q
def lineB (x : Ed) : Bs := Lib.itoa x.s ++ [32] ++ Lib.itoa x.i ++ [58, 32] ++ textE x.old ++ [32, 45, 62, 32] ++ textE x.new
theorem lineB_end (x : Ed) : lineB x ++ [10] = lineE x := by simp [lineB, lineE]
def wideX (x : Ed) : Prop := (0 ≤ x.s ∧ x.s ≤ 999) ∧ (0 ≤ x.i ∧ x.i ≤ 999) ∧ wideE x.old ∧ wideE x.new
theorem lineB_edit {x : Ed} (h : wideX x) : editM (lineB x) = some x := by
 obtain ⟨h1, h2, h3, h4⟩ := h
 obtain ⟨s, i, o, n⟩ := x
 dsimp only at h1 h2 h3 h4
 have hp : ¬ (58 : UInt8) ∈ Lib.itoa s ++ [32] ++ Lib.itoa i := fun q => by
  simp only [List.mem_append, List.mem_singleton] at q
  rcases q with (q|q)|q
  ·exact digs_not (itoa_digs h1.1) (by decide) q
  ·exact absurd q (by decide)
  ·exact digs_not (itoa_digs h2.1) (by decide) q
 have e1 : Lib.cut (lineB ⟨s, i, o, n⟩) [58, 32] = (Lib.itoa s ++ [32] ++ Lib.itoa i, textE o ++ ([32, 45, 62, 32] ++ textE n), true) := by
  rw [← cut_hit (mark_one 58 [32]) hp]; simp [lineB]
 have e2 : Lib.cut (textE o ++ ([32, 45, 62, 32] ++ textE n)) [32, 45, 62, 32] = (textE o, textE n, true) := cut_hit mark_arrow (textE_no h3 (.inl rfl))
 have e3 := numsM_join (xs := [s, i]) (c := 32) (by decide) (by simp) (fun x hx => by simp at hx; rcases hx with rfl|rfl <;> omega)
 rw [List.map_cons, List.map_cons, List.map_nil, join_two, show ([s, i] : List Int).length = 2 from rfl] at e3
 unfold editM
 rw [e1]
 dsimp only
 rw [e2]
 dsimp only
 rw [e3, textE_read h3, textE_read h4]
 rfl
def afterM (s : Bs) : List Bs := Lib.splitK [10] 1 (Lib.count s [10]) s
theorem afterM_miss {s : Bs} (h : Lib.index s [10] = -1) : afterM s = [s] := by rw [afterM, Lib.count_miss h]; rfl
theorem afterM_hit {s : Bs} {i : Nat} (h : Lib.index s [10] = i) : afterM s = s.take (i + 1) :: afterM (s.drop (i + 1)) := by
 rw [afterM, Lib.count_hit (by simp) h, Nat.add_comm, Lib.splitK, h, if_neg (by simp; try omega), afterM]; rfl
theorem after_lines : ∀ (l : List Bs), (∀ p ∈ l, ¬ 10 ∈ p) → afterM (l.map (· ++ [10])).flatten = l.map (· ++ [10]) ++ [[]]
 | [], _ => by rw [List.map_nil, List.flatten_nil, afterM_miss (by rfl)]; rfl
 | p :: l, h => by
  have e : (List.map (· ++ [10]) (p :: l)).flatten = p ++ ([10] ++ (l.map (· ++ [10])).flatten) := by simp
  rw [e, afterM_hit (idx_join (mark_one 10 []) (h p (by simp)))]
  have e2 : (p ++ ([10] ++ (l.map (· ++ [10])).flatten)).take (p.length + 1) = p ++ [10] := by
   rw [← List.append_assoc, List.take_left' (by simp)]
  have e3 : (p ++ ([10] ++ (l.map (· ++ [10])).flatten)).drop (p.length + 1) = (l.map (· ++ [10])).flatten := by
   rw [← List.append_assoc, List.drop_left' (by simp)]
  rw [e2, e3, after_lines l fun x hx => h x (List.mem_cons_of_mem _ hx)]; rfl
theorem after_back : ∀ (n : Nat) (s : Bs), s.length ≤ n → ∃ (l : List Bs) (y : Bs), afterM s = l.map (· ++ [10]) ++ [y] ∧ (l.map (· ++ [10])).flatten ++ y = s ∧ ¬ 10 ∈ y
 | n, s, hn => by
  rcases Int.lt_or_le (Lib.index s [10]) 0 with q|q
  ·have h0 := Lib.index_ge s [10]
   refine ⟨[], s, by rw [afterM_miss (by omega)]; rfl, by simp, fun hm => ?_⟩
   obtain ⟨k, hk, e⟩ := List.getElem_of_mem hm
   have hs := Lib.index_spec s [10]
   rcases hs with ⟨_, hno⟩|⟨i, hi, _⟩
   ·have := hno k (by omega)
    unfold Lib.occAt at this
    rw [List.drop_eq_getElem_cons hk, e] at this
    simp [List.isPrefixOf] at this
   ·omega
  ·obtain ⟨i, hi⟩ : ∃ i : Nat, Lib.index s [10] = i := ⟨(Lib.index s [10]).toNat, by omega⟩
   obtain ⟨t, h1, h2⟩ := index_occ s [10] q
   rw [hi, Int.toNat_natCast] at h1 h2
   simp only [List.length_singleton] at h2
   have hlen : s.length = (s.take i).length + 1 + t.length := by
    conv => lhs; rw [h1]
    simp; omega
   have e1 : s.take (i + 1) = s.take i ++ [10] := by
    have hi2 : (s.take i).length = i := by
     rw [List.length_take]
     have : i ≤ s.length := by
      have := Lib.index_le s [10]; omega
     omega
    conv => lhs; rw [h1]
    rw [← List.append_assoc, List.take_left' (by simp [hi2])]
   cases n with
   | zero => omega
   | succ n =>
    obtain ⟨l, y, a, b, c⟩ := after_back n t (by omega)
    refine ⟨s.take i :: l, y, ?_, ?_, c⟩
    ·rw [afterM_hit hi, e1, ← h2, a]; rfl
    ·rw [List.map_cons, List.flatten_cons, List.append_assoc, b, List.append_assoc]; exact h1.symm
def headM (s : Bs) : Option Pt := if [112, 97, 116, 99, 104, 32].isPrefixOf s = true then match numsM (s.drop 6) [32] 5 with|some [a, b, c, d, e] => some ⟨a, b, c, d, e, []⟩|_ => none else none
def pNil : Pt := ⟨0, 0, 0, 0, 0, []⟩
def endedB (l : Bs) : Bool := [10].isSuffixOf l
def bodyB (l : Bs) : Bs := if endedB l = true then l.dropLast else l
def linesP : Nat → Pt → List Bs → Pt × Int × Int
 | _, out, [] => (out, 0, 0)
 | k, out, l :: r =>
  if l = [] ∧ 0 < k then (out, 0, 0)
  else if k = 0 then match endedB l, headM (bodyB l) with|true, some p => linesP 1 p r|_, _ => (pNil, 1, 4)
  else match endedB l, editM (bodyB l) with|true, some x => linesP (k + 1) { out with ed := out.ed ++ [x] } r|_, _ => (pNil, k + 1, 4)
def parseD (s : Bs) : Pt × Int × Int :=
 if 65536 < s.length then (pNil, 0, 3)
 else if (linesP 0 pNil (afterM s)).2.2 ≠ 0 then linesP 0 pNil (afterM s)
 else if checkP (linesP 0 pNil (afterM s)).1 ≠ 0 then (pNil, 0, checkP (linesP 0 pNil (afterM s)).1)
 else ((linesP 0 pNil (afterM s)).1, 0, 0)
theorem ended_line (p : Bs) : endedB (p ++ [10]) = true ∧ bodyB (p ++ [10]) = p := by
 have h : endedB (p ++ [10]) = true := List.isSuffixOf_iff_suffix.2 ⟨p, rfl⟩
 exact ⟨h, by rw [bodyB, if_pos h]; simp⟩
theorem head_headM {p : Pt} (h : ∀ x ∈ nums p, 0 ≤ x ∧ x ≤ 999) : ∃ b, headP p = b ++ [10] ∧ ¬ 10 ∈ b ∧ headM b = some { p with ed := [] } := by
 have e : headP p = ([112, 97, 116, 99, 104, 32] ++ Lib.join ((nums p).map Lib.itoa) [32]) ++ [10] := by
  simp only [nums, List.map_cons, List.map_nil, join_cons2, join_one]
  simp [headP, numT]
 refine ⟨_, e, fun q => ?_, ?_⟩
 ·rcases List.mem_append.1 q with q|q
  ·exact absurd q (by decide)
  ·refine mem_join _ (by decide) (fun x hx => ?_) q
   obtain ⟨v, hv, rfl⟩ := List.mem_map.1 hx
   exact digs_not (itoa_digs (h v hv).1) (by decide)
 ·unfold headM
  rw [if_pos (List.isPrefixOf_iff_prefix.2 ⟨_, rfl⟩)]
  have := numsM_join (xs := nums p) (c := 32) (by decide) (by simp [nums]) h
  rw [show (nums p).length = 5 from rfl] at this
  generalize Lib.join ((nums p).map Lib.itoa) [32] = J at *
  have e6 : (([112, 97, 116, 99, 104, 32] : Bs) ++ J).drop 6 = J := rfl
  rw [e6, this]
  rfl
theorem linesP_lines : ∀ (xs : List Ed) (k : Nat) (out : Pt), (∀ x ∈ xs, wideX x) → linesP (k + 1) out (xs.map lineE ++ [[]]) = ({ out with ed := out.ed ++ xs }, 0, 0)
 | [], k, out, _ => by
  rw [List.map_nil, List.nil_append, linesP, if_pos ⟨rfl, by omega⟩, List.append_nil]
 | x :: xs, k, out, h => by
  have e := lineB_end x
  rw [List.map_cons, List.cons_append, ← e, linesP, if_neg (fun q => by simp at q), if_neg (by omega), (ended_line _).1, (ended_line _).2, lineB_edit (h x (List.mem_cons_self ..))]
  dsimp only
  rw [linesP_lines xs (k + 1) _ fun y hy => h y (List.mem_cons_of_mem _ hy)]
  simp
theorem text_parseD {p : Pt} (hc : checkP p = 0) (hn : ∀ x ∈ nums p, 0 ≤ x ∧ x ≤ 999) (hx : ∀ x ∈ p.ed, wideX x) (hl : (textP p).length ≤ 65536) : parseD (textP p) = (p, 0, 0) := by
 obtain ⟨b, h1, h2, h3⟩ := head_headM hn
 have e3 : p.ed.map lineE = (p.ed.map lineB).map (· ++ [10]) := by
  rw [List.map_map]; exact List.map_congr_left fun x _ => (lineB_end x).symm
 have e : textP p = (((b :: p.ed.map lineB)).map (· ++ [10])).flatten := by
  rw [textP, h1, List.flatMap_def, e3]; rfl
 have ha : afterM (textP p) = (b ++ [10]) :: (p.ed.map lineE ++ [[]]) := by
  rw [e, after_lines]
  ·rw [List.map_cons, ← e3, List.cons_append]
  ·intro q hq
   rcases List.mem_cons.1 hq with rfl|hq
   ·exact h2
   ·obtain ⟨x, hx1, rfl⟩ := List.mem_map.1 hq
    obtain ⟨k1, k2, k3, k4⟩ := hx x hx1
    intro q
    simp only [lineB, List.mem_append] at q
    rcases q with (((((q|q)|q)|q)|q)|q)|q
    ·exact digs_not (itoa_digs k1.1) (by decide) q
    ·exact absurd q (by decide)
    ·exact digs_not (itoa_digs k2.1) (by decide) q
    ·exact absurd q (by decide)
    ·exact textE_no k3 (.inr (.inl rfl)) q
    ·exact absurd q (by decide)
    ·exact textE_no k4 (.inr (.inl rfl)) q
 have hr : linesP 0 pNil (afterM (textP p)) = (p, 0, 0) := by
  rw [ha, linesP, if_neg (by omega), if_pos rfl, (ended_line _).1, (ended_line _).2, h3]
  dsimp only
  rw [linesP_lines _ 0 _ hx]
  simp
 unfold parseD
 rw [if_neg (by omega), hr]
 dsimp only
 rw [if_neg (by simp), if_neg (by simp [hc])]
end Go.Proofs

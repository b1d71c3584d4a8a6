/- The library V, part 6: the pure operations yield what V4 says (arithmetic, comparison, slices, composite values). -/
import Derived.Test.YtjoldnonnjleoaaDoorV5
import Derived.ChangeKeysEq
import Derived.Laws.Slices
import Derived.Laws.Unary
set_option linter.unusedVariables false
set_option linter.unusedSimpArgs false
namespace Go.V
open Go Go.RowKit

section
variable {P : Program} {S : St} {H : List Blk}

theorem pInt_ok {op : BinOp} {k k' : IntKind} {a b : Int} (t : TypeId) (w : World) (h : (pInt op k k' a b).1 = true) :
    ∃ u, (binOp op t (.int k a) (.int k' b)).run P w = .ok u w ∧ ∀ E, Rel E (pInt op k k' a b).2 u := by
  cases op <;> simp only [pInt, beq_iff_eq, Bool.and_eq_true, bne_iff_ne, ne_eq, decide_eq_true_eq] at h ⊢
  case quo => obtain ⟨rfl, hb⟩ := h; exact ⟨.int k (k.wrap (a.tdiv b)), by simp [binOp, Op.intDiv, hb], fun E => by simp [Rel]⟩
  case rem => obtain ⟨rfl, hb⟩ := h; exact ⟨.int k (a.tmod b), by simp [binOp, Op.intDiv, hb], fun E => by simp [Rel]⟩
  case shl =>
    refine ⟨.int k (k.wrap (a * 2 ^ (min b.toNat k.bits))), ?_, fun E => by simp [Rel]⟩
    have : ¬ b < 0 := by omega
    simp [binOp, Op.shift, this]
  case shr =>
    refine ⟨.int k (a.fdiv (2 ^ (min b.toNat k.bits))), ?_, fun E => by simp [Rel]⟩
    have : ¬ b < 0 := by omega
    simp [binOp, Op.shift, this]
  case and => subst h; exact ⟨_, by rw [binOp_and, intBits_and]; rfl, fun E => by simp [Rel]⟩
  case or => subst h; exact ⟨_, by rw [binOp_or, intBits_or]; rfl, fun E => by simp [Rel]⟩
  case xor => subst h; exact ⟨_, by rw [binOp_xor, intBits_xor]; rfl, fun E => by simp [Rel]⟩
  case andNot => subst h; exact ⟨_, by rw [binOp_andNot, intBits_andNot]; rfl, fun E => by simp [Rel]⟩
  all_goals (subst h; refine ⟨_, by simp [binOp, Op.intArith, Op.intCmp]; rfl, fun E => ?_⟩)
  all_goals simp [Rel]
  all_goals rfl

theorem pStr_ok {op : BinOp} {a b : List UInt8} (t : TypeId) (w : World) (h : (pStr op a b).1 = true) :
    ∃ u, (binOp op t (.string ⟨a.toArray⟩) (.string ⟨b.toArray⟩)).run P w = .ok u w ∧ ∀ E, Rel E (pStr op a b).2 u := by
  have hl : ∀ l : List UInt8, (ByteArray.mk l.toArray).toList = l := fun l => by simp
  have hbeq : (a == b) = decide (a = b) := by rw [Bool.eq_iff_iff]; simp
  cases op <;> simp only [pStr, bad, decide_eq_true_eq] at h ⊢ <;> first | cases h | skip
  case add =>
    refine ⟨.string ⟨(a ++ b).toArray⟩, ?_, fun E => by simp [Rel]⟩
    have h1 : ¬ ((a.length : Int) + b.length > IntKind.i64.max) := by rw [IntKind.max_i64]; simp only [maxLen] at h; omega
    have hs : ∀ l : List UInt8, (ByteArray.mk l.toArray).size = l.length := fun l => rfl
    have happ : ByteArray.mk a.toArray ++ ByteArray.mk b.toArray = ByteArray.mk (a ++ b).toArray := by
      apply ByteArray.ext
      simp
    simp only [binOp, Op.stringOp, hs, happ]
    rw [if_neg (by push_cast; exact h1)]
    rfl
  all_goals (refine ⟨_, by simp [binOp, Op.stringOp, hl]; rfl, fun E => ?_⟩)
  all_goals simp [Rel, hbeq]

theorem eqPair_some {F : TI} {cs ds : List AV} {off : Nat} {eq : TI → Bool × Bool} {r : Bool × Bool} (h : (eqPair (some F) cs ds off eq r).1 = true) :
    fitsAt F cs.length off = true ∧ fitsAt F ds.length off = true ∧ (eq F).1 = true ∧ r.1 = true ∧ (eqPair (some F) cs ds off eq r).2 = ((eq F).2 && r.2) := by
  simp only [eqPair, Bool.and_eq_true] at h
  exact ⟨h.1.1.1, h.1.1.2, h.1.2, h.2, rfl⟩

theorem eqA_ok {E : Env} (w : World) : ∀ (d : Nat) (t : TypeId) (x y : AV) (u v : Value), Rel E x u → Rel E y v → eqTy P d t = true → (eqA P d t x y).1 = true → ∀ D, d ≤ D → (Op.equalIn D t u v).run P w = .ok (eqA P d t x y).2 w
  | 0, t, x, y, u, v, _, _, h, _, _, _ => by simp [eqTy] at h
  | d + 1, t, x, y, u, v, hx, hy, ht, h, D, hD => by
    obtain ⟨D, rfl⟩ : ∃ D', D = D' + 1 := ⟨D - 1, by omega⟩
    unfold eqA at h ⊢
    split at h
    · rename_i kk k a k' b hs
      obtain ⟨T, hT, hsh⟩ := shp_some hs (by simp)
      have hu := und_int hT hsh
      have e1 : u = .int k a := by simpa [Rel] using hx
      have e2 : v = .int k' b := by simpa [Rel] using hy
      have hk : k = k' := by simpa using h
      subst e1; subst e2; subst hk
      rw [run_equalIn_int w D t k kk a b hu, show (a == b) = decide (a = b) from by rw [Bool.eq_iff_iff]; simp]
    · rename_i a b hs
      obtain ⟨T, hT, hsh⟩ := shp_some hs (by simp)
      have hu := und_bool hT hsh
      have e1 : u = .bool a := by simpa [Rel] using hx
      have e2 : v = .bool b := by simpa [Rel] using hy
      subst e1; subst e2
      rw [run_equalIn_bool' w D t a b hu]
    · rename_i a b hs
      obtain ⟨T, hT, hsh⟩ := shp_some hs (by simp)
      have hu := und_str hT hsh
      have e1 : u = .string ⟨a.toArray⟩ := by simpa [Rel] using hx
      have e2 : v = .string ⟨b.toArray⟩ := by simpa [Rel] using hy
      subst e1; subst e2
      rw [run_equalIn_string w D t _ _ hu]
      simp only [ByteArray.toList_mk]
      rw [show (a == b) = decide (a = b) from by rw [Bool.eq_iff_iff]; simp]
    · rename_i fs cs ds hs
      obtain ⟨T, hT, hsh⟩ := shp_some hs (by simp)
      obtain ⟨F, hu, hfs⟩ := und_struct hT hsh
      simp only [Rel] at hx hy
      obtain ⟨xs, rfl, hxl, hx1⟩ := hx
      obtain ⟨ys, rfl, hyl, hy1⟩ := hy
      have hfo : P.fieldsOf t = F := by simp [Program.fieldsOf, hu]
      unfold eqTy at ht
      simp only [hu, Bool.and_eq_true, Bool.not_eq_true', List.all_eq_true] at ht
      rw [run_equalIn_struct w D t xs.toArray ys.toArray (by rw [hfo]; exact hu) ht.1, hfo]
      have hall := ht.2
      clear ht hfo hu hsh hT hs
      subst hfs
      generalize F.toList = fs at *
      induction fs with
      | nil => simp [Op.eqFields]
      | cons f fs ih =>
        simp only [List.map_cons, List.foldr_cons] at h ⊢
        obtain ⟨hn, hty⟩ := hall f (List.mem_cons_self)
        have hn' : f.name ≠ "_" := by simpa using hn
        cases hF : tinfo P f.type with
        | none => simp [hF, eqPair] at h
        | some G =>
          simp only [hF] at h ⊢
          obtain ⟨f1, f2, f3, f4, f5⟩ := eqPair_some h
          rw [f5]
          obtain ⟨p, hp, hrp⟩ := run_part_cut (P := P) (w := w) hF hxl hx1 f1
          obtain ⟨q, hq, hrq⟩ := run_part_cut (P := P) (w := w) hF hyl hy1 f2
          have he := eqA_ok w d f.type _ _ p q hrp hrq hty f3 D (by omega)
          have hih := ih (fun g hg => hall g (List.mem_cons_of_mem _ hg)) f4
          simp only [Op.eqFields, hn', ne_eq, not_false_eq_true, if_true, Sem.run_bind, hp, hq, he, Result.andThen_ok]
          cases (eqA P d f.type (cut G cs f.offset) (cut G ds f.offset)).2
          · simp
          · simpa using hih
    · rename_i n e cs ds hs
      obtain ⟨T, hT, hsh⟩ := shp_some hs (by simp)
      have hu := und_array hT hsh
      simp only [Rel] at hx hy
      obtain ⟨xs, rfl, hxl, hx1⟩ := hx
      obtain ⟨ys, rfl, hyl, hy1⟩ := hy
      unfold eqTy at ht
      simp only [hu] at ht
      cases hF : tinfo P e with
      | none => simp [hF] at h
      | some G =>
        obtain ⟨ii, dd, z, hi, hd, hz, _, hG⟩ := tinfo_some hF
        rw [run_equalIn_array w D xs.toArray ys.toArray hu hi]
        have hc : P.cellsOf e = G.sz := by subst hG; simp [Program.cellsOf, hi]
        rw [hc]
        simp only [hF] at h ⊢
        generalize List.range n = is at *
        clear hG
        induction is with
        | nil => simp [Op.eqItems]
        | cons i is ih =>
          simp only [List.foldr_cons] at h ⊢
          obtain ⟨f1, f2, f3, f4, f5⟩ := eqPair_some h
          rw [f5]
          obtain ⟨p, hp, hrp⟩ := run_part_cut (P := P) (w := w) hF hxl hx1 f1
          obtain ⟨q, hq, hrq⟩ := run_part_cut (P := P) (w := w) hF hyl hy1 f2
          have he := eqA_ok w d e _ _ p q hrp hrq ht f3 D (by omega)
          have hih := ih f4
          simp only [Op.eqItems, Sem.run_bind, hp, hq, he, Result.andThen_ok]
          cases (eqA P d e (cut G cs (i * G.sz)) (cut G ds (i * G.sz))).2
          · simp
          · simpa using hih
    · cases h
end
end Go.V

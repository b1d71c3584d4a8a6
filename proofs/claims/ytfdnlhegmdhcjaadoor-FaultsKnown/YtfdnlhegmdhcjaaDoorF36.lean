import Derived.Test.YtfdnlhegmdhcjaaDoorF35
namespace Go.Proofs
open Go Go.V
set_option maxRecDepth 100000
def bR : RR := edgesOf (bRows 64)
theorem bR_len : bR.length = 64 := by rw [bR, edgesOf_len, bRows_len]
theorem b_ok : machOk 16 16 (bRows 64) = 0 := by decide +kernel
theorem b_okM : OkM bR 16 16 := mach_okM b_ok
theorem b_cnt : cntE bR 16 64 = 1024 := by decide +kernel
theorem b_len012 : (allF bR 16 16 [0, 1, 2]).length = 80896 := by rw [allF_012 b_okM, bR_len, b_cnt]
theorem b_len1 : (allF bR 16 16 [1]).length = 64512 := by
 simp only [allF, List.flatMap_cons, List.flatMap_nil, List.append_nil, edgF_len1 b_okM, b_cnt, bR_len]
theorem b_len01 : (allF bR 16 16 [0, 1]).length = 79872 := by
 simp only [allF, List.flatMap_cons, List.flatMap_nil, List.append_nil, List.length_append, edgF_len0 b_okM, edgF_len1 b_okM, b_cnt, bR_len]
theorem b_chk3 : chkA 16 16 (bRows 64) ⟨3, 0, 0, 0, 0, 0⟩ = 3 := by decide +kernel
theorem b_chk64 : chkA 16 16 (bRows 64) ⟨3, 0, 0, 64, 0, 0⟩ = 1 := by decide +kernel
theorem b_ready012 : readyM 16 16 (bRows 64) [0, 1, 2] 0 = 0 := by rw [readyM, b_ok]; decide +kernel
theorem b_ready03 : readyM 16 16 (bRows 64) [0, 3] 0 = 3 := by rw [readyM, b_ok]; decide +kernel
theorem b_ready4 : readyM 16 16 (bRows 64) [4] 0 = 3 := by rw [readyM, b_ok]; decide +kernel
theorem b_ready1 (m : Int) (h : 0 ≤ m ∧ m < 65537) : readyM 16 16 (bRows 64) [1] m = 0 := by
 rw [readyM, b_ok, if_neg (by simp), if_neg (by decide), if_neg (by simp; omega), if_neg (by decide)]
theorem b_ready01 : readyM 16 16 (bRows 64) [0, 1] 65536 = 0 := by rw [readyM, b_ok]; decide +kernel
theorem b_readyN : readyM 16 16 (bRows 64) [] (-1) = 1 := by rw [readyM, b_ok]; decide +kernel
theorem b_readyZ : readyM 16 16 (bRows 64) [] 0 = 0 := by rw [readyM, b_ok]; decide +kernel
theorem b_row (j : Nat) (h : j < (bRows 64).length) : ((bRows 64).getD j ([], none)).1.length ≤ 1000000 := by
 obtain ⟨_, _, _, m4, _⟩ := machOk_zero b_ok
 have := m4 j h
 omega
abbrev bM (c : Option Nat) : AV := .agg [.int .i64 16, .int .i64 16, .sl 1 (rowsA (bRows 64)) c]
theorem b_edges : edgesOf (bRows 64) = bR := rfl
theorem b_n16 : (16 : Int).toNat = 16 := rfl
theorem b_count012 (c d : Option Nat) : PC Tryd.prog G0 17 [bM c, .sl 1 (ints [0, 1, 2]) d] (.tup [.int .i64 80896, .int .i64 0]) := by
 have h := count17 16 16 (bRows 64) 1 c 1 [0, 1, 2] d (.inr rfl) (by rw [bRows_len]; decide) b_row (.inr rfl) (by decide) (by rw [b_edges, b_n16, b_len012]; decide)
 rw [cntM, b_ready012, if_pos rfl, b_edges, b_n16, b_len012] at h
 exact h
theorem b_count03 (c d : Option Nat) : PC Tryd.prog G0 17 [bM c, .sl 1 (ints [0, 3]) d] (.tup [.int .i64 0, .int .i64 3]) := by
 have hb : (allF bR 16 16 [0, 3]).length ≤ 100000000 := by
  simp only [allF, List.flatMap_cons, List.flatMap_nil, List.append_nil, List.length_append, edgF_len0 b_okM, edgF_len3 b_okM, b_cnt, bR_len]; decide
 have h := count17 16 16 (bRows 64) 1 c 1 [0, 3] d (.inr rfl) (by rw [bRows_len]; decide) b_row (.inr rfl) (by decide) hb
 rw [cntM, b_ready03, if_neg (by decide)] at h
 exact h
theorem b_all4 (c d : Option Nat) : PC Tryd.prog G0 22 [bM c, .sl 1 (ints [4]) d, .int .i64 0] (.tup [.sl 0 [] (some 0), .int .i64 3]) := by
 have h := all22 16 16 (bRows 64) 1 c 1 [4] d 0 (.inr rfl) (by rw [bRows_len]; decide) b_row (.inr rfl) (by decide)
 rw [allM, b_ready4, if_pos (by decide)] at h
 exact h
theorem b_all1 (c d : Option Nat) (m : Int) (hm : 64512 ≤ m ∧ m < 65537) : PC Tryd.prog G0 22 [bM c, .sl 1 (ints [1]) d, .int .i64 m] (.tup [.sl 6 (fls (allF bR 16 16 [1])) (some 64512), .int .i64 0]) := by
 have h := all22 16 16 (bRows 64) 1 c 1 [1] d m (.inr rfl) (by rw [bRows_len]; decide) b_row (.inr rfl) (by decide)
 rw [allM, b_ready1 m ⟨by omega, hm.2⟩, if_neg (by simp), b_edges, b_n16, b_len1, if_neg (by omega)] at h
 exact h
theorem b_all1s (c d : Option Nat) : PC Tryd.prog G0 22 [bM c, .sl 1 (ints [1]) d, .int .i64 64511] (.tup [.sl 0 [] (some 0), .int .i64 13]) := by
 have h := all22 16 16 (bRows 64) 1 c 1 [1] d 64511 (.inr rfl) (by rw [bRows_len]; decide) b_row (.inr rfl) (by decide)
 rw [allM, b_ready1 64511 ⟨by omega, by omega⟩, if_neg (by simp), b_edges, b_n16, b_len1, if_pos (by omega)] at h
 exact h
theorem b_all01 (c d : Option Nat) : PC Tryd.prog G0 22 [bM c, .sl 1 (ints [0, 1]) d, .int .i64 65536] (.tup [.sl 0 [] (some 0), .int .i64 13]) := by
 have h := all22 16 16 (bRows 64) 1 c 1 [0, 1] d 65536 (.inr rfl) (by rw [bRows_len]; decide) b_row (.inr rfl) (by decide)
 rw [allM, b_ready01, if_neg (by simp), b_edges, b_n16, b_len01, if_pos (by omega)] at h
 exact h
theorem b_allN (c : Option Nat) (d : Option Nat) : PC Tryd.prog G0 22 [bM c, .sl 0 [] d, .int .i64 (-1)] (.tup [.sl 0 [] (some 0), .int .i64 1]) := by
 have h := all22 16 16 (bRows 64) 1 c 0 [] d (-1) (.inr rfl) (by rw [bRows_len]; decide) b_row (.inl rfl) (by decide)
 rw [allM, b_readyN, if_pos (by decide)] at h
 exact h
theorem b_allZ (c : Option Nat) (d : Option Nat) : PC Tryd.prog G0 22 [bM c, .sl 0 [] d, .int .i64 0] (.tup [.sl 6 [] (some 0), .int .i64 0]) := by
 have h := all22 16 16 (bRows 64) 1 c 0 [] d 0 (.inr rfl) (by rw [bRows_len]; decide) b_row (.inl rfl) (by decide)
 rw [allM, b_readyZ, if_neg (by simp)] at h
 exact h
theorem b_chk (c : Option Nat) : PC Tryd.prog G0 13 [bM c, .agg [.int .i64 3, .int .i64 0, .int .i64 0, .int .i64 0, .int .i64 0, .int .i64 0]] (.int .i64 3) := by
 have h := check13 16 16 (bRows 64) 1 c ⟨3, 0, 0, 0, 0, 0⟩ (.inr rfl) (by rw [bRows_len]; decide) b_row
 rw [b_chk3] at h; exact h
theorem b_chkN (c : Option Nat) : PC Tryd.prog G0 13 [bM c, .agg [.int .i64 3, .int .i64 0, .int .i64 0, .int .i64 64, .int .i64 0, .int .i64 0]] (.int .i64 1) := by
 have h := check13 16 16 (bRows 64) 1 c ⟨3, 0, 0, 64, 0, 0⟩ (.inr rfl) (by rw [bRows_len]; decide) b_row
 rw [b_chk64] at h; exact h
theorem b_text : PC Tryd.prog G0 23 [.agg [.int .i64 4, .int .i64 999, .int .i64 0, .int .i64 0, .int .i64 10, .int .i64 999]] (.tup [.str [100, 101, 101, 112, 32, 57, 57, 57, 32, 48, 32, 49, 48, 32, 57, 57, 57], .int .i64 0]) := by
 have h := text23 ⟨4, 999, 0, 0, 10, 999⟩
 have e : textV ⟨4, 999, 0, 0, 10, 999⟩ = .tup [.str [100, 101, 101, 112, 32, 57, 57, 57, 32, 48, 32, 49, 48, 32, 57, 57, 57], .int .i64 0] := by
  have hl : fldF ⟨4, 999, 0, 0, 10, 999⟩ = [999, 0, 10, 999] := by decide +kernel
  have ho : okF ⟨4, 999, 0, 0, 10, 999⟩ = true := by decide +kernel
  have h9 : Lib.itoa 999 = [57, 57, 57] := by rw [itoa_big _ (by decide), itoa_big _ (by decide), itoa_small _ (by decide) (by decide), itoa_small _ (by decide) (by decide), itoa_small _ (by decide) (by decide)]; decide +kernel
  have h0 : Lib.itoa 0 = [48] := by rw [itoa_small _ (by decide) (by decide)]; decide +kernel
  have h10 : Lib.itoa 10 = [49, 48] := by rw [itoa_big _ (by decide), itoa_small _ (by decide) (by decide), itoa_small _ (by decide) (by decide)]; decide +kernel
  rw [textV, if_pos ho, hl]
  simp only [numsB, List.flatMap_cons, List.flatMap_nil, h9, h0, h10]
  rfl
 rw [e] at h; exact h
theorem b_text2 : PC Tryd.prog G0 23 [.agg [.int .i64 2, .int .i64 1000, .int .i64 0, .int .i64 0, .int .i64 0, .int .i64 0]] (.tup [.str [], .int .i64 1]) := by
 have h := text23 ⟨2, 1000, 0, 0, 0, 0⟩
 rw [textV, if_neg (by decide +kernel)] at h; exact h
theorem b_text3 : PC Tryd.prog G0 23 [.agg [.int .i64 2, .int .i64 0, .int .i64 0, .int .i64 0, .int .i64 1, .int .i64 0]] (.tup [.str [], .int .i64 1]) := by
 have h := text23 ⟨2, 0, 0, 0, 1, 0⟩
 rw [textV, if_neg (by decide +kernel)] at h; exact h
end Go.Proofs

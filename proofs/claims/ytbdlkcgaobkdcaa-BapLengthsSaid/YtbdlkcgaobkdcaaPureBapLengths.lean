/- The pure statement of the law BapLengths: a length that is wrong is refused, what stands behind it is let go; at all whole numbers and strings; no condition. -/
import Derived.Test.YtbdlkcgaobkdcaaPure9
import Derived.Test.YtbdlkcgaobkdcaaPx32
import Derived.Test.YtbdlkcgaobkdcaaMask
set_option linter.unusedVariables false
set_option linter.unusedSimpArgs false
namespace Go.Proofs.Ytbdlkcgaobkdcaa.Pure
open Go.RowKit Go.Proofs.Ytbdlkcgaobkdcaa.P Go.Proofs.YtbdlkcgaobkdcaaW.PrintWords Go.Proofs.YtbdlkcgaobkdcaaW.PrintLast

theorem lengths_code (x : Int) : ∃ c, wrap64 (1 + wrap64 (2 * wrap64 (Int.tmod (IntKind.u64.wrap x) 4))) = c ∧ 1 ≤ c ∧ c ≤ 8 ∧ c % 2 = 1 := by
  refine ⟨_, rfl, ?_⟩
  rw [IntKind.wrap_u64, Int.tmod_eq_emod_of_nonneg (by omega)]
  have h : 0 ≤ x % 18446744073709551616 % 4 ∧ x % 18446744073709551616 % 4 < 4 := by omega
  generalize x % 18446744073709551616 % 4 = y at h
  rw [wrap64_of (show -9223372036854775808 ≤ y by omega) (by omega), wrap64_of (show -9223372036854775808 ≤ 2 * y by omega) (by omega), wrap64_of (by omega) (by omega)]
  omega
/-- What a request of a given length answers. -/
theorem lengths_get (c q : Int) (t : List UInt8) (hc : 1 ≤ c ∧ c ≤ 8) (hodd : c % 2 = 1) (n : Nat) (hn : q = (n : Int) + 4) (hq : q ≤ 63) :
    getB (mk (head4 c 3 0 q t)) = if t.length < n then (0, 0, 0, [], 900) else if (getS (mk (t.take n))).2 = 0 then (c, 3, 0, (getS (mk (t.take n))).1, 0) else (0, 0, 0, [], 900) := by
  have hr : (c % 2 == 0) = false := by simp; omega
  rw [getB_head c 3 0 q t ⟨by omega, by omega⟩ (by decide) (by decide) ⟨by omega, by omega⟩ n (by omega), hr]
  have hm := mayB_mk hc.1 hc.2 (show (0 : Int) ≤ 3 by decide) (show (3 : Int) ≤ 255 by decide)
  have h0 : (if false = true then 1 else 0 : Nat) = 0 := rfl
  rw [h0, List.drop_zero, if_neg (show ¬ 2044 < n by omega)]
  by_cases h : t.length < n
  · rw [if_pos (.inr (.inr h)), if_pos h]
  · have c1 : ¬ (mayB c 3 = false ∨ n < 0 ∨ t.length < n) := by
      rintro (h1 | h1 | h1)
      · rw [hm] at h1; cases h1
      · omega
      · exact h h1
    rw [if_neg c1, if_neg h]
    rfl
theorem lengths_j0 (k : Nat) (hk : 4000 < k) (c q : Int) (x : ByteArray) (hc : 1 ≤ c ∧ c ≤ 8) (hodd : c % 2 = 1) (hq : 0 ≤ q ∧ q < 64) (hx : x.size ≤ 60) :
    withylaw9_BapLengths.j0 k c q x = some true := by
  obtain ⟨k, rfl⟩ : ∃ m, k = m + 1 := ⟨k - 1, by omega⟩
  obtain ⟨k, rfl⟩ : ∃ m, k = m + 1 := ⟨k - 1, by omega⟩
  have hs : ∀ y : ByteArray, strOfNums [c % 256, 3, 0, q % 256] ++ y = mk (head4 c 3 0 q y.data.toList) := by
    intro y
    rw [Int.emod_eq_of_lt (show 0 ≤ c by omega) (by omega), Int.emod_eq_of_lt hq.1 (show q < 256 by omega)]
    exact head4_eq c 3 0 q y
  have hz : (strOfNums [c % 256, 3, 0, q % 256]).size = 4 := by simp [strOfNums]; rfl
  simp only [withylaw9_BapLengths.j0, Option.bind_some]
  rw [if_pos (by rw [hz]; omega), hs, getB_eq _ (k + 1) (by omega), Option.bind_some]
  have xl : x.data.toList.length = x.size := size_eq x
  by_cases h4 : q < 4
  · rw [if_pos h4, getB_short c 3 0 q x.data.toList (by decide) ⟨hq.1, by omega⟩ (by omega)]
    simp only [withylaw9_BapLengths.j1, withylaw0_Num.f, Option.bind_some, if_true]
    rw [sameBap_refl k 0 0 0 [] (by simp) (by simp; omega)]; rfl
  · rw [if_neg h4]
    obtain ⟨n, hn⟩ : ∃ n : Nat, q = (n : Int) + 4 := ⟨(q - 4).toNat, by omega⟩
    have hg := lengths_get c q x.data.toList hc hodd n hn (by omega)
    rw [wrap64_of (show -9223372036854775808 ≤ (x.size : Int) + 4 by omega) (by omega)]
    by_cases hlen : x.size < n
    · rw [if_pos (by omega)] at hg
      rw [hg, decide_eq_true (show q > (x.size : Int) + 4 by omega)]
      simp only [withylaw9_BapLengths.j1, withylaw0_Num.f, Option.bind_some, if_true]
      rw [sameBap_refl k 0 0 0 [] (by simp) (by simp; omega)]; rfl
    · rw [decide_eq_false (show ¬ q > (x.size : Int) + 4 by omega)]
      have hcut : (x.extract 0 n).data.toList = x.data.toList.take n := by
        conv => lhs; rw [← mk_data x, extract_mk, data_mk, List.drop_zero]
      have hg2 := lengths_get c q (x.data.toList.take n) hc hodd n hn (by omega)
      have hl : (x.data.toList.take n).length = n := by rw [List.length_take]; omega
      rw [if_neg (by omega), List.take_take, Nat.min_self] at hg2
      rw [if_neg (by omega)] at hg
      simp only [withylaw9_BapLengths.j1, withylaw0_Num.f, Option.bind_some]
      have hw : wrap64 (q - 4) = (n : Int) := by rw [wrap64_of (by omega) (by omega)]; omega
      have hzz : (x.extract 0 n).size ≤ 60 := by rw [ByteArray.size_extract]; omega
      rw [if_neg (by decide), hw, if_pos (by omega), if_pos (by omega), Int.toNat_natCast, if_pos (by rw [hz]; omega), hs, hcut, getB_eq _ k (by omega), Option.bind_some, hg2, hg]
      by_cases hd : (getS (mk (x.data.toList.take n))).2 = 0
      · rw [if_pos hd]
        have := getS_len (mk (x.data.toList.take n))
        simp only [if_true]
        rw [sameBap_refl k c 3 0 _ (by omega) (by omega)]
        rfl
      · rw [if_neg hd]
        simp only [if_true]
        rw [sameBap_refl k 0 0 0 [] (by simp) (by simp; omega)]
        rfl
theorem BapLengths : withylaw9_BapLengths.Pure := by
  intro a0 a1 a2 _ _ h2
  refine ⟨5000, ?_⟩
  unfold withylaw9_BapLengths.f
  obtain ⟨c, hc, hc1, hc8, hodd⟩ := lengths_code a0
  rw [awake9 5000 (by omega), hc, mask63]
  simp only [Option.bind_some, if_true]
  have hq : 0 ≤ a1 % 64 ∧ a1 % 64 < 64 := by omega
  by_cases h : (a2.size : Int) > 60
  · rw [if_pos h, if_pos (by decide), if_pos (by omega)]
    exact lengths_j0 5000 (by omega) c _ _ ⟨hc1, hc8⟩ hodd hq (by rw [ByteArray.size_extract]; omega)
  · rw [if_neg h]
    exact lengths_j0 5000 (by omega) c _ _ ⟨hc1, hc8⟩ hodd hq (by omega)
#print axioms BapLengths
end Go.Proofs.Ytbdlkcgaobkdcaa.Pure

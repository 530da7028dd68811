/- The pure statement of the law BapAnswers: responses have an answer, requests none; at all whole numbers of 64 bits; no condition. -/
import Derived.Test.YtbdlkcgaobkdcaaPure9
import Derived.Test.YtbdlkcgaobkdcaaPx31
import Derived.Test.YtbdlkcgaobkdcaaMask
set_option linter.unusedVariables false
set_option linter.unusedSimpArgs false
namespace Go.Proofs.Ytbdlkcgaobkdcaa.Pure
open Go.RowKit Go.Proofs.Ytbdlkcgaobkdcaa.P Go.Proofs.YtbdlkcgaobkdcaaW.PrintWords Go.Proofs.YtbdlkcgaobkdcaaW.PrintLast

theorem answers_code (x : Int) : ∃ c, wrap64 (1 + wrap64 (Int.tmod (IntKind.u64.wrap x) 8)) = c ∧ 1 ≤ c ∧ c ≤ 8 := by
  refine ⟨_, rfl, ?_⟩
  rw [IntKind.wrap_u64, Int.tmod_eq_emod_of_nonneg (by omega)]
  have h : 0 ≤ x % 18446744073709551616 % 8 ∧ x % 18446744073709551616 % 8 < 8 := by omega
  generalize x % 18446744073709551616 % 8 = y at h
  rw [wrap64_of (show -9223372036854775808 ≤ y by omega) (by omega), wrap64_of (by omega) (by omega)]
  omega
/-- A datagram without options that is written. -/
theorem bap_none (c i a : Int) (hc : 1 ≤ c ∧ c ≤ 8) (hi : 0 ≤ i ∧ i ≤ 255) (ha : 0 ≤ a ∧ a ≤ 255) :
    bapS c i a [] = if c % 2 = 1 ∧ a ≠ 0 then (⟨#[]⟩, 900) else (mk (head4 c i 0 (if (c % 2 == 0) = true then 5 else 4) (if (c % 2 == 0) = true then [UInt8.ofNat a.toNat] else [])), 0) := by
  have hm := mayB_mk hc.1 hc.2 hi.1 hi.2
  unfold bapS
  by_cases hodd : c % 2 = 1
  · have hr : (c % 2 == 0) = false := by simp; omega
    rw [hr]
    by_cases hz : a ≠ 0
    · rw [if_pos (.inr (.inr (.inr (.inl ⟨rfl, hz⟩)))), if_pos ⟨hodd, hz⟩]
    · have c1 : ¬ (mayB c i = false ∨ a < 0 ∨ 255 < a ∨ (false = false ∧ a ≠ 0) ∨ (putS []).2 ≠ 0) := by
        rintro (h | h | h | ⟨_, h⟩ | h)
        · rw [hm] at h; cases h
        · omega
        · omega
        · exact hz h
        · exact h rfl
      rw [if_neg c1, if_neg (by decide), if_neg (by rw [putS_nil]; decide), if_neg (fun h => hz h.2), head4_eq, if_neg (by decide), if_neg (by decide)]
      rfl
  · have hr : (c % 2 == 0) = true := by simp; omega
    rw [hr]
    have c1 : ¬ (mayB c i = false ∨ a < 0 ∨ 255 < a ∨ (true = false ∧ a ≠ 0) ∨ (putS []).2 ≠ 0) := by
      rintro (h | h | h | ⟨h, _⟩ | h)
      · rw [hm] at h; cases h
      · omega
      · omega
      · cases h
      · exact h rfl
    rw [if_neg c1, if_pos rfl, if_neg (by rw [putS_nil]; decide), if_neg (fun h => hodd h.1), head4_eq, if_pos rfl, if_pos rfl]
    rfl
theorem answers_j1 (k : Nat) (hk : 3000 < k) (c i a : Int) (s : ByteArray) (n : Int) (hs : s.size = n.toNat) (hn : 4 ≤ n ∧ n ≤ 5) : withylaw9_BapAnswers.j1 k c i a s 0 0 n c i a [] = some true := by
  obtain ⟨k, rfl⟩ : ∃ m, k = m + 1 := ⟨k - 1, by omega⟩
  simp only [withylaw9_BapAnswers.j1, withylaw0_Num.f]
  have he : (s.extract 1 s.size).size = s.size - 1 := by rw [ByteArray.size_extract]; omega
  rw [if_pos (by omega), if_pos (by omega), getB_eq _ k (by omega)]
  have hb : (getB ((⟨#[0]⟩ : ByteArray) ++ s.extract 1 s.size)).2.2.2.2 = 900 := by
    have hh : (⟨#[0]⟩ : ByteArray) ++ s.extract 1 s.size = mk ((0 : UInt8) :: (s.data.toList.drop 1)) := by
      apply bytes_ext
      rw [ByteArray.data_append, Array.toList_append, ← mk_data s, extract_mk, data_mk, data_mk]
      rw [show (mk s.data.toList).size = s.data.toList.length from rfl, List.take_length]
      rfl
    rw [hh]
    unfold getB
    have b0 : bt (mk ((0 : UInt8) :: (s.data.toList.drop 1))) 0 = 0 := bt_mk _ 0
    split
    · rfl
    · rw [if_pos (.inl (by rw [b0]; exact mayB_no (.inl (by omega))))]
  simp only [Option.bind_some]
  simp only [if_true]
  rw [if_pos (by omega), sameBap_refl k c i a [] (by simp) (by simp; omega), hb]
  rfl
theorem BapAnswers : withylaw9_BapAnswers.Pure := by
  intro a0 a1 a2 _ _ _
  refine ⟨5000, ?_⟩
  unfold withylaw9_BapAnswers.f bapmsg_Put.f
  obtain ⟨c, hc, hc1, hc8⟩ := answers_code a0
  rw [awake9 5000 (by omega), hc, mask255, mask255, mask1]
  simp only [Option.bind_some, if_true]
  have hi : 0 ≤ a1 % 256 ∧ a1 % 256 ≤ 255 := by omega
  have ha : 0 ≤ a2 % 256 ∧ a2 % 256 ≤ 255 := by omega
  generalize a1 % 256 = i at hi
  generalize a2 % 256 = a at ha
  have hp := bap_none c i a ⟨hc1, hc8⟩ hi ha
  have fin : ∀ (s : ByteArray), bapS c i a [] = (s, 0) → s.size = (if (c % 2 == 0) = true then 5 else 4) → withylaw9_BapAnswers.j0 5000 c i a s 0 false = some true := by
    intro s h hz
    simp only [withylaw9_BapAnswers.j0]
    rw [if_neg (by decide), getB_eq _ 4999 (by omega)]
    have back := bap_back h ⟨#[]⟩
    rw [bytes_nil] at back
    rw [back]
    simp only [Option.bind_some]
    rw [mask1]
    by_cases hodd : c % 2 = 0
    · rw [if_pos hodd]
      have hr : (c % 2 == 0) = true := by simp [hodd]
      rw [hr, if_pos rfl] at hz
      exact answers_j1 4999 (by omega) c i a s 5 hz (by omega)
    · rw [if_neg hodd]
      have hr : (c % 2 == 0) = false := by simpa using hodd
      rw [hr, if_neg (by decide)] at hz
      exact answers_j1 4999 (by omega) c i a s 4 hz (by omega)
  by_cases hodd : c % 2 = 1
  · rw [if_pos hodd]
    have hr : (c % 2 == 0) = false := by simp; omega
    by_cases hz : a ≠ 0
    · rw [if_pos ⟨hodd, hz⟩] at hp
      rw [hp]
      simp only [withylaw9_BapAnswers.j0, withylaw0_Num.f, Option.bind_some]
      have q : (a != 0) = true := by simpa using hz
      rw [q, toList_eq]
      rfl
    · rw [if_neg (fun h => hz h.2)] at hp
      have q : (a != 0) = false := by simpa using hz
      rw [q]
      have := fin _ hp (by rw [hr, size_mk, head4_length]; rfl)
      rw [hp]
      exact this
  · rw [if_neg hodd]
    have hr : (c % 2 == 0) = true := by simp; omega
    rw [if_neg (fun h => hodd h.1)] at hp
    have := fin _ hp (by rw [hr, size_mk, head4_length]; rfl)
    rw [hp]
    exact this
#print axioms BapAnswers
end Go.Proofs.Ytbdlkcgaobkdcaa.Pure

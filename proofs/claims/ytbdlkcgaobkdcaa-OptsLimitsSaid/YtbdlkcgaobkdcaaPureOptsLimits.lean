/- The pure statement of the law OptsLimits: which kinds, how much data there may be, at all whole numbers of 64 bits; no condition. -/
import Derived.Test.YtbdlkcgaobkdcaaPx7
import Derived.Test.YtbdlkcgaobkdcaaPure4
namespace Go.Proofs.Ytbdlkcgaobkdcaa.Pure
open Go.RowKit Go.Proofs.Ytbdlkcgaobkdcaa.P Go.Proofs.YtbdlkcgaobkdcaaW.PrintWords Go.Proofs.YtbdlkcgaobkdcaaW.PrintLast

theorem limits_second (k : Nat) (hk : 0 < k) (m : Int) (s : ByteArray) (e : Int) (bad : Bool) (h : (bad = true ∧ s = ⟨#[]⟩ ∧ e = 400) ∨ (bad = false ∧ ((253 < m ∧ e = 401) ∨ (m ≤ 253 ∧ e = 0)))) : withylaw4_OptsLimits.j0 k m s e bad = some true := by
  obtain ⟨k, rfl⟩ : ∃ m, k = m + 1 := ⟨k - 1, by omega⟩
  simp only [withylaw4_OptsLimits.j0]
  have hn : putS [] = (⟨#[]⟩, 0) := rfl
  simp only [opts_Put.f, hn, Option.bind_some, withylaw0_Num.f]
  have hz : (⟨#[]⟩ : ByteArray).toList = [] := by rw [toList_eq]
  rcases h with ⟨rfl, rfl, rfl⟩ | ⟨rfl, ⟨h1, rfl⟩ | ⟨h1, rfl⟩⟩
  · simp [hz]
  · have : ¬ m ≤ 253 := by omega
    simp [this, hz]
  · simp [h1, hz]
theorem limits4 (k : Nat) (hk : 2048 < k) (a0 a1 : Int) : withylaw4_OptsLimits.f k a0 a1 = some true := by
  unfold withylaw4_OptsLimits.f
  have wq : wrap64 (251 + Go.bits .and .i64 a1 3) = 251 + a1 % 4 := by rw [mask3, wrap64_of (by omega) (by omega)]
  rw [awake4 k hk, wq]
  simp only [Option.bind_some, if_true]
  rw [if_pos (by omega), if_pos (by omega)]
  simp only [opts_Put.f, Option.bind_some]
  rw [put_one, strOf_len, List.length_replicate]
  by_cases c1 : a0 < 0
  · rw [if_pos c1, if_pos (.inl c1)]
    exact limits_second k (by omega) _ _ _ _ (.inl ⟨rfl, rfl, rfl⟩)
  · rw [if_neg c1]
    by_cases c2 : 255 < a0
    · rw [if_pos (.inr c2)]
      exact limits_second k (by omega) _ _ _ _ (.inl ⟨by simp [c2], rfl, rfl⟩)
    · rw [if_neg (by omega)]
      by_cases c3 : 253 < (251 + a1 % 4).toNat
      · rw [if_pos c3]
        exact limits_second k (by omega) _ _ _ _ (.inr ⟨by simp; omega, .inl ⟨by omega, rfl⟩⟩)
      · rw [if_neg c3]
        exact limits_second k (by omega) _ _ _ _ (.inr ⟨by simp; omega, .inr ⟨by omega, rfl⟩⟩)
theorem OptsLimits : withylaw4_OptsLimits.Pure := fun a0 a1 _ _ => ⟨3000, limits4 3000 (by omega) a0 a1⟩
end Go.Proofs.Ytbdlkcgaobkdcaa.Pure

/- The pure statement of the law ElectOne: of two exchanges that cross just one wins, told by both sides alike, at all whole numbers of 64 bits; no condition. -/
import Derived.Test.YtbdlkcgaobkdcaaPElectOnex1
import Derived.Test.YtbdlkcgaobkdcaaMask
namespace Go.Proofs.Ytbdlkcgaobkdcaa.Pure
open Go.RowKit Go.Proofs.Ytbdlkcgaobkdcaa.PElectOne Go.Proofs.YtbdlkcgaobkdcaaW.PrintWords Go.Proofs.YtbdlkcgaobkdcaaW.PrintLast

theorem one_awake : withylaw21_awake.f = some true := by decide +kernel
theorem one_magic (p : Int) (h1 : 1 ≤ p) (h2 : p ≤ 4294967295) : elect_magic.f p = some true := by
  unfold elect_magic.f
  rw [if_pos h1]
  simp [h2]
theorem one_fav (p q : Int) (h1 : 1 ≤ p) (h2 : p ≤ 4294967295) (h3 : 1 ≤ q) (h4 : q ≤ 4294967295) : elect_Favoured.f p q = some (if p = q then (false, 2100) else (decide (p < q), 0)) := by
  unfold elect_Favoured.f
  rw [one_magic p h1 h2, one_magic q h3 h4]
  by_cases e : p = q <;> simp [e]
theorem one_wins (p q u v : Int) (h1 : 1 ≤ p) (h2 : p ≤ 4294967295) (h3 : 1 ≤ q) (h4 : q ≤ 4294967295) (hu : u = 1 ∨ u = 3 ∨ u = 5) (hv : v = 1 ∨ v = 3 ∨ v = 5) :
    elect_Wins.f p q u v = some (if p = q then (false, 2100) else (if ((u == 5) != (v == 5)) = true then v == 5 else decide (p < q), 0)) := by
  unfold elect_Wins.f
  rw [one_fav p q h1 h2 h3 h4]
  have ru : elect_Request.f u = some true := by rcases hu with rfl | rfl | rfl <;> rfl
  have rv : elect_Request.f v = some true := by rcases hv with rfl | rfl | rfl <;> rfl
  by_cases e : p = q
  · simp [e]
  · simp only [if_neg e, Option.bind_some, ru, rv, if_true]
    unfold elect_Crossed.f
    split <;> rfl
theorem one_code (x : Int) : ∃ u, rd ([1, 3, 5] : List Int) (Int.tmod (IntKind.u64.wrap x) 3) = u ∧ (u = 1 ∨ u = 3 ∨ u = 5) := by
  refine ⟨_, rfl, ?_⟩
  obtain ⟨h0, h1⟩ := tmod3 x
  generalize Int.tmod (IntKind.u64.wrap x) 3 = m at h0 h1
  obtain rfl | rfl | rfl : m = 0 ∨ m = 1 ∨ m = 2 := by omega
  · exact .inl rfl
  · exact .inr (.inl rfl)
  · exact .inr (.inr rfl)

theorem ElectOne : withylaw21_ElectOne.Pure := by
  intro a0 a1 a2 a3 _ _ _ _
  unfold withylaw21_ElectOne.f
  rw [one_awake]
  obtain ⟨u, hu, hu'⟩ := one_code a2
  obtain ⟨v, hv, hv'⟩ := one_code a3
  obtain ⟨x0, x1⟩ := tmod3 a2
  obtain ⟨y0, y1⟩ := tmod3 a3
  have wp : wrap64 (1 + Go.bits .and .i64 a0 1048575) = 1 + a0 % 1048576 := by rw [mask20, wrap64_of (by omega) (by omega)]
  have wq : wrap64 (1 + Go.bits .and .i64 a1 1048575) = 1 + a1 % 1048576 := by rw [mask20, wrap64_of (by omega) (by omega)]
  rw [wp, wq]
  have hp1 : 1 ≤ 1 + a0 % 1048576 := by omega
  have hp2 : 1 + a0 % 1048576 ≤ 4294967295 := by omega
  have hq1 : 1 ≤ 1 + a1 % 1048576 := by omega
  have hq2 : 1 + a1 % 1048576 ≤ 4294967295 := by omega
  generalize 1 + a0 % 1048576 = p at *
  generalize 1 + a1 % 1048576 = q at *
  simp only [Option.bind_some, if_true]
  rw [if_pos x0, if_pos (by simpa using x1), if_pos y0, if_pos (by simpa using y1), hu, hv]
  rw [one_fav p q hp1 hp2 hq1 hq2, one_fav q p hq1 hq2 hp1 hp2, one_wins p q u v hp1 hp2 hq1 hq2 hu' hv', one_wins q p v u hq1 hq2 hp1 hp2 hv' hu']
  clear hu hv x0 x1 y0 y1 wp wq
  by_cases e : p = q
  · subst e
    simp [withylaw0_Num.f]
  · have e' : ¬ q = p := fun h => e h.symm
    simp only [if_neg e, if_neg e', Option.bind_some, withylaw0_Num.f, if_true]
    have hd : (decide (p < q) != decide (q < p)) = true := by
      by_cases h : p < q
      · have : ¬ q < p := by omega
        simp [h, this]
      · have : q < p := by omega
        simp [h, this]
    rw [if_pos hd]
    rcases hu' with rfl | rfl | rfl <;> rcases hv' with rfl | rfl | rfl <;> simp [hd]

end Go.Proofs.Ytbdlkcgaobkdcaa.Pure

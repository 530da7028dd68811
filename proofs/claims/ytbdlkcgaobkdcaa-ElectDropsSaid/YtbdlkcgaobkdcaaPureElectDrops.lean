/- The pure statement of the law ElectDrops: a drop loses against another code, whoever asks, at all whole numbers of 64 bits; no condition. -/
import Derived.Test.YtbdlkcgaobkdcaaPElectDropsx1
import Derived.Test.YtbdlkcgaobkdcaaMask
namespace Go.Proofs.Ytbdlkcgaobkdcaa.Pure
open Go.RowKit Go.Proofs.Ytbdlkcgaobkdcaa.PElectDrops Go.Proofs.YtbdlkcgaobkdcaaW.PrintWords Go.Proofs.YtbdlkcgaobkdcaaW.PrintLast

theorem drops_awake : withylaw21_awake.f = some true := by decide +kernel
theorem drops_magic (p : Int) (h1 : 1 ≤ p) (h2 : p ≤ 4294967295) : elect_magic.f p = some true := by
  unfold elect_magic.f
  rw [if_pos h1]
  simp [h2]
theorem drops_fav (p q : Int) (h1 : 1 ≤ p) (h2 : p ≤ 4294967295) (h3 : 1 ≤ q) (h4 : q ≤ 4294967295) : elect_Favoured.f p q = some (if p = q then (false, 2100) else (decide (p < q), 0)) := by
  unfold elect_Favoured.f
  rw [drops_magic p h1 h2, drops_magic q h3 h4]
  by_cases e : p = q <;> simp [e]
theorem drops_zero (q : Int) : elect_Favoured.f 0 q = some (false, 2100) := rfl
theorem drops_round (p q c : Int) (h1 : 1 ≤ p) (h2 : p ≤ 1048576) (h3 : 2000000 ≤ q) (h4 : q ≤ 4000000) (hc : c = 1 ∨ c = 3) : withylaw21_ElectDrops.j0 1 p q c = some true := by
  have hpq : ¬ p = q := by omega
  have hqp : ¬ q = p := by omega
  have hlt : p < q := by omega
  have f1 : elect_Favoured.f p q = some (true, 0) := by rw [drops_fav p q h1 (by omega) (by omega) (by omega), if_neg hpq]; simp [hlt]
  have f2 : elect_Favoured.f q p = some (false, 0) := by
    rw [drops_fav q p (by omega) (by omega) h1 (by omega), if_neg hqp]
    have : ¬ q < p := by omega
    simp [this]
  rcases hc with rfl | rfl <;> simp [withylaw21_ElectDrops.j0, elect_Wins.f, f1, f2, elect_Request.f, elect_Crossed.f, drops_zero, withylaw0_Num.f]

theorem ElectDrops : withylaw21_ElectDrops.Pure := by
  intro a0 a1 a2 _ _ _
  refine ⟨1, ?_⟩
  unfold withylaw21_ElectDrops.f
  rw [drops_awake]
  have wp : wrap64 (1 + Go.bits .and .i64 a0 1048575) = 1 + a0 % 1048576 := by rw [mask20, wrap64_of (by omega) (by omega)]
  have wq : wrap64 (2000000 + Go.bits .and .i64 a1 1048575) = 2000000 + a1 % 1048576 := by rw [mask20, wrap64_of (by omega) (by omega)]
  rw [wp, wq]
  simp only [Option.bind_some, if_true]
  split
  · exact drops_round _ _ 3 (by omega) (by omega) (by omega) (by omega) (.inr rfl)
  · exact drops_round _ _ 1 (by omega) (by omega) (by omega) (by omega) (.inl rfl)

end Go.Proofs.Ytbdlkcgaobkdcaa.Pure

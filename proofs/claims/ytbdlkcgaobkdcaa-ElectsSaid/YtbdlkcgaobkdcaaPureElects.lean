/- The pure statement of the law Elects: the program's Favoured and Wins answer as the reference's do, at all whole numbers of 64 bits; no condition. -/
import Derived.Test.YtbdlkcgaobkdcaaPElectsx1
namespace Go.Proofs.Ytbdlkcgaobkdcaa.Pure
open Go.RowKit Go.Proofs.Ytbdlkcgaobkdcaa.PElects Go.Proofs.YtbdlkcgaobkdcaaW.PrintWords Go.Proofs.YtbdlkcgaobkdcaaW.PrintLast

theorem elects_fav_eq : withyref21_Favoured.f = elect_Favoured.f := rfl
theorem elects_wins_eq : withyref21_Wins.f = elect_Wins.f := rfl
theorem elects_awake : withylaw21_awake.f = some true := by decide +kernel
theorem elects_fav (a b : Int) : ∃ r, elect_Favoured.f a b = some r := by
  unfold elect_Favoured.f elect_magic.f
  by_cases h1 : a ≥ 1
  · rw [if_pos h1]
    simp only [Option.bind_some]
    split
    · by_cases h2 : b ≥ 1
      · rw [if_pos h2]
        simp only [Option.bind_some]
        split
        · split <;> exact ⟨_, rfl⟩
        · exact ⟨_, rfl⟩
      · rw [if_neg h2]
        exact ⟨_, rfl⟩
    · exact ⟨_, rfl⟩
  · rw [if_neg h1]
    exact ⟨_, rfl⟩
theorem elects_req (a : Int) : ∃ r, elect_Request.f a = some r := by
  unfold elect_Request.f
  split
  · exact ⟨_, rfl⟩
  · split <;> exact ⟨_, rfl⟩
theorem elects_cross (f : Bool) (a b : Int) : ∃ r, elect_Crossed.f f a b = some r := by
  unfold elect_Crossed.f
  split <;> exact ⟨_, rfl⟩
theorem elects_wins (a b x y : Int) : ∃ r, elect_Wins.f a b x y = some r := by
  unfold elect_Wins.f
  obtain ⟨r, hr⟩ := elects_fav a b
  obtain ⟨p, hp⟩ := elects_req x
  obtain ⟨q, hq⟩ := elects_req y
  obtain ⟨c, hc⟩ := elects_cross r.1 x y
  rw [hr, hp, hq]
  simp only [Option.bind_some]
  rw [hc]
  simp only [Option.bind_some]
  split
  · split
    · split <;> exact ⟨_, rfl⟩
    · exact ⟨_, rfl⟩
  · exact ⟨_, rfl⟩

theorem Elects : withylaw21_Elects.Pure := by
  intro a0 a1 a2 a3 _ _ _ _
  unfold withylaw21_Elects.f
  rw [elects_fav_eq, elects_wins_eq, elects_awake]
  obtain ⟨r, hr⟩ := elects_fav a0 a1
  obtain ⟨s, hs⟩ := elects_wins a0 a1 a2 a3
  rw [hr, hs]
  simp [withylaw0_Num.f]

end Go.Proofs.Ytbdlkcgaobkdcaa.Pure

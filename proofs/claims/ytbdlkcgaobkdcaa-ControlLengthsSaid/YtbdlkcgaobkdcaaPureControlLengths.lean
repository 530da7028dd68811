/- The pure statement of the law ControlLengths: a length that is wrong is refused, what stands behind it is let go; conditions: the sizes that every row has. -/
import Derived.Test.YtbdlkcgaobkdcaaPure5
import Derived.Test.YtbdlkcgaobkdcaaPx22
import Derived.Test.YtbdlkcgaobkdcaaMask
set_option linter.unusedVariables false
set_option linter.unusedSimpArgs false
namespace Go.Proofs.Ytbdlkcgaobkdcaa.Pure
open Go.RowKit Go.Proofs.Ytbdlkcgaobkdcaa.P Go.Proofs.YtbdlkcgaobkdcaaW.PrintWords Go.Proofs.YtbdlkcgaobkdcaaW.PrintLast

theorem lengths_j1 (k : Nat) (hk : 2 < k) (d : ByteArray) (n c : Int) (e : Int) (bad : Bool) (r0 r1 : Int) (r2 : List S46) (r3 : ByteArray)
    (h : (bad = true ∧ e = 501 ∧ r0 = 0 ∧ r1 = 0 ∧ r2 = [] ∧ r3 = ⟨#[]⟩) ∨ (bad = false ∧ e = 0 ∧ 4 ≤ n ∧ n ≤ (d.size : Int) + 4 ∧ n ≤ 255 ∧ r0 = c ∧ r1 = 9 ∧ r2 = [] ∧ r3 = d.extract 0 (n - 4).toNat)) :
    withylaw5_ControlLengths.j1 k d n c e bad r0 r1 r2 r3 = some true := by
  obtain ⟨k, rfl⟩ : ∃ m, k = m + 1 := ⟨k - 1, by omega⟩
  simp only [withylaw5_ControlLengths.j1, withylaw0_Num.f, Option.bind_some]
  rcases h with ⟨rfl, rfl, rfl, rfl, rfl, rfl⟩ | ⟨rfl, rfl, h1, h2, h3, rfl, rfl, rfl, rfl⟩
  · simp only [if_true]
    rw [samePacket_refl k 0 0 [] _ (by simp) (by simp; omega)]
    rfl
  · rw [if_neg (by decide), if_pos rfl, wrap64_of (by omega) (by omega), if_pos (by omega), if_pos (by omega), samePacket_refl k _ 9 [] _ (by simp) (by simp; omega)]
    rfl
theorem lengths_j0 (k : Nat) (hk : 3 < k) (a0 a1 : Int) (d : ByteArray) (hd : d.size ≤ 200) : withylaw5_ControlLengths.j0 k a0 a1 d = some true := by
  obtain ⟨k, rfl⟩ : ∃ m, k = m + 1 := ⟨k - 1, by omega⟩
  simp only [withylaw5_ControlLengths.j0, control_Get.f, Option.bind_some]
  rw [mask63, mask255, wrap64_of (show -9223372036854775808 ≤ 5 + a0 % 64 by omega) (by omega)]
  have hsz : ∀ l : List Int, (strOfNums l).size = l.length := fun l => by
    show (l.map fun n => UInt8.ofNat n.toNat).toArray.size = l.length
    simp
  rw [if_pos (by rw [hsz]; simp; omega), head4_eq, show (5 + a0 % 64) % 256 = 5 + a0 % 64 by omega, show a1 % 256 % 256 = a1 % 256 by omega]
  have hdl := data_length d
  by_cases c1 : a1 % 256 < 4
  · rw [if_pos c1, getC_short _ _ _ _ _ (by omega) (by omega) (by omega)]
    exact lengths_j1 k (by omega) d _ _ _ _ _ _ _ _ (.inl ⟨rfl, rfl, rfl, rfl, rfl, rfl⟩)
  · rw [if_neg c1, getC_head _ _ _ _ _ (by omega) (by omega) (by omega) (by omega) (a1 % 256 - 4).toNat (by omega), wrap64_of (show -9223372036854775808 ≤ (d.size : Int) + 4 by omega) (by omega)]
    by_cases c2 : d.data.toList.length < (a1 % 256 - 4).toNat
    · rw [if_pos c2]
      exact lengths_j1 k (by omega) d _ _ _ _ _ _ _ _ (.inl ⟨by simp; omega, rfl, rfl, rfl, rfl, rfl⟩)
    · rw [if_neg c2, if_neg (by omega), if_pos (confB_no (by omega))]
      refine lengths_j1 k (by omega) d _ _ _ _ _ _ _ _ (.inr ⟨by simp; omega, rfl, by omega, by omega, by omega, rfl, rfl, rfl, ?_⟩)
      rw [← mk_data d, extract_mk, List.drop_zero]
      rfl
theorem ControlLengths : withylaw5_ControlLengths.Pure := by
  intro a0 a1 a2 _ _ ha
  refine ⟨10, ?_⟩
  unfold withylaw5_ControlLengths.f
  rw [awake5 10 (by omega)]
  simp only [Option.bind_some, if_true]
  by_cases c : (a2.size : Int) > 200
  · rw [if_pos c, if_pos (by omega), if_pos (by omega)]
    refine lengths_j0 10 (by omega) a0 a1 _ ?_
    rw [← mk_data a2, extract_mk, size_mk, List.drop_zero, List.length_take]
    omega
  · rw [if_neg c]
    exact lengths_j0 10 (by omega) a0 a1 a2 (by omega)
#print axioms ControlLengths
end Go.Proofs.Ytbdlkcgaobkdcaa.Pure

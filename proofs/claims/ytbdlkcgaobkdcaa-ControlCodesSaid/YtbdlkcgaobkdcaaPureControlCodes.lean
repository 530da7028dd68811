/- The pure statement of the law ControlCodes: each code, with its options or bytes, comes back; codes and ids beyond a byte are none; conditions: the sizes that every row has. -/
import Derived.Test.YtbdlkcgaobkdcaaPure5
import Derived.Test.YtbdlkcgaobkdcaaPure4
import Derived.Test.YtbdlkcgaobkdcaaPx24
import Derived.Test.YtbdlkcgaobkdcaaMask
set_option linter.unusedVariables false
set_option linter.unusedSimpArgs false
namespace Go.Proofs.Ytbdlkcgaobkdcaa.Pure
open Go.RowKit Go.Proofs.Ytbdlkcgaobkdcaa.P Go.Proofs.YtbdlkcgaobkdcaaW.PrintWords Go.Proofs.YtbdlkcgaobkdcaaW.PrintLast

theorem codes_j2 (k : Nat) (hk : 10 < k) (a0 a1 : Int) (os : List S46) (d : ByteArray) (hd : d.size ≤ 100) (ho : os.length ≤ 1) (hs : (putS os).2 = 0) (hz : (putS os).1.size ≤ 102) (h4 : confB (a0 % 256) = false → os = []) (h5 : confB (a0 % 256) = true → d = ⟨#[]⟩) :
    withylaw5_ControlCodes.j2 k a0 a1 (a0 % 256) (a1 % 256) os d = some true := by
  obtain ⟨k, rfl⟩ : ∃ m, k = m + 1 := ⟨k - 1, by omega⟩
  simp only [withylaw5_ControlCodes.j2, control_Put.f, control_Get.f]
  have z0 : (⟨#[]⟩ : ByteArray).size ≤ 140737488351232 := by decide
  rw [if_pos (by omega), if_pos z0, if_pos z0, mask255, mask255, wrap64_of (show -9223372036854775808 ≤ 256 + a0 % 256 by omega) (by omega), wrap64_of (show -9223372036854775808 ≤ -1 - a1 % 256 by omega) (by omega)]
  simp only [Option.bind_some, withylaw0_Num.f]
  have ok := ctl_ok_of (c := a0 % 256) (i := a1 % 256) (os := os) (d := d) (octB_mk (by omega) (by omega)) (octB_mk (by omega) (by omega)) hs h4 h5 (by omega)
  have back := ctl_back ok ⟨#[]⟩
  have e1 : ∀ s : ByteArray, s ++ (⟨#[]⟩ : ByteArray) = s := fun s => by
    apply bytes_ext
    rw [ByteArray.data_append, Array.toList_append]
    simp
  rw [e1] at back
  have n1 : ctlS (256 + a0 % 256) 1 [] ⟨#[]⟩ = (⟨#[]⟩, 501) := by
    unfold ctlS
    rw [if_pos (.inl (octB_no (by omega)))]
  have n2 : ctlS 9 (-1 - a1 % 256) [] ⟨#[]⟩ = (⟨#[]⟩, 501) := by
    unfold ctlS
    rw [if_pos (.inr (octB_no (by omega)))]
  rw [n1, n2, ok, back]
  simp only [if_true]
  rw [samePacket_refl k _ _ os d (by omega) (by omega)]
  rfl
theorem codes_j0 (k : Nat) (hk : 20 < k) (a0 a1 : Int) (d : ByteArray) (hd : d.size ≤ 100) : withylaw5_ControlCodes.j0 k a0 a1 d = some true := by
  obtain ⟨k, rfl⟩ : ∃ m, k = m + 2 := ⟨k - 2, by omega⟩
  simp only [withylaw5_ControlCodes.j0, withylaw5_ControlCodes.j1]
  rw [mask255, mask255]
  have hp := put_one 3 d
  rw [if_neg (by omega), if_neg (by omega)] at hp
  have hsz : (mk (optBytes ⟨3, d⟩)).size = 2 + d.size := by rw [size_mk, optBytes_length]
  by_cases c1 : a0 % 256 ≥ 1
  · rw [if_pos c1]
    by_cases c2 : a0 % 256 ≤ 4
    · rw [decide_eq_true c2, if_pos rfl]
      exact codes_j2 k (by omega) a0 a1 _ _ (by decide) (by simp) (by rw [hp]) (by rw [hp, hsz]; omega) (fun h => by rw [confB_mk c1 c2] at h; cases h) (fun _ => rfl)
    · rw [decide_eq_false c2, if_neg (by decide)]
      exact codes_j2 k (by omega) a0 a1 _ _ hd (by simp) rfl (by decide) (fun _ => rfl) (fun h => by rw [confB_no (.inr (by omega))] at h; cases h)
  · rw [if_neg c1, if_neg (by decide)]
    exact codes_j2 k (by omega) a0 a1 _ _ hd (by simp) rfl (by decide) (fun _ => rfl) (fun h => by rw [confB_no (.inl (by omega))] at h; cases h)
theorem ControlCodes : withylaw5_ControlCodes.Pure := by
  intro a0 a1 a2 _ _ ha
  refine ⟨40, ?_⟩
  unfold withylaw5_ControlCodes.f
  rw [awake5 40 (by omega)]
  simp only [Option.bind_some, if_true]
  by_cases c : (a2.size : Int) > 100
  · rw [if_pos c, if_pos (by omega), if_pos (by omega)]
    refine codes_j0 40 (by omega) a0 a1 _ ?_
    rw [← mk_data a2, extract_mk, size_mk, List.drop_zero, List.length_take]
    omega
  · rw [if_neg c]
    exact codes_j0 40 (by omega) a0 a1 a2 (by omega)
#print axioms ControlCodes
end Go.Proofs.Ytbdlkcgaobkdcaa.Pure

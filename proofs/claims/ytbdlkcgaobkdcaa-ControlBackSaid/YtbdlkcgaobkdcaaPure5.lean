/- Plain laws of layer 5: what the laws ControlBack, ControlLengths, ControlKinds and ControlCodes come to; conditions: the sizes that every row has. -/
import Derived.Test.YtbdlkcgaobkdcaaSpec5
import Derived.Test.YtbdlkcgaobkdcaaPx18
import Derived.Test.YtbdlkcgaobkdcaaPx19
set_option linter.unusedVariables false
set_option linter.unusedSimpArgs false
namespace Go.Proofs.Ytbdlkcgaobkdcaa.P
open Go.RowKit Go.Proofs.YtbdlkcgaobkdcaaW.PrintWords Go.Proofs.YtbdlkcgaobkdcaaW.PrintLast

theorem samePacket_refl (k : Nat) (c i : Int) (os : List S46) (d : ByteArray) (hm : os.length ≤ 9223372036854775806) (hk : os.length < k) : withylaw0_SamePacket.f k c i os d c i os d = some true := by
  unfold withylaw0_SamePacket.f
  rw [if_pos rfl, if_pos rfl, if_pos rfl, same_eq os os k hm hk, sameL_refl]
  rfl
theorem awake5_put : ctlS 1 7 [(⟨1, (⟨#[97, 98]⟩ : ByteArray)⟩ : S46)] (⟨#[]⟩ : ByteArray) = (⟨#[1, 7, 0, 8, 1, 4, 97, 98]⟩, 0) := by decide +kernel
theorem awake5_put' : ctlS 9 0 [(⟨1, (⟨#[97, 98]⟩ : ByteArray)⟩ : S46)] (⟨#[]⟩ : ByteArray) = (⟨#[]⟩, 502) := by decide +kernel
theorem awake5 (k : Nat) (hk : 1 < k) : withylaw5_awake.f k = some true := by
  unfold withylaw5_awake.f control_Put.f control_Get.f
  have z0 : (⟨#[]⟩ : ByteArray).size ≤ 140737488351232 := by decide
  simp only [Option.bind_some, if_pos z0, awake5_put, awake5_put']
  have hsz : (⟨#[1, 7, 0, 8, 1, 4, 97, 98]⟩ : ByteArray).size + 3 ≤ 9223372036854775807 := by decide
  rw [if_pos hsz, ctl_back awake5_put]
  have hs : getC (⟨#[1]⟩ : ByteArray) = (0, 0, [], ⟨#[]⟩, 500) := by
    unfold getC
    rw [if_pos (by decide)]
  have ht : (⟨#[1, 7, 0, 8, 1, 4, 97, 98]⟩ : ByteArray).toList = [1, 7, 0, 8, 1, 4, 97, 98] := by rw [toList_eq]
  rw [hs, if_pos ht]
  simp only [withylaw0_Num.f, Option.bind_some, if_true]
  rw [samePacket_refl k 1 7 _ _ (by simp) (by simp; omega)]
  rfl
#print axioms awake5
end Go.Proofs.Ytbdlkcgaobkdcaa.P

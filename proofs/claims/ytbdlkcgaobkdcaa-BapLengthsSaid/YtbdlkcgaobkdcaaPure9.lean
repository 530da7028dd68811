/- Plain laws of layer 9: what awake and the law BapBack come to; conditions: the sizes that every row has. -/
import Derived.Test.YtbdlkcgaobkdcaaSpec9
import Derived.Test.YtbdlkcgaobkdcaaPx28
import Derived.Test.YtbdlkcgaobkdcaaPx29
import Derived.Test.YtbdlkcgaobkdcaaPx30
set_option linter.unusedVariables false
set_option linter.unusedSimpArgs false
namespace Go.Proofs.Ytbdlkcgaobkdcaa.P
open Go.RowKit Go.Proofs.YtbdlkcgaobkdcaaW.PrintWords Go.Proofs.YtbdlkcgaobkdcaaW.PrintLast

theorem sameBap_refl (k : Nat) (c i a : Int) (os : List S46) (hm : os.length ≤ 9223372036854775806) (hk : os.length < k) : withylaw0_SameBap.f k c i a os c i a os = some true := by
  unfold withylaw0_SameBap.f
  rw [if_pos rfl, if_pos rfl, if_pos rfl, same_eq os os k hm hk, sameL_refl]
  rfl
theorem bytes_nil (s : ByteArray) : s ++ (⟨#[]⟩ : ByteArray) = s := by
  apply bytes_ext
  rw [ByteArray.data_append, Array.toList_append]
  simp
theorem awake9_put : bapS 2 4 1 [(⟨1, (⟨#[122]⟩ : ByteArray)⟩ : S46)] = (⟨#[2, 4, 0, 8, 1, 1, 3, 122]⟩, 0) := by decide +kernel
theorem awake9_put' : bapS 1 0 1 [] = (⟨#[]⟩, 900) := by decide +kernel
theorem awake9 (k : Nat) (hk : 2051 < k) : withylaw9_awake.f k = some true := by
  unfold withylaw9_awake.f bapmsg_Put.f
  simp only [Option.bind_some, awake9_put, awake9_put']
  rw [getB_eq _ k hk, getB_eq _ k hk]
  have back := bap_back awake9_put ⟨#[]⟩
  rw [bytes_nil] at back
  have hs : getB (⟨#[9, 0, 0, 4]⟩ : ByteArray) = (0, 0, 0, [], 900) := by
    unfold getB
    rw [if_neg (by decide), if_pos (.inl (by decide +kernel))]
  have ht : (⟨#[2, 4, 0, 8, 1, 1, 3, 122]⟩ : ByteArray).toList = [2, 4, 0, 8, 1, 1, 3, 122] := by rw [toList_eq]
  rw [back, hs]
  simp only [Option.bind_some, withylaw0_Num.f]
  rw [if_pos ht, sameBap_refl k 2 4 1 _ (by simp) (by simp; omega)]
  simp
theorem bapBack_pure (k : Nat) (c i a : Int) (os : List S46) (more : ByteArray) (hm : more.size ≤ 140737488351232) (hn : os.length * 24 ≤ 140737488351232) (hk : 140737488351232 < k) : withylaw9_BapBack.f k c i a os more = some true := by
  unfold withylaw9_BapBack.f bapmsg_Put.f
  rw [awake9 k (by omega)]
  simp only [Option.bind_some, if_true, withylaw0_Num.f]
  rcases hp : bapS c i a os with ⟨s, e⟩
  simp only
  by_cases he : e = 0
  · subst he
    obtain ⟨z1, z2⟩ := bap_size hp
    have hw : wrap64 ((s.size : Int) - 1) = (s.size : Int) - 1 := wrap64_of (by omega) (by omega)
    rw [if_pos rfl, if_pos (by omega), getB_eq _ k (by omega), hw, bap_back hp more]
    simp only [if_true, Option.bind_some]
    rw [if_pos (by omega), if_pos (by omega), getB_eq _ k (by omega)]
    simp only [if_true, Option.bind_some]
    rw [sameBap_refl k c i a os (by omega) (by omega)]
    simp only [if_true, Option.bind_some]
    rw [show ((s.size : Int) - 1).toNat = s.size - 1 by omega, bap_cut hp (s.size - 1) (by omega)]
    rfl
  · rw [if_neg he]
    have h := bap_err (c := c) (i := i) (a := a) (os := os) (by rw [hp]; exact he)
    rw [hp] at h
    simp only at h
    subst h
    rw [toList_eq]
    rfl
#print axioms awake9
#print axioms bapBack_pure
end Go.Proofs.Ytbdlkcgaobkdcaa.P

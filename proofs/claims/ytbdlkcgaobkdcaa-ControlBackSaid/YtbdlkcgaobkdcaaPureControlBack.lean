/- The pure statement of the law ControlBack: packets come back, with bytes behind them or none; conditions: the sizes that every row has. -/
import Derived.Test.YtbdlkcgaobkdcaaPure5
import Derived.Test.YtbdlkcgaobkdcaaPx21
set_option linter.unusedVariables false
set_option linter.unusedSimpArgs false
namespace Go.Proofs.Ytbdlkcgaobkdcaa.P
open Go.RowKit Go.Proofs.YtbdlkcgaobkdcaaW.PrintWords Go.Proofs.YtbdlkcgaobkdcaaW.PrintLast

theorem controlBack_pure (k : Nat) (c i : Int) (os : List S46) (d more : ByteArray) (hd : d.size ≤ 140737488351232) (hm : more.size ≤ 140737488351232) (hn : os.length * 24 ≤ 140737488351232) (hk : 140737488351232 < k) : withylaw5_ControlBack.f k c i os d more = some true := by
  unfold withylaw5_ControlBack.f control_Put.f control_Get.f
  rw [awake5 k (by omega)]
  simp only [Option.bind_some, if_true, if_pos hd, withylaw0_Num.f]
  rcases hp : ctlS c i os d with ⟨s, e⟩
  simp only
  by_cases he : e = 0
  · subst he
    obtain ⟨z1, z2⟩ := ctl_size hp
    have hw : wrap64 ((s.size : Int) - 1) = (s.size : Int) - 1 := wrap64_of (by omega) (by omega)
    rw [if_pos rfl, if_pos (by omega), hw, if_pos (by omega), if_pos (by omega), ctl_back hp more]
    simp only [if_true, Option.bind_some]
    rw [samePacket_refl k c i os d (by omega) (by omega)]
    simp only [if_true, Option.bind_some]
    rw [show ((s.size : Int) - 1).toNat = s.size - 1 by omega]
    rcases ctl_cut hp (s.size - 1) (by omega) with h | h <;> rw [h] <;> rfl
  · rw [if_neg he]
    have h := ctl_err (c := c) (i := i) (os := os) (d := d) (by rw [hp]; exact he)
    rw [hp] at h
    simp only at h
    subst h
    rw [toList_eq]
    rfl
#print axioms controlBack_pure
end Go.Proofs.Ytbdlkcgaobkdcaa.P

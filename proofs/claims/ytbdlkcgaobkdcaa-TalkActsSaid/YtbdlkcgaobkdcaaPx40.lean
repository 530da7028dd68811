-- Written by wip/mkprint.py over the kit's print.py, out of the translation; Lean checks it.
import Derived.Test.YtbdlkcgaobkdcaaPx0
namespace Go.Proofs.Ytbdlkcgaobkdcaa.P
open Go.RowKit Go.Proofs.YtbdlkcgaobkdcaaW.PrintWords Go.Proofs.YtbdlkcgaobkdcaaW.PrintLast Go.Proofs.YtbdlkcgaobkdcaaW.PrintMore
attribute [local go_sem] max2_int min2_int max_two min_two max_three min_three max_four min_four   -- for this text's walks alone
set_option linter.unusedVariables false
set_option linter.unusedSimpArgs false

/-! ### elect_Crossed: function 68 -/
def elect_Crossed.f (a0 : Bool) (a1 : Int) (a2 : Int) : Option (Bool) := if ((a1 == 5) != (a2 == 5)) = true then (some (a2 == 5)) else (some a0)
set_option maxHeartbeats 8000000 in
set_option maxRecDepth 100000 in
theorem elect_Crossed.calls (a0 : Bool) (a1 : Int) (a2 : Int) (r : Bool) (w : World) (h : elect_Crossed.f a0 a1 a2 = some r) :
    Calls Try.prog 68 #[.bool a0, .int .i64 a1, .int .i64 a2] w fun e w' => e = .returned (.bool r) ∧ Drawn0 w w' := by
  have H : (if ((a1 == 5) != (a2 == 5)) = true then (some (a2 == 5)) else (some a0)) = some r := h
  clear h
  by_cases c4 : ((a1 == 5) != (a2 == 5)) = true
  · rw [if_pos c4] at H
    have c4b0 : ((a1 == 5) != (a2 == 5)) = true := c4
    (try (have c4b1 : decide ((a1 == 5) = (a2 == 5)) = false := by simpa using c4))
    (try (have c4b2 : ((a1 == 5) == (a2 == 5)) = false := by simpa using c4))
    (try (have c4b3 : ¬ ((a1 == 5) = (a2 == 5)) := by simpa using c4))
    clear c4
    obtain rfl := Option.some.inj H
    go_enter Try.func68, Try.ntmps68
    go_wp2
    go_ret
    exact ⟨by first | rfl | (simp; done) | (simp [*]; done), by repeat (first | exact Drawn0.refl _ | apply Drawn0.step)⟩
  · rw [if_neg c4] at H
    have c4b0 : ((a1 == 5) != (a2 == 5)) = false := by simpa using c4
    (try (have c4b1 : decide ((a1 == 5) = (a2 == 5)) = true := by simpa using c4))
    (try (have c4b2 : ((a1 == 5) == (a2 == 5)) = true := by simpa using c4))
    clear c4
    obtain rfl := Option.some.inj H
    go_enter Try.func68, Try.ntmps68
    go_wp2
    go_ret
    exact ⟨by first | rfl | (simp; done) | (simp [*]; done), by repeat (first | exact Drawn0.refl _ | apply Drawn0.step)⟩

end Go.Proofs.Ytbdlkcgaobkdcaa.P

/- The walk of the law TalkOthers; condition: the size that every list has. -/
import Derived.Test.YtbdlkcgaobkdcaaTalkOthB
import Derived.Test.YtbdlkcgaobkdcaaTalkOthC
import Derived.Test.YtbdlkcgaobkdcaaTalkOthD
set_option linter.unusedVariables false
set_option linter.unusedSimpArgs false
namespace Go.Proofs.Ytbdlkcgaobkdcaa.P
open Go.RowKit Go.Proofs.YtbdlkcgaobkdcaaW.PrintWords Go.Proofs.YtbdlkcgaobkdcaaW.PrintLast Go.Proofs.YtbdlkcgaobkdcaaW.PrintMore
attribute [local go_sem] max2_int min2_int max_two min_two max_three min_three max_four min_four

theorem talkOthers_calls (code id answer : Int) (A0 : Option Addr) (c0 : Nat) (l0 : List S46) (w : World) (hC : Kd.C k46 w A0 l0.length l0) (hc : l0.length ≤ c0) :
    Calls Try.prog 23 #[.int .i64 code, .int .i64 id, .int .i64 answer, .slice A0 l0.length c0] w fun e w' => e = .returned (.bool true) ∧ Below w.heap.size w w' := by
  cases l0 with
  | nil => exact talkOthers_none code id answer w A0 c0
  | cons o l =>
    obtain ⟨ad, rfl, _⟩ := hC.2.2 (by simp)
    have hC' : Kd.C k46 w (some ad) (l.length + 1) (o :: l) := hC
    by_cases h0 : 0 ≤ o.f0
    · by_cases h1 : o.f0 < 256
      · by_cases h2 : (o.f1.size : Int) ≤ 253
        · exact talkOthers_fits code id answer w ad c0 o l hC' hc h0 h1 h2
        · exact talkOthers_long code id answer w ad c0 o l hC' hc h0 h1 h2
      · exact talkOthers_big code id answer w ad c0 o l hC' hc h0 h1
    · exact talkOthers_neg code id answer w ad c0 o l hC' hc (by omega)
#print axioms talkOthers_calls
end Go.Proofs.Ytbdlkcgaobkdcaa.P

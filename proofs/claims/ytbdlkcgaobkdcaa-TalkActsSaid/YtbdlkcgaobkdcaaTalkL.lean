/- The contract of package bap's Ask, all ways; conditions: a side's state lies in one block of twelve cells, its options are fewer than memory holds. -/
import Derived.Test.YtbdlkcgaobkdcaaTalkTwo
import Derived.Test.YtbdlkcgaobkdcaaTalkThree
set_option linter.unusedVariables false
namespace Go.Proofs.Ytbdlkcgaobkdcaa.P
open Go.RowKit Go.Proofs.YtbdlkcgaobkdcaaW.PrintWords Go.Proofs.YtbdlkcgaobkdcaaW.PrintLast
theorem ask_calls (g : Nat) (ok : Nat → Prop) (m : Tk) (code : Int) (B : Option Addr) (d : Nat) (os : List S46) (w : World) (h : TkAt w g ok m) (hok : ∀ k, ok k → k ≠ g) (hm : m.Ok) (ho : Kd.C k46 w B os.length os) (hn : os.length < 5864062014805) :
    Calls Try.prog 43 #[.pointer (some ⟨g, 0, none⟩), .int .i64 code, .slice B os.length d] w (MadeBap w g ok (askS m code os).1 (askS m code os).2.1 (askS m code os).2.2) := by
  obtain ⟨⟨s, er⟩, hp⟩ : ∃ t, bapS code (nextId m.id) 0 os = t := ⟨_, rfl⟩
  have i0 := hm.id0
  have i9 := hm.id1
  have l0 := hm.left0
  unfold askS
  rw [hp]
  cases hq : reqB code with
  | true =>
    by_cases he : er = 0
    · rw [if_neg (by rintro (⟨h1, _⟩ | h1); cases h1; exact h1 he)]
      by_cases hl : 0 < m.left
      · rw [if_pos hl]; exact ask_busy1 g ok m code B d os s er w h hok i0 i9 ho hn hp hq he hl
      · rw [if_neg hl]; exact ask_ok1 g ok m code B d os s er w h hok i0 i9 ho hn hp hq he (by omega)
    · rw [if_pos (.inr he)]; exact ask_put1 g ok m code B d os s er w h hok i0 i9 ho hn hp hq he
  | false =>
    by_cases h7 : code = 7
    · by_cases he : er = 0
      · rw [if_neg (by rintro (⟨_, h1⟩ | h1); exact h1 h7; exact h1 he)]
        by_cases hl : 0 < m.left
        · rw [if_pos hl]; exact ask_busy7 g ok m code B d os s er w h hok i0 i9 ho hn hp h7 he hl
        · rw [if_neg hl]; exact ask_ok7 g ok m code B d os s er w h hok i0 i9 ho hn hp h7 he (by omega)
      · rw [if_pos (.inr he)]; exact ask_put7 g ok m code B d os s er w h hok i0 i9 ho hn hp h7 he
    · rw [if_pos (.inl ⟨rfl, h7⟩)]; exact ask_code g ok m code B d os s er w h hok i0 i9 ho hn hp hq h7
#print axioms ask_calls
end Go.Proofs.Ytbdlkcgaobkdcaa.P

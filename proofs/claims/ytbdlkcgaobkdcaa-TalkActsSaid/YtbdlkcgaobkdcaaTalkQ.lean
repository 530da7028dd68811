/- Package bap's Take where it answers by one datagram, as a law takes it; what a request and a status come to; conditions as in the contracts. -/
import Derived.Test.YtbdlkcgaobkdcaaAwakeT
import Derived.Test.YtbdlkcgaobkdcaaMask
set_option linter.unusedVariables false
set_option linter.unusedSimpArgs false
namespace Go.Proofs.Ytbdlkcgaobkdcaa.P
open Go.RowKit Go.Proofs.YtbdlkcgaobkdcaaW.PrintWords Go.Proofs.YtbdlkcgaobkdcaaW.PrintLast

/-- One datagram, in a block that is told. -/
def BapOne (X : Nat → Prop) (w : World) (g : Nat) (m : Tk) (b : S56) (er : Int) (e : Ending) (w' : World) : Prop := ∃ (gs : Nat) (A : Option Addr) (c : Nat), e = .returned (.tuple #[.slice (some ⟨gs, 0, none⟩) 1 1, .int .i64 er]) ∧
  w'.heap[gs]? = some (.cells #[.int .i64 b.f0, .int .i64 b.f1, .int .i64 b.f2, .slice A b.f3.length c] 56 (0, 0)) ∧ ¬ X gs ∧ Sees w' (fun k => ¬ X k) A c b.f3 ∧ TkIn X w' g m ∧ Upd w w' g
theorem take_one {X : Nat → Prop} {g : Nat} {m : Tk} {c i a : Int} {os : List S46} {B : Option Addr} {n d : Nat} {yes : Bool} {w : World} {m' : Tk} {r : S56} {er : Int} (h : TkIn X w g m) (ho : Sees w (fun k => ¬ X k) B d os) (hn : os.length < 5864062014805) (e : takeS m ⟨c, i, a, os⟩ yes = (m', [r], er)) (hl : n = os.length) :
    Calls Try.prog 46 #[.pointer (some ⟨g, 0, none⟩), .agg #[.int .i64 c, .int .i64 i, .int .i64 a, .slice B n d], .bool yes] w (BapOne X w g m' r er) := by
  subst hl
  have h1 := take_calls g _ _ m c i a B d os w h.lies h.ne ho h.ne hn yes h.fine
  have h2 := take_Ok h.fine ⟨c, i, a, os⟩ yes
  rw [e] at h1 h2
  refine h1.mono fun e w' ⟨v, B', he, hB, hv, hT, hU⟩ => ?_
  have hT' : TkIn X w' g m' := ⟨hT.mono (fun k hk hx => by have := h.old k hx; rcases hk with hk | hk; exact hk hx; omega), h2, h.own, fun k hk => Nat.lt_of_lt_of_le (h.old k hk) hU.size⟩
  rcases hv with ⟨hl, hv⟩ | ⟨b', gs, A, c, hl, hv, hb, hge, hR⟩
  · exact absurd hl (by simp)
  · subst hv
    obtain rfl : r = b' := by simpa using hl
    exact ⟨gs, A, c, he, hb, fun hx => by have := h.old gs hx; omega, (Sees.of_R hR).mono (fun k hk hx => by have := h.old k hx; omega), hT', hU⟩
theorem bap_plain {c i a : Int} (h1 : 1 ≤ c) (h8 : c ≤ 8) (hi : 0 ≤ i) (hi' : i ≤ 255) (ha : 0 ≤ a) (ha' : a ≤ 255) (hr : (c % 2 == 0) = false → a = 0) : (bapS c i a []).2 = 0 := bap_fine (may_of h1 h8 hi hi') ha ha' hr rfl (by decide)
theorem ask_plain {m : Tk} (hm : m.Ok) {c j : Int} (hc : reqB c = true ∨ c = 7) (h1 : 1 ≤ c) (h8 : c ≤ 8) (h0 : m.left = 0) (hj : nextId m.id = j) : askS m c [] = ({ m with id := j, ask := ⟨c, j, 0, []⟩, left := m.tries }, ⟨c, j, 0, []⟩, 0) := by
  rw [ask_go hc (bap_plain h1 h8 (by unfold nextId; omega) (by unfold nextId; omega) (Int.le_refl _) (by omega) (fun _ => rfl)) h0, hj]
/-- A request's code: one of three, by an index. -/
def code3 (j : Int) : Int := 2 * j + 1
theorem code3_req {j : Int} (h0 : 0 ≤ j) (h3 : j < 3) : reqB (code3 j) = true ∧ 1 ≤ code3 j ∧ code3 j ≤ 5 := by
  have : j = 0 ∨ j = 1 ∨ j = 2 := by omega
  rcases this with rfl | rfl | rfl <;> decide
theorem code3_cell (j : Int) (h0 : 0 ≤ j) (h3 : j < 3) (w : World) : (w.alloc (.cells #[.int .i64 1, .int .i64 3, .int .i64 5] 3)).cell? ⟨w.heap.size, j.toNat, none⟩ = some (.int .i64 (code3 j)) := by
  rw [blk_cell (heap_alloc_new w _)]
  have : j = 0 ∨ j = 1 ∨ j = 2 := by omega
  rcases this with rfl | rfl | rfl <;> rfl
theorem code4_cell (j : Int) (h0 : 0 ≤ j) (h3 : j < 4) (w : World) : (w.alloc (.cells #[.int .i64 1, .int .i64 3, .int .i64 5, .int .i64 7] 3)).cell? ⟨w.heap.size, j.toNat, none⟩ = some (.int .i64 (code3 j)) := by
  rw [blk_cell (heap_alloc_new w _)]
  have : j = 0 ∨ j = 1 ∨ j = 2 ∨ j = 3 := by omega
  rcases this with rfl | rfl | rfl | rfl <;> rfl
theorem code4_ask {j : Int} (h0 : 0 ≤ j) (h3 : j < 4) : (reqB (code3 j) = true ∨ code3 j = 7) ∧ 1 ≤ code3 j ∧ code3 j ≤ 7 := by
  have : j = 0 ∨ j = 1 ∨ j = 2 ∨ j = 3 := by omega
  rcases this with rfl | rfl | rfl | rfl <;> decide
#print axioms take_one
#print axioms code4_cell
end Go.Proofs.Ytbdlkcgaobkdcaa.P

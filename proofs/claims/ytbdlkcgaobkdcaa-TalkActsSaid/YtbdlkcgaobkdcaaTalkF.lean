/- What slices.Clone and the new variable leave in Ask's first drawn region, in either order; conditions: a side's state lies in one block, its options are fewer than memory holds. -/
import Derived.Test.YtbdlkcgaobkdcaaTalkOne
import Derived.Test.YtbdlkcgaobkdcaaPx34
import Derived.Deep.RegionHeld3
set_option linter.unusedVariables false
set_option linter.unusedSimpArgs false
namespace Go.Proofs.Ytbdlkcgaobkdcaa.P
open Go.RowKit Go.Proofs.YtbdlkcgaobkdcaaW.PrintWords Go.Proofs.YtbdlkcgaobkdcaaW.PrintLast Go.Proofs.YtbdlkcgaobkdcaaW.PrintMore
attribute [local go_sem] max2_int min2_int max_two min_two max_three min_three max_four min_four

/-- slices.Clone beside the making of a variable: the variable is there already. -/
def CloneA (w1 : World) (g : Nat) (n : Int) (os : List S46) (e : Ending) (w' : World) : Prop := ∃ (A2 : Option Addr) (c2 : Nat), e = .returned (.slice A2 os.length c2) ∧ w'.cell? ⟨g, 7, none⟩ = some (.int .i64 n) ∧
  (w'.cell? ⟨w1.heap.size, 0, none⟩ = some (.int .i64 0) ∧ w'.cell? ⟨w1.heap.size, 1, none⟩ = some (.int .i64 0) ∧ w'.cell? ⟨w1.heap.size, 2, none⟩ = some (.int .i64 0) ∧ w'.cell? ⟨w1.heap.size, 3, none⟩ = some (.slice none 0 0) ∧
    w'.frozen? ⟨w1.heap.size, 0, none⟩ = false ∧ w'.frozen? ⟨w1.heap.size, 1, none⟩ = false ∧ w'.frozen? ⟨w1.heap.size, 2, none⟩ = false ∧ w'.frozen? ⟨w1.heap.size, 3, none⟩ = false) ∧
  Aside0 (Kd.R k46 46 w' w1.heap.size (fun k => w1.heap.size < k) (.slice A2 os.length c2) os) ∧ Aside0 (Below w1.heap.size w1 w') ∧ Aside0 (w'.heap[w1.heap.size]? = some (.cells #[.int .i64 0, .int .i64 0, .int .i64 0, .slice none 0 0] 56 (0, 0)))
theorem clone_A (A : Option Addr) (c0 : Nat) (l0 : List S46) (w : World) (g : Nat) (n : Int) (hr0 : Kd.C k46 w A l0.length l0) (hn : l0.length < 5864062014805) (hg : w.cell? ⟨g, 7, none⟩ = some (.int .i64 n)) (hl : g < w.heap.size) :
    Calls Try.prog 79 #[.slice A l0.length c0] (w.alloc (.cells #[.int .i64 0, .int .i64 0, .int .i64 0, .slice none 0 0] 56)).drew (CloneA w g n l0) := by
  refine (clone_calls A c0 l0 _ (Kd.C_drew (Kd.C_alloc hr0 _)) hn).mono ?_
  rintro e w' ⟨A2, c2, rfl, hR, hb⟩
  have h2 := blk_below (blk_drew (heap_alloc_new w (.cells #[.int .i64 0, .int .i64 0, .int .i64 0, .slice none 0 0] 56))) hb
  have hb' : Below w.heap.size w w' := below_then (below_drew (below_alloc (Below.refl w.heap.size w) _)) (by simp) hb
  exact ⟨A2, c2, rfl, (hb'.cell (p := ⟨g, 7, none⟩) hl).trans hg, four h2, ⟨Kd.R_mono (R_sizes (B' := w.heap.size) hR (by simp)) (fun k hk => by simp at hk; omega)⟩, ⟨hb'⟩, ⟨h2⟩⟩
def CloneB (w1 : World) (g : Nat) (n : Int) (os : List S46) (e : Ending) (w' : World) : Prop := ∃ (A2 : Option Addr) (c2 : Nat), e = .returned (.slice A2 os.length c2) ∧ w'.cell? ⟨g, 7, none⟩ = some (.int .i64 n) ∧ w'.heap.size ≠ g ∧
  Aside0 (Kd.R k46 46 w' w1.heap.size (fun k => w1.heap.size ≤ k) (.slice A2 os.length c2) os) ∧ Aside0 (Below w1.heap.size w1 w')
theorem clone_B (A : Option Addr) (c0 : Nat) (l0 : List S46) (w : World) (g : Nat) (n : Int) (hr0 : Kd.C k46 w A l0.length l0) (hn : l0.length < 5864062014805) (hg : w.cell? ⟨g, 7, none⟩ = some (.int .i64 n)) (hl : g < w.heap.size) :
    Calls Try.prog 79 #[.slice A l0.length c0] w.drew (CloneB w g n l0) := by
  refine (clone_calls A c0 l0 _ (Kd.C_drew hr0) hn).mono ?_
  rintro e w' ⟨A2, c2, rfl, hR, hb⟩
  refine ⟨A2, c2, rfl, (hb.cell (p := ⟨g, 7, none⟩) (by simp; omega)).trans hg, ?_, ⟨R_sizes (B' := w.heap.size) hR (by simp)⟩, ⟨below_then (below_drew (Below.refl w.heap.size w)) (by simp) hb⟩⟩
  have := hb.size
  simp at this
  omega
/-- Behind that region: the variable's block, its options, all else as it was. -/
structure AskMid (w1 w3 : World) (gb : Nat) (code i : Int) (A2 : Option Addr) (c2 : Nat) (os : List S46) : Prop where
  below : Below w1.heap.size w1 w3
  blk : w3.heap[gb]? = some (.cells #[.int .i64 code, .int .i64 i, .int .i64 0, .slice A2 os.length c2] 56 (0, 0))
  new : w1.heap.size ≤ gb
  row : Kd.R k46 46 w3 w1.heap.size (fun k => w1.heap.size ≤ k ∧ k ≠ gb) (.slice A2 os.length c2) os
theorem mid_B {w1 w2 : World} {code i : Int} {A2 : Option Addr} {c2 : Nat} {os : List S46} (hR : Kd.R k46 46 w2 w1.heap.size (fun k => w1.heap.size ≤ k) (.slice A2 os.length c2) os) (hb : Below w1.heap.size w1 w2) :
    AskMid w1 (w2.alloc (.cells #[.int .i64 code, .int .i64 i, .int .i64 0, .slice A2 os.length c2] 56)) w2.heap.size code i A2 c2 os :=
  ⟨below_alloc hb _, heap_alloc_new _ _, hb.size, Kd.R_alloc (Kd.R_mono (Kd.R_bound hR) (fun k hk => ⟨hk.1, by have := hk.2.2.1; omega⟩)) _⟩
theorem mid_A {w1 w2 : World} {code i : Int} {A2 : Option Addr} {c2 : Nat} {os : List S46} (hR : Kd.R k46 46 w2 w1.heap.size (fun k => w1.heap.size < k) (.slice A2 os.length c2) os) (hb : Below w1.heap.size w1 w2)
    (hg : w2.heap[w1.heap.size]? = some (.cells #[.int .i64 0, .int .i64 0, .int .i64 0, .slice none 0 0] 56 (0, 0))) :
    AskMid w1 ((((w2.setCell ⟨w1.heap.size, 0, none⟩ (.int .i64 code)).setCell ⟨w1.heap.size, 1, none⟩ (.int .i64 i)).setCell ⟨w1.heap.size, 2, none⟩ (.int .i64 0)).setCell ⟨w1.heap.size, 3, none⟩ (.slice A2 os.length c2)) w1.heap.size code i A2 c2 os := by
  refine ⟨?_, blk_put (blk_put (blk_put (blk_put hg 0 _ rfl) 1 _ rfl) 2 _ rfl) 3 _ rfl, Nat.le_refl _, ?_⟩
  · repeat (first | exact hb | (refine below_set3 _ _ ?_ (Nat.le_refl _) _))
  · refine Kd.R_mono (ok := fun k => w1.heap.size < k) ?_ (fun k hk => ⟨by omega, by omega⟩)
    repeat (refine Kd.R_far ?_ (fun k hk => by simp only; omega) _)
    exact hR
theorem request_eq (c : Int) : elect_Request.f c = some (reqB c) := by
  unfold elect_Request.f reqB
  by_cases h1 : c = 1
  · rw [if_pos h1, h1]; rfl
  · rw [if_neg h1, beq_eq_false_iff_ne.2 h1]
    by_cases h3 : c = 3
    · rw [if_pos h3, h3]; rfl
    · rw [if_neg h3, beq_eq_false_iff_ne.2 h3]; rfl
#print axioms mid_A
#print axioms request_eq
end Go.Proofs.Ytbdlkcgaobkdcaa.P

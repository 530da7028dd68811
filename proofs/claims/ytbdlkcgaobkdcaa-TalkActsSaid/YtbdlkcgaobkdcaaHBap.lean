/- What bapmsg.Put does with a datagram: the document's error, or its bytes; no condition beyond a row that can be read. -/
import Derived.Test.YtbdlkcgaobkdcaaHCtl
set_option linter.unusedVariables false
set_option linter.unusedSimpArgs false
namespace Go.Proofs.Ytbdlkcgaobkdcaa.P
open Go.RowKit Go.Proofs.YtbdlkcgaobkdcaaW.PrintWords Go.Proofs.YtbdlkcgaobkdcaaW.PrintLast Go.Proofs.YtbdlkcgaobkdcaaW.PrintMore

def mayB (c i : Int) : Bool := decide (1 ≤ c) && (decide (c ≤ 8) && (decide (0 ≤ i) && decide (i ≤ 255)))
set_option maxHeartbeats 1000000 in
theorem may_any (c i : Int) (b : Bool) (w : World) (h : mayB c i = b) : Calls Try.prog 85 #[.agg #[.int .i64 c, .int .i64 i]] w fun e w' => e = .returned (.bool b) ∧ w.alloc (.cells #[.int .i64 c, .int .i64 i] 127) = w' := by
  have hu127 := Try.underlying127
  subst h
  unfold mayB
  by_cases h1 : 1 ≤ c
  · have h1b : decide (1 ≤ c) = true := decide_eq_true h1
    by_cases h2 : c ≤ 8
    · have h2b : decide (c ≤ 8) = true := decide_eq_true h2
      by_cases h3 : 0 ≤ i
      · have h3b : decide (0 ≤ i) = true := decide_eq_true h3
        go_enter Try.func85, Try.ntmps85
        go_wp2
        go_ret
        exact ⟨by simp [h1b, h2b, h3b], rfl⟩
      · have h3b : decide (0 ≤ i) = false := decide_eq_false h3
        go_enter Try.func85, Try.ntmps85
        go_wp2
        go_ret
        exact ⟨by simp [h1b, h2b, h3b], rfl⟩
    · have h2b : decide (c ≤ 8) = false := decide_eq_false h2
      go_enter Try.func85, Try.ntmps85
      go_wp2
      go_ret
      exact ⟨by simp [h1b, h2b], rfl⟩
  · have h1b : decide (1 ≤ c) = false := decide_eq_false h1
    go_enter Try.func85, Try.ntmps85
    go_wp2
    go_ret
    exact ⟨by simp [h1b], rfl⟩
set_option maxHeartbeats 1000000 in
theorem resp_any (c i : Int) (b : Bool) (w : World) (h0 : 0 ≤ c) (h : (c % 2 == 0) = b) : Calls Try.prog 86 #[.agg #[.int .i64 c, .int .i64 i]] w fun e w' => e = .returned (.bool b) ∧ w.alloc (.cells #[.int .i64 c, .int .i64 i] 127) = w' := by
  have hu127 := Try.underlying127
  subst h
  go_enter Try.func86, Try.ntmps86
  go_wp2
  go_ret
  exact ⟨rfl, rfl⟩

set_option maxHeartbeats 1000000 in
set_option maxRecDepth 100000 in
theorem bap_may (c i a : Int) (A : Option Addr) (cc : Nat) (l : List S46) (s : ByteArray) (e : Int) (w : World) (hr : Kd.C k46 w A l.length l) (hc : l.length ≤ cc) (hp : putS l = (s, e))
    (m : mayB c i = false) :
    Calls Try.prog 54 #[.agg #[.int .i64 c, .int .i64 i, .int .i64 a, .slice A l.length cc]] w fun e w' => e = .returned (.tuple #[.string ⟨#[]⟩, .int .i64 900]) ∧ Below w.heap.size w w' := by
  have hu56 := Try.underlying56
  have hu127 := Try.underlying127
  have hu129 := Try.underlying129
  have HR := Aside0.mk hr
  have HC := Aside0.mk hc
  have HP := Aside0.mk hp
  have hs := putS_len l
  rw [hp] at hs
  simp only at hs
  have M := Aside0.mk m
  clear m
  clear hr hc hp
  go_enter Try.func54, Try.ntmps54
  go_wp2_with fail
  refine (opts_Put.calls A cc l s e _ (Kd.C_below HR.out (below_alloc (below_alloc (Below.refl _ _) _) _)) HC.out (by rw [opts_Put.f, HP.out])).mono ?_
  rintro e1 w1 ⟨rfl, hb⟩
  have k0 : w1.cell? ⟨w.heap.size, 0, none⟩ = some (.int .i64 c) := (hb.cell (p := ⟨w.heap.size, 0, none⟩) (by simp; omega)).trans (by simp)
  have k1 : w1.cell? ⟨w.heap.size, 1, none⟩ = some (.int .i64 i) := (hb.cell (p := ⟨w.heap.size, 1, none⟩) (by simp; omega)).trans (by simp)
  have k2 : w1.cell? ⟨w.heap.size, 2, none⟩ = some (.int .i64 a) := (hb.cell (p := ⟨w.heap.size, 2, none⟩) (by simp; omega)).trans (by simp)
  have k3 : w1.cell? ⟨w.heap.size, 3, none⟩ = some (.slice A l.length cc) := (hb.cell (p := ⟨w.heap.size, 3, none⟩) (by simp; omega)).trans (by simp)
  have j0 : w1.cell? ⟨w.heap.size + 1, 0, none⟩ = some (.int .i64 c) := (hb.cell (p := ⟨w.heap.size + 1, 0, none⟩) (by simp)).trans (by simp)
  have j1 : w1.cell? ⟨w.heap.size + 1, 1, none⟩ = some (.int .i64 i) := (hb.cell (p := ⟨w.heap.size + 1, 1, none⟩) (by simp)).trans (by simp)
  have j2 : w1.cell? ⟨w.heap.size + 1, 2, none⟩ = some (.int .i64 a) := (hb.cell (p := ⟨w.heap.size + 1, 2, none⟩) (by simp)).trans (by simp)
  have hz : w.heap.size + 1 < w1.heap.size := by have := hb.size; simp at this; omega
  have hz0 : w.heap.size < w1.heap.size := by omega
  have HB := Aside0.mk (below_then (below_alloc (below_alloc (Below.refl w.heap.size w) (.cells #[.int .i64 c, .int .i64 i, .int .i64 a, .slice A l.length cc] 56)) (.cells #[.int .i64 c, .int .i64 i, .int .i64 a] 129)) (by simp; omega) hb)
  clear hb
  go_wp2_with fail
  refine (may_any c i false _ M.out).mono ?_
  rintro e2 w2 ⟨rfl, rfl⟩
  go_wp2
  go_ret2
  exact ⟨rfl, by repeat (first | exact HB.out | apply below_alloc)⟩

set_option maxHeartbeats 1000000 in
set_option maxRecDepth 100000 in
theorem bap_neg (c i a : Int) (A : Option Addr) (cc : Nat) (l : List S46) (s : ByteArray) (e : Int) (w : World) (hr : Kd.C k46 w A l.length l) (hc : l.length ≤ cc) (hp : putS l = (s, e))
    (m : mayB c i = true) (a0 : a < 0) :
    Calls Try.prog 54 #[.agg #[.int .i64 c, .int .i64 i, .int .i64 a, .slice A l.length cc]] w fun e w' => e = .returned (.tuple #[.string ⟨#[]⟩, .int .i64 900]) ∧ Below w.heap.size w w' := by
  have hu56 := Try.underlying56
  have hu127 := Try.underlying127
  have hu129 := Try.underlying129
  have HR := Aside0.mk hr
  have HC := Aside0.mk hc
  have HP := Aside0.mk hp
  have hs := putS_len l
  rw [hp] at hs
  simp only at hs
  have M := Aside0.mk m
  clear m
  have a0b : decide (a < 0) = true := decide_eq_true a0
  clear hr hc hp
  go_enter Try.func54, Try.ntmps54
  go_wp2_with fail
  refine (opts_Put.calls A cc l s e _ (Kd.C_below HR.out (below_alloc (below_alloc (Below.refl _ _) _) _)) HC.out (by rw [opts_Put.f, HP.out])).mono ?_
  rintro e1 w1 ⟨rfl, hb⟩
  have k0 : w1.cell? ⟨w.heap.size, 0, none⟩ = some (.int .i64 c) := (hb.cell (p := ⟨w.heap.size, 0, none⟩) (by simp; omega)).trans (by simp)
  have k1 : w1.cell? ⟨w.heap.size, 1, none⟩ = some (.int .i64 i) := (hb.cell (p := ⟨w.heap.size, 1, none⟩) (by simp; omega)).trans (by simp)
  have k2 : w1.cell? ⟨w.heap.size, 2, none⟩ = some (.int .i64 a) := (hb.cell (p := ⟨w.heap.size, 2, none⟩) (by simp; omega)).trans (by simp)
  have k3 : w1.cell? ⟨w.heap.size, 3, none⟩ = some (.slice A l.length cc) := (hb.cell (p := ⟨w.heap.size, 3, none⟩) (by simp; omega)).trans (by simp)
  have j0 : w1.cell? ⟨w.heap.size + 1, 0, none⟩ = some (.int .i64 c) := (hb.cell (p := ⟨w.heap.size + 1, 0, none⟩) (by simp)).trans (by simp)
  have j1 : w1.cell? ⟨w.heap.size + 1, 1, none⟩ = some (.int .i64 i) := (hb.cell (p := ⟨w.heap.size + 1, 1, none⟩) (by simp)).trans (by simp)
  have j2 : w1.cell? ⟨w.heap.size + 1, 2, none⟩ = some (.int .i64 a) := (hb.cell (p := ⟨w.heap.size + 1, 2, none⟩) (by simp)).trans (by simp)
  have hz : w.heap.size + 1 < w1.heap.size := by have := hb.size; simp at this; omega
  have hz0 : w.heap.size < w1.heap.size := by omega
  have HB := Aside0.mk (below_then (below_alloc (below_alloc (Below.refl w.heap.size w) (.cells #[.int .i64 c, .int .i64 i, .int .i64 a, .slice A l.length cc] 56)) (.cells #[.int .i64 c, .int .i64 i, .int .i64 a] 129)) (by simp; omega) hb)
  clear hb
  go_wp2_with fail
  refine (may_any c i true _ M.out).mono ?_
  rintro e2 w2 ⟨rfl, rfl⟩
  go_wp2
  go_ret2
  exact ⟨rfl, by repeat (first | exact HB.out | apply below_alloc)⟩

set_option maxHeartbeats 1000000 in
set_option maxRecDepth 100000 in
theorem bap_big (c i a : Int) (A : Option Addr) (cc : Nat) (l : List S46) (s : ByteArray) (e : Int) (w : World) (hr : Kd.C k46 w A l.length l) (hc : l.length ≤ cc) (hp : putS l = (s, e))
    (m : mayB c i = true) (a0 : 255 < a) :
    Calls Try.prog 54 #[.agg #[.int .i64 c, .int .i64 i, .int .i64 a, .slice A l.length cc]] w fun e w' => e = .returned (.tuple #[.string ⟨#[]⟩, .int .i64 900]) ∧ Below w.heap.size w w' := by
  have hu56 := Try.underlying56
  have hu127 := Try.underlying127
  have hu129 := Try.underlying129
  have HR := Aside0.mk hr
  have HC := Aside0.mk hc
  have HP := Aside0.mk hp
  have hs := putS_len l
  rw [hp] at hs
  simp only at hs
  have M := Aside0.mk m
  clear m
  have a0b : decide (a < 0) = false := decide_eq_false (by omega)
  have a1b : decide (255 < a) = true := decide_eq_true a0
  clear hr hc hp
  go_enter Try.func54, Try.ntmps54
  go_wp2_with fail
  refine (opts_Put.calls A cc l s e _ (Kd.C_below HR.out (below_alloc (below_alloc (Below.refl _ _) _) _)) HC.out (by rw [opts_Put.f, HP.out])).mono ?_
  rintro e1 w1 ⟨rfl, hb⟩
  have k0 : w1.cell? ⟨w.heap.size, 0, none⟩ = some (.int .i64 c) := (hb.cell (p := ⟨w.heap.size, 0, none⟩) (by simp; omega)).trans (by simp)
  have k1 : w1.cell? ⟨w.heap.size, 1, none⟩ = some (.int .i64 i) := (hb.cell (p := ⟨w.heap.size, 1, none⟩) (by simp; omega)).trans (by simp)
  have k2 : w1.cell? ⟨w.heap.size, 2, none⟩ = some (.int .i64 a) := (hb.cell (p := ⟨w.heap.size, 2, none⟩) (by simp; omega)).trans (by simp)
  have k3 : w1.cell? ⟨w.heap.size, 3, none⟩ = some (.slice A l.length cc) := (hb.cell (p := ⟨w.heap.size, 3, none⟩) (by simp; omega)).trans (by simp)
  have j0 : w1.cell? ⟨w.heap.size + 1, 0, none⟩ = some (.int .i64 c) := (hb.cell (p := ⟨w.heap.size + 1, 0, none⟩) (by simp)).trans (by simp)
  have j1 : w1.cell? ⟨w.heap.size + 1, 1, none⟩ = some (.int .i64 i) := (hb.cell (p := ⟨w.heap.size + 1, 1, none⟩) (by simp)).trans (by simp)
  have j2 : w1.cell? ⟨w.heap.size + 1, 2, none⟩ = some (.int .i64 a) := (hb.cell (p := ⟨w.heap.size + 1, 2, none⟩) (by simp)).trans (by simp)
  have hz : w.heap.size + 1 < w1.heap.size := by have := hb.size; simp at this; omega
  have hz0 : w.heap.size < w1.heap.size := by omega
  have HB := Aside0.mk (below_then (below_alloc (below_alloc (Below.refl w.heap.size w) (.cells #[.int .i64 c, .int .i64 i, .int .i64 a, .slice A l.length cc] 56)) (.cells #[.int .i64 c, .int .i64 i, .int .i64 a] 129)) (by simp; omega) hb)
  clear hb
  go_wp2_with fail
  refine (may_any c i true _ M.out).mono ?_
  rintro e2 w2 ⟨rfl, rfl⟩
  go_wp2
  go_ret2
  exact ⟨rfl, by repeat (first | exact HB.out | apply below_alloc)⟩

set_option maxHeartbeats 1000000 in
set_option maxRecDepth 100000 in
theorem bap_ans (c i a : Int) (A : Option Addr) (cc : Nat) (l : List S46) (s : ByteArray) (e : Int) (w : World) (hr : Kd.C k46 w A l.length l) (hc : l.length ≤ cc) (hp : putS l = (s, e))
    (m : mayB c i = true) (a0 : 0 ≤ a) (a1 : a ≤ 255) (r : (c % 2 == 0) = false) (an : (a != 0) = true) :
    Calls Try.prog 54 #[.agg #[.int .i64 c, .int .i64 i, .int .i64 a, .slice A l.length cc]] w fun e w' => e = .returned (.tuple #[.string ⟨#[]⟩, .int .i64 900]) ∧ Below w.heap.size w w' := by
  have hu56 := Try.underlying56
  have hu127 := Try.underlying127
  have hu129 := Try.underlying129
  have HR := Aside0.mk hr
  have HC := Aside0.mk hc
  have HP := Aside0.mk hp
  have hs := putS_len l
  rw [hp] at hs
  simp only at hs
  have a0b : decide (a < 0) = false := decide_eq_false (by omega)
  have a1b : decide (255 < a) = false := decide_eq_false (by omega)
  have hc0 : 0 ≤ c := by
    unfold mayB at m
    simp at m
    omega
  have hcm : c % 256 = c := by
    unfold mayB at m
    simp at m
    omega
  have him : i % 256 = i := by
    unfold mayB at m
    simp at m
    omega
  have M := Aside0.mk m
  clear m
  have RB := Aside0.mk r
  clear r
  clear hr hc hp
  go_enter Try.func54, Try.ntmps54
  go_wp2_with fail
  refine (opts_Put.calls A cc l s e _ (Kd.C_below HR.out (below_alloc (below_alloc (Below.refl _ _) _) _)) HC.out (by rw [opts_Put.f, HP.out])).mono ?_
  rintro e1 w1 ⟨rfl, hb⟩
  have k0 : w1.cell? ⟨w.heap.size, 0, none⟩ = some (.int .i64 c) := (hb.cell (p := ⟨w.heap.size, 0, none⟩) (by simp; omega)).trans (by simp)
  have k1 : w1.cell? ⟨w.heap.size, 1, none⟩ = some (.int .i64 i) := (hb.cell (p := ⟨w.heap.size, 1, none⟩) (by simp; omega)).trans (by simp)
  have k2 : w1.cell? ⟨w.heap.size, 2, none⟩ = some (.int .i64 a) := (hb.cell (p := ⟨w.heap.size, 2, none⟩) (by simp; omega)).trans (by simp)
  have k3 : w1.cell? ⟨w.heap.size, 3, none⟩ = some (.slice A l.length cc) := (hb.cell (p := ⟨w.heap.size, 3, none⟩) (by simp; omega)).trans (by simp)
  have j0 : w1.cell? ⟨w.heap.size + 1, 0, none⟩ = some (.int .i64 c) := (hb.cell (p := ⟨w.heap.size + 1, 0, none⟩) (by simp)).trans (by simp)
  have j1 : w1.cell? ⟨w.heap.size + 1, 1, none⟩ = some (.int .i64 i) := (hb.cell (p := ⟨w.heap.size + 1, 1, none⟩) (by simp)).trans (by simp)
  have j2 : w1.cell? ⟨w.heap.size + 1, 2, none⟩ = some (.int .i64 a) := (hb.cell (p := ⟨w.heap.size + 1, 2, none⟩) (by simp)).trans (by simp)
  have hz : w.heap.size + 1 < w1.heap.size := by have := hb.size; simp at this; omega
  have hz0 : w.heap.size < w1.heap.size := by omega
  have HB := Aside0.mk (below_then (below_alloc (below_alloc (Below.refl w.heap.size w) (.cells #[.int .i64 c, .int .i64 i, .int .i64 a, .slice A l.length cc] 56)) (.cells #[.int .i64 c, .int .i64 i, .int .i64 a] 129)) (by simp; omega) hb)
  clear hb
  go_wp2_with fail
  refine (may_any c i true _ M.out).mono ?_
  rintro e2 w2 ⟨rfl, rfl⟩
  go_wp2_with fail
  refine (resp_any c i false _ hc0 RB.out).mono ?_
  rintro e2 w2 ⟨rfl, rfl⟩
  go_wp2
  go_ret2
  exact ⟨rfl, by repeat (first | exact HB.out | apply below_alloc)⟩

set_option maxHeartbeats 1000000 in
set_option maxRecDepth 100000 in
theorem bap_opts_true (c i a : Int) (A : Option Addr) (cc : Nat) (l : List S46) (s : ByteArray) (e : Int) (w : World) (hr : Kd.C k46 w A l.length l) (hc : l.length ≤ cc) (hp : putS l = (s, e))
    (m : mayB c i = true) (a0 : 0 ≤ a) (a1 : a ≤ 255) (r : (c % 2 == 0) = true) (he : (e != 0) = true) :
    Calls Try.prog 54 #[.agg #[.int .i64 c, .int .i64 i, .int .i64 a, .slice A l.length cc]] w fun e w' => e = .returned (.tuple #[.string ⟨#[]⟩, .int .i64 900]) ∧ Below w.heap.size w w' := by
  have hu56 := Try.underlying56
  have hu127 := Try.underlying127
  have hu129 := Try.underlying129
  have HR := Aside0.mk hr
  have HC := Aside0.mk hc
  have HP := Aside0.mk hp
  have hs := putS_len l
  rw [hp] at hs
  simp only at hs
  have a0b : decide (a < 0) = false := decide_eq_false (by omega)
  have a1b : decide (255 < a) = false := decide_eq_false (by omega)
  have hc0 : 0 ≤ c := by
    unfold mayB at m
    simp at m
    omega
  have hcm : c % 256 = c := by
    unfold mayB at m
    simp at m
    omega
  have him : i % 256 = i := by
    unfold mayB at m
    simp at m
    omega
  have M := Aside0.mk m
  clear m
  have RB := Aside0.mk r
  clear r
  clear hr hc hp
  go_enter Try.func54, Try.ntmps54
  go_wp2_with fail
  refine (opts_Put.calls A cc l s e _ (Kd.C_below HR.out (below_alloc (below_alloc (Below.refl _ _) _) _)) HC.out (by rw [opts_Put.f, HP.out])).mono ?_
  rintro e1 w1 ⟨rfl, hb⟩
  have k0 : w1.cell? ⟨w.heap.size, 0, none⟩ = some (.int .i64 c) := (hb.cell (p := ⟨w.heap.size, 0, none⟩) (by simp; omega)).trans (by simp)
  have k1 : w1.cell? ⟨w.heap.size, 1, none⟩ = some (.int .i64 i) := (hb.cell (p := ⟨w.heap.size, 1, none⟩) (by simp; omega)).trans (by simp)
  have k2 : w1.cell? ⟨w.heap.size, 2, none⟩ = some (.int .i64 a) := (hb.cell (p := ⟨w.heap.size, 2, none⟩) (by simp; omega)).trans (by simp)
  have k3 : w1.cell? ⟨w.heap.size, 3, none⟩ = some (.slice A l.length cc) := (hb.cell (p := ⟨w.heap.size, 3, none⟩) (by simp; omega)).trans (by simp)
  have j0 : w1.cell? ⟨w.heap.size + 1, 0, none⟩ = some (.int .i64 c) := (hb.cell (p := ⟨w.heap.size + 1, 0, none⟩) (by simp)).trans (by simp)
  have j1 : w1.cell? ⟨w.heap.size + 1, 1, none⟩ = some (.int .i64 i) := (hb.cell (p := ⟨w.heap.size + 1, 1, none⟩) (by simp)).trans (by simp)
  have j2 : w1.cell? ⟨w.heap.size + 1, 2, none⟩ = some (.int .i64 a) := (hb.cell (p := ⟨w.heap.size + 1, 2, none⟩) (by simp)).trans (by simp)
  have hz : w.heap.size + 1 < w1.heap.size := by have := hb.size; simp at this; omega
  have hz0 : w.heap.size < w1.heap.size := by omega
  have HB := Aside0.mk (below_then (below_alloc (below_alloc (Below.refl w.heap.size w) (.cells #[.int .i64 c, .int .i64 i, .int .i64 a, .slice A l.length cc] 56)) (.cells #[.int .i64 c, .int .i64 i, .int .i64 a] 129)) (by simp; omega) hb)
  clear hb
  go_wp2_with fail
  refine (may_any c i true _ M.out).mono ?_
  rintro e2 w2 ⟨rfl, rfl⟩
  go_wp2_with fail
  refine (resp_any c i true _ hc0 RB.out).mono ?_
  rintro e2 w2 ⟨rfl, rfl⟩
  go_wp2
  go_ret2
  exact ⟨rfl, by repeat (first | exact HB.out | apply below_alloc)⟩

set_option maxHeartbeats 1000000 in
set_option maxRecDepth 100000 in
theorem bap_long_true (c i a : Int) (A : Option Addr) (cc : Nat) (l : List S46) (s : ByteArray) (e : Int) (w : World) (hr : Kd.C k46 w A l.length l) (hc : l.length ≤ cc) (hp : putS l = (s, e))
    (m : mayB c i = true) (a0 : 0 ≤ a) (a1 : a ≤ 255) (r : (c % 2 == 0) = true) (he : (e != 0) = false) (hn : 2048 < 4 + (1 + s.size)) :
    Calls Try.prog 54 #[.agg #[.int .i64 c, .int .i64 i, .int .i64 a, .slice A l.length cc]] w fun e w' => e = .returned (.tuple #[.string ⟨#[]⟩, .int .i64 901]) ∧ Below w.heap.size w w' := by
  have hu56 := Try.underlying56
  have hu127 := Try.underlying127
  have hu129 := Try.underlying129
  have HR := Aside0.mk hr
  have HC := Aside0.mk hc
  have HP := Aside0.mk hp
  have hs := putS_len l
  rw [hp] at hs
  simp only at hs
  have a0b : decide (a < 0) = false := decide_eq_false (by omega)
  have a1b : decide (255 < a) = false := decide_eq_false (by omega)
  have hc0 : 0 ≤ c := by
    unfold mayB at m
    simp at m
    omega
  have hcm : c % 256 = c := by
    unfold mayB at m
    simp at m
    omega
  have him : i % 256 = i := by
    unfold mayB at m
    simp at m
    omega
  have M := Aside0.mk m
  clear m
  have RB := Aside0.mk r
  clear r
  have he0 : (e != 0) = false := he
  clear he
  have ham : a % 256 = a := by omega
  clear hr hc hp
  go_enter Try.func54, Try.ntmps54
  go_wp2_with fail
  refine (opts_Put.calls A cc l s e _ (Kd.C_below HR.out (below_alloc (below_alloc (Below.refl _ _) _) _)) HC.out (by rw [opts_Put.f, HP.out])).mono ?_
  rintro e1 w1 ⟨rfl, hb⟩
  have k0 : w1.cell? ⟨w.heap.size, 0, none⟩ = some (.int .i64 c) := (hb.cell (p := ⟨w.heap.size, 0, none⟩) (by simp; omega)).trans (by simp)
  have k1 : w1.cell? ⟨w.heap.size, 1, none⟩ = some (.int .i64 i) := (hb.cell (p := ⟨w.heap.size, 1, none⟩) (by simp; omega)).trans (by simp)
  have k2 : w1.cell? ⟨w.heap.size, 2, none⟩ = some (.int .i64 a) := (hb.cell (p := ⟨w.heap.size, 2, none⟩) (by simp; omega)).trans (by simp)
  have k3 : w1.cell? ⟨w.heap.size, 3, none⟩ = some (.slice A l.length cc) := (hb.cell (p := ⟨w.heap.size, 3, none⟩) (by simp; omega)).trans (by simp)
  have j0 : w1.cell? ⟨w.heap.size + 1, 0, none⟩ = some (.int .i64 c) := (hb.cell (p := ⟨w.heap.size + 1, 0, none⟩) (by simp)).trans (by simp)
  have j1 : w1.cell? ⟨w.heap.size + 1, 1, none⟩ = some (.int .i64 i) := (hb.cell (p := ⟨w.heap.size + 1, 1, none⟩) (by simp)).trans (by simp)
  have j2 : w1.cell? ⟨w.heap.size + 1, 2, none⟩ = some (.int .i64 a) := (hb.cell (p := ⟨w.heap.size + 1, 2, none⟩) (by simp)).trans (by simp)
  have hz : w.heap.size + 1 < w1.heap.size := by have := hb.size; simp at this; omega
  have hz0 : w.heap.size < w1.heap.size := by omega
  have HB := Aside0.mk (below_then (below_alloc (below_alloc (Below.refl w.heap.size w) (.cells #[.int .i64 c, .int .i64 i, .int .i64 a, .slice A l.length cc] 56)) (.cells #[.int .i64 c, .int .i64 i, .int .i64 a] 129)) (by simp; omega) hb)
  clear hb
  go_wp2_with fail
  refine (may_any c i true _ M.out).mono ?_
  rintro e2 w2 ⟨rfl, rfl⟩
  go_wp2_with fail
  refine (resp_any c i true _ hc0 RB.out).mono ?_
  rintro e2 w2 ⟨rfl, rfl⟩
  go_wp2_with fail
  refine (resp_any c i true _ hc0 RB.out).mono ?_
  rintro e2 w5 ⟨rfl, hw5⟩
  have hbb : Below w1.heap.size w1 w5 := by
    rw [← hw5]
    repeat (first | exact Below.refl _ _ | apply below_alloc)
  have q0 : w5.cell? ⟨w.heap.size + 1, 0, none⟩ = some (.int .i64 c) := (hbb.cell (p := ⟨w.heap.size + 1, 0, none⟩) hz).trans j0
  have q1 : w5.cell? ⟨w.heap.size + 1, 1, none⟩ = some (.int .i64 i) := (hbb.cell (p := ⟨w.heap.size + 1, 1, none⟩) hz).trans j1
  have q2 : w5.cell? ⟨w.heap.size + 1, 2, none⟩ = some (.int .i64 a) := (hbb.cell (p := ⟨w.heap.size + 1, 2, none⟩) hz).trans j2
  have hz5 : w.heap.size + 1 < w5.heap.size := by have := hbb.size; omega
  have hz6 : w.heap.size < w5.heap.size := by omega
  have HB5 := Aside0.mk (below_then HB.out (Nat.le_of_lt (Nat.lt_trans (Nat.lt_succ_self _) hz)) hbb)
  clear hbb hw5 k0 k1 k2 k3 j0 j1 j2 hz hz0 HB
  have HB := HB5
  clear HB5
  obtain ⟨s1, hs1⟩ : ∃ s_ : ByteArray, s_ = strOfNums [a] := ⟨_, rfl⟩
  have hs1z : s1.size = 1 := by rw [hs1]; rfl
  have hs1y : s1.size ≤ 1 := by omega
  have hcvs1 : (convert 61 9 (.slice (some ⟨w5.heap.size, 0, none⟩) 1 1)).run Try.prog ((w5).alloc (.cells #[.int .u8 a] 5)) = .ok (.string s1) ((w5).alloc (.cells #[.int .u8 a] 5)) := by
    rw [hs1]
    have hg := heap_alloc_new (w5) (.cells #[.int .u8 a] 5)
    rw [show (w5).heap.size = w5.heap.size by simp] at hg
    refine run_convert_bytes_arg _ 61 5 Try.underlying61 Try.underlying5 (w5.heap.size) 0 1 1 [a] rfl (fun j hj => ?_) 9 Try.underlying9
    rw [Lib.cell_of_heap hg]
    match j, hj with
    | 0, _ => rfl
  have Hs1 := Aside0.mk hs1
  clear hs1
  go_wp2
  go_ret2
  exact ⟨rfl, by repeat (first | exact HB.out | apply below_alloc)⟩

set_option maxHeartbeats 1000000 in
set_option maxRecDepth 100000 in
theorem bap_ok_true (c i a : Int) (A : Option Addr) (cc : Nat) (l : List S46) (s : ByteArray) (e : Int) (w : World) (hr : Kd.C k46 w A l.length l) (hc : l.length ≤ cc) (hp : putS l = (s, e))
    (m : mayB c i = true) (a0 : 0 ≤ a) (a1 : a ≤ 255) (r : (c % 2 == 0) = true) (he : (e != 0) = false) (hn : 4 + (1 + s.size) ≤ 2048) :
    Calls Try.prog 54 #[.agg #[.int .i64 c, .int .i64 i, .int .i64 a, .slice A l.length cc]] w fun e w' => e = .returned (.tuple #[.string (strOfNums [c, i, (4 + (1 + (s.size : Int))) / 256, (4 + (1 + (s.size : Int))) % 256] ++ (strOfNums [a] ++ s)), .int .i64 0]) ∧ Below w.heap.size w w' := by
  have hu56 := Try.underlying56
  have hu127 := Try.underlying127
  have hu129 := Try.underlying129
  have HR := Aside0.mk hr
  have HC := Aside0.mk hc
  have HP := Aside0.mk hp
  have hs := putS_len l
  rw [hp] at hs
  simp only at hs
  have a0b : decide (a < 0) = false := decide_eq_false (by omega)
  have a1b : decide (255 < a) = false := decide_eq_false (by omega)
  have hc0 : 0 ≤ c := by
    unfold mayB at m
    simp at m
    omega
  have hcm : c % 256 = c := by
    unfold mayB at m
    simp at m
    omega
  have him : i % 256 = i := by
    unfold mayB at m
    simp at m
    omega
  have M := Aside0.mk m
  clear m
  have RB := Aside0.mk r
  clear r
  have he0 : (e != 0) = false := he
  clear he
  have ham : a % 256 = a := by omega
  have hq : ((4 + (1 + (s.size : Int))) / 256) % 256 = (4 + (1 + (s.size : Int))) / 256 := by omega
  clear hr hc hp
  go_enter Try.func54, Try.ntmps54
  go_wp2_with fail
  refine (opts_Put.calls A cc l s e _ (Kd.C_below HR.out (below_alloc (below_alloc (Below.refl _ _) _) _)) HC.out (by rw [opts_Put.f, HP.out])).mono ?_
  rintro e1 w1 ⟨rfl, hb⟩
  have k0 : w1.cell? ⟨w.heap.size, 0, none⟩ = some (.int .i64 c) := (hb.cell (p := ⟨w.heap.size, 0, none⟩) (by simp; omega)).trans (by simp)
  have k1 : w1.cell? ⟨w.heap.size, 1, none⟩ = some (.int .i64 i) := (hb.cell (p := ⟨w.heap.size, 1, none⟩) (by simp; omega)).trans (by simp)
  have k2 : w1.cell? ⟨w.heap.size, 2, none⟩ = some (.int .i64 a) := (hb.cell (p := ⟨w.heap.size, 2, none⟩) (by simp; omega)).trans (by simp)
  have k3 : w1.cell? ⟨w.heap.size, 3, none⟩ = some (.slice A l.length cc) := (hb.cell (p := ⟨w.heap.size, 3, none⟩) (by simp; omega)).trans (by simp)
  have j0 : w1.cell? ⟨w.heap.size + 1, 0, none⟩ = some (.int .i64 c) := (hb.cell (p := ⟨w.heap.size + 1, 0, none⟩) (by simp)).trans (by simp)
  have j1 : w1.cell? ⟨w.heap.size + 1, 1, none⟩ = some (.int .i64 i) := (hb.cell (p := ⟨w.heap.size + 1, 1, none⟩) (by simp)).trans (by simp)
  have j2 : w1.cell? ⟨w.heap.size + 1, 2, none⟩ = some (.int .i64 a) := (hb.cell (p := ⟨w.heap.size + 1, 2, none⟩) (by simp)).trans (by simp)
  have hz : w.heap.size + 1 < w1.heap.size := by have := hb.size; simp at this; omega
  have hz0 : w.heap.size < w1.heap.size := by omega
  have HB := Aside0.mk (below_then (below_alloc (below_alloc (Below.refl w.heap.size w) (.cells #[.int .i64 c, .int .i64 i, .int .i64 a, .slice A l.length cc] 56)) (.cells #[.int .i64 c, .int .i64 i, .int .i64 a] 129)) (by simp; omega) hb)
  clear hb
  go_wp2_with fail
  refine (may_any c i true _ M.out).mono ?_
  rintro e2 w2 ⟨rfl, rfl⟩
  go_wp2_with fail
  refine (resp_any c i true _ hc0 RB.out).mono ?_
  rintro e2 w2 ⟨rfl, rfl⟩
  go_wp2_with fail
  refine (resp_any c i true _ hc0 RB.out).mono ?_
  rintro e2 w5 ⟨rfl, hw5⟩
  have hbb : Below w1.heap.size w1 w5 := by
    rw [← hw5]
    repeat (first | exact Below.refl _ _ | apply below_alloc)
  have q0 : w5.cell? ⟨w.heap.size + 1, 0, none⟩ = some (.int .i64 c) := (hbb.cell (p := ⟨w.heap.size + 1, 0, none⟩) hz).trans j0
  have q1 : w5.cell? ⟨w.heap.size + 1, 1, none⟩ = some (.int .i64 i) := (hbb.cell (p := ⟨w.heap.size + 1, 1, none⟩) hz).trans j1
  have q2 : w5.cell? ⟨w.heap.size + 1, 2, none⟩ = some (.int .i64 a) := (hbb.cell (p := ⟨w.heap.size + 1, 2, none⟩) hz).trans j2
  have hz5 : w.heap.size + 1 < w5.heap.size := by have := hbb.size; omega
  have hz6 : w.heap.size < w5.heap.size := by omega
  have HB5 := Aside0.mk (below_then HB.out (Nat.le_of_lt (Nat.lt_trans (Nat.lt_succ_self _) hz)) hbb)
  clear hbb hw5 k0 k1 k2 k3 j0 j1 j2 hz hz0 HB
  have HB := HB5
  clear HB5
  obtain ⟨s1, hs1⟩ : ∃ s_ : ByteArray, s_ = strOfNums [a] := ⟨_, rfl⟩
  have hs1z : s1.size = 1 := by rw [hs1]; rfl
  have hs1y : s1.size ≤ 1 := by omega
  have hcvs1 : (convert 61 9 (.slice (some ⟨w5.heap.size, 0, none⟩) 1 1)).run Try.prog ((w5).alloc (.cells #[.int .u8 a] 5)) = .ok (.string s1) ((w5).alloc (.cells #[.int .u8 a] 5)) := by
    rw [hs1]
    have hg := heap_alloc_new (w5) (.cells #[.int .u8 a] 5)
    rw [show (w5).heap.size = w5.heap.size by simp] at hg
    refine run_convert_bytes_arg _ 61 5 Try.underlying61 Try.underlying5 (w5.heap.size) 0 1 1 [a] rfl (fun j hj => ?_) 9 Try.underlying9
    rw [Lib.cell_of_heap hg]
    match j, hj with
    | 0, _ => rfl
  have Hs1 := Aside0.mk hs1
  clear hs1
  obtain ⟨s4, hs4⟩ : ∃ s_ : ByteArray, s_ = strOfNums [c, i, ((4 + (1 + (s.size : Int))) / 256), ((4 + (1 + (s.size : Int))) % 256)] := ⟨_, rfl⟩
  have hs4z : s4.size = 4 := by rw [hs4]; rfl
  have hs4y : s4.size ≤ 4 := by omega
  have hcvs4 : (convert 61 9 (.slice (some ⟨w5.heap.size + 1, 0, none⟩) 4 4)).run Try.prog (((w5).alloc (.cells #[.int .u8 a] 5)).alloc (.cells #[.int .u8 c, .int .u8 i, .int .u8 ((4 + (1 + (s.size : Int))) / 256), .int .u8 ((4 + (1 + (s.size : Int))) % 256)] 5)) = .ok (.string s4) (((w5).alloc (.cells #[.int .u8 a] 5)).alloc (.cells #[.int .u8 c, .int .u8 i, .int .u8 ((4 + (1 + (s.size : Int))) / 256), .int .u8 ((4 + (1 + (s.size : Int))) % 256)] 5)) := by
    rw [hs4]
    have hg := heap_alloc_new ((w5).alloc (.cells #[.int .u8 a] 5)) (.cells #[.int .u8 c, .int .u8 i, .int .u8 ((4 + (1 + (s.size : Int))) / 256), .int .u8 ((4 + (1 + (s.size : Int))) % 256)] 5)
    rw [show ((w5).alloc (.cells #[.int .u8 a] 5)).heap.size = w5.heap.size + 1 by simp] at hg
    refine run_convert_bytes_arg _ 61 5 Try.underlying61 Try.underlying5 (w5.heap.size + 1) 0 4 4 [c, i, ((4 + (1 + (s.size : Int))) / 256), ((4 + (1 + (s.size : Int))) % 256)] rfl (fun j hj => ?_) 9 Try.underlying9
    rw [Lib.cell_of_heap hg]
    match j, hj with
    | 0, _ => rfl
    | 1, _ => rfl
    | 2, _ => rfl
    | 3, _ => rfl
  have Hs4 := Aside0.mk hs4
  clear hs4
  go_wp2
  go_ret2
  rw [Hs4.out, Hs1.out]
  exact ⟨rfl, by repeat (first | exact HB.out | apply below_alloc)⟩

set_option maxHeartbeats 1000000 in
set_option maxRecDepth 100000 in
theorem bap_opts_false (c i a : Int) (A : Option Addr) (cc : Nat) (l : List S46) (s : ByteArray) (e : Int) (w : World) (hr : Kd.C k46 w A l.length l) (hc : l.length ≤ cc) (hp : putS l = (s, e))
    (m : mayB c i = true) (an : a = 0) (r : (c % 2 == 0) = false) (he : (e != 0) = true) :
    Calls Try.prog 54 #[.agg #[.int .i64 c, .int .i64 i, .int .i64 a, .slice A l.length cc]] w fun e w' => e = .returned (.tuple #[.string ⟨#[]⟩, .int .i64 900]) ∧ Below w.heap.size w w' := by
  have hu56 := Try.underlying56
  have hu127 := Try.underlying127
  have hu129 := Try.underlying129
  have HR := Aside0.mk hr
  have HC := Aside0.mk hc
  have HP := Aside0.mk hp
  have hs := putS_len l
  rw [hp] at hs
  simp only at hs
  obtain rfl : a = 0 := an
  have hc0 : 0 ≤ c := by
    unfold mayB at m
    simp at m
    omega
  have hcm : c % 256 = c := by
    unfold mayB at m
    simp at m
    omega
  have him : i % 256 = i := by
    unfold mayB at m
    simp at m
    omega
  have M := Aside0.mk m
  clear m
  have RB := Aside0.mk r
  clear r
  clear hr hc hp
  go_enter Try.func54, Try.ntmps54
  go_wp2_with fail
  refine (opts_Put.calls A cc l s e _ (Kd.C_below HR.out (below_alloc (below_alloc (Below.refl _ _) _) _)) HC.out (by rw [opts_Put.f, HP.out])).mono ?_
  rintro e1 w1 ⟨rfl, hb⟩
  have k0 : w1.cell? ⟨w.heap.size, 0, none⟩ = some (.int .i64 c) := (hb.cell (p := ⟨w.heap.size, 0, none⟩) (by simp; omega)).trans (by simp)
  have k1 : w1.cell? ⟨w.heap.size, 1, none⟩ = some (.int .i64 i) := (hb.cell (p := ⟨w.heap.size, 1, none⟩) (by simp; omega)).trans (by simp)
  have k2 : w1.cell? ⟨w.heap.size, 2, none⟩ = some (.int .i64 0) := (hb.cell (p := ⟨w.heap.size, 2, none⟩) (by simp; omega)).trans (by simp)
  have k3 : w1.cell? ⟨w.heap.size, 3, none⟩ = some (.slice A l.length cc) := (hb.cell (p := ⟨w.heap.size, 3, none⟩) (by simp; omega)).trans (by simp)
  have j0 : w1.cell? ⟨w.heap.size + 1, 0, none⟩ = some (.int .i64 c) := (hb.cell (p := ⟨w.heap.size + 1, 0, none⟩) (by simp)).trans (by simp)
  have j1 : w1.cell? ⟨w.heap.size + 1, 1, none⟩ = some (.int .i64 i) := (hb.cell (p := ⟨w.heap.size + 1, 1, none⟩) (by simp)).trans (by simp)
  have j2 : w1.cell? ⟨w.heap.size + 1, 2, none⟩ = some (.int .i64 0) := (hb.cell (p := ⟨w.heap.size + 1, 2, none⟩) (by simp)).trans (by simp)
  have hz : w.heap.size + 1 < w1.heap.size := by have := hb.size; simp at this; omega
  have hz0 : w.heap.size < w1.heap.size := by omega
  have HB := Aside0.mk (below_then (below_alloc (below_alloc (Below.refl w.heap.size w) (.cells #[.int .i64 c, .int .i64 i, .int .i64 0, .slice A l.length cc] 56)) (.cells #[.int .i64 c, .int .i64 i, .int .i64 0] 129)) (by simp; omega) hb)
  clear hb
  go_wp2_with fail
  refine (may_any c i true _ M.out).mono ?_
  rintro e2 w2 ⟨rfl, rfl⟩
  go_wp2_with fail
  refine (resp_any c i false _ hc0 RB.out).mono ?_
  rintro e2 w2 ⟨rfl, rfl⟩
  go_wp2
  go_ret2
  exact ⟨rfl, by repeat (first | exact HB.out | apply below_alloc)⟩

set_option maxHeartbeats 1000000 in
set_option maxRecDepth 100000 in
theorem bap_long_false (c i a : Int) (A : Option Addr) (cc : Nat) (l : List S46) (s : ByteArray) (e : Int) (w : World) (hr : Kd.C k46 w A l.length l) (hc : l.length ≤ cc) (hp : putS l = (s, e))
    (m : mayB c i = true) (an : a = 0) (r : (c % 2 == 0) = false) (he : (e != 0) = false) (hn : 2048 < 4 + (s.size)) :
    Calls Try.prog 54 #[.agg #[.int .i64 c, .int .i64 i, .int .i64 a, .slice A l.length cc]] w fun e w' => e = .returned (.tuple #[.string ⟨#[]⟩, .int .i64 901]) ∧ Below w.heap.size w w' := by
  have hu56 := Try.underlying56
  have hu127 := Try.underlying127
  have hu129 := Try.underlying129
  have HR := Aside0.mk hr
  have HC := Aside0.mk hc
  have HP := Aside0.mk hp
  have hs := putS_len l
  rw [hp] at hs
  simp only at hs
  obtain rfl : a = 0 := an
  have hc0 : 0 ≤ c := by
    unfold mayB at m
    simp at m
    omega
  have hcm : c % 256 = c := by
    unfold mayB at m
    simp at m
    omega
  have him : i % 256 = i := by
    unfold mayB at m
    simp at m
    omega
  have M := Aside0.mk m
  clear m
  have RB := Aside0.mk r
  clear r
  have he0 : (e != 0) = false := he
  clear he
  clear hr hc hp
  go_enter Try.func54, Try.ntmps54
  go_wp2_with fail
  refine (opts_Put.calls A cc l s e _ (Kd.C_below HR.out (below_alloc (below_alloc (Below.refl _ _) _) _)) HC.out (by rw [opts_Put.f, HP.out])).mono ?_
  rintro e1 w1 ⟨rfl, hb⟩
  have k0 : w1.cell? ⟨w.heap.size, 0, none⟩ = some (.int .i64 c) := (hb.cell (p := ⟨w.heap.size, 0, none⟩) (by simp; omega)).trans (by simp)
  have k1 : w1.cell? ⟨w.heap.size, 1, none⟩ = some (.int .i64 i) := (hb.cell (p := ⟨w.heap.size, 1, none⟩) (by simp; omega)).trans (by simp)
  have k2 : w1.cell? ⟨w.heap.size, 2, none⟩ = some (.int .i64 0) := (hb.cell (p := ⟨w.heap.size, 2, none⟩) (by simp; omega)).trans (by simp)
  have k3 : w1.cell? ⟨w.heap.size, 3, none⟩ = some (.slice A l.length cc) := (hb.cell (p := ⟨w.heap.size, 3, none⟩) (by simp; omega)).trans (by simp)
  have j0 : w1.cell? ⟨w.heap.size + 1, 0, none⟩ = some (.int .i64 c) := (hb.cell (p := ⟨w.heap.size + 1, 0, none⟩) (by simp)).trans (by simp)
  have j1 : w1.cell? ⟨w.heap.size + 1, 1, none⟩ = some (.int .i64 i) := (hb.cell (p := ⟨w.heap.size + 1, 1, none⟩) (by simp)).trans (by simp)
  have j2 : w1.cell? ⟨w.heap.size + 1, 2, none⟩ = some (.int .i64 0) := (hb.cell (p := ⟨w.heap.size + 1, 2, none⟩) (by simp)).trans (by simp)
  have hz : w.heap.size + 1 < w1.heap.size := by have := hb.size; simp at this; omega
  have hz0 : w.heap.size < w1.heap.size := by omega
  have HB := Aside0.mk (below_then (below_alloc (below_alloc (Below.refl w.heap.size w) (.cells #[.int .i64 c, .int .i64 i, .int .i64 0, .slice A l.length cc] 56)) (.cells #[.int .i64 c, .int .i64 i, .int .i64 0] 129)) (by simp; omega) hb)
  clear hb
  go_wp2_with fail
  refine (may_any c i true _ M.out).mono ?_
  rintro e2 w2 ⟨rfl, rfl⟩
  go_wp2_with fail
  refine (resp_any c i false _ hc0 RB.out).mono ?_
  rintro e2 w2 ⟨rfl, rfl⟩
  go_wp2_with fail
  refine (resp_any c i false _ hc0 RB.out).mono ?_
  rintro e2 w5 ⟨rfl, hw5⟩
  have hbb : Below w1.heap.size w1 w5 := by
    rw [← hw5]
    repeat (first | exact Below.refl _ _ | apply below_alloc)
  have q0 : w5.cell? ⟨w.heap.size + 1, 0, none⟩ = some (.int .i64 c) := (hbb.cell (p := ⟨w.heap.size + 1, 0, none⟩) hz).trans j0
  have q1 : w5.cell? ⟨w.heap.size + 1, 1, none⟩ = some (.int .i64 i) := (hbb.cell (p := ⟨w.heap.size + 1, 1, none⟩) hz).trans j1
  have q2 : w5.cell? ⟨w.heap.size + 1, 2, none⟩ = some (.int .i64 0) := (hbb.cell (p := ⟨w.heap.size + 1, 2, none⟩) hz).trans j2
  have hz5 : w.heap.size + 1 < w5.heap.size := by have := hbb.size; omega
  have hz6 : w.heap.size < w5.heap.size := by omega
  have HB5 := Aside0.mk (below_then HB.out (Nat.le_of_lt (Nat.lt_trans (Nat.lt_succ_self _) hz)) hbb)
  clear hbb hw5 k0 k1 k2 k3 j0 j1 j2 hz hz0 HB
  have HB := HB5
  clear HB5
  go_wp2
  go_ret2
  exact ⟨rfl, by repeat (first | exact HB.out | apply below_alloc)⟩

set_option maxHeartbeats 1000000 in
set_option maxRecDepth 100000 in
theorem bap_ok_false (c i a : Int) (A : Option Addr) (cc : Nat) (l : List S46) (s : ByteArray) (e : Int) (w : World) (hr : Kd.C k46 w A l.length l) (hc : l.length ≤ cc) (hp : putS l = (s, e))
    (m : mayB c i = true) (an : a = 0) (r : (c % 2 == 0) = false) (he : (e != 0) = false) (hn : 4 + (s.size) ≤ 2048) :
    Calls Try.prog 54 #[.agg #[.int .i64 c, .int .i64 i, .int .i64 a, .slice A l.length cc]] w fun e w' => e = .returned (.tuple #[.string (strOfNums [c, i, (4 + ((s.size : Int))) / 256, (4 + ((s.size : Int))) % 256] ++ s), .int .i64 0]) ∧ Below w.heap.size w w' := by
  have hu56 := Try.underlying56
  have hu127 := Try.underlying127
  have hu129 := Try.underlying129
  have HR := Aside0.mk hr
  have HC := Aside0.mk hc
  have HP := Aside0.mk hp
  have hs := putS_len l
  rw [hp] at hs
  simp only at hs
  obtain rfl : a = 0 := an
  have hc0 : 0 ≤ c := by
    unfold mayB at m
    simp at m
    omega
  have hcm : c % 256 = c := by
    unfold mayB at m
    simp at m
    omega
  have him : i % 256 = i := by
    unfold mayB at m
    simp at m
    omega
  have M := Aside0.mk m
  clear m
  have RB := Aside0.mk r
  clear r
  have he0 : (e != 0) = false := he
  clear he
  have hq : ((4 + ((s.size : Int))) / 256) % 256 = (4 + ((s.size : Int))) / 256 := by omega
  clear hr hc hp
  go_enter Try.func54, Try.ntmps54
  go_wp2_with fail
  refine (opts_Put.calls A cc l s e _ (Kd.C_below HR.out (below_alloc (below_alloc (Below.refl _ _) _) _)) HC.out (by rw [opts_Put.f, HP.out])).mono ?_
  rintro e1 w1 ⟨rfl, hb⟩
  have k0 : w1.cell? ⟨w.heap.size, 0, none⟩ = some (.int .i64 c) := (hb.cell (p := ⟨w.heap.size, 0, none⟩) (by simp; omega)).trans (by simp)
  have k1 : w1.cell? ⟨w.heap.size, 1, none⟩ = some (.int .i64 i) := (hb.cell (p := ⟨w.heap.size, 1, none⟩) (by simp; omega)).trans (by simp)
  have k2 : w1.cell? ⟨w.heap.size, 2, none⟩ = some (.int .i64 0) := (hb.cell (p := ⟨w.heap.size, 2, none⟩) (by simp; omega)).trans (by simp)
  have k3 : w1.cell? ⟨w.heap.size, 3, none⟩ = some (.slice A l.length cc) := (hb.cell (p := ⟨w.heap.size, 3, none⟩) (by simp; omega)).trans (by simp)
  have j0 : w1.cell? ⟨w.heap.size + 1, 0, none⟩ = some (.int .i64 c) := (hb.cell (p := ⟨w.heap.size + 1, 0, none⟩) (by simp)).trans (by simp)
  have j1 : w1.cell? ⟨w.heap.size + 1, 1, none⟩ = some (.int .i64 i) := (hb.cell (p := ⟨w.heap.size + 1, 1, none⟩) (by simp)).trans (by simp)
  have j2 : w1.cell? ⟨w.heap.size + 1, 2, none⟩ = some (.int .i64 0) := (hb.cell (p := ⟨w.heap.size + 1, 2, none⟩) (by simp)).trans (by simp)
  have hz : w.heap.size + 1 < w1.heap.size := by have := hb.size; simp at this; omega
  have hz0 : w.heap.size < w1.heap.size := by omega
  have HB := Aside0.mk (below_then (below_alloc (below_alloc (Below.refl w.heap.size w) (.cells #[.int .i64 c, .int .i64 i, .int .i64 0, .slice A l.length cc] 56)) (.cells #[.int .i64 c, .int .i64 i, .int .i64 0] 129)) (by simp; omega) hb)
  clear hb
  go_wp2_with fail
  refine (may_any c i true _ M.out).mono ?_
  rintro e2 w2 ⟨rfl, rfl⟩
  go_wp2_with fail
  refine (resp_any c i false _ hc0 RB.out).mono ?_
  rintro e2 w2 ⟨rfl, rfl⟩
  go_wp2_with fail
  refine (resp_any c i false _ hc0 RB.out).mono ?_
  rintro e2 w5 ⟨rfl, hw5⟩
  have hbb : Below w1.heap.size w1 w5 := by
    rw [← hw5]
    repeat (first | exact Below.refl _ _ | apply below_alloc)
  have q0 : w5.cell? ⟨w.heap.size + 1, 0, none⟩ = some (.int .i64 c) := (hbb.cell (p := ⟨w.heap.size + 1, 0, none⟩) hz).trans j0
  have q1 : w5.cell? ⟨w.heap.size + 1, 1, none⟩ = some (.int .i64 i) := (hbb.cell (p := ⟨w.heap.size + 1, 1, none⟩) hz).trans j1
  have q2 : w5.cell? ⟨w.heap.size + 1, 2, none⟩ = some (.int .i64 0) := (hbb.cell (p := ⟨w.heap.size + 1, 2, none⟩) hz).trans j2
  have hz5 : w.heap.size + 1 < w5.heap.size := by have := hbb.size; omega
  have hz6 : w.heap.size < w5.heap.size := by omega
  have HB5 := Aside0.mk (below_then HB.out (Nat.le_of_lt (Nat.lt_trans (Nat.lt_succ_self _) hz)) hbb)
  clear hbb hw5 k0 k1 k2 k3 j0 j1 j2 hz hz0 HB
  have HB := HB5
  clear HB5
  obtain ⟨s4, hs4⟩ : ∃ s_ : ByteArray, s_ = strOfNums [c, i, ((4 + ((s.size : Int))) / 256), ((4 + ((s.size : Int))) % 256)] := ⟨_, rfl⟩
  have hs4z : s4.size = 4 := by rw [hs4]; rfl
  have hs4y : s4.size ≤ 4 := by omega
  have hcvs4 : (convert 61 9 (.slice (some ⟨w5.heap.size, 0, none⟩) 4 4)).run Try.prog ((w5).alloc (.cells #[.int .u8 c, .int .u8 i, .int .u8 ((4 + ((s.size : Int))) / 256), .int .u8 ((4 + ((s.size : Int))) % 256)] 5)) = .ok (.string s4) ((w5).alloc (.cells #[.int .u8 c, .int .u8 i, .int .u8 ((4 + ((s.size : Int))) / 256), .int .u8 ((4 + ((s.size : Int))) % 256)] 5)) := by
    rw [hs4]
    have hg := heap_alloc_new (w5) (.cells #[.int .u8 c, .int .u8 i, .int .u8 ((4 + ((s.size : Int))) / 256), .int .u8 ((4 + ((s.size : Int))) % 256)] 5)
    rw [show (w5).heap.size = w5.heap.size by simp] at hg
    refine run_convert_bytes_arg _ 61 5 Try.underlying61 Try.underlying5 (w5.heap.size) 0 4 4 [c, i, ((4 + ((s.size : Int))) / 256), ((4 + ((s.size : Int))) % 256)] rfl (fun j hj => ?_) 9 Try.underlying9
    rw [Lib.cell_of_heap hg]
    match j, hj with
    | 0, _ => rfl
    | 1, _ => rfl
    | 2, _ => rfl
    | 3, _ => rfl
  have Hs4 := Aside0.mk hs4
  clear hs4
  go_wp2
  go_ret2
  rw [Hs4.out]
  exact ⟨rfl, by repeat (first | exact HB.out | apply below_alloc)⟩

def bapS (c i a : Int) (os : List S46) : ByteArray × Int :=
  if mayB c i = false ∨ a < 0 ∨ 255 < a ∨ ((c % 2 == 0) = false ∧ a ≠ 0) ∨ (putS os).2 ≠ 0 then (⟨#[]⟩, 900)
  else if (c % 2 == 0) = true then
    if 2048 < 4 + (1 + (putS os).1.size) then (⟨#[]⟩, 901)
    else (strOfNums [c, i, ((4 + (1 + ((putS os).1.size : Int))) / 256), ((4 + (1 + ((putS os).1.size : Int))) % 256)] ++ (strOfNums [a] ++ (putS os).1), 0)
  else if 2048 < 4 + (putS os).1.size then (⟨#[]⟩, 901)
  else (strOfNums [c, i, ((4 + ((putS os).1.size : Int)) / 256), ((4 + ((putS os).1.size : Int)) % 256)] ++ (putS os).1, 0)
def bapmsg_Put.f (a0_0 : Int) (a0_1 : Int) (a0_2 : Int) (l0_3 : List S46) : Option (ByteArray × Int) := some (bapS a0_0 a0_1 a0_2 l0_3)
theorem bapmsg_Put.calls (a0_0 : Int) (a0_1 : Int) (a0_2 : Int) (A0_3 : Option Addr) (c0_3 : Nat) (l0_3 : List (S46)) (r1 : ByteArray) (r2 : Int) (w : World) (hr0_3 : Kd.C k46 w A0_3 l0_3.length l0_3) (hc0_3 : l0_3.length ≤ c0_3) (h : bapmsg_Put.f a0_0 a0_1 a0_2 l0_3 = some (r1, r2)) :
    Calls Try.prog 54 #[.agg #[.int .i64 a0_0, .int .i64 a0_1, .int .i64 a0_2, .slice A0_3 l0_3.length c0_3]] w fun e w' => e = .returned (.tuple #[.string r1, .int .i64 r2]) ∧ Below w.heap.size w w' := by
  have h := Option.some.inj h
  unfold bapS at h
  rcases hp : putS l0_3 with ⟨s, e⟩
  rw [hp] at h
  simp only at h
  cases m : mayB a0_0 a0_1 with
  | false =>
    rw [if_pos (.inl m), Prod.mk.injEq] at h
    obtain ⟨rfl, rfl⟩ := h
    exact bap_may _ _ _ _ _ _ s e w hr0_3 hc0_3 hp m
  | true =>
    have m' : ¬ mayB a0_0 a0_1 = false := by rw [m]; decide
    by_cases a0 : a0_2 < 0
    · rw [if_pos (.inr (.inl a0)), Prod.mk.injEq] at h
      obtain ⟨rfl, rfl⟩ := h
      exact bap_neg _ _ _ _ _ _ s e w hr0_3 hc0_3 hp m a0
    · by_cases a1 : 255 < a0_2
      · rw [if_pos (.inr (.inr (.inl a1))), Prod.mk.injEq] at h
        obtain ⟨rfl, rfl⟩ := h
        exact bap_big _ _ _ _ _ _ s e w hr0_3 hc0_3 hp m a1
      · cases r : (a0_0 % 2 == 0) with
        | false =>
          by_cases an : a0_2 = 0
          · by_cases he : e = 0
            · have he' : (e != 0) = false := by rw [he]; rfl
              rw [if_neg (by rintro (h1 | h1 | h1 | ⟨_, h1⟩ | h1); exact m' h1; exact a0 h1; exact a1 h1; exact h1 an; exact h1 he), if_neg (by rw [r]; decide)] at h
              by_cases hn : 2048 < 4 + s.size
              · rw [if_pos hn, Prod.mk.injEq] at h
                obtain ⟨rfl, rfl⟩ := h
                exact bap_long_false _ _ _ _ _ _ s e w hr0_3 hc0_3 hp m an r he' hn
              · rw [if_neg hn, Prod.mk.injEq] at h
                obtain ⟨rfl, rfl⟩ := h
                exact bap_ok_false _ _ _ _ _ _ s e w hr0_3 hc0_3 hp m an r he' (by omega)
            · rw [if_pos (.inr (.inr (.inr (.inr he)))), Prod.mk.injEq] at h
              obtain ⟨rfl, rfl⟩ := h
              exact bap_opts_false _ _ _ _ _ _ s e w hr0_3 hc0_3 hp m an r (by simpa using he)
          · rw [if_pos (.inr (.inr (.inr (.inl ⟨r, an⟩)))), Prod.mk.injEq] at h
            obtain ⟨rfl, rfl⟩ := h
            exact bap_ans _ _ _ _ _ _ s e w hr0_3 hc0_3 hp m (by omega) (by omega) r (by simpa using an)
        | true =>
          by_cases he : e = 0
          · have he' : (e != 0) = false := by rw [he]; rfl
            rw [if_neg (by rintro (h1 | h1 | h1 | ⟨h1, _⟩ | h1); exact m' h1; exact a0 h1; exact a1 h1; rw [r] at h1; cases h1; exact h1 he), if_pos r] at h
            by_cases hn : 2048 < 4 + (1 + s.size)
            · rw [if_pos hn, Prod.mk.injEq] at h
              obtain ⟨rfl, rfl⟩ := h
              exact bap_long_true _ _ _ _ _ _ s e w hr0_3 hc0_3 hp m (by omega) (by omega) r he' hn
            · rw [if_neg hn, Prod.mk.injEq] at h
              obtain ⟨rfl, rfl⟩ := h
              exact bap_ok_true _ _ _ _ _ _ s e w hr0_3 hc0_3 hp m (by omega) (by omega) r he' (by omega)
          · rw [if_pos (.inr (.inr (.inr (.inr he)))), Prod.mk.injEq] at h
            obtain ⟨rfl, rfl⟩ := h
            exact bap_opts_true _ _ _ _ _ _ s e w hr0_3 hc0_3 hp m (by omega) (by omega) r (by simpa using he)
#print axioms bapmsg_Put.calls
end Go.Proofs.Ytbdlkcgaobkdcaa.P

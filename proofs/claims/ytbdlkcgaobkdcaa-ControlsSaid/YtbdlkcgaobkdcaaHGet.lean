/- What control.Get does with a text: the document's error, or the packet; condition: the text takes at most 2^47 - 4096 bytes (as every row has it). -/
import Derived.Test.YtbdlkcgaobkdcaaSpec
import Derived.Test.YtbdlkcgaobkdcaaHCtl
set_option linter.unusedVariables false
set_option linter.unusedSimpArgs false
namespace Go.Proofs.Ytbdlkcgaobkdcaa.P
open Go.RowKit Go.Proofs.YtbdlkcgaobkdcaaW.PrintWords Go.Proofs.YtbdlkcgaobkdcaaW.PrintLast Go.Proofs.YtbdlkcgaobkdcaaW.PrintMore

theorem below_set2 {B : Nat} {a w : World} (b o : Nat) (h : Below B a w) (hb : B ≤ b) (u : Value) : Below B a (w.setCell ⟨b, o, none⟩ u) := h.setCell (p := ⟨b, o, none⟩) hb u
theorem R_sets {w w1 : World} {B : Nat} {v : Value} {xs : List S46} (h : Kd.R k46 46 w B (fun _ => True) v xs) {b2 b5 t2 t5 : Nat} {x2 x5 : Array Value} (g2 : w.heap[b2]? = some (.cells x2 t2 (0, 0))) (g5 : w.heap[b5]? = some (.cells x5 t5 (0, 0))) (n2 : 46 ≠ t2) (n5 : 46 ≠ t5)
    (hk : ∀ k, k ≠ b2 → k ≠ b5 → w1.heap[k]? = w.heap[k]?) : Kd.R k46 46 w1 B (fun _ => True) v xs := by
  have hE : ∀ t : Nat, 46 ≠ t → ∀ q, q ∈ 46 :: k46.E → q ≠ t := by
    intro t ht q hq
    have : q = 46 := by simpa [k46, Kd.iso, Kd.pair, Kd.int, Kd.string, Kd.scalar] using hq
    rw [this]
    exact ht
  exact Kd.R_mono (Kd.R_step (Kd.R_types (Kd.R_types h g2 (hE t2 n2)) g5 (hE t5 n5)) (fun k ho _ => hk k ho.1.2 ho.2)) (fun _ _ => trivial)

set_option maxHeartbeats 1000000 in
set_option maxRecDepth 100000 in
theorem cget_short (s : ByteArray) (w : World) (h : s.size < 4) :
    Calls Try.prog 49 #[.string s] w fun e w' => e = .returned (.tuple #[.agg #[.int .i64 0, .int .i64 0, .slice none 0 0, .string ⟨#[]⟩], .int .i64 500]) ∧ Below w.heap.size w w' := by
  have hu69 := Try.underlying69
  have hb : decide ((s.size : Int) < 4) = true := decide_eq_true (by omega)
  go_enter Try.func49, Try.ntmps49
  go_wp2
  refine bodyPost_ret (v := .tuple #[.agg #[.int .i64 0, .int .i64 0, .slice none 0 0, .string ⟨#[]⟩], .int .i64 500]) (by simp [results, Try.results49, go_sem]) rfl ⟨rfl, (Below.refl _ _).alloc (Nat.le_refl _) _⟩

set_option maxHeartbeats 1000000 in
set_option maxRecDepth 100000 in
theorem cget_len1 (s : ByteArray) (w : World) (h : 4 ≤ s.size) (c i n : Int) (e0 : wrap64 (s[0].toNat : Int) = c) (e1 : wrap64 (s[1].toNat : Int) = i) (en : bits BinOp.or IntKind.i64 (wrap64 (wrap64 (s[2].toNat : Int) * 256)) (wrap64 (s[3].toNat : Int)) = n)
    (hn : n < 4) :
    Calls Try.prog 49 #[.string s] w fun e w' => e = .returned (.tuple #[.agg #[.int .i64 0, .int .i64 0, .slice none 0 0, .string ⟨#[]⟩], .int .i64 501]) ∧ Below w.heap.size w w' := by
  have hu69 := Try.underlying69
  have hb : decide ((s.size : Int) < 4) = false := decide_eq_false (by omega)
  have h2 : (2 : Int) < (s.size : Int) := by omega
  have h3 : (3 : Int) < (s.size : Int) := by omega
  have h1 : (1 : Int) < (s.size : Int) := by omega
  have h0 : (0 : Int) < (s.size : Int) := by omega
  have h0n : 0 < s.size := by omega
  have h1n : 1 < s.size := by omega
  have hn1 : decide (n < 4) = true := decide_eq_true hn
  go_enter Try.func49, Try.ntmps49
  go_wp2
  go_quiet (fail)
  go_wp2
  refine bodyPost_ret (v := .tuple #[.agg #[.int .i64 0, .int .i64 0, .slice none 0 0, .string ⟨#[]⟩], .int .i64 501]) (by simp [results, Try.results49, go_sem]) rfl ⟨rfl, ?_⟩
  repeat (first | exact Below.refl _ _ | apply below_alloc | apply pw_below_drewN | apply below_drew | (refine below_set2 _ _ ?_ (by omega) _))

set_option maxHeartbeats 1000000 in
set_option maxRecDepth 100000 in
theorem cget_len2 (s : ByteArray) (w : World) (h : 4 ≤ s.size) (c i n : Int) (e0 : wrap64 (s[0].toNat : Int) = c) (e1 : wrap64 (s[1].toNat : Int) = i) (en : bits BinOp.or IntKind.i64 (wrap64 (wrap64 (s[2].toNat : Int) * 256)) (wrap64 (s[3].toNat : Int)) = n)
    (hn : 4 ≤ n) (hn2 : (s.size : Int) < n) :
    Calls Try.prog 49 #[.string s] w fun e w' => e = .returned (.tuple #[.agg #[.int .i64 0, .int .i64 0, .slice none 0 0, .string ⟨#[]⟩], .int .i64 501]) ∧ Below w.heap.size w w' := by
  have hu69 := Try.underlying69
  have hb : decide ((s.size : Int) < 4) = false := decide_eq_false (by omega)
  have h2 : (2 : Int) < (s.size : Int) := by omega
  have h3 : (3 : Int) < (s.size : Int) := by omega
  have h1 : (1 : Int) < (s.size : Int) := by omega
  have h0 : (0 : Int) < (s.size : Int) := by omega
  have h0n : 0 < s.size := by omega
  have h1n : 1 < s.size := by omega
  have hn1 : decide (n < 4) = false := decide_eq_false (by omega)
  have hn3 : decide ((s.size : Int) < n) = true := decide_eq_true hn2
  go_enter Try.func49, Try.ntmps49
  go_wp2
  go_quiet (fail)
  go_wp2
  refine bodyPost_ret (v := .tuple #[.agg #[.int .i64 0, .int .i64 0, .slice none 0 0, .string ⟨#[]⟩], .int .i64 501]) (by simp [results, Try.results49, go_sem]) rfl ⟨rfl, ?_⟩
  repeat (first | exact Below.refl _ _ | apply below_alloc | apply pw_below_drewN | apply below_drew | (refine below_set2 _ _ ?_ (by omega) _))

set_option maxHeartbeats 1000000 in
set_option maxRecDepth 100000 in
theorem cget_long (s : ByteArray) (w : World) (h : 4 ≤ s.size) (c i n : Int) (e0 : wrap64 (s[0].toNat : Int) = c) (e1 : wrap64 (s[1].toNat : Int) = i) (en : bits BinOp.or IntKind.i64 (wrap64 (wrap64 (s[2].toNat : Int) * 256)) (wrap64 (s[3].toNat : Int)) = n)
    (hn : 4 ≤ n) (hn2 : n ≤ (s.size : Int)) (hn4 : 2048 < n) :
    Calls Try.prog 49 #[.string s] w fun e w' => e = .returned (.tuple #[.agg #[.int .i64 0, .int .i64 0, .slice none 0 0, .string ⟨#[]⟩], .int .i64 503]) ∧ Below w.heap.size w w' := by
  have hu69 := Try.underlying69
  have hb : decide ((s.size : Int) < 4) = false := decide_eq_false (by omega)
  have h2 : (2 : Int) < (s.size : Int) := by omega
  have h3 : (3 : Int) < (s.size : Int) := by omega
  have h1 : (1 : Int) < (s.size : Int) := by omega
  have h0 : (0 : Int) < (s.size : Int) := by omega
  have h0n : 0 < s.size := by omega
  have h1n : 1 < s.size := by omega
  have hn1 : decide (n < 4) = false := decide_eq_false (by omega)
  have hn3 : decide ((s.size : Int) < n) = false := decide_eq_false (by omega)
  have hn5 : decide (2048 < n) = true := decide_eq_true hn4
  go_enter Try.func49, Try.ntmps49
  go_wp2
  go_quiet (fail)
  go_wp2
  refine bodyPost_ret (v := .tuple #[.agg #[.int .i64 0, .int .i64 0, .slice none 0 0, .string ⟨#[]⟩], .int .i64 503]) (by simp [results, Try.results49, go_sem]) rfl ⟨rfl, ?_⟩
  repeat (first | exact Below.refl _ _ | apply below_alloc | apply pw_below_drewN | apply below_drew | (refine below_set2 _ _ ?_ (by omega) _))

set_option maxHeartbeats 1000000 in
set_option maxRecDepth 100000 in
theorem cget_data (s : ByteArray) (w : World) (h : 4 ≤ s.size) (c i n : Int) (e0 : wrap64 (s[0].toNat : Int) = c) (e1 : wrap64 (s[1].toNat : Int) = i) (en : bits BinOp.or IntKind.i64 (wrap64 (wrap64 (s[2].toNat : Int) * 256)) (wrap64 (s[3].toNat : Int)) = n)
    (hn : 4 ≤ n) (hn2 : n ≤ (s.size : Int)) (hn4 : n ≤ 2048) (hcf : confB c = false) :
    Calls Try.prog 49 #[.string s] w fun e w' => e = .returned (.tuple #[.agg #[.int .i64 c, .int .i64 i, .slice none 0 0, .string (s.extract 4 n.toNat)], .int .i64 0]) ∧ Below w.heap.size w w' := by
  have hu69 := Try.underlying69
  have hb : decide ((s.size : Int) < 4) = false := decide_eq_false (by omega)
  have h2 : (2 : Int) < (s.size : Int) := by omega
  have h3 : (3 : Int) < (s.size : Int) := by omega
  have h1 : (1 : Int) < (s.size : Int) := by omega
  have h0 : (0 : Int) < (s.size : Int) := by omega
  have h0n : 0 < s.size := by omega
  have h1n : 1 < s.size := by omega
  have hn1 : decide (n < 4) = false := decide_eq_false (by omega)
  have hn3 : decide ((s.size : Int) < n) = false := decide_eq_false (by omega)
  have hn5 : decide (2048 < n) = false := decide_eq_false (by omega)
  have HCF := Aside0.mk hcf
  clear hcf
  go_enter Try.func49, Try.ntmps49
  go_wp2
  go_quiet (fail)
  go_wp2
  go_region
  go_wp2_with fail
  refine (conf_any c false _ HCF.out).mono ?_
  rintro e2 w2 ⟨rfl, rfl⟩
  go_wp2
  refine bodyPost_ret (v := .tuple #[.agg #[.int .i64 c, .int .i64 i, .slice none 0 0, .string (s.extract 4 n.toNat)], .int .i64 0]) (by simp [results, Try.results49, go_sem]) rfl ⟨rfl, ?_⟩
  repeat (first | exact Below.refl _ _ | apply below_alloc | apply pw_below_drewN | apply below_drew | (refine below_set2 _ _ ?_ (by omega) _))

set_option maxHeartbeats 1000000 in
set_option maxRecDepth 100000 in
theorem cget_opts (s : ByteArray) (w : World) (h : 4 ≤ s.size) (c i n : Int) (e0 : wrap64 (s[0].toNat : Int) = c) (e1 : wrap64 (s[1].toNat : Int) = i) (en : bits BinOp.or IntKind.i64 (wrap64 (wrap64 (s[2].toNat : Int) * 256)) (wrap64 (s[3].toNat : Int)) = n)
    (hn : 4 ≤ n) (hn2 : n ≤ (s.size : Int)) (hn4 : n ≤ 2048) (hcf : confB c = true) (os : List S46) (e : Int) (hg : getS (s.extract 4 n.toNat) = (os, e)) (he : (e != 0) = true) :
    Calls Try.prog 49 #[.string s] w fun e w' => e = .returned (.tuple #[.agg #[.int .i64 0, .int .i64 0, .slice none 0 0, .string ⟨#[]⟩], .int .i64 502]) ∧ Below w.heap.size w w' := by
  have hu69 := Try.underlying69
  have hb : decide ((s.size : Int) < 4) = false := decide_eq_false (by omega)
  have h2 : (2 : Int) < (s.size : Int) := by omega
  have h3 : (3 : Int) < (s.size : Int) := by omega
  have h1 : (1 : Int) < (s.size : Int) := by omega
  have h0 : (0 : Int) < (s.size : Int) := by omega
  have h0n : 0 < s.size := by omega
  have h1n : 1 < s.size := by omega
  have hn1 : decide (n < 4) = false := decide_eq_false (by omega)
  have hn3 : decide ((s.size : Int) < n) = false := decide_eq_false (by omega)
  have hn5 : decide (2048 < n) = false := decide_eq_false (by omega)
  have HCF := Aside0.mk hcf
  clear hcf
  have HG := Aside0.mk hg
  clear hg
  go_enter Try.func49, Try.ntmps49
  go_wp2
  go_quiet (fail)
  go_wp2
  go_region
  go_wp2_with fail
  refine (conf_any c true _ HCF.out).mono ?_
  rintro e2 w2 ⟨rfl, rfl⟩
  go_wp2_with fail
  refine (opts_Get.calls 2049 _ os e _ (by rw [get_eq _ _ (by omega), HG.out])).mono ?_
  rintro e3 w3 ⟨v, rfl, hR, hbw⟩
  obtain ⟨Av, cv, rfl⟩ := Kd.R_slice hR
  have g2 : w3.heap[w.heap.size]? = some (.cells #[.int .i64 0, .int .i64 0, .slice none 0 0, .string ⟨#[]⟩] 69 (0, 0)) := (hbw.block _ (by simp; omega)).trans (by rw [Lib.alloc_old _ _ _ (by simp)]; exact heap_alloc_new w _)
  have g5 : w3.heap[w.heap.size + 1]? = some (.cells #[.int .i64 c, .int .i64 i, .slice none 0 0, .string ⟨#[]⟩] 69 (0, 0)) := (hbw.block _ (by simp)).trans (by have := heap_alloc_new ((w.alloc (.cells #[.int .i64 0, .int .i64 0, .slice none 0 0, .string ⟨#[]⟩] 69)).drewN (nq + 1)) (.cells #[.int .i64 c, .int .i64 i, .slice none 0 0, .string ⟨#[]⟩] 69); simpa using this)
  have c20 : w3.cell? ⟨w.heap.size, 0, none⟩ = some (.int .i64 0) := by rw [Lib.cell_of_heap g2]; rfl
  have c21 : w3.cell? ⟨w.heap.size, 1, none⟩ = some (.int .i64 0) := by rw [Lib.cell_of_heap g2]; rfl
  have c22 : w3.cell? ⟨w.heap.size, 2, none⟩ = some (.slice none 0 0) := by rw [Lib.cell_of_heap g2]; rfl
  have c23 : w3.cell? ⟨w.heap.size, 3, none⟩ = some (.string ⟨#[]⟩) := by rw [Lib.cell_of_heap g2]; rfl
  have f20 := Lib.frozen_of_heap g2 0
  have f21 := Lib.frozen_of_heap g2 1
  have f22 := Lib.frozen_of_heap g2 2
  have f23 := Lib.frozen_of_heap g2 3
  have c50 : w3.cell? ⟨w.heap.size + 1, 0, none⟩ = some (.int .i64 c) := by rw [Lib.cell_of_heap g5]; rfl
  have c51 : w3.cell? ⟨w.heap.size + 1, 1, none⟩ = some (.int .i64 i) := by rw [Lib.cell_of_heap g5]; rfl
  have c52 : w3.cell? ⟨w.heap.size + 1, 2, none⟩ = some (.slice none 0 0) := by rw [Lib.cell_of_heap g5]; rfl
  have c53 : w3.cell? ⟨w.heap.size + 1, 3, none⟩ = some (.string ⟨#[]⟩) := by rw [Lib.cell_of_heap g5]; rfl
  have f50 := Lib.frozen_of_heap g5 0
  have f51 := Lib.frozen_of_heap g5 1
  have f52 := Lib.frozen_of_heap g5 2
  have f53 := Lib.frozen_of_heap g5 3
  have hz : w.heap.size + 1 < w3.heap.size := by have := hbw.size; simp at this; omega
  have HB := Aside0.mk (below_then (below_alloc (pw_below_drewN (below_alloc (Below.refl w.heap.size w) (.cells #[.int .i64 0, .int .i64 0, .slice none 0 0, .string ⟨#[]⟩] 69)) (nq + 1)) (.cells #[.int .i64 c, .int .i64 i, .slice none 0 0, .string ⟨#[]⟩] 69)) (by simp; omega) hbw)
  have HRR := Aside0.mk (Kd.R_lower (base' := w.heap.size) hR (by simp; omega))
  have G2 := Aside0.mk g2
  have G5 := Aside0.mk g5
  clear hbw hR g2 g5
  go_wp2
  refine bodyPost_ret (v := .tuple #[.agg #[.int .i64 0, .int .i64 0, .slice none 0 0, .string ⟨#[]⟩], .int .i64 502]) (by simp [results, Try.results49, go_sem, *]) rfl ⟨rfl, ?_⟩
  repeat (first | exact HB.out | apply below_alloc | apply pw_below_drewN | apply below_drew | (refine below_set2 _ _ ?_ (by omega) _))

set_option maxHeartbeats 1000000 in
set_option maxRecDepth 100000 in
theorem cget_ok (s : ByteArray) (w : World) (h : 4 ≤ s.size) (c i n : Int) (e0 : wrap64 (s[0].toNat : Int) = c) (e1 : wrap64 (s[1].toNat : Int) = i) (en : bits BinOp.or IntKind.i64 (wrap64 (wrap64 (s[2].toNat : Int) * 256)) (wrap64 (s[3].toNat : Int)) = n)
    (hn : 4 ≤ n) (hn2 : n ≤ (s.size : Int)) (hn4 : n ≤ 2048) (hcf : confB c = true) (os : List S46) (e : Int) (hg : getS (s.extract 4 n.toNat) = (os, e)) (he : (e != 0) = false) :
    Calls Try.prog 49 #[.string s] w fun e w' => ∃ v : Value, e = .returned (.tuple #[.agg #[.int .i64 c, .int .i64 i, v, .string ⟨#[]⟩], .int .i64 0]) ∧ Kd.R k46 46 w' w.heap.size (fun _ => True) v os ∧ Below w.heap.size w w' := by
  have hu69 := Try.underlying69
  have hb : decide ((s.size : Int) < 4) = false := decide_eq_false (by omega)
  have h2 : (2 : Int) < (s.size : Int) := by omega
  have h3 : (3 : Int) < (s.size : Int) := by omega
  have h1 : (1 : Int) < (s.size : Int) := by omega
  have h0 : (0 : Int) < (s.size : Int) := by omega
  have h0n : 0 < s.size := by omega
  have h1n : 1 < s.size := by omega
  have hn1 : decide (n < 4) = false := decide_eq_false (by omega)
  have hn3 : decide ((s.size : Int) < n) = false := decide_eq_false (by omega)
  have hn5 : decide (2048 < n) = false := decide_eq_false (by omega)
  have HCF := Aside0.mk hcf
  clear hcf
  have HG := Aside0.mk hg
  clear hg
  go_enter Try.func49, Try.ntmps49
  go_wp2
  go_quiet (fail)
  go_wp2
  go_region
  go_wp2_with fail
  refine (conf_any c true _ HCF.out).mono ?_
  rintro e2 w2 ⟨rfl, rfl⟩
  go_wp2_with fail
  refine (opts_Get.calls 2049 _ os e _ (by rw [get_eq _ _ (by omega), HG.out])).mono ?_
  rintro e3 w3 ⟨v, rfl, hR, hbw⟩
  obtain ⟨Av, cv, rfl⟩ := Kd.R_slice hR
  have g2 : w3.heap[w.heap.size]? = some (.cells #[.int .i64 0, .int .i64 0, .slice none 0 0, .string ⟨#[]⟩] 69 (0, 0)) := (hbw.block _ (by simp; omega)).trans (by rw [Lib.alloc_old _ _ _ (by simp)]; exact heap_alloc_new w _)
  have g5 : w3.heap[w.heap.size + 1]? = some (.cells #[.int .i64 c, .int .i64 i, .slice none 0 0, .string ⟨#[]⟩] 69 (0, 0)) := (hbw.block _ (by simp)).trans (by have := heap_alloc_new ((w.alloc (.cells #[.int .i64 0, .int .i64 0, .slice none 0 0, .string ⟨#[]⟩] 69)).drewN (nq + 1)) (.cells #[.int .i64 c, .int .i64 i, .slice none 0 0, .string ⟨#[]⟩] 69); simpa using this)
  have c20 : w3.cell? ⟨w.heap.size, 0, none⟩ = some (.int .i64 0) := by rw [Lib.cell_of_heap g2]; rfl
  have c21 : w3.cell? ⟨w.heap.size, 1, none⟩ = some (.int .i64 0) := by rw [Lib.cell_of_heap g2]; rfl
  have c22 : w3.cell? ⟨w.heap.size, 2, none⟩ = some (.slice none 0 0) := by rw [Lib.cell_of_heap g2]; rfl
  have c23 : w3.cell? ⟨w.heap.size, 3, none⟩ = some (.string ⟨#[]⟩) := by rw [Lib.cell_of_heap g2]; rfl
  have f20 := Lib.frozen_of_heap g2 0
  have f21 := Lib.frozen_of_heap g2 1
  have f22 := Lib.frozen_of_heap g2 2
  have f23 := Lib.frozen_of_heap g2 3
  have c50 : w3.cell? ⟨w.heap.size + 1, 0, none⟩ = some (.int .i64 c) := by rw [Lib.cell_of_heap g5]; rfl
  have c51 : w3.cell? ⟨w.heap.size + 1, 1, none⟩ = some (.int .i64 i) := by rw [Lib.cell_of_heap g5]; rfl
  have c52 : w3.cell? ⟨w.heap.size + 1, 2, none⟩ = some (.slice none 0 0) := by rw [Lib.cell_of_heap g5]; rfl
  have c53 : w3.cell? ⟨w.heap.size + 1, 3, none⟩ = some (.string ⟨#[]⟩) := by rw [Lib.cell_of_heap g5]; rfl
  have f50 := Lib.frozen_of_heap g5 0
  have f51 := Lib.frozen_of_heap g5 1
  have f52 := Lib.frozen_of_heap g5 2
  have f53 := Lib.frozen_of_heap g5 3
  have hz : w.heap.size + 1 < w3.heap.size := by have := hbw.size; simp at this; omega
  have HB := Aside0.mk (below_then (below_alloc (pw_below_drewN (below_alloc (Below.refl w.heap.size w) (.cells #[.int .i64 0, .int .i64 0, .slice none 0 0, .string ⟨#[]⟩] 69)) (nq + 1)) (.cells #[.int .i64 c, .int .i64 i, .slice none 0 0, .string ⟨#[]⟩] 69)) (by simp; omega) hbw)
  have HRR := Aside0.mk (Kd.R_lower (base' := w.heap.size) hR (by simp; omega))
  have G2 := Aside0.mk g2
  have G5 := Aside0.mk g5
  clear hbw hR g2 g5
  go_wp2
  refine bodyPost_ret (v := .tuple #[.agg #[.int .i64 c, .int .i64 i, .slice Av os.length cv, .string ⟨#[]⟩], .int .i64 0]) (by simp [results, Try.results49, go_sem, *]) rfl ⟨_, rfl, ?_, ?_⟩
  · refine R_sets HRR.out G2.out G5.out (by decide) (by decide) (fun k h2 h5 => ?_)
    repeat (rw [Below.heap_setCell _ _ _ _ (by first | exact h2 | exact h5)])
  · repeat (first | exact HB.out | apply below_alloc | apply pw_below_drewN | apply below_drew | (refine below_set2 _ _ ?_ (by omega) _))

theorem or_nat (a b : Nat) (ha : a < 9223372036854775808) (hb : b < 9223372036854775808) : bits .or .i64 (a : Int) (b : Int) = ((a ||| b : Nat) : Int) := by
  have hx : a ||| b < 2 ^ 63 := Nat.or_lt_two_pow (by omega) (by omega)
  have o : ∀ c : Nat, c < 9223372036854775808 → (BitVec.ofInt 64 (c : Int)).toNat = c := fun c hc => by
    rw [BitVec.ofInt_natCast, BitVec.toNat_ofNat]
    exact Nat.mod_eq_of_lt (by omega)
  show IntKind.i64.wrap ((BitVec.ofInt 64 (a : Int) ||| BitVec.ofInt 64 (b : Int)).toNat : Int) = _
  rw [BitVec.toNat_or, o a ha, o b hb, IntKind.wrap_i64]
  omega
theorem byte_at (s : ByteArray) (k : Nat) (h : k < s.size) : wrap64 (s[k].toNat : Int) = bt s (k : Int) := by
  rw [wrap_byte]
  exact bt_at s (k : Int) h
theorem word_at (s : ByteArray) (h2 : 2 < s.size) (h3 : 3 < s.size) : bits BinOp.or IntKind.i64 (wrap64 (wrap64 (s[2].toNat : Int) * 256)) (wrap64 (s[3].toNat : Int)) = bt s 2 * 256 + bt s 3 := by
  have e2 : bt s 2 = (s[2].toNat : Int) := (bt_at s 2 h2).symm
  have e3 : bt s 3 = (s[3].toNat : Int) := (bt_at s 3 h3).symm
  have l2 := s[2].toNat_lt
  have l3 := s[3].toNat_lt
  rw [e2, e3, wrap_byte, wrap_byte]
  generalize s[2].toNat = a at *
  generalize s[3].toNat = b at *
  rw [wrap64_of (by omega) (by omega), show (a : Int) * 256 = ((a * 256 : Nat) : Int) by omega, or_nat _ _ (by omega) (by omega)]
  have e := Nat.shiftLeft_add_eq_or_of_lt (show b < 2 ^ 8 by omega) a
  rw [Nat.shiftLeft_eq] at e
  have e' : a * 256 + b = a * 256 ||| b := e
  rw [← e']
  omega
def getC (s : ByteArray) : Int × Int × List S46 × ByteArray × Int :=
  if s.size < 4 then (0, 0, [], ⟨#[]⟩, 500)
  else if bt s 2 * 256 + bt s 3 < 4 ∨ (s.size : Int) < bt s 2 * 256 + bt s 3 then (0, 0, [], ⟨#[]⟩, 501)
  else if 2048 < bt s 2 * 256 + bt s 3 then (0, 0, [], ⟨#[]⟩, 503)
  else if confB (bt s 0) = false then (bt s 0, bt s 1, [], s.extract 4 (bt s 2 * 256 + bt s 3).toNat, 0)
  else if (getS (s.extract 4 (bt s 2 * 256 + bt s 3).toNat)).2 = 0 then (bt s 0, bt s 1, (getS (s.extract 4 (bt s 2 * 256 + bt s 3).toNat)).1, ⟨#[]⟩, 0)
  else (0, 0, [], ⟨#[]⟩, 502)
def control_Get.f (a0 : ByteArray) : Option (Int × Int × (List S46) × ByteArray × Int) := some (getC a0)
theorem control_Get.calls (a0 : ByteArray) (r1 : Int) (r2 : Int) (r3 : List (S46)) (r4 : ByteArray) (r5 : Int) (w : World) (h : control_Get.f a0 = some (r1, r2, r3, r4, r5)) :
    Calls Try.prog 49 #[.string a0] w fun e w' => ∃ v2_ : Value, e = .returned (.tuple #[.agg #[.int .i64 r1, .int .i64 r2, v2_, .string r4], .int .i64 r5]) ∧ Kd.R k46 46 w' w.heap.size (fun _ => True) v2_ r3 ∧ Below w.heap.size w w' := by
  have h := Option.some.inj h
  unfold getC at h
  by_cases c0 : a0.size < 4
  · rw [if_pos c0] at h
    simp only [Prod.mk.injEq] at h
    obtain ⟨rfl, rfl, rfl, rfl, rfl⟩ := h
    exact (cget_short a0 w c0).mono fun e w' ⟨he, hb⟩ => ⟨_, he, Kd.R_nil _ _ _ _ _, hb⟩
  · rw [if_neg c0] at h
    have e0 := byte_at a0 0 (by omega)
    have e1 := byte_at a0 1 (by omega)
    have en := word_at a0 (by omega) (by omega)
    by_cases c1 : bt a0 2 * 256 + bt a0 3 < 4 ∨ (a0.size : Int) < bt a0 2 * 256 + bt a0 3
    · rw [if_pos c1] at h
      simp only [Prod.mk.injEq] at h
      obtain ⟨rfl, rfl, rfl, rfl, rfl⟩ := h
      by_cases c2 : bt a0 2 * 256 + bt a0 3 < 4
      · exact (cget_len1 a0 w (by omega) _ _ _ e0 e1 en c2).mono fun e w' ⟨he, hb⟩ => ⟨_, he, Kd.R_nil _ _ _ _ _, hb⟩
      · exact (cget_len2 a0 w (by omega) _ _ _ e0 e1 en (by omega) (by omega)).mono fun e w' ⟨he, hb⟩ => ⟨_, he, Kd.R_nil _ _ _ _ _, hb⟩
    · rw [if_neg c1] at h
      by_cases c2 : 2048 < bt a0 2 * 256 + bt a0 3
      · rw [if_pos c2] at h
        simp only [Prod.mk.injEq] at h
        obtain ⟨rfl, rfl, rfl, rfl, rfl⟩ := h
        exact (cget_long a0 w (by omega) _ _ _ e0 e1 en (by omega) (by omega) (by omega)).mono fun e w' ⟨he, hb⟩ => ⟨_, he, Kd.R_nil _ _ _ _ _, hb⟩
      · rw [if_neg c2] at h
        cases hcf : confB (bt a0 0) with
        | false =>
          rw [if_pos hcf] at h
          simp only [Prod.mk.injEq] at h
          obtain ⟨rfl, rfl, rfl, rfl, rfl⟩ := h
          exact (cget_data a0 w (by omega) _ _ _ e0 e1 en (by omega) (by omega) (by omega) hcf).mono fun e w' ⟨he, hb⟩ => ⟨_, he, Kd.R_nil _ _ _ _ _, hb⟩
        | true =>
          rw [if_neg (by rw [hcf]; decide)] at h
          rcases hg : getS (a0.extract 4 (bt a0 2 * 256 + bt a0 3).toNat) with ⟨os, e⟩
          rw [hg] at h
          simp only at h
          by_cases he : e = 0
          · rw [if_pos he] at h
            simp only [Prod.mk.injEq] at h
            obtain ⟨rfl, rfl, rfl, rfl, rfl⟩ := h
            exact cget_ok a0 w (by omega) _ _ _ e0 e1 en (by omega) (by omega) (by omega) hcf _ _ hg (by rw [he]; rfl)
          · rw [if_neg he] at h
            simp only [Prod.mk.injEq] at h
            obtain ⟨rfl, rfl, rfl, rfl, rfl⟩ := h
            exact (cget_opts a0 w (by omega) _ _ _ e0 e1 en (by omega) (by omega) (by omega) hcf _ _ hg (by simpa using he)).mono fun e w' ⟨he, hb⟩ => ⟨_, he, Kd.R_nil _ _ _ _ _, hb⟩
#print axioms control_Get.calls
end Go.Proofs.Ytbdlkcgaobkdcaa.P

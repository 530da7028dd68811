-- PRINTED BY print.sh 35421559b90ae4d0a3588c463048766b98c2df88dd9212a6774a882060cdf62d: not written by this session
import Derived.Test.YtbdlkcgaobkdcaaPElectDropsx0
namespace Go.Proofs.Ytbdlkcgaobkdcaa.PElectDrops
open Go.RowKit Go.Proofs.YtbdlkcgaobkdcaaW.PrintWords Go.Proofs.YtbdlkcgaobkdcaaW.PrintLast Go.Proofs.YtbdlkcgaobkdcaaW.PrintMore
attribute [local go_sem] max2_int min2_int max_two min_two max_three min_three max_four min_four   -- for this text's walks alone
set_option linter.unusedVariables false
set_option linter.unusedSimpArgs false

/-! ### elect_magic: function 65 -/
def elect_magic.f (a0 : Int) : Option (Bool) := if a0 ≥ 1 then (some (decide (a0 ≤ 4294967295))) else (some false)
set_option maxHeartbeats 8000000 in
set_option maxRecDepth 100000 in
theorem elect_magic.calls (a0 : Int) (r : Bool) (w : World) (h : elect_magic.f a0 = some r) :
    Calls Try.prog 65 #[.int .i64 a0] w fun e w' => e = .returned (.bool r) ∧ Drawn0 w w' := by
  have H : (if a0 ≥ 1 then (some (decide (a0 ≤ 4294967295))) else (some false)) = some r := h
  clear h
  by_cases c2 : a0 ≥ 1
  · rw [if_pos c2] at H
    have c2b0 : decide (1 ≤ a0) = true := decide_eq_true c2
    clear c2
    obtain rfl := Option.some.inj H
    go_enter Try.func65, Try.ntmps65
    go_wp2
    go_ret
    exact ⟨by first | rfl | (simp; done) | (simp [*]; done), by repeat (first | exact Drawn0.refl _ | apply Drawn0.step)⟩
  · rw [if_neg c2] at H
    have c2b0 : decide (1 ≤ a0) = false := decide_eq_false c2
    clear c2
    obtain rfl := Option.some.inj H
    go_enter Try.func65, Try.ntmps65
    go_wp2
    go_ret
    exact ⟨by first | rfl | (simp; done) | (simp [*]; done), by repeat (first | exact Drawn0.refl _ | apply Drawn0.step)⟩

/-! ### elect_Favoured: function 25 -/
def elect_Favoured.f (a0 : Int) (a1 : Int) : Option (Bool × Int) := (elect_magic.f a0).bind fun t101 => (if t101 = true then ((elect_magic.f a1).bind fun t102 => (if t102 = true then (if a0 = a1 then (some (false, 2100)) else (some (decide (a0 < a1), 0))) else (some (false, 2100)))) else (some (false, 2100)))
set_option maxHeartbeats 8000000 in
set_option maxRecDepth 100000 in
theorem elect_Favoured.calls (a0 : Int) (a1 : Int) (r1 : Bool) (r2 : Int) (w : World) (h : elect_Favoured.f a0 a1 = some (r1, r2)) :
    Calls Try.prog 25 #[.int .i64 a0, .int .i64 a1] w fun e w' => e = .returned (.tuple #[.bool r1, .int .i64 r2]) ∧ Drawn0 w w' := by
  have H : ((elect_magic.f a0).bind fun t101 => (if t101 = true then ((elect_magic.f a1).bind fun t102 => (if t102 = true then (if a0 = a1 then (some (false, 2100)) else (some (decide (a0 < a1), 0))) else (some (false, 2100)))) else (some (false, 2100)))) = some (r1, r2) := h
  clear h
  replace H := Option.bind_eq_some_iff.mp H
  obtain ⟨t101, A30, H⟩ := H
  replace H : (if t101 = true then ((elect_magic.f a1).bind fun t102 => (if t102 = true then (if a0 = a1 then (some (false, 2100)) else (some (decide (a0 < a1), 0))) else (some (false, 2100)))) else (some (false, 2100))) = some (r1, r2) := H
  have A3 := Aside0.mk A30
  clear A30
  by_cases c4 : t101 = true
  · subst c4
    have H1 : ((elect_magic.f a1).bind fun t102 => (if t102 = true then (if a0 = a1 then (some (false, 2100)) else (some (decide (a0 < a1), 0))) else (some (false, 2100)))) = some (r1, r2) := by rw [if_pos rfl] at H; exact H
    clear H
    have H := H1
    clear H1
    replace H := Option.bind_eq_some_iff.mp H
    obtain ⟨t102, A50, H⟩ := H
    replace H : (if t102 = true then (if a0 = a1 then (some (false, 2100)) else (some (decide (a0 < a1), 0))) else (some (false, 2100))) = some (r1, r2) := H
    have A5 := Aside0.mk A50
    clear A50
    by_cases c6 : t102 = true
    · subst c6
      have H1 : (if a0 = a1 then (some (false, 2100)) else (some (decide (a0 < a1), 0))) = some (r1, r2) := by rw [if_pos rfl] at H; exact H
      clear H
      have H := H1
      clear H1
      by_cases c7 : a0 = a1
      · rw [if_pos c7] at H
        have c7b0 : (a0 == a1) = true := beq_iff_eq.mpr c7
        have c7b1 : (a0 != a1) = false := bne_eq_false_iff_eq.mpr c7
        clear c7
        simp only [Option.some.injEq, Prod.mk.injEq] at H
        obtain ⟨rfl, rfl⟩ := H
        go_enter Try.func25, Try.ntmps25
        go_wp2_with (first | ((with_reducible refine gate_callee (f := 65) rfl ?_); refine goesL_ (some 7) rfl rfl Try.func65 (by kernel_rfl) rfl #[.int .i64 a0] rfl (by (try simp only [List.map_toArray, List.map_cons, List.map_nil]); first | done | rfl | (simp only [List.length_drop, List.length_take]; rfl)) ?_; (with_reducible refine (elect_magic.calls a0 true _ A3.out).mono ?_); rintro e w' ⟨rfl, ⟨nd, rfl⟩⟩; refine ⟨_, rfl, ?_⟩) | (go_at_call 65; (with_reducible refine (elect_magic.calls a1 true _ A5.out).mono ?_); rintro e w' ⟨rfl, ⟨nd, rfl⟩⟩))
        go_ret2
        exact ⟨by first | rfl | (simp; done) | (simp [*]; done), by repeat (first | exact Drawn0.refl _ | apply Drawn0.step)⟩
      · rw [if_neg c7] at H
        have c7b0 : (a0 == a1) = false := beq_eq_false_iff_ne.mpr c7
        have c7b1 : (a0 != a1) = true := bne_iff_ne.mpr c7
        simp only [Option.some.injEq, Prod.mk.injEq] at H
        obtain ⟨rfl, rfl⟩ := H
        go_enter Try.func25, Try.ntmps25
        go_wp2_with (first | ((with_reducible refine gate_callee (f := 65) rfl ?_); refine goesL_ (some 7) rfl rfl Try.func65 (by kernel_rfl) rfl #[.int .i64 a0] rfl (by (try simp only [List.map_toArray, List.map_cons, List.map_nil]); first | done | rfl | (simp only [List.length_drop, List.length_take]; rfl)) ?_; (with_reducible refine (elect_magic.calls a0 true _ A3.out).mono ?_); rintro e w' ⟨rfl, ⟨nd, rfl⟩⟩; refine ⟨_, rfl, ?_⟩) | (go_at_call 65; (with_reducible refine (elect_magic.calls a1 true _ A5.out).mono ?_); rintro e w' ⟨rfl, ⟨nd, rfl⟩⟩))
        go_ret2
        exact ⟨by first | rfl | (simp; done) | (simp [*]; done), by repeat (first | exact Drawn0.refl _ | apply Drawn0.step)⟩
    · replace c6 := Bool.eq_false_iff.mpr c6
      subst c6
      have H1 : (some (false, 2100)) = some (r1, r2) := by rw [if_neg (show ¬ (false = true) by decide)] at H; exact H
      clear H
      have H := H1
      clear H1
      simp only [Option.some.injEq, Prod.mk.injEq] at H
      obtain ⟨rfl, rfl⟩ := H
      go_enter Try.func25, Try.ntmps25
      go_wp2_with (first | ((with_reducible refine gate_callee (f := 65) rfl ?_); refine goesL_ (some 7) rfl rfl Try.func65 (by kernel_rfl) rfl #[.int .i64 a0] rfl (by (try simp only [List.map_toArray, List.map_cons, List.map_nil]); first | done | rfl | (simp only [List.length_drop, List.length_take]; rfl)) ?_; (with_reducible refine (elect_magic.calls a0 true _ A3.out).mono ?_); rintro e w' ⟨rfl, ⟨nd, rfl⟩⟩; refine ⟨_, rfl, ?_⟩) | (go_at_call 65; (with_reducible refine (elect_magic.calls a1 false _ A5.out).mono ?_); rintro e w' ⟨rfl, ⟨nd, rfl⟩⟩))
      go_ret2
      exact ⟨by first | rfl | (simp; done) | (simp [*]; done), by repeat (first | exact Drawn0.refl _ | apply Drawn0.step)⟩
  · replace c4 := Bool.eq_false_iff.mpr c4
    subst c4
    have H1 : (some (false, 2100)) = some (r1, r2) := by rw [if_neg (show ¬ (false = true) by decide)] at H; exact H
    clear H
    have H := H1
    clear H1
    simp only [Option.some.injEq, Prod.mk.injEq] at H
    obtain ⟨rfl, rfl⟩ := H
    go_enter Try.func25, Try.ntmps25
    go_wp2_with (first | ((with_reducible refine gate_callee (f := 65) rfl ?_); refine goesL_ (some 7) rfl rfl Try.func65 (by kernel_rfl) rfl #[.int .i64 a0] rfl (by (try simp only [List.map_toArray, List.map_cons, List.map_nil]); first | done | rfl | (simp only [List.length_drop, List.length_take]; rfl)) ?_; (with_reducible refine (elect_magic.calls a0 false _ A3.out).mono ?_); rintro e w' ⟨rfl, ⟨nd, rfl⟩⟩; refine ⟨_, rfl, ?_⟩))
    go_ret2
    exact ⟨by first | rfl | (simp; done) | (simp [*]; done), by repeat (first | exact Drawn0.refl _ | apply Drawn0.step)⟩

/-! ### elect_Request: function 67 -/
def elect_Request.f (a0 : Int) : Option (Bool) := if a0 = 1 then (some true) else (if a0 = 3 then (some true) else (some (a0 == 5)))
set_option maxHeartbeats 8000000 in
set_option maxRecDepth 100000 in
theorem elect_Request.calls (a0 : Int) (r : Bool) (w : World) (h : elect_Request.f a0 = some r) :
    Calls Try.prog 67 #[.int .i64 a0] w fun e w' => e = .returned (.bool r) ∧ Drawn0 w w' := by
  have H : (if a0 = 1 then (some true) else (if a0 = 3 then (some true) else (some (a0 == 5)))) = some r := h
  clear h
  by_cases c2 : a0 = 1
  · rw [if_pos c2] at H
    have c2b0 : (a0 == 1) = true := beq_iff_eq.mpr c2
    have c2b1 : (a0 != 1) = false := bne_eq_false_iff_eq.mpr c2
    clear c2
    obtain rfl := Option.some.inj H
    go_enter Try.func67, Try.ntmps67
    go_wp2
    go_ret
    exact ⟨by first | rfl | (simp; done) | (simp [*]; done), by repeat (first | exact Drawn0.refl _ | apply Drawn0.step)⟩
  · rw [if_neg c2] at H
    have c2b0 : (a0 == 1) = false := beq_eq_false_iff_ne.mpr c2
    have c2b1 : (a0 != 1) = true := bne_iff_ne.mpr c2
    by_cases c3 : a0 = 3
    · rw [if_pos c3] at H
      have c3b0 : (a0 == 3) = true := beq_iff_eq.mpr c3
      have c3b1 : (a0 != 3) = false := bne_eq_false_iff_eq.mpr c3
      clear c3
      obtain rfl := Option.some.inj H
      go_enter Try.func67, Try.ntmps67
      go_wp2
      go_ret
      exact ⟨by first | rfl | (simp; done) | (simp [*]; done), by repeat (first | exact Drawn0.refl _ | apply Drawn0.step)⟩
    · rw [if_neg c3] at H
      have c3b0 : (a0 == 3) = false := beq_eq_false_iff_ne.mpr c3
      have c3b1 : (a0 != 3) = true := bne_iff_ne.mpr c3
      obtain rfl := Option.some.inj H
      go_enter Try.func67, Try.ntmps67
      go_wp2
      go_ret
      exact ⟨by first | rfl | (simp; done) | (simp [*]; done), by repeat (first | exact Drawn0.refl _ | apply Drawn0.step)⟩

/-! ### elect_Crossed: function 68 -/
def elect_Crossed.f (a0 : Bool) (a1 : Int) (a2 : Int) : Option (Bool) := if ((a1 == 5) != (a2 == 5)) = true then (some (a2 == 5)) else (some a0)
set_option maxHeartbeats 8000000 in
set_option maxRecDepth 100000 in
theorem elect_Crossed.calls (a0 : Bool) (a1 : Int) (a2 : Int) (r : Bool) (w : World) (h : elect_Crossed.f a0 a1 a2 = some r) :
    Calls Try.prog 68 #[.bool a0, .int .i64 a1, .int .i64 a2] w fun e w' => e = .returned (.bool r) ∧ Drawn0 w w' := by
  have H : (if ((a1 == 5) != (a2 == 5)) = true then (some (a2 == 5)) else (some a0)) = some r := h
  clear h
  by_cases c4 : ((a1 == 5) != (a2 == 5)) = true
  · rw [if_pos c4] at H
    have c4b0 : ((a1 == 5) != (a2 == 5)) = true := c4
    (try (have c4b1 : decide ((a1 == 5) = (a2 == 5)) = false := by simpa using c4))
    (try (have c4b2 : ((a1 == 5) == (a2 == 5)) = false := by simpa using c4))
    (try (have c4b3 : ¬ ((a1 == 5) = (a2 == 5)) := by simpa using c4))
    clear c4
    obtain rfl := Option.some.inj H
    go_enter Try.func68, Try.ntmps68
    go_wp2
    go_ret
    exact ⟨by first | rfl | (simp; done) | (simp [*]; done), by repeat (first | exact Drawn0.refl _ | apply Drawn0.step)⟩
  · rw [if_neg c4] at H
    have c4b0 : ((a1 == 5) != (a2 == 5)) = false := by simpa using c4
    (try (have c4b1 : decide ((a1 == 5) = (a2 == 5)) = true := by simpa using c4))
    (try (have c4b2 : ((a1 == 5) == (a2 == 5)) = true := by simpa using c4))
    clear c4
    obtain rfl := Option.some.inj H
    go_enter Try.func68, Try.ntmps68
    go_wp2
    go_ret
    exact ⟨by first | rfl | (simp; done) | (simp [*]; done), by repeat (first | exact Drawn0.refl _ | apply Drawn0.step)⟩

/-! ### elect_Wins: function 27 -/
def elect_Wins.f (a0 : Int) (a1 : Int) (a2 : Int) (a3 : Int) : Option (Bool × Int) := (elect_Favoured.f a0 a1).bind fun bt103 => (if bt103.2 = 0 then ((elect_Request.f a2).bind fun t105 => (if t105 = true then ((elect_Request.f a3).bind fun t106 => (if t106 = true then ((elect_Crossed.f bt103.1 a2 a3).bind fun t107 => (some (t107, 0))) else (some (false, 2100)))) else (some (false, 2100)))) else (some (false, 2100)))
set_option maxHeartbeats 8000000 in
set_option maxRecDepth 100000 in
theorem elect_Wins.calls (a0 : Int) (a1 : Int) (a2 : Int) (a3 : Int) (r1 : Bool) (r2 : Int) (w : World) (h : elect_Wins.f a0 a1 a2 a3 = some (r1, r2)) :
    Calls Try.prog 27 #[.int .i64 a0, .int .i64 a1, .int .i64 a2, .int .i64 a3] w fun e w' => e = .returned (.tuple #[.bool r1, .int .i64 r2]) ∧ Drawn0 w w' := by
  have H : ((elect_Favoured.f a0 a1).bind fun bt103 => (if bt103.2 = 0 then ((elect_Request.f a2).bind fun t105 => (if t105 = true then ((elect_Request.f a3).bind fun t106 => (if t106 = true then ((elect_Crossed.f bt103.1 a2 a3).bind fun t107 => (some (t107, 0))) else (some (false, 2100)))) else (some (false, 2100)))) else (some (false, 2100)))) = some (r1, r2) := h
  clear h
  replace H := Option.bind_eq_some_iff.mp H
  obtain ⟨⟨t103, t104⟩, A50, H⟩ := H
  replace H : (if t104 = 0 then ((elect_Request.f a2).bind fun t105 => (if t105 = true then ((elect_Request.f a3).bind fun t106 => (if t106 = true then ((elect_Crossed.f t103 a2 a3).bind fun t107 => (some (t107, 0))) else (some (false, 2100)))) else (some (false, 2100)))) else (some (false, 2100))) = some (r1, r2) := H
  have A5 := Aside0.mk A50
  clear A50
  by_cases c6 : t104 = 0
  · rw [if_pos c6] at H
    have c6b0 : (t104 == 0) = true := beq_iff_eq.mpr c6
    have c6b1 : (t104 != 0) = false := bne_eq_false_iff_eq.mpr c6
    clear c6
    replace H := Option.bind_eq_some_iff.mp H
    obtain ⟨t105, A70, H⟩ := H
    replace H : (if t105 = true then ((elect_Request.f a3).bind fun t106 => (if t106 = true then ((elect_Crossed.f t103 a2 a3).bind fun t107 => (some (t107, 0))) else (some (false, 2100)))) else (some (false, 2100))) = some (r1, r2) := H
    have A7 := Aside0.mk A70
    clear A70
    by_cases c8 : t105 = true
    · subst c8
      have H1 : ((elect_Request.f a3).bind fun t106 => (if t106 = true then ((elect_Crossed.f t103 a2 a3).bind fun t107 => (some (t107, 0))) else (some (false, 2100)))) = some (r1, r2) := by rw [if_pos rfl] at H; exact H
      clear H
      have H := H1
      clear H1
      replace H := Option.bind_eq_some_iff.mp H
      obtain ⟨t106, A90, H⟩ := H
      replace H : (if t106 = true then ((elect_Crossed.f t103 a2 a3).bind fun t107 => (some (t107, 0))) else (some (false, 2100))) = some (r1, r2) := H
      have A9 := Aside0.mk A90
      clear A90
      by_cases c10 : t106 = true
      · subst c10
        have H1 : ((elect_Crossed.f t103 a2 a3).bind fun t107 => (some (t107, 0))) = some (r1, r2) := by rw [if_pos rfl] at H; exact H
        clear H
        have H := H1
        clear H1
        replace H := Option.bind_eq_some_iff.mp H
        obtain ⟨t107, A110, H⟩ := H
        replace H : (some (t107, 0)) = some (r1, r2) := H
        have A11 := Aside0.mk A110
        clear A110
        simp only [Option.some.injEq, Prod.mk.injEq] at H
        obtain ⟨rfl, rfl⟩ := H
        go_enter Try.func27, Try.ntmps27
        go_wp2_with (first | ((with_reducible refine gate_callee (f := 25) rfl ?_); refine goesL_ (some 15) rfl rfl Try.func25 (by kernel_rfl) rfl #[.int .i64 a0, .int .i64 a1] rfl (by (try simp only [List.map_toArray, List.map_cons, List.map_nil]); first | done | rfl | (simp only [List.length_drop, List.length_take]; rfl)) ?_; (with_reducible refine (elect_Favoured.calls a0 a1 t103 t104 _ A5.out).mono ?_); rintro e w' ⟨rfl, ⟨nd, rfl⟩⟩; refine ⟨_, rfl, ?_⟩) | (go_at_call 67; (with_reducible refine (elect_Request.calls a2 true _ A7.out).mono ?_); rintro e w' ⟨rfl, ⟨nd, rfl⟩⟩) | (go_at_call 67; (with_reducible refine (elect_Request.calls a3 true _ A9.out).mono ?_); rintro e w' ⟨rfl, ⟨nd, rfl⟩⟩) | ((with_reducible refine gate_callee (f := 68) rfl ?_); refine goesL_ (some 33) rfl rfl Try.func68 (by kernel_rfl) rfl #[.bool t103, .int .i64 a2, .int .i64 a3] rfl (by (try simp only [List.map_toArray, List.map_cons, List.map_nil]); first | done | rfl | (simp only [List.length_drop, List.length_take]; rfl)) ?_; (with_reducible refine (elect_Crossed.calls t103 a2 a3 t107 _ A11.out).mono ?_); rintro e w' ⟨rfl, ⟨nd, rfl⟩⟩; refine ⟨_, rfl, ?_⟩))
        go_ret2
        exact ⟨by first | rfl | (simp; done) | (simp [*]; done), by repeat (first | exact Drawn0.refl _ | apply Drawn0.step)⟩
      · replace c10 := Bool.eq_false_iff.mpr c10
        subst c10
        have H1 : (some (false, 2100)) = some (r1, r2) := by rw [if_neg (show ¬ (false = true) by decide)] at H; exact H
        clear H
        have H := H1
        clear H1
        simp only [Option.some.injEq, Prod.mk.injEq] at H
        obtain ⟨rfl, rfl⟩ := H
        go_enter Try.func27, Try.ntmps27
        go_wp2_with (first | ((with_reducible refine gate_callee (f := 25) rfl ?_); refine goesL_ (some 15) rfl rfl Try.func25 (by kernel_rfl) rfl #[.int .i64 a0, .int .i64 a1] rfl (by (try simp only [List.map_toArray, List.map_cons, List.map_nil]); first | done | rfl | (simp only [List.length_drop, List.length_take]; rfl)) ?_; (with_reducible refine (elect_Favoured.calls a0 a1 t103 t104 _ A5.out).mono ?_); rintro e w' ⟨rfl, ⟨nd, rfl⟩⟩; refine ⟨_, rfl, ?_⟩) | (go_at_call 67; (with_reducible refine (elect_Request.calls a2 true _ A7.out).mono ?_); rintro e w' ⟨rfl, ⟨nd, rfl⟩⟩) | (go_at_call 67; (with_reducible refine (elect_Request.calls a3 false _ A9.out).mono ?_); rintro e w' ⟨rfl, ⟨nd, rfl⟩⟩))
        go_ret2
        exact ⟨by first | rfl | (simp; done) | (simp [*]; done), by repeat (first | exact Drawn0.refl _ | apply Drawn0.step)⟩
    · replace c8 := Bool.eq_false_iff.mpr c8
      subst c8
      have H1 : (some (false, 2100)) = some (r1, r2) := by rw [if_neg (show ¬ (false = true) by decide)] at H; exact H
      clear H
      have H := H1
      clear H1
      simp only [Option.some.injEq, Prod.mk.injEq] at H
      obtain ⟨rfl, rfl⟩ := H
      go_enter Try.func27, Try.ntmps27
      go_wp2_with (first | ((with_reducible refine gate_callee (f := 25) rfl ?_); refine goesL_ (some 15) rfl rfl Try.func25 (by kernel_rfl) rfl #[.int .i64 a0, .int .i64 a1] rfl (by (try simp only [List.map_toArray, List.map_cons, List.map_nil]); first | done | rfl | (simp only [List.length_drop, List.length_take]; rfl)) ?_; (with_reducible refine (elect_Favoured.calls a0 a1 t103 t104 _ A5.out).mono ?_); rintro e w' ⟨rfl, ⟨nd, rfl⟩⟩; refine ⟨_, rfl, ?_⟩) | (go_at_call 67; (with_reducible refine (elect_Request.calls a2 false _ A7.out).mono ?_); rintro e w' ⟨rfl, ⟨nd, rfl⟩⟩))
      go_ret2
      exact ⟨by first | rfl | (simp; done) | (simp [*]; done), by repeat (first | exact Drawn0.refl _ | apply Drawn0.step)⟩
  · rw [if_neg c6] at H
    have c6b0 : (t104 == 0) = false := beq_eq_false_iff_ne.mpr c6
    have c6b1 : (t104 != 0) = true := bne_iff_ne.mpr c6
    simp only [Option.some.injEq, Prod.mk.injEq] at H
    obtain ⟨rfl, rfl⟩ := H
    go_enter Try.func27, Try.ntmps27
    go_wp2_with (first | ((with_reducible refine gate_callee (f := 25) rfl ?_); refine goesL_ (some 15) rfl rfl Try.func25 (by kernel_rfl) rfl #[.int .i64 a0, .int .i64 a1] rfl (by (try simp only [List.map_toArray, List.map_cons, List.map_nil]); first | done | rfl | (simp only [List.length_drop, List.length_take]; rfl)) ?_; (with_reducible refine (elect_Favoured.calls a0 a1 t103 t104 _ A5.out).mono ?_); rintro e w' ⟨rfl, ⟨nd, rfl⟩⟩; refine ⟨_, rfl, ?_⟩))
    go_ret2
    exact ⟨by first | rfl | (simp; done) | (simp [*]; done), by repeat (first | exact Drawn0.refl _ | apply Drawn0.step)⟩

/-! ### withylaw0_Num: function 29 -/
def withylaw0_Num.f (a0 : Int) : Option (Int) := some a0
set_option maxHeartbeats 8000000 in
set_option maxRecDepth 100000 in
theorem withylaw0_Num.calls (a0 : Int) (r : Int) (w : World) (h : withylaw0_Num.f a0 = some r) :
    Calls Try.prog 29 #[.int .i64 a0] w fun e w' => e = .returned (.int .i64 r) ∧ Drawn0 w w' := by
  have H : (some a0) = some r := h
  clear h
  obtain rfl := Option.some.inj H
  go_enter Try.func29, Try.ntmps29
  go_wp2
  go_ret
  exact ⟨by first | rfl | (simp; done) | (simp [*]; done), by repeat (first | exact Drawn0.refl _ | apply Drawn0.step)⟩

/-! ### withylaw21_awake: function 30 -/
def withylaw21_awake.f  : Option (Bool) := (elect_Favoured.f 1 2).bind fun bt108 => ((elect_Favoured.f 2 2).bind fun bt110 => ((elect_Wins.f 1 2 5 1).bind fun bt112 => (if bt108.1 = true then ((withylaw0_Num.f bt108.2).bind fun t114 => (if t114 = 0 then ((withylaw0_Num.f bt110.2).bind fun t115 => (if t115 = 2100 then (if bt112.1 = true then (some false) else ((withylaw0_Num.f bt112.2).bind fun t116 => (some (t116 == 0)))) else (some false))) else (some false))) else (some false))))
set_option maxHeartbeats 8000000 in
set_option maxRecDepth 100000 in
theorem withylaw21_awake.calls  (r : Bool) (w : World) (h : withylaw21_awake.f  = some r) :
    Calls Try.prog 30 #[] w fun e w' => e = .returned (.bool r) ∧ Drawn0 w w' := by
  have H : ((elect_Favoured.f 1 2).bind fun bt108 => ((elect_Favoured.f 2 2).bind fun bt110 => ((elect_Wins.f 1 2 5 1).bind fun bt112 => (if bt108.1 = true then ((withylaw0_Num.f bt108.2).bind fun t114 => (if t114 = 0 then ((withylaw0_Num.f bt110.2).bind fun t115 => (if t115 = 2100 then (if bt112.1 = true then (some false) else ((withylaw0_Num.f bt112.2).bind fun t116 => (some (t116 == 0)))) else (some false))) else (some false))) else (some false))))) = some r := h
  clear h
  replace H := Option.bind_eq_some_iff.mp H
  obtain ⟨⟨t108, t109⟩, A10, H⟩ := H
  replace H : ((elect_Favoured.f 2 2).bind fun bt110 => ((elect_Wins.f 1 2 5 1).bind fun bt112 => (if t108 = true then ((withylaw0_Num.f t109).bind fun t114 => (if t114 = 0 then ((withylaw0_Num.f bt110.2).bind fun t115 => (if t115 = 2100 then (if bt112.1 = true then (some false) else ((withylaw0_Num.f bt112.2).bind fun t116 => (some (t116 == 0)))) else (some false))) else (some false))) else (some false)))) = some r := H
  have A1 := Aside0.mk A10
  clear A10
  replace H := Option.bind_eq_some_iff.mp H
  obtain ⟨⟨t110, t111⟩, A20, H⟩ := H
  replace H : ((elect_Wins.f 1 2 5 1).bind fun bt112 => (if t108 = true then ((withylaw0_Num.f t109).bind fun t114 => (if t114 = 0 then ((withylaw0_Num.f t111).bind fun t115 => (if t115 = 2100 then (if bt112.1 = true then (some false) else ((withylaw0_Num.f bt112.2).bind fun t116 => (some (t116 == 0)))) else (some false))) else (some false))) else (some false))) = some r := H
  have A2 := Aside0.mk A20
  clear A20
  replace H := Option.bind_eq_some_iff.mp H
  obtain ⟨⟨t112, t113⟩, A30, H⟩ := H
  replace H : (if t108 = true then ((withylaw0_Num.f t109).bind fun t114 => (if t114 = 0 then ((withylaw0_Num.f t111).bind fun t115 => (if t115 = 2100 then (if t112 = true then (some false) else ((withylaw0_Num.f t113).bind fun t116 => (some (t116 == 0)))) else (some false))) else (some false))) else (some false)) = some r := H
  have A3 := Aside0.mk A30
  clear A30
  by_cases c4 : t108 = true
  · subst c4
    have H1 : ((withylaw0_Num.f t109).bind fun t114 => (if t114 = 0 then ((withylaw0_Num.f t111).bind fun t115 => (if t115 = 2100 then (if t112 = true then (some false) else ((withylaw0_Num.f t113).bind fun t116 => (some (t116 == 0)))) else (some false))) else (some false))) = some r := by rw [if_pos rfl] at H; exact H
    clear H
    have H := H1
    clear H1
    replace H := Option.bind_eq_some_iff.mp H
    obtain ⟨t114, A50, H⟩ := H
    replace H : (if t114 = 0 then ((withylaw0_Num.f t111).bind fun t115 => (if t115 = 2100 then (if t112 = true then (some false) else ((withylaw0_Num.f t113).bind fun t116 => (some (t116 == 0)))) else (some false))) else (some false)) = some r := H
    have A5 := Aside0.mk A50
    clear A50
    by_cases c6 : t114 = 0
    · rw [if_pos c6] at H
      have c6b0 : (t114 == 0) = true := beq_iff_eq.mpr c6
      have c6b1 : (t114 != 0) = false := bne_eq_false_iff_eq.mpr c6
      clear c6
      replace H := Option.bind_eq_some_iff.mp H
      obtain ⟨t115, A70, H⟩ := H
      replace H : (if t115 = 2100 then (if t112 = true then (some false) else ((withylaw0_Num.f t113).bind fun t116 => (some (t116 == 0)))) else (some false)) = some r := H
      have A7 := Aside0.mk A70
      clear A70
      by_cases c8 : t115 = 2100
      · rw [if_pos c8] at H
        have c8b0 : (t115 == 2100) = true := beq_iff_eq.mpr c8
        have c8b1 : (t115 != 2100) = false := bne_eq_false_iff_eq.mpr c8
        clear c8
        by_cases c9 : t112 = true
        · subst c9
          have H1 : (some false) = some r := by rw [if_pos rfl] at H; exact H
          clear H
          have H := H1
          clear H1
          obtain rfl := Option.some.inj H
          go_enter Try.func30, Try.ntmps30
          go_wp2_with (first | ((with_reducible refine gate_callee (f := 25) rfl ?_); refine goesL_ (some 8) rfl rfl Try.func25 (by kernel_rfl) rfl #[.int .i64 1, .int .i64 2] rfl (by (try simp only [List.map_toArray, List.map_cons, List.map_nil]); first | done | rfl | (simp only [List.length_drop, List.length_take]; rfl)) ?_; (with_reducible refine (elect_Favoured.calls 1 2 true t109 _ A1.out).mono ?_); rintro e w' ⟨rfl, ⟨nd, rfl⟩⟩; refine ⟨_, rfl, ?_⟩) | ((with_reducible refine gate_callee (f := 25) rfl ?_); refine goesL_ (some 12) rfl rfl Try.func25 (by kernel_rfl) rfl #[.int .i64 2, .int .i64 2] rfl (by (try simp only [List.map_toArray, List.map_cons, List.map_nil]); first | done | rfl | (simp only [List.length_drop, List.length_take]; rfl)) ?_; (with_reducible refine (elect_Favoured.calls 2 2 t110 t111 _ A2.out).mono ?_); rintro e w' ⟨rfl, ⟨nd, rfl⟩⟩; refine ⟨_, rfl, ?_⟩) | ((with_reducible refine gate_callee (f := 27) rfl ?_); refine goesL_ (some 16) rfl rfl Try.func27 (by kernel_rfl) rfl #[.int .i64 1, .int .i64 2, .int .i64 5, .int .i64 1] rfl (by (try simp only [List.map_toArray, List.map_cons, List.map_nil]); first | done | rfl | (simp only [List.length_drop, List.length_take]; rfl)) ?_; (with_reducible refine (elect_Wins.calls 1 2 5 1 true t113 _ A3.out).mono ?_); rintro e w' ⟨rfl, ⟨nd, rfl⟩⟩; refine ⟨_, rfl, ?_⟩) | (go_at_call 29; (with_reducible refine (withylaw0_Num.calls t109 t114 _ A5.out).mono ?_); rintro e w' ⟨rfl, ⟨nd, rfl⟩⟩) | (go_at_call 29; (with_reducible refine (withylaw0_Num.calls t111 t115 _ A7.out).mono ?_); rintro e w' ⟨rfl, ⟨nd, rfl⟩⟩))
          go_ret
          exact ⟨by first | rfl | (simp; done) | (simp [*]; done), by repeat (first | exact Drawn0.refl _ | apply Drawn0.step)⟩
        · replace c9 := Bool.eq_false_iff.mpr c9
          subst c9
          have H1 : ((withylaw0_Num.f t113).bind fun t116 => (some (t116 == 0))) = some r := by rw [if_neg (show ¬ (false = true) by decide)] at H; exact H
          clear H
          have H := H1
          clear H1
          replace H := Option.bind_eq_some_iff.mp H
          obtain ⟨t116, A100, H⟩ := H
          replace H : (some (t116 == 0)) = some r := H
          have A10 := Aside0.mk A100
          clear A100
          obtain rfl := Option.some.inj H
          go_enter Try.func30, Try.ntmps30
          go_wp2_with (first | ((with_reducible refine gate_callee (f := 25) rfl ?_); refine goesL_ (some 8) rfl rfl Try.func25 (by kernel_rfl) rfl #[.int .i64 1, .int .i64 2] rfl (by (try simp only [List.map_toArray, List.map_cons, List.map_nil]); first | done | rfl | (simp only [List.length_drop, List.length_take]; rfl)) ?_; (with_reducible refine (elect_Favoured.calls 1 2 true t109 _ A1.out).mono ?_); rintro e w' ⟨rfl, ⟨nd, rfl⟩⟩; refine ⟨_, rfl, ?_⟩) | ((with_reducible refine gate_callee (f := 25) rfl ?_); refine goesL_ (some 12) rfl rfl Try.func25 (by kernel_rfl) rfl #[.int .i64 2, .int .i64 2] rfl (by (try simp only [List.map_toArray, List.map_cons, List.map_nil]); first | done | rfl | (simp only [List.length_drop, List.length_take]; rfl)) ?_; (with_reducible refine (elect_Favoured.calls 2 2 t110 t111 _ A2.out).mono ?_); rintro e w' ⟨rfl, ⟨nd, rfl⟩⟩; refine ⟨_, rfl, ?_⟩) | ((with_reducible refine gate_callee (f := 27) rfl ?_); refine goesL_ (some 16) rfl rfl Try.func27 (by kernel_rfl) rfl #[.int .i64 1, .int .i64 2, .int .i64 5, .int .i64 1] rfl (by (try simp only [List.map_toArray, List.map_cons, List.map_nil]); first | done | rfl | (simp only [List.length_drop, List.length_take]; rfl)) ?_; (with_reducible refine (elect_Wins.calls 1 2 5 1 false t113 _ A3.out).mono ?_); rintro e w' ⟨rfl, ⟨nd, rfl⟩⟩; refine ⟨_, rfl, ?_⟩) | (go_at_call 29; (with_reducible refine (withylaw0_Num.calls t109 t114 _ A5.out).mono ?_); rintro e w' ⟨rfl, ⟨nd, rfl⟩⟩) | (go_at_call 29; (with_reducible refine (withylaw0_Num.calls t111 t115 _ A7.out).mono ?_); rintro e w' ⟨rfl, ⟨nd, rfl⟩⟩) | (go_at_call 29; (with_reducible refine (withylaw0_Num.calls t113 t116 _ A10.out).mono ?_); rintro e w' ⟨rfl, ⟨nd, rfl⟩⟩))
          go_ret
          exact ⟨by first | rfl | (simp; done) | (simp [*]; done), by repeat (first | exact Drawn0.refl _ | apply Drawn0.step)⟩
      · rw [if_neg c8] at H
        have c8b0 : (t115 == 2100) = false := beq_eq_false_iff_ne.mpr c8
        have c8b1 : (t115 != 2100) = true := bne_iff_ne.mpr c8
        obtain rfl := Option.some.inj H
        go_enter Try.func30, Try.ntmps30
        go_wp2_with (first | ((with_reducible refine gate_callee (f := 25) rfl ?_); refine goesL_ (some 8) rfl rfl Try.func25 (by kernel_rfl) rfl #[.int .i64 1, .int .i64 2] rfl (by (try simp only [List.map_toArray, List.map_cons, List.map_nil]); first | done | rfl | (simp only [List.length_drop, List.length_take]; rfl)) ?_; (with_reducible refine (elect_Favoured.calls 1 2 true t109 _ A1.out).mono ?_); rintro e w' ⟨rfl, ⟨nd, rfl⟩⟩; refine ⟨_, rfl, ?_⟩) | ((with_reducible refine gate_callee (f := 25) rfl ?_); refine goesL_ (some 12) rfl rfl Try.func25 (by kernel_rfl) rfl #[.int .i64 2, .int .i64 2] rfl (by (try simp only [List.map_toArray, List.map_cons, List.map_nil]); first | done | rfl | (simp only [List.length_drop, List.length_take]; rfl)) ?_; (with_reducible refine (elect_Favoured.calls 2 2 t110 t111 _ A2.out).mono ?_); rintro e w' ⟨rfl, ⟨nd, rfl⟩⟩; refine ⟨_, rfl, ?_⟩) | ((with_reducible refine gate_callee (f := 27) rfl ?_); refine goesL_ (some 16) rfl rfl Try.func27 (by kernel_rfl) rfl #[.int .i64 1, .int .i64 2, .int .i64 5, .int .i64 1] rfl (by (try simp only [List.map_toArray, List.map_cons, List.map_nil]); first | done | rfl | (simp only [List.length_drop, List.length_take]; rfl)) ?_; (with_reducible refine (elect_Wins.calls 1 2 5 1 t112 t113 _ A3.out).mono ?_); rintro e w' ⟨rfl, ⟨nd, rfl⟩⟩; refine ⟨_, rfl, ?_⟩) | (go_at_call 29; (with_reducible refine (withylaw0_Num.calls t109 t114 _ A5.out).mono ?_); rintro e w' ⟨rfl, ⟨nd, rfl⟩⟩) | (go_at_call 29; (with_reducible refine (withylaw0_Num.calls t111 t115 _ A7.out).mono ?_); rintro e w' ⟨rfl, ⟨nd, rfl⟩⟩))
        go_ret
        exact ⟨by first | rfl | (simp; done) | (simp [*]; done), by repeat (first | exact Drawn0.refl _ | apply Drawn0.step)⟩
    · rw [if_neg c6] at H
      have c6b0 : (t114 == 0) = false := beq_eq_false_iff_ne.mpr c6
      have c6b1 : (t114 != 0) = true := bne_iff_ne.mpr c6
      obtain rfl := Option.some.inj H
      go_enter Try.func30, Try.ntmps30
      go_wp2_with (first | ((with_reducible refine gate_callee (f := 25) rfl ?_); refine goesL_ (some 8) rfl rfl Try.func25 (by kernel_rfl) rfl #[.int .i64 1, .int .i64 2] rfl (by (try simp only [List.map_toArray, List.map_cons, List.map_nil]); first | done | rfl | (simp only [List.length_drop, List.length_take]; rfl)) ?_; (with_reducible refine (elect_Favoured.calls 1 2 true t109 _ A1.out).mono ?_); rintro e w' ⟨rfl, ⟨nd, rfl⟩⟩; refine ⟨_, rfl, ?_⟩) | ((with_reducible refine gate_callee (f := 25) rfl ?_); refine goesL_ (some 12) rfl rfl Try.func25 (by kernel_rfl) rfl #[.int .i64 2, .int .i64 2] rfl (by (try simp only [List.map_toArray, List.map_cons, List.map_nil]); first | done | rfl | (simp only [List.length_drop, List.length_take]; rfl)) ?_; (with_reducible refine (elect_Favoured.calls 2 2 t110 t111 _ A2.out).mono ?_); rintro e w' ⟨rfl, ⟨nd, rfl⟩⟩; refine ⟨_, rfl, ?_⟩) | ((with_reducible refine gate_callee (f := 27) rfl ?_); refine goesL_ (some 16) rfl rfl Try.func27 (by kernel_rfl) rfl #[.int .i64 1, .int .i64 2, .int .i64 5, .int .i64 1] rfl (by (try simp only [List.map_toArray, List.map_cons, List.map_nil]); first | done | rfl | (simp only [List.length_drop, List.length_take]; rfl)) ?_; (with_reducible refine (elect_Wins.calls 1 2 5 1 t112 t113 _ A3.out).mono ?_); rintro e w' ⟨rfl, ⟨nd, rfl⟩⟩; refine ⟨_, rfl, ?_⟩) | (go_at_call 29; (with_reducible refine (withylaw0_Num.calls t109 t114 _ A5.out).mono ?_); rintro e w' ⟨rfl, ⟨nd, rfl⟩⟩))
      go_ret
      exact ⟨by first | rfl | (simp; done) | (simp [*]; done), by repeat (first | exact Drawn0.refl _ | apply Drawn0.step)⟩
  · replace c4 := Bool.eq_false_iff.mpr c4
    subst c4
    have H1 : (some false) = some r := by rw [if_neg (show ¬ (false = true) by decide)] at H; exact H
    clear H
    have H := H1
    clear H1
    obtain rfl := Option.some.inj H
    go_enter Try.func30, Try.ntmps30
    go_wp2_with (first | ((with_reducible refine gate_callee (f := 25) rfl ?_); refine goesL_ (some 8) rfl rfl Try.func25 (by kernel_rfl) rfl #[.int .i64 1, .int .i64 2] rfl (by (try simp only [List.map_toArray, List.map_cons, List.map_nil]); first | done | rfl | (simp only [List.length_drop, List.length_take]; rfl)) ?_; (with_reducible refine (elect_Favoured.calls 1 2 false t109 _ A1.out).mono ?_); rintro e w' ⟨rfl, ⟨nd, rfl⟩⟩; refine ⟨_, rfl, ?_⟩) | ((with_reducible refine gate_callee (f := 25) rfl ?_); refine goesL_ (some 12) rfl rfl Try.func25 (by kernel_rfl) rfl #[.int .i64 2, .int .i64 2] rfl (by (try simp only [List.map_toArray, List.map_cons, List.map_nil]); first | done | rfl | (simp only [List.length_drop, List.length_take]; rfl)) ?_; (with_reducible refine (elect_Favoured.calls 2 2 t110 t111 _ A2.out).mono ?_); rintro e w' ⟨rfl, ⟨nd, rfl⟩⟩; refine ⟨_, rfl, ?_⟩) | ((with_reducible refine gate_callee (f := 27) rfl ?_); refine goesL_ (some 16) rfl rfl Try.func27 (by kernel_rfl) rfl #[.int .i64 1, .int .i64 2, .int .i64 5, .int .i64 1] rfl (by (try simp only [List.map_toArray, List.map_cons, List.map_nil]); first | done | rfl | (simp only [List.length_drop, List.length_take]; rfl)) ?_; (with_reducible refine (elect_Wins.calls 1 2 5 1 t112 t113 _ A3.out).mono ?_); rintro e w' ⟨rfl, ⟨nd, rfl⟩⟩; refine ⟨_, rfl, ?_⟩))
    go_ret
    exact ⟨by first | rfl | (simp; done) | (simp [*]; done), by repeat (first | exact Drawn0.refl _ | apply Drawn0.step)⟩

/-! ### withylaw21_ElectDrops: function 5 -/
def withylaw21_ElectDrops.j0 : Nat → Int → Int → Int → Option (Bool)
  | 0, _, _, _ => none
  | k + 1, x7, x8, x9 => (elect_Wins.f x7 x8 5 x9).bind fun bt118 => ((elect_Wins.f x8 x7 x9 5).bind fun bt120 => ((elect_Wins.f x7 x8 5 5).bind fun bt122 => ((elect_Wins.f x7 x8 7 x9).bind fun bt124 => ((elect_Favoured.f 0 x8).bind fun bt126 => ((withylaw0_Num.f bt118.2).bind fun t128 => (if t128 = 0 then (if bt118.1 = true then (some false) else ((withylaw0_Num.f bt120.2).bind fun t129 => (if t129 = 0 then (if bt120.1 = true then ((withylaw0_Num.f bt122.2).bind fun t130 => (if t130 = 0 then (if bt122.1 = true then ((withylaw0_Num.f bt124.2).bind fun t131 => (if t131 = 2100 then ((withylaw0_Num.f bt126.2).bind fun t132 => (some (t132 == 2100))) else (some false))) else (some false)) else (some false))) else (some false)) else (some false)))) else (some false)))))))
def withylaw21_ElectDrops.f (k : Nat) (a0 : Int) (a1 : Int) (a2 : Int) : Option (Bool) := (withylaw21_awake.f).bind fun t117 => (if t117 = true then (if (Go.bits .and .i64 a2 1) = 1 then (withylaw21_ElectDrops.j0 k (wrap64 (1 + (Go.bits .and .i64 a0 1048575))) (wrap64 (2000000 + (Go.bits .and .i64 a1 1048575))) 3) else (withylaw21_ElectDrops.j0 k (wrap64 (1 + (Go.bits .and .i64 a0 1048575))) (wrap64 (2000000 + (Go.bits .and .i64 a1 1048575))) 1)) else (some false))
theorem withylaw21_ElectDrops.mono_l : ∀ k, (∀ y0 y1 y2, LeO (withylaw21_ElectDrops.j0 k y0 y1 y2) (withylaw21_ElectDrops.j0 (k + 1) y0 y1 y2))
  | 0 => fun _ _ _ r h => by simp [withylaw21_ElectDrops.j0] at h
  | k + 1 => by
    have ih0 := withylaw21_ElectDrops.mono_l k
    · intro y0 y1 y2
      unfold withylaw21_ElectDrops.j0
      repeat' first
      | (with_reducible exact ih0 _ _ _)
      | (with_reducible exact LeO.refl _)
      | (with_reducible exact LeO.none _)
      | (with_reducible refine LeO.ite ?_ ?_)
      | (with_reducible refine LeO.bind ?_ (fun _ => ?_))
      | exact ih0 _ _ _
      | exact LeO.none _
      | refine LeO.ite ?_ ?_
      | refine LeO.bind ?_ (fun _ => ?_)
theorem withylaw21_ElectDrops.mono : ∀ a0 a1 a2 k, LeO (withylaw21_ElectDrops.f k a0 a1 a2) (withylaw21_ElectDrops.f (k + 1) a0 a1 a2) := by
  intro a0 a1 a2 k
  have ih0 := withylaw21_ElectDrops.mono_l k
  unfold withylaw21_ElectDrops.f
  repeat' first
      | (with_reducible exact ih0 _ _ _)
      | (with_reducible exact LeO.refl _)
      | (with_reducible exact LeO.none _)
      | (with_reducible refine LeO.ite ?_ ?_)
      | (with_reducible refine LeO.bind ?_ (fun _ => ?_))
      | exact ih0 _ _ _
      | exact LeO.none _
      | refine LeO.ite ?_ ?_
      | refine LeO.bind ?_ (fun _ => ?_)
set_option maxHeartbeats 8000000 in
set_option maxRecDepth 100000 in
theorem withylaw21_ElectDrops.calls (k : Nat) (a0 : Int) (a1 : Int) (a2 : Int) (r : Bool) (w : World) (h : withylaw21_ElectDrops.f k a0 a1 a2 = some r) :
    Calls Try.prog 5 #[.int .i64 a0, .int .i64 a1, .int .i64 a2] w fun e w' => e = .returned (.bool r) ∧ Drawn0 w w' := by
  have H : ((withylaw21_awake.f).bind fun t117 => (if t117 = true then (if (Go.bits .and .i64 a2 1) = 1 then (withylaw21_ElectDrops.j0 k (wrap64 (1 + (Go.bits .and .i64 a0 1048575))) (wrap64 (2000000 + (Go.bits .and .i64 a1 1048575))) 3) else (withylaw21_ElectDrops.j0 k (wrap64 (1 + (Go.bits .and .i64 a0 1048575))) (wrap64 (2000000 + (Go.bits .and .i64 a1 1048575))) 1)) else (some false))) = some r := h
  clear h
  replace H := Option.bind_eq_some_iff.mp H
  obtain ⟨t117, A40, H⟩ := H
  replace H : (if t117 = true then (if (Go.bits .and .i64 a2 1) = 1 then (withylaw21_ElectDrops.j0 k (wrap64 (1 + (Go.bits .and .i64 a0 1048575))) (wrap64 (2000000 + (Go.bits .and .i64 a1 1048575))) 3) else (withylaw21_ElectDrops.j0 k (wrap64 (1 + (Go.bits .and .i64 a0 1048575))) (wrap64 (2000000 + (Go.bits .and .i64 a1 1048575))) 1)) else (some false)) = some r := H
  have A4 := Aside0.mk A40
  clear A40
  by_cases c5 : t117 = true
  · subst c5
    have H1 : (if (Go.bits .and .i64 a2 1) = 1 then (withylaw21_ElectDrops.j0 k (wrap64 (1 + (Go.bits .and .i64 a0 1048575))) (wrap64 (2000000 + (Go.bits .and .i64 a1 1048575))) 3) else (withylaw21_ElectDrops.j0 k (wrap64 (1 + (Go.bits .and .i64 a0 1048575))) (wrap64 (2000000 + (Go.bits .and .i64 a1 1048575))) 1)) = some r := by rw [if_pos rfl] at H; exact H
    clear H
    have H := H1
    clear H1
    have HC6 := Aside0.mk H
    clear H
    go_enter Try.func5, Try.ntmps5
    go_upto_if 30 with (first | ((with_reducible refine gate_callee (f := 30) rfl ?_); refine goesL_ (some 20) rfl rfl Try.func30 (by kernel_rfl) rfl #[] rfl (by (try simp only [List.map_toArray, List.map_cons, List.map_nil]); first | done | rfl | (simp only [List.length_drop, List.length_take]; rfl)) ?_; (with_reducible refine (withylaw21_awake.calls  true _ A4.out).mono ?_); rintro e w' ⟨rfl, ⟨nd, rfl⟩⟩; refine ⟨_, rfl, ?_⟩))
    (try simp only [Act.put, List.setIfInBounds_toArray, List.set_cons_zero, List.set_cons_succ])
    go_cut [9] (fun v9 wc => ∃ (kq : Nat) (x9_5 : Int), v9 = .int .i64 x9_5 ∧ Aside0 (withylaw21_ElectDrops.j0 kq (wrap64 (1 + (Go.bits .and .i64 a0 1048575))) (wrap64 (2000000 + (Go.bits .and .i64 a1 1048575))) x9_5 = some r) ∧ Aside0 (kq ≤ k) ∧ Drawn0 w wc)
    case first =>
      have H := HC6.out
      clear HC6
      by_cases c7 : (Go.bits .and .i64 a2 1) = 1
      · rw [if_pos c7] at H
        have c7b0 : ((Go.bits .and .i64 a2 1) == 1) = true := beq_iff_eq.mpr c7
        have c7b1 : ((Go.bits .and .i64 a2 1) != 1) = false := bne_eq_false_iff_eq.mpr c7
        clear c7
        (first | rw [c7b0] | (simp only [i64_w, i32_w]; rw [c7b0]) | skip)
        have H' := Aside0.mk H
        clear H
        go_wp2
        go_meet
        case rel => exact ⟨_, (3), (by first | rfl | (simp; done) | (simp [*]; done)), H', ⟨by first | omega | exact Nat.le_refl _⟩, by repeat (first | exact Drawn0.refl _ | apply Drawn0.step)⟩
      · rw [if_neg c7] at H
        have c7b0 : ((Go.bits .and .i64 a2 1) == 1) = false := beq_eq_false_iff_ne.mpr c7
        have c7b1 : ((Go.bits .and .i64 a2 1) != 1) = true := bne_iff_ne.mpr c7
        (first | rw [c7b0] | (simp only [i64_w, i32_w]; rw [c7b0]) | skip)
        have H' := Aside0.mk H
        clear H
        go_wp2
        go_meet
        case rel => exact ⟨_, (1), (by first | rfl | (simp; done) | (simp [*]; done)), H', ⟨by first | omega | exact Nat.le_refl _⟩, by repeat (first | exact Drawn0.refl _ | apply Drawn0.step)⟩
    case rest =>
      clear HC6
      try clear p2
      try clear c3
      try clear c5
      try clear p6
      try clear c7
      try clear c7b0
      try clear c7b1
      obtain ⟨kq, x9_5, rfl, HA, HJ5, ⟨mc5, rfl⟩⟩ := hcut
      cases kq with
      | zero => exact absurd HA.out (by simp [withylaw21_ElectDrops.j0])
      | succ kj5 =>
        have H := HA.out
        clear HA
        simp only [withylaw21_ElectDrops.j0] at H
        replace H := Option.bind_eq_some_iff.mp H
        obtain ⟨⟨t118, t119⟩, A80, H⟩ := H
        replace H : ((elect_Wins.f (wrap64 (2000000 + (Go.bits .and .i64 a1 1048575))) (wrap64 (1 + (Go.bits .and .i64 a0 1048575))) x9_5 5).bind fun bt120 => ((elect_Wins.f (wrap64 (1 + (Go.bits .and .i64 a0 1048575))) (wrap64 (2000000 + (Go.bits .and .i64 a1 1048575))) 5 5).bind fun bt122 => ((elect_Wins.f (wrap64 (1 + (Go.bits .and .i64 a0 1048575))) (wrap64 (2000000 + (Go.bits .and .i64 a1 1048575))) 7 x9_5).bind fun bt124 => ((elect_Favoured.f 0 (wrap64 (2000000 + (Go.bits .and .i64 a1 1048575)))).bind fun bt126 => ((withylaw0_Num.f t119).bind fun t128 => (if t128 = 0 then (if t118 = true then (some false) else ((withylaw0_Num.f bt120.2).bind fun t129 => (if t129 = 0 then (if bt120.1 = true then ((withylaw0_Num.f bt122.2).bind fun t130 => (if t130 = 0 then (if bt122.1 = true then ((withylaw0_Num.f bt124.2).bind fun t131 => (if t131 = 2100 then ((withylaw0_Num.f bt126.2).bind fun t132 => (some (t132 == 2100))) else (some false))) else (some false)) else (some false))) else (some false)) else (some false)))) else (some false))))))) = some r := H
        have A8 := Aside0.mk A80
        clear A80
        replace H := Option.bind_eq_some_iff.mp H
        obtain ⟨⟨t120, t121⟩, A90, H⟩ := H
        replace H : ((elect_Wins.f (wrap64 (1 + (Go.bits .and .i64 a0 1048575))) (wrap64 (2000000 + (Go.bits .and .i64 a1 1048575))) 5 5).bind fun bt122 => ((elect_Wins.f (wrap64 (1 + (Go.bits .and .i64 a0 1048575))) (wrap64 (2000000 + (Go.bits .and .i64 a1 1048575))) 7 x9_5).bind fun bt124 => ((elect_Favoured.f 0 (wrap64 (2000000 + (Go.bits .and .i64 a1 1048575)))).bind fun bt126 => ((withylaw0_Num.f t119).bind fun t128 => (if t128 = 0 then (if t118 = true then (some false) else ((withylaw0_Num.f t121).bind fun t129 => (if t129 = 0 then (if t120 = true then ((withylaw0_Num.f bt122.2).bind fun t130 => (if t130 = 0 then (if bt122.1 = true then ((withylaw0_Num.f bt124.2).bind fun t131 => (if t131 = 2100 then ((withylaw0_Num.f bt126.2).bind fun t132 => (some (t132 == 2100))) else (some false))) else (some false)) else (some false))) else (some false)) else (some false)))) else (some false)))))) = some r := H
        have A9 := Aside0.mk A90
        clear A90
        replace H := Option.bind_eq_some_iff.mp H
        obtain ⟨⟨t122, t123⟩, A100, H⟩ := H
        replace H : ((elect_Wins.f (wrap64 (1 + (Go.bits .and .i64 a0 1048575))) (wrap64 (2000000 + (Go.bits .and .i64 a1 1048575))) 7 x9_5).bind fun bt124 => ((elect_Favoured.f 0 (wrap64 (2000000 + (Go.bits .and .i64 a1 1048575)))).bind fun bt126 => ((withylaw0_Num.f t119).bind fun t128 => (if t128 = 0 then (if t118 = true then (some false) else ((withylaw0_Num.f t121).bind fun t129 => (if t129 = 0 then (if t120 = true then ((withylaw0_Num.f t123).bind fun t130 => (if t130 = 0 then (if t122 = true then ((withylaw0_Num.f bt124.2).bind fun t131 => (if t131 = 2100 then ((withylaw0_Num.f bt126.2).bind fun t132 => (some (t132 == 2100))) else (some false))) else (some false)) else (some false))) else (some false)) else (some false)))) else (some false))))) = some r := H
        have A10 := Aside0.mk A100
        clear A100
        replace H := Option.bind_eq_some_iff.mp H
        obtain ⟨⟨t124, t125⟩, A110, H⟩ := H
        replace H : ((elect_Favoured.f 0 (wrap64 (2000000 + (Go.bits .and .i64 a1 1048575)))).bind fun bt126 => ((withylaw0_Num.f t119).bind fun t128 => (if t128 = 0 then (if t118 = true then (some false) else ((withylaw0_Num.f t121).bind fun t129 => (if t129 = 0 then (if t120 = true then ((withylaw0_Num.f t123).bind fun t130 => (if t130 = 0 then (if t122 = true then ((withylaw0_Num.f t125).bind fun t131 => (if t131 = 2100 then ((withylaw0_Num.f bt126.2).bind fun t132 => (some (t132 == 2100))) else (some false))) else (some false)) else (some false))) else (some false)) else (some false)))) else (some false)))) = some r := H
        have A11 := Aside0.mk A110
        clear A110
        replace H := Option.bind_eq_some_iff.mp H
        obtain ⟨⟨t126, t127⟩, A120, H⟩ := H
        replace H : ((withylaw0_Num.f t119).bind fun t128 => (if t128 = 0 then (if t118 = true then (some false) else ((withylaw0_Num.f t121).bind fun t129 => (if t129 = 0 then (if t120 = true then ((withylaw0_Num.f t123).bind fun t130 => (if t130 = 0 then (if t122 = true then ((withylaw0_Num.f t125).bind fun t131 => (if t131 = 2100 then ((withylaw0_Num.f t127).bind fun t132 => (some (t132 == 2100))) else (some false))) else (some false)) else (some false))) else (some false)) else (some false)))) else (some false))) = some r := H
        have A12 := Aside0.mk A120
        clear A120
        replace H := Option.bind_eq_some_iff.mp H
        obtain ⟨t128, A130, H⟩ := H
        replace H : (if t128 = 0 then (if t118 = true then (some false) else ((withylaw0_Num.f t121).bind fun t129 => (if t129 = 0 then (if t120 = true then ((withylaw0_Num.f t123).bind fun t130 => (if t130 = 0 then (if t122 = true then ((withylaw0_Num.f t125).bind fun t131 => (if t131 = 2100 then ((withylaw0_Num.f t127).bind fun t132 => (some (t132 == 2100))) else (some false))) else (some false)) else (some false))) else (some false)) else (some false)))) else (some false)) = some r := H
        have A13 := Aside0.mk A130
        clear A130
        by_cases c14 : t128 = 0
        · rw [if_pos c14] at H
          have c14b0 : (t128 == 0) = true := beq_iff_eq.mpr c14
          have c14b1 : (t128 != 0) = false := bne_eq_false_iff_eq.mpr c14
          clear c14
          by_cases c15 : t118 = true
          · subst c15
            have H1 : (some false) = some r := by rw [if_pos rfl] at H; exact H
            clear H
            have H := H1
            clear H1
            obtain rfl := Option.some.inj H
            go_wp2_with (first | ((with_reducible refine gate_callee (f := 27) rfl ?_); refine goesL_ (some 35) rfl rfl Try.func27 (by kernel_rfl) rfl #[.int .i64 (wrap64 (1 + (Go.bits .and .i64 a0 1048575))), .int .i64 (wrap64 (2000000 + (Go.bits .and .i64 a1 1048575))), .int .i64 5, .int .i64 x9_5] rfl (by (try simp only [List.map_toArray, List.map_cons, List.map_nil]); first | done | rfl | (simp only [List.length_drop, List.length_take]; rfl)) ?_; (with_reducible refine (elect_Wins.calls (wrap64 (1 + (Go.bits .and .i64 a0 1048575))) (wrap64 (2000000 + (Go.bits .and .i64 a1 1048575))) 5 x9_5 true t119 _ A8.out).mono ?_); rintro e w' ⟨rfl, ⟨nd, rfl⟩⟩; refine ⟨_, rfl, ?_⟩) | ((with_reducible refine gate_callee (f := 27) rfl ?_); refine goesL_ (some 42) rfl rfl Try.func27 (by kernel_rfl) rfl #[.int .i64 (wrap64 (2000000 + (Go.bits .and .i64 a1 1048575))), .int .i64 (wrap64 (1 + (Go.bits .and .i64 a0 1048575))), .int .i64 x9_5, .int .i64 5] rfl (by (try simp only [List.map_toArray, List.map_cons, List.map_nil]); first | done | rfl | (simp only [List.length_drop, List.length_take]; rfl)) ?_; (with_reducible refine (elect_Wins.calls (wrap64 (2000000 + (Go.bits .and .i64 a1 1048575))) (wrap64 (1 + (Go.bits .and .i64 a0 1048575))) x9_5 5 t120 t121 _ A9.out).mono ?_); rintro e w' ⟨rfl, ⟨nd, rfl⟩⟩; refine ⟨_, rfl, ?_⟩) | ((with_reducible refine gate_callee (f := 27) rfl ?_); refine goesL_ (some 48) rfl rfl Try.func27 (by kernel_rfl) rfl #[.int .i64 (wrap64 (1 + (Go.bits .and .i64 a0 1048575))), .int .i64 (wrap64 (2000000 + (Go.bits .and .i64 a1 1048575))), .int .i64 5, .int .i64 5] rfl (by (try simp only [List.map_toArray, List.map_cons, List.map_nil]); first | done | rfl | (simp only [List.length_drop, List.length_take]; rfl)) ?_; (with_reducible refine (elect_Wins.calls (wrap64 (1 + (Go.bits .and .i64 a0 1048575))) (wrap64 (2000000 + (Go.bits .and .i64 a1 1048575))) 5 5 t122 t123 _ A10.out).mono ?_); rintro e w' ⟨rfl, ⟨nd, rfl⟩⟩; refine ⟨_, rfl, ?_⟩) | ((with_reducible refine gate_callee (f := 27) rfl ?_); refine goesL_ (some 55) rfl rfl Try.func27 (by kernel_rfl) rfl #[.int .i64 (wrap64 (1 + (Go.bits .and .i64 a0 1048575))), .int .i64 (wrap64 (2000000 + (Go.bits .and .i64 a1 1048575))), .int .i64 7, .int .i64 x9_5] rfl (by (try simp only [List.map_toArray, List.map_cons, List.map_nil]); first | done | rfl | (simp only [List.length_drop, List.length_take]; rfl)) ?_; (with_reducible refine (elect_Wins.calls (wrap64 (1 + (Go.bits .and .i64 a0 1048575))) (wrap64 (2000000 + (Go.bits .and .i64 a1 1048575))) 7 x9_5 t124 t125 _ A11.out).mono ?_); rintro e w' ⟨rfl, ⟨nd, rfl⟩⟩; refine ⟨_, rfl, ?_⟩) | ((with_reducible refine gate_callee (f := 25) rfl ?_); refine goesL_ (some 60) rfl rfl Try.func25 (by kernel_rfl) rfl #[.int .i64 0, .int .i64 (wrap64 (2000000 + (Go.bits .and .i64 a1 1048575)))] rfl (by (try simp only [List.map_toArray, List.map_cons, List.map_nil]); first | done | rfl | (simp only [List.length_drop, List.length_take]; rfl)) ?_; (with_reducible refine (elect_Favoured.calls 0 (wrap64 (2000000 + (Go.bits .and .i64 a1 1048575))) t126 t127 _ A12.out).mono ?_); rintro e w' ⟨rfl, ⟨nd, rfl⟩⟩; refine ⟨_, rfl, ?_⟩) | ((with_reducible refine gate_callee (f := 29) rfl ?_); refine goesL_ (some 64) rfl rfl Try.func29 (by kernel_rfl) rfl #[.int .i64 t119] rfl (by (try simp only [List.map_toArray, List.map_cons, List.map_nil]); first | done | rfl | (simp only [List.length_drop, List.length_take]; rfl)) ?_; (with_reducible refine (withylaw0_Num.calls t119 t128 _ A13.out).mono ?_); rintro e w' ⟨rfl, ⟨nd, rfl⟩⟩; refine ⟨_, rfl, ?_⟩))
            go_ret
            exact ⟨by first | rfl | (simp; done) | (simp [*]; done), by repeat (first | exact Drawn0.refl _ | apply Drawn0.step)⟩
          · replace c15 := Bool.eq_false_iff.mpr c15
            subst c15
            have H1 : ((withylaw0_Num.f t121).bind fun t129 => (if t129 = 0 then (if t120 = true then ((withylaw0_Num.f t123).bind fun t130 => (if t130 = 0 then (if t122 = true then ((withylaw0_Num.f t125).bind fun t131 => (if t131 = 2100 then ((withylaw0_Num.f t127).bind fun t132 => (some (t132 == 2100))) else (some false))) else (some false)) else (some false))) else (some false)) else (some false))) = some r := by rw [if_neg (show ¬ (false = true) by decide)] at H; exact H
            clear H
            have H := H1
            clear H1
            replace H := Option.bind_eq_some_iff.mp H
            obtain ⟨t129, A160, H⟩ := H
            replace H : (if t129 = 0 then (if t120 = true then ((withylaw0_Num.f t123).bind fun t130 => (if t130 = 0 then (if t122 = true then ((withylaw0_Num.f t125).bind fun t131 => (if t131 = 2100 then ((withylaw0_Num.f t127).bind fun t132 => (some (t132 == 2100))) else (some false))) else (some false)) else (some false))) else (some false)) else (some false)) = some r := H
            have A16 := Aside0.mk A160
            clear A160
            by_cases c17 : t129 = 0
            · rw [if_pos c17] at H
              have c17b0 : (t129 == 0) = true := beq_iff_eq.mpr c17
              have c17b1 : (t129 != 0) = false := bne_eq_false_iff_eq.mpr c17
              clear c17
              by_cases c18 : t120 = true
              · subst c18
                have H1 : ((withylaw0_Num.f t123).bind fun t130 => (if t130 = 0 then (if t122 = true then ((withylaw0_Num.f t125).bind fun t131 => (if t131 = 2100 then ((withylaw0_Num.f t127).bind fun t132 => (some (t132 == 2100))) else (some false))) else (some false)) else (some false))) = some r := by rw [if_pos rfl] at H; exact H
                clear H
                have H := H1
                clear H1
                replace H := Option.bind_eq_some_iff.mp H
                obtain ⟨t130, A190, H⟩ := H
                replace H : (if t130 = 0 then (if t122 = true then ((withylaw0_Num.f t125).bind fun t131 => (if t131 = 2100 then ((withylaw0_Num.f t127).bind fun t132 => (some (t132 == 2100))) else (some false))) else (some false)) else (some false)) = some r := H
                have A19 := Aside0.mk A190
                clear A190
                by_cases c20 : t130 = 0
                · rw [if_pos c20] at H
                  have c20b0 : (t130 == 0) = true := beq_iff_eq.mpr c20
                  have c20b1 : (t130 != 0) = false := bne_eq_false_iff_eq.mpr c20
                  clear c20
                  by_cases c21 : t122 = true
                  · subst c21
                    have H1 : ((withylaw0_Num.f t125).bind fun t131 => (if t131 = 2100 then ((withylaw0_Num.f t127).bind fun t132 => (some (t132 == 2100))) else (some false))) = some r := by rw [if_pos rfl] at H; exact H
                    clear H
                    have H := H1
                    clear H1
                    replace H := Option.bind_eq_some_iff.mp H
                    obtain ⟨t131, A220, H⟩ := H
                    replace H : (if t131 = 2100 then ((withylaw0_Num.f t127).bind fun t132 => (some (t132 == 2100))) else (some false)) = some r := H
                    have A22 := Aside0.mk A220
                    clear A220
                    by_cases c23 : t131 = 2100
                    · rw [if_pos c23] at H
                      have c23b0 : (t131 == 2100) = true := beq_iff_eq.mpr c23
                      have c23b1 : (t131 != 2100) = false := bne_eq_false_iff_eq.mpr c23
                      clear c23
                      replace H := Option.bind_eq_some_iff.mp H
                      obtain ⟨t132, A240, H⟩ := H
                      replace H : (some (t132 == 2100)) = some r := H
                      have A24 := Aside0.mk A240
                      clear A240
                      obtain rfl := Option.some.inj H
                      go_wp2_with (first | ((with_reducible refine gate_callee (f := 27) rfl ?_); refine goesL_ (some 35) rfl rfl Try.func27 (by kernel_rfl) rfl #[.int .i64 (wrap64 (1 + (Go.bits .and .i64 a0 1048575))), .int .i64 (wrap64 (2000000 + (Go.bits .and .i64 a1 1048575))), .int .i64 5, .int .i64 x9_5] rfl (by (try simp only [List.map_toArray, List.map_cons, List.map_nil]); first | done | rfl | (simp only [List.length_drop, List.length_take]; rfl)) ?_; (with_reducible refine (elect_Wins.calls (wrap64 (1 + (Go.bits .and .i64 a0 1048575))) (wrap64 (2000000 + (Go.bits .and .i64 a1 1048575))) 5 x9_5 false t119 _ A8.out).mono ?_); rintro e w' ⟨rfl, ⟨nd, rfl⟩⟩; refine ⟨_, rfl, ?_⟩) | ((with_reducible refine gate_callee (f := 27) rfl ?_); refine goesL_ (some 42) rfl rfl Try.func27 (by kernel_rfl) rfl #[.int .i64 (wrap64 (2000000 + (Go.bits .and .i64 a1 1048575))), .int .i64 (wrap64 (1 + (Go.bits .and .i64 a0 1048575))), .int .i64 x9_5, .int .i64 5] rfl (by (try simp only [List.map_toArray, List.map_cons, List.map_nil]); first | done | rfl | (simp only [List.length_drop, List.length_take]; rfl)) ?_; (with_reducible refine (elect_Wins.calls (wrap64 (2000000 + (Go.bits .and .i64 a1 1048575))) (wrap64 (1 + (Go.bits .and .i64 a0 1048575))) x9_5 5 true t121 _ A9.out).mono ?_); rintro e w' ⟨rfl, ⟨nd, rfl⟩⟩; refine ⟨_, rfl, ?_⟩) | ((with_reducible refine gate_callee (f := 27) rfl ?_); refine goesL_ (some 48) rfl rfl Try.func27 (by kernel_rfl) rfl #[.int .i64 (wrap64 (1 + (Go.bits .and .i64 a0 1048575))), .int .i64 (wrap64 (2000000 + (Go.bits .and .i64 a1 1048575))), .int .i64 5, .int .i64 5] rfl (by (try simp only [List.map_toArray, List.map_cons, List.map_nil]); first | done | rfl | (simp only [List.length_drop, List.length_take]; rfl)) ?_; (with_reducible refine (elect_Wins.calls (wrap64 (1 + (Go.bits .and .i64 a0 1048575))) (wrap64 (2000000 + (Go.bits .and .i64 a1 1048575))) 5 5 true t123 _ A10.out).mono ?_); rintro e w' ⟨rfl, ⟨nd, rfl⟩⟩; refine ⟨_, rfl, ?_⟩) | ((with_reducible refine gate_callee (f := 27) rfl ?_); refine goesL_ (some 55) rfl rfl Try.func27 (by kernel_rfl) rfl #[.int .i64 (wrap64 (1 + (Go.bits .and .i64 a0 1048575))), .int .i64 (wrap64 (2000000 + (Go.bits .and .i64 a1 1048575))), .int .i64 7, .int .i64 x9_5] rfl (by (try simp only [List.map_toArray, List.map_cons, List.map_nil]); first | done | rfl | (simp only [List.length_drop, List.length_take]; rfl)) ?_; (with_reducible refine (elect_Wins.calls (wrap64 (1 + (Go.bits .and .i64 a0 1048575))) (wrap64 (2000000 + (Go.bits .and .i64 a1 1048575))) 7 x9_5 t124 t125 _ A11.out).mono ?_); rintro e w' ⟨rfl, ⟨nd, rfl⟩⟩; refine ⟨_, rfl, ?_⟩) | ((with_reducible refine gate_callee (f := 25) rfl ?_); refine goesL_ (some 60) rfl rfl Try.func25 (by kernel_rfl) rfl #[.int .i64 0, .int .i64 (wrap64 (2000000 + (Go.bits .and .i64 a1 1048575)))] rfl (by (try simp only [List.map_toArray, List.map_cons, List.map_nil]); first | done | rfl | (simp only [List.length_drop, List.length_take]; rfl)) ?_; (with_reducible refine (elect_Favoured.calls 0 (wrap64 (2000000 + (Go.bits .and .i64 a1 1048575))) t126 t127 _ A12.out).mono ?_); rintro e w' ⟨rfl, ⟨nd, rfl⟩⟩; refine ⟨_, rfl, ?_⟩) | ((with_reducible refine gate_callee (f := 29) rfl ?_); refine goesL_ (some 64) rfl rfl Try.func29 (by kernel_rfl) rfl #[.int .i64 t119] rfl (by (try simp only [List.map_toArray, List.map_cons, List.map_nil]); first | done | rfl | (simp only [List.length_drop, List.length_take]; rfl)) ?_; (with_reducible refine (withylaw0_Num.calls t119 t128 _ A13.out).mono ?_); rintro e w' ⟨rfl, ⟨nd, rfl⟩⟩; refine ⟨_, rfl, ?_⟩) | (go_at_call 29; (with_reducible refine (withylaw0_Num.calls t121 t129 _ A16.out).mono ?_); rintro e w' ⟨rfl, ⟨nd, rfl⟩⟩) | (go_at_call 29; (with_reducible refine (withylaw0_Num.calls t123 t130 _ A19.out).mono ?_); rintro e w' ⟨rfl, ⟨nd, rfl⟩⟩) | (go_at_call 29; (with_reducible refine (withylaw0_Num.calls t125 t131 _ A22.out).mono ?_); rintro e w' ⟨rfl, ⟨nd, rfl⟩⟩) | (go_at_call 29; (with_reducible refine (withylaw0_Num.calls t127 t132 _ A24.out).mono ?_); rintro e w' ⟨rfl, ⟨nd, rfl⟩⟩))
                      go_ret
                      exact ⟨by first | rfl | (simp; done) | (simp [*]; done), by repeat (first | exact Drawn0.refl _ | apply Drawn0.step)⟩
                    · rw [if_neg c23] at H
                      have c23b0 : (t131 == 2100) = false := beq_eq_false_iff_ne.mpr c23
                      have c23b1 : (t131 != 2100) = true := bne_iff_ne.mpr c23
                      obtain rfl := Option.some.inj H
                      go_wp2_with (first | ((with_reducible refine gate_callee (f := 27) rfl ?_); refine goesL_ (some 35) rfl rfl Try.func27 (by kernel_rfl) rfl #[.int .i64 (wrap64 (1 + (Go.bits .and .i64 a0 1048575))), .int .i64 (wrap64 (2000000 + (Go.bits .and .i64 a1 1048575))), .int .i64 5, .int .i64 x9_5] rfl (by (try simp only [List.map_toArray, List.map_cons, List.map_nil]); first | done | rfl | (simp only [List.length_drop, List.length_take]; rfl)) ?_; (with_reducible refine (elect_Wins.calls (wrap64 (1 + (Go.bits .and .i64 a0 1048575))) (wrap64 (2000000 + (Go.bits .and .i64 a1 1048575))) 5 x9_5 false t119 _ A8.out).mono ?_); rintro e w' ⟨rfl, ⟨nd, rfl⟩⟩; refine ⟨_, rfl, ?_⟩) | ((with_reducible refine gate_callee (f := 27) rfl ?_); refine goesL_ (some 42) rfl rfl Try.func27 (by kernel_rfl) rfl #[.int .i64 (wrap64 (2000000 + (Go.bits .and .i64 a1 1048575))), .int .i64 (wrap64 (1 + (Go.bits .and .i64 a0 1048575))), .int .i64 x9_5, .int .i64 5] rfl (by (try simp only [List.map_toArray, List.map_cons, List.map_nil]); first | done | rfl | (simp only [List.length_drop, List.length_take]; rfl)) ?_; (with_reducible refine (elect_Wins.calls (wrap64 (2000000 + (Go.bits .and .i64 a1 1048575))) (wrap64 (1 + (Go.bits .and .i64 a0 1048575))) x9_5 5 true t121 _ A9.out).mono ?_); rintro e w' ⟨rfl, ⟨nd, rfl⟩⟩; refine ⟨_, rfl, ?_⟩) | ((with_reducible refine gate_callee (f := 27) rfl ?_); refine goesL_ (some 48) rfl rfl Try.func27 (by kernel_rfl) rfl #[.int .i64 (wrap64 (1 + (Go.bits .and .i64 a0 1048575))), .int .i64 (wrap64 (2000000 + (Go.bits .and .i64 a1 1048575))), .int .i64 5, .int .i64 5] rfl (by (try simp only [List.map_toArray, List.map_cons, List.map_nil]); first | done | rfl | (simp only [List.length_drop, List.length_take]; rfl)) ?_; (with_reducible refine (elect_Wins.calls (wrap64 (1 + (Go.bits .and .i64 a0 1048575))) (wrap64 (2000000 + (Go.bits .and .i64 a1 1048575))) 5 5 true t123 _ A10.out).mono ?_); rintro e w' ⟨rfl, ⟨nd, rfl⟩⟩; refine ⟨_, rfl, ?_⟩) | ((with_reducible refine gate_callee (f := 27) rfl ?_); refine goesL_ (some 55) rfl rfl Try.func27 (by kernel_rfl) rfl #[.int .i64 (wrap64 (1 + (Go.bits .and .i64 a0 1048575))), .int .i64 (wrap64 (2000000 + (Go.bits .and .i64 a1 1048575))), .int .i64 7, .int .i64 x9_5] rfl (by (try simp only [List.map_toArray, List.map_cons, List.map_nil]); first | done | rfl | (simp only [List.length_drop, List.length_take]; rfl)) ?_; (with_reducible refine (elect_Wins.calls (wrap64 (1 + (Go.bits .and .i64 a0 1048575))) (wrap64 (2000000 + (Go.bits .and .i64 a1 1048575))) 7 x9_5 t124 t125 _ A11.out).mono ?_); rintro e w' ⟨rfl, ⟨nd, rfl⟩⟩; refine ⟨_, rfl, ?_⟩) | ((with_reducible refine gate_callee (f := 25) rfl ?_); refine goesL_ (some 60) rfl rfl Try.func25 (by kernel_rfl) rfl #[.int .i64 0, .int .i64 (wrap64 (2000000 + (Go.bits .and .i64 a1 1048575)))] rfl (by (try simp only [List.map_toArray, List.map_cons, List.map_nil]); first | done | rfl | (simp only [List.length_drop, List.length_take]; rfl)) ?_; (with_reducible refine (elect_Favoured.calls 0 (wrap64 (2000000 + (Go.bits .and .i64 a1 1048575))) t126 t127 _ A12.out).mono ?_); rintro e w' ⟨rfl, ⟨nd, rfl⟩⟩; refine ⟨_, rfl, ?_⟩) | ((with_reducible refine gate_callee (f := 29) rfl ?_); refine goesL_ (some 64) rfl rfl Try.func29 (by kernel_rfl) rfl #[.int .i64 t119] rfl (by (try simp only [List.map_toArray, List.map_cons, List.map_nil]); first | done | rfl | (simp only [List.length_drop, List.length_take]; rfl)) ?_; (with_reducible refine (withylaw0_Num.calls t119 t128 _ A13.out).mono ?_); rintro e w' ⟨rfl, ⟨nd, rfl⟩⟩; refine ⟨_, rfl, ?_⟩) | (go_at_call 29; (with_reducible refine (withylaw0_Num.calls t121 t129 _ A16.out).mono ?_); rintro e w' ⟨rfl, ⟨nd, rfl⟩⟩) | (go_at_call 29; (with_reducible refine (withylaw0_Num.calls t123 t130 _ A19.out).mono ?_); rintro e w' ⟨rfl, ⟨nd, rfl⟩⟩) | (go_at_call 29; (with_reducible refine (withylaw0_Num.calls t125 t131 _ A22.out).mono ?_); rintro e w' ⟨rfl, ⟨nd, rfl⟩⟩))
                      go_ret
                      exact ⟨by first | rfl | (simp; done) | (simp [*]; done), by repeat (first | exact Drawn0.refl _ | apply Drawn0.step)⟩
                  · replace c21 := Bool.eq_false_iff.mpr c21
                    subst c21
                    have H1 : (some false) = some r := by rw [if_neg (show ¬ (false = true) by decide)] at H; exact H
                    clear H
                    have H := H1
                    clear H1
                    obtain rfl := Option.some.inj H
                    go_wp2_with (first | ((with_reducible refine gate_callee (f := 27) rfl ?_); refine goesL_ (some 35) rfl rfl Try.func27 (by kernel_rfl) rfl #[.int .i64 (wrap64 (1 + (Go.bits .and .i64 a0 1048575))), .int .i64 (wrap64 (2000000 + (Go.bits .and .i64 a1 1048575))), .int .i64 5, .int .i64 x9_5] rfl (by (try simp only [List.map_toArray, List.map_cons, List.map_nil]); first | done | rfl | (simp only [List.length_drop, List.length_take]; rfl)) ?_; (with_reducible refine (elect_Wins.calls (wrap64 (1 + (Go.bits .and .i64 a0 1048575))) (wrap64 (2000000 + (Go.bits .and .i64 a1 1048575))) 5 x9_5 false t119 _ A8.out).mono ?_); rintro e w' ⟨rfl, ⟨nd, rfl⟩⟩; refine ⟨_, rfl, ?_⟩) | ((with_reducible refine gate_callee (f := 27) rfl ?_); refine goesL_ (some 42) rfl rfl Try.func27 (by kernel_rfl) rfl #[.int .i64 (wrap64 (2000000 + (Go.bits .and .i64 a1 1048575))), .int .i64 (wrap64 (1 + (Go.bits .and .i64 a0 1048575))), .int .i64 x9_5, .int .i64 5] rfl (by (try simp only [List.map_toArray, List.map_cons, List.map_nil]); first | done | rfl | (simp only [List.length_drop, List.length_take]; rfl)) ?_; (with_reducible refine (elect_Wins.calls (wrap64 (2000000 + (Go.bits .and .i64 a1 1048575))) (wrap64 (1 + (Go.bits .and .i64 a0 1048575))) x9_5 5 true t121 _ A9.out).mono ?_); rintro e w' ⟨rfl, ⟨nd, rfl⟩⟩; refine ⟨_, rfl, ?_⟩) | ((with_reducible refine gate_callee (f := 27) rfl ?_); refine goesL_ (some 48) rfl rfl Try.func27 (by kernel_rfl) rfl #[.int .i64 (wrap64 (1 + (Go.bits .and .i64 a0 1048575))), .int .i64 (wrap64 (2000000 + (Go.bits .and .i64 a1 1048575))), .int .i64 5, .int .i64 5] rfl (by (try simp only [List.map_toArray, List.map_cons, List.map_nil]); first | done | rfl | (simp only [List.length_drop, List.length_take]; rfl)) ?_; (with_reducible refine (elect_Wins.calls (wrap64 (1 + (Go.bits .and .i64 a0 1048575))) (wrap64 (2000000 + (Go.bits .and .i64 a1 1048575))) 5 5 false t123 _ A10.out).mono ?_); rintro e w' ⟨rfl, ⟨nd, rfl⟩⟩; refine ⟨_, rfl, ?_⟩) | ((with_reducible refine gate_callee (f := 27) rfl ?_); refine goesL_ (some 55) rfl rfl Try.func27 (by kernel_rfl) rfl #[.int .i64 (wrap64 (1 + (Go.bits .and .i64 a0 1048575))), .int .i64 (wrap64 (2000000 + (Go.bits .and .i64 a1 1048575))), .int .i64 7, .int .i64 x9_5] rfl (by (try simp only [List.map_toArray, List.map_cons, List.map_nil]); first | done | rfl | (simp only [List.length_drop, List.length_take]; rfl)) ?_; (with_reducible refine (elect_Wins.calls (wrap64 (1 + (Go.bits .and .i64 a0 1048575))) (wrap64 (2000000 + (Go.bits .and .i64 a1 1048575))) 7 x9_5 t124 t125 _ A11.out).mono ?_); rintro e w' ⟨rfl, ⟨nd, rfl⟩⟩; refine ⟨_, rfl, ?_⟩) | ((with_reducible refine gate_callee (f := 25) rfl ?_); refine goesL_ (some 60) rfl rfl Try.func25 (by kernel_rfl) rfl #[.int .i64 0, .int .i64 (wrap64 (2000000 + (Go.bits .and .i64 a1 1048575)))] rfl (by (try simp only [List.map_toArray, List.map_cons, List.map_nil]); first | done | rfl | (simp only [List.length_drop, List.length_take]; rfl)) ?_; (with_reducible refine (elect_Favoured.calls 0 (wrap64 (2000000 + (Go.bits .and .i64 a1 1048575))) t126 t127 _ A12.out).mono ?_); rintro e w' ⟨rfl, ⟨nd, rfl⟩⟩; refine ⟨_, rfl, ?_⟩) | ((with_reducible refine gate_callee (f := 29) rfl ?_); refine goesL_ (some 64) rfl rfl Try.func29 (by kernel_rfl) rfl #[.int .i64 t119] rfl (by (try simp only [List.map_toArray, List.map_cons, List.map_nil]); first | done | rfl | (simp only [List.length_drop, List.length_take]; rfl)) ?_; (with_reducible refine (withylaw0_Num.calls t119 t128 _ A13.out).mono ?_); rintro e w' ⟨rfl, ⟨nd, rfl⟩⟩; refine ⟨_, rfl, ?_⟩) | (go_at_call 29; (with_reducible refine (withylaw0_Num.calls t121 t129 _ A16.out).mono ?_); rintro e w' ⟨rfl, ⟨nd, rfl⟩⟩) | (go_at_call 29; (with_reducible refine (withylaw0_Num.calls t123 t130 _ A19.out).mono ?_); rintro e w' ⟨rfl, ⟨nd, rfl⟩⟩))
                    go_ret
                    exact ⟨by first | rfl | (simp; done) | (simp [*]; done), by repeat (first | exact Drawn0.refl _ | apply Drawn0.step)⟩
                · rw [if_neg c20] at H
                  have c20b0 : (t130 == 0) = false := beq_eq_false_iff_ne.mpr c20
                  have c20b1 : (t130 != 0) = true := bne_iff_ne.mpr c20
                  obtain rfl := Option.some.inj H
                  go_wp2_with (first | ((with_reducible refine gate_callee (f := 27) rfl ?_); refine goesL_ (some 35) rfl rfl Try.func27 (by kernel_rfl) rfl #[.int .i64 (wrap64 (1 + (Go.bits .and .i64 a0 1048575))), .int .i64 (wrap64 (2000000 + (Go.bits .and .i64 a1 1048575))), .int .i64 5, .int .i64 x9_5] rfl (by (try simp only [List.map_toArray, List.map_cons, List.map_nil]); first | done | rfl | (simp only [List.length_drop, List.length_take]; rfl)) ?_; (with_reducible refine (elect_Wins.calls (wrap64 (1 + (Go.bits .and .i64 a0 1048575))) (wrap64 (2000000 + (Go.bits .and .i64 a1 1048575))) 5 x9_5 false t119 _ A8.out).mono ?_); rintro e w' ⟨rfl, ⟨nd, rfl⟩⟩; refine ⟨_, rfl, ?_⟩) | ((with_reducible refine gate_callee (f := 27) rfl ?_); refine goesL_ (some 42) rfl rfl Try.func27 (by kernel_rfl) rfl #[.int .i64 (wrap64 (2000000 + (Go.bits .and .i64 a1 1048575))), .int .i64 (wrap64 (1 + (Go.bits .and .i64 a0 1048575))), .int .i64 x9_5, .int .i64 5] rfl (by (try simp only [List.map_toArray, List.map_cons, List.map_nil]); first | done | rfl | (simp only [List.length_drop, List.length_take]; rfl)) ?_; (with_reducible refine (elect_Wins.calls (wrap64 (2000000 + (Go.bits .and .i64 a1 1048575))) (wrap64 (1 + (Go.bits .and .i64 a0 1048575))) x9_5 5 true t121 _ A9.out).mono ?_); rintro e w' ⟨rfl, ⟨nd, rfl⟩⟩; refine ⟨_, rfl, ?_⟩) | ((with_reducible refine gate_callee (f := 27) rfl ?_); refine goesL_ (some 48) rfl rfl Try.func27 (by kernel_rfl) rfl #[.int .i64 (wrap64 (1 + (Go.bits .and .i64 a0 1048575))), .int .i64 (wrap64 (2000000 + (Go.bits .and .i64 a1 1048575))), .int .i64 5, .int .i64 5] rfl (by (try simp only [List.map_toArray, List.map_cons, List.map_nil]); first | done | rfl | (simp only [List.length_drop, List.length_take]; rfl)) ?_; (with_reducible refine (elect_Wins.calls (wrap64 (1 + (Go.bits .and .i64 a0 1048575))) (wrap64 (2000000 + (Go.bits .and .i64 a1 1048575))) 5 5 t122 t123 _ A10.out).mono ?_); rintro e w' ⟨rfl, ⟨nd, rfl⟩⟩; refine ⟨_, rfl, ?_⟩) | ((with_reducible refine gate_callee (f := 27) rfl ?_); refine goesL_ (some 55) rfl rfl Try.func27 (by kernel_rfl) rfl #[.int .i64 (wrap64 (1 + (Go.bits .and .i64 a0 1048575))), .int .i64 (wrap64 (2000000 + (Go.bits .and .i64 a1 1048575))), .int .i64 7, .int .i64 x9_5] rfl (by (try simp only [List.map_toArray, List.map_cons, List.map_nil]); first | done | rfl | (simp only [List.length_drop, List.length_take]; rfl)) ?_; (with_reducible refine (elect_Wins.calls (wrap64 (1 + (Go.bits .and .i64 a0 1048575))) (wrap64 (2000000 + (Go.bits .and .i64 a1 1048575))) 7 x9_5 t124 t125 _ A11.out).mono ?_); rintro e w' ⟨rfl, ⟨nd, rfl⟩⟩; refine ⟨_, rfl, ?_⟩) | ((with_reducible refine gate_callee (f := 25) rfl ?_); refine goesL_ (some 60) rfl rfl Try.func25 (by kernel_rfl) rfl #[.int .i64 0, .int .i64 (wrap64 (2000000 + (Go.bits .and .i64 a1 1048575)))] rfl (by (try simp only [List.map_toArray, List.map_cons, List.map_nil]); first | done | rfl | (simp only [List.length_drop, List.length_take]; rfl)) ?_; (with_reducible refine (elect_Favoured.calls 0 (wrap64 (2000000 + (Go.bits .and .i64 a1 1048575))) t126 t127 _ A12.out).mono ?_); rintro e w' ⟨rfl, ⟨nd, rfl⟩⟩; refine ⟨_, rfl, ?_⟩) | ((with_reducible refine gate_callee (f := 29) rfl ?_); refine goesL_ (some 64) rfl rfl Try.func29 (by kernel_rfl) rfl #[.int .i64 t119] rfl (by (try simp only [List.map_toArray, List.map_cons, List.map_nil]); first | done | rfl | (simp only [List.length_drop, List.length_take]; rfl)) ?_; (with_reducible refine (withylaw0_Num.calls t119 t128 _ A13.out).mono ?_); rintro e w' ⟨rfl, ⟨nd, rfl⟩⟩; refine ⟨_, rfl, ?_⟩) | (go_at_call 29; (with_reducible refine (withylaw0_Num.calls t121 t129 _ A16.out).mono ?_); rintro e w' ⟨rfl, ⟨nd, rfl⟩⟩) | (go_at_call 29; (with_reducible refine (withylaw0_Num.calls t123 t130 _ A19.out).mono ?_); rintro e w' ⟨rfl, ⟨nd, rfl⟩⟩))
                  go_ret
                  exact ⟨by first | rfl | (simp; done) | (simp [*]; done), by repeat (first | exact Drawn0.refl _ | apply Drawn0.step)⟩
              · replace c18 := Bool.eq_false_iff.mpr c18
                subst c18
                have H1 : (some false) = some r := by rw [if_neg (show ¬ (false = true) by decide)] at H; exact H
                clear H
                have H := H1
                clear H1
                obtain rfl := Option.some.inj H
                go_wp2_with (first | ((with_reducible refine gate_callee (f := 27) rfl ?_); refine goesL_ (some 35) rfl rfl Try.func27 (by kernel_rfl) rfl #[.int .i64 (wrap64 (1 + (Go.bits .and .i64 a0 1048575))), .int .i64 (wrap64 (2000000 + (Go.bits .and .i64 a1 1048575))), .int .i64 5, .int .i64 x9_5] rfl (by (try simp only [List.map_toArray, List.map_cons, List.map_nil]); first | done | rfl | (simp only [List.length_drop, List.length_take]; rfl)) ?_; (with_reducible refine (elect_Wins.calls (wrap64 (1 + (Go.bits .and .i64 a0 1048575))) (wrap64 (2000000 + (Go.bits .and .i64 a1 1048575))) 5 x9_5 false t119 _ A8.out).mono ?_); rintro e w' ⟨rfl, ⟨nd, rfl⟩⟩; refine ⟨_, rfl, ?_⟩) | ((with_reducible refine gate_callee (f := 27) rfl ?_); refine goesL_ (some 42) rfl rfl Try.func27 (by kernel_rfl) rfl #[.int .i64 (wrap64 (2000000 + (Go.bits .and .i64 a1 1048575))), .int .i64 (wrap64 (1 + (Go.bits .and .i64 a0 1048575))), .int .i64 x9_5, .int .i64 5] rfl (by (try simp only [List.map_toArray, List.map_cons, List.map_nil]); first | done | rfl | (simp only [List.length_drop, List.length_take]; rfl)) ?_; (with_reducible refine (elect_Wins.calls (wrap64 (2000000 + (Go.bits .and .i64 a1 1048575))) (wrap64 (1 + (Go.bits .and .i64 a0 1048575))) x9_5 5 false t121 _ A9.out).mono ?_); rintro e w' ⟨rfl, ⟨nd, rfl⟩⟩; refine ⟨_, rfl, ?_⟩) | ((with_reducible refine gate_callee (f := 27) rfl ?_); refine goesL_ (some 48) rfl rfl Try.func27 (by kernel_rfl) rfl #[.int .i64 (wrap64 (1 + (Go.bits .and .i64 a0 1048575))), .int .i64 (wrap64 (2000000 + (Go.bits .and .i64 a1 1048575))), .int .i64 5, .int .i64 5] rfl (by (try simp only [List.map_toArray, List.map_cons, List.map_nil]); first | done | rfl | (simp only [List.length_drop, List.length_take]; rfl)) ?_; (with_reducible refine (elect_Wins.calls (wrap64 (1 + (Go.bits .and .i64 a0 1048575))) (wrap64 (2000000 + (Go.bits .and .i64 a1 1048575))) 5 5 t122 t123 _ A10.out).mono ?_); rintro e w' ⟨rfl, ⟨nd, rfl⟩⟩; refine ⟨_, rfl, ?_⟩) | ((with_reducible refine gate_callee (f := 27) rfl ?_); refine goesL_ (some 55) rfl rfl Try.func27 (by kernel_rfl) rfl #[.int .i64 (wrap64 (1 + (Go.bits .and .i64 a0 1048575))), .int .i64 (wrap64 (2000000 + (Go.bits .and .i64 a1 1048575))), .int .i64 7, .int .i64 x9_5] rfl (by (try simp only [List.map_toArray, List.map_cons, List.map_nil]); first | done | rfl | (simp only [List.length_drop, List.length_take]; rfl)) ?_; (with_reducible refine (elect_Wins.calls (wrap64 (1 + (Go.bits .and .i64 a0 1048575))) (wrap64 (2000000 + (Go.bits .and .i64 a1 1048575))) 7 x9_5 t124 t125 _ A11.out).mono ?_); rintro e w' ⟨rfl, ⟨nd, rfl⟩⟩; refine ⟨_, rfl, ?_⟩) | ((with_reducible refine gate_callee (f := 25) rfl ?_); refine goesL_ (some 60) rfl rfl Try.func25 (by kernel_rfl) rfl #[.int .i64 0, .int .i64 (wrap64 (2000000 + (Go.bits .and .i64 a1 1048575)))] rfl (by (try simp only [List.map_toArray, List.map_cons, List.map_nil]); first | done | rfl | (simp only [List.length_drop, List.length_take]; rfl)) ?_; (with_reducible refine (elect_Favoured.calls 0 (wrap64 (2000000 + (Go.bits .and .i64 a1 1048575))) t126 t127 _ A12.out).mono ?_); rintro e w' ⟨rfl, ⟨nd, rfl⟩⟩; refine ⟨_, rfl, ?_⟩) | ((with_reducible refine gate_callee (f := 29) rfl ?_); refine goesL_ (some 64) rfl rfl Try.func29 (by kernel_rfl) rfl #[.int .i64 t119] rfl (by (try simp only [List.map_toArray, List.map_cons, List.map_nil]); first | done | rfl | (simp only [List.length_drop, List.length_take]; rfl)) ?_; (with_reducible refine (withylaw0_Num.calls t119 t128 _ A13.out).mono ?_); rintro e w' ⟨rfl, ⟨nd, rfl⟩⟩; refine ⟨_, rfl, ?_⟩) | (go_at_call 29; (with_reducible refine (withylaw0_Num.calls t121 t129 _ A16.out).mono ?_); rintro e w' ⟨rfl, ⟨nd, rfl⟩⟩))
                go_ret
                exact ⟨by first | rfl | (simp; done) | (simp [*]; done), by repeat (first | exact Drawn0.refl _ | apply Drawn0.step)⟩
            · rw [if_neg c17] at H
              have c17b0 : (t129 == 0) = false := beq_eq_false_iff_ne.mpr c17
              have c17b1 : (t129 != 0) = true := bne_iff_ne.mpr c17
              obtain rfl := Option.some.inj H
              go_wp2_with (first | ((with_reducible refine gate_callee (f := 27) rfl ?_); refine goesL_ (some 35) rfl rfl Try.func27 (by kernel_rfl) rfl #[.int .i64 (wrap64 (1 + (Go.bits .and .i64 a0 1048575))), .int .i64 (wrap64 (2000000 + (Go.bits .and .i64 a1 1048575))), .int .i64 5, .int .i64 x9_5] rfl (by (try simp only [List.map_toArray, List.map_cons, List.map_nil]); first | done | rfl | (simp only [List.length_drop, List.length_take]; rfl)) ?_; (with_reducible refine (elect_Wins.calls (wrap64 (1 + (Go.bits .and .i64 a0 1048575))) (wrap64 (2000000 + (Go.bits .and .i64 a1 1048575))) 5 x9_5 false t119 _ A8.out).mono ?_); rintro e w' ⟨rfl, ⟨nd, rfl⟩⟩; refine ⟨_, rfl, ?_⟩) | ((with_reducible refine gate_callee (f := 27) rfl ?_); refine goesL_ (some 42) rfl rfl Try.func27 (by kernel_rfl) rfl #[.int .i64 (wrap64 (2000000 + (Go.bits .and .i64 a1 1048575))), .int .i64 (wrap64 (1 + (Go.bits .and .i64 a0 1048575))), .int .i64 x9_5, .int .i64 5] rfl (by (try simp only [List.map_toArray, List.map_cons, List.map_nil]); first | done | rfl | (simp only [List.length_drop, List.length_take]; rfl)) ?_; (with_reducible refine (elect_Wins.calls (wrap64 (2000000 + (Go.bits .and .i64 a1 1048575))) (wrap64 (1 + (Go.bits .and .i64 a0 1048575))) x9_5 5 t120 t121 _ A9.out).mono ?_); rintro e w' ⟨rfl, ⟨nd, rfl⟩⟩; refine ⟨_, rfl, ?_⟩) | ((with_reducible refine gate_callee (f := 27) rfl ?_); refine goesL_ (some 48) rfl rfl Try.func27 (by kernel_rfl) rfl #[.int .i64 (wrap64 (1 + (Go.bits .and .i64 a0 1048575))), .int .i64 (wrap64 (2000000 + (Go.bits .and .i64 a1 1048575))), .int .i64 5, .int .i64 5] rfl (by (try simp only [List.map_toArray, List.map_cons, List.map_nil]); first | done | rfl | (simp only [List.length_drop, List.length_take]; rfl)) ?_; (with_reducible refine (elect_Wins.calls (wrap64 (1 + (Go.bits .and .i64 a0 1048575))) (wrap64 (2000000 + (Go.bits .and .i64 a1 1048575))) 5 5 t122 t123 _ A10.out).mono ?_); rintro e w' ⟨rfl, ⟨nd, rfl⟩⟩; refine ⟨_, rfl, ?_⟩) | ((with_reducible refine gate_callee (f := 27) rfl ?_); refine goesL_ (some 55) rfl rfl Try.func27 (by kernel_rfl) rfl #[.int .i64 (wrap64 (1 + (Go.bits .and .i64 a0 1048575))), .int .i64 (wrap64 (2000000 + (Go.bits .and .i64 a1 1048575))), .int .i64 7, .int .i64 x9_5] rfl (by (try simp only [List.map_toArray, List.map_cons, List.map_nil]); first | done | rfl | (simp only [List.length_drop, List.length_take]; rfl)) ?_; (with_reducible refine (elect_Wins.calls (wrap64 (1 + (Go.bits .and .i64 a0 1048575))) (wrap64 (2000000 + (Go.bits .and .i64 a1 1048575))) 7 x9_5 t124 t125 _ A11.out).mono ?_); rintro e w' ⟨rfl, ⟨nd, rfl⟩⟩; refine ⟨_, rfl, ?_⟩) | ((with_reducible refine gate_callee (f := 25) rfl ?_); refine goesL_ (some 60) rfl rfl Try.func25 (by kernel_rfl) rfl #[.int .i64 0, .int .i64 (wrap64 (2000000 + (Go.bits .and .i64 a1 1048575)))] rfl (by (try simp only [List.map_toArray, List.map_cons, List.map_nil]); first | done | rfl | (simp only [List.length_drop, List.length_take]; rfl)) ?_; (with_reducible refine (elect_Favoured.calls 0 (wrap64 (2000000 + (Go.bits .and .i64 a1 1048575))) t126 t127 _ A12.out).mono ?_); rintro e w' ⟨rfl, ⟨nd, rfl⟩⟩; refine ⟨_, rfl, ?_⟩) | ((with_reducible refine gate_callee (f := 29) rfl ?_); refine goesL_ (some 64) rfl rfl Try.func29 (by kernel_rfl) rfl #[.int .i64 t119] rfl (by (try simp only [List.map_toArray, List.map_cons, List.map_nil]); first | done | rfl | (simp only [List.length_drop, List.length_take]; rfl)) ?_; (with_reducible refine (withylaw0_Num.calls t119 t128 _ A13.out).mono ?_); rintro e w' ⟨rfl, ⟨nd, rfl⟩⟩; refine ⟨_, rfl, ?_⟩) | (go_at_call 29; (with_reducible refine (withylaw0_Num.calls t121 t129 _ A16.out).mono ?_); rintro e w' ⟨rfl, ⟨nd, rfl⟩⟩))
              go_ret
              exact ⟨by first | rfl | (simp; done) | (simp [*]; done), by repeat (first | exact Drawn0.refl _ | apply Drawn0.step)⟩
        · rw [if_neg c14] at H
          have c14b0 : (t128 == 0) = false := beq_eq_false_iff_ne.mpr c14
          have c14b1 : (t128 != 0) = true := bne_iff_ne.mpr c14
          obtain rfl := Option.some.inj H
          go_wp2_with (first | ((with_reducible refine gate_callee (f := 27) rfl ?_); refine goesL_ (some 35) rfl rfl Try.func27 (by kernel_rfl) rfl #[.int .i64 (wrap64 (1 + (Go.bits .and .i64 a0 1048575))), .int .i64 (wrap64 (2000000 + (Go.bits .and .i64 a1 1048575))), .int .i64 5, .int .i64 x9_5] rfl (by (try simp only [List.map_toArray, List.map_cons, List.map_nil]); first | done | rfl | (simp only [List.length_drop, List.length_take]; rfl)) ?_; (with_reducible refine (elect_Wins.calls (wrap64 (1 + (Go.bits .and .i64 a0 1048575))) (wrap64 (2000000 + (Go.bits .and .i64 a1 1048575))) 5 x9_5 t118 t119 _ A8.out).mono ?_); rintro e w' ⟨rfl, ⟨nd, rfl⟩⟩; refine ⟨_, rfl, ?_⟩) | ((with_reducible refine gate_callee (f := 27) rfl ?_); refine goesL_ (some 42) rfl rfl Try.func27 (by kernel_rfl) rfl #[.int .i64 (wrap64 (2000000 + (Go.bits .and .i64 a1 1048575))), .int .i64 (wrap64 (1 + (Go.bits .and .i64 a0 1048575))), .int .i64 x9_5, .int .i64 5] rfl (by (try simp only [List.map_toArray, List.map_cons, List.map_nil]); first | done | rfl | (simp only [List.length_drop, List.length_take]; rfl)) ?_; (with_reducible refine (elect_Wins.calls (wrap64 (2000000 + (Go.bits .and .i64 a1 1048575))) (wrap64 (1 + (Go.bits .and .i64 a0 1048575))) x9_5 5 t120 t121 _ A9.out).mono ?_); rintro e w' ⟨rfl, ⟨nd, rfl⟩⟩; refine ⟨_, rfl, ?_⟩) | ((with_reducible refine gate_callee (f := 27) rfl ?_); refine goesL_ (some 48) rfl rfl Try.func27 (by kernel_rfl) rfl #[.int .i64 (wrap64 (1 + (Go.bits .and .i64 a0 1048575))), .int .i64 (wrap64 (2000000 + (Go.bits .and .i64 a1 1048575))), .int .i64 5, .int .i64 5] rfl (by (try simp only [List.map_toArray, List.map_cons, List.map_nil]); first | done | rfl | (simp only [List.length_drop, List.length_take]; rfl)) ?_; (with_reducible refine (elect_Wins.calls (wrap64 (1 + (Go.bits .and .i64 a0 1048575))) (wrap64 (2000000 + (Go.bits .and .i64 a1 1048575))) 5 5 t122 t123 _ A10.out).mono ?_); rintro e w' ⟨rfl, ⟨nd, rfl⟩⟩; refine ⟨_, rfl, ?_⟩) | ((with_reducible refine gate_callee (f := 27) rfl ?_); refine goesL_ (some 55) rfl rfl Try.func27 (by kernel_rfl) rfl #[.int .i64 (wrap64 (1 + (Go.bits .and .i64 a0 1048575))), .int .i64 (wrap64 (2000000 + (Go.bits .and .i64 a1 1048575))), .int .i64 7, .int .i64 x9_5] rfl (by (try simp only [List.map_toArray, List.map_cons, List.map_nil]); first | done | rfl | (simp only [List.length_drop, List.length_take]; rfl)) ?_; (with_reducible refine (elect_Wins.calls (wrap64 (1 + (Go.bits .and .i64 a0 1048575))) (wrap64 (2000000 + (Go.bits .and .i64 a1 1048575))) 7 x9_5 t124 t125 _ A11.out).mono ?_); rintro e w' ⟨rfl, ⟨nd, rfl⟩⟩; refine ⟨_, rfl, ?_⟩) | ((with_reducible refine gate_callee (f := 25) rfl ?_); refine goesL_ (some 60) rfl rfl Try.func25 (by kernel_rfl) rfl #[.int .i64 0, .int .i64 (wrap64 (2000000 + (Go.bits .and .i64 a1 1048575)))] rfl (by (try simp only [List.map_toArray, List.map_cons, List.map_nil]); first | done | rfl | (simp only [List.length_drop, List.length_take]; rfl)) ?_; (with_reducible refine (elect_Favoured.calls 0 (wrap64 (2000000 + (Go.bits .and .i64 a1 1048575))) t126 t127 _ A12.out).mono ?_); rintro e w' ⟨rfl, ⟨nd, rfl⟩⟩; refine ⟨_, rfl, ?_⟩) | ((with_reducible refine gate_callee (f := 29) rfl ?_); refine goesL_ (some 64) rfl rfl Try.func29 (by kernel_rfl) rfl #[.int .i64 t119] rfl (by (try simp only [List.map_toArray, List.map_cons, List.map_nil]); first | done | rfl | (simp only [List.length_drop, List.length_take]; rfl)) ?_; (with_reducible refine (withylaw0_Num.calls t119 t128 _ A13.out).mono ?_); rintro e w' ⟨rfl, ⟨nd, rfl⟩⟩; refine ⟨_, rfl, ?_⟩))
          go_ret
          exact ⟨by first | rfl | (simp; done) | (simp [*]; done), by repeat (first | exact Drawn0.refl _ | apply Drawn0.step)⟩
  · replace c5 := Bool.eq_false_iff.mpr c5
    subst c5
    have H1 : (some false) = some r := by rw [if_neg (show ¬ (false = true) by decide)] at H; exact H
    clear H
    have H := H1
    clear H1
    obtain rfl := Option.some.inj H
    go_enter Try.func5, Try.ntmps5
    go_wp2_with (first | ((with_reducible refine gate_callee (f := 30) rfl ?_); refine goesL_ (some 20) rfl rfl Try.func30 (by kernel_rfl) rfl #[] rfl (by (try simp only [List.map_toArray, List.map_cons, List.map_nil]); first | done | rfl | (simp only [List.length_drop, List.length_take]; rfl)) ?_; (with_reducible refine (withylaw21_awake.calls  false _ A4.out).mono ?_); rintro e w' ⟨rfl, ⟨nd, rfl⟩⟩; refine ⟨_, rfl, ?_⟩))
    go_ret
    exact ⟨by first | rfl | (simp; done) | (simp [*]; done), by repeat (first | exact Drawn0.refl _ | apply Drawn0.step)⟩

/-- THE ONE PURE STATEMENT of withylaw21_ElectDrops: yours. -/
def withylaw21_ElectDrops.Pure : Prop := ∀ (a0 : Int) (a1 : Int) (a2 : Int), (Lit.int .i64 a0).wf = true → (Lit.int .i64 a1).wf = true → (Lit.int .i64 a2).wf = true → ∃ k, withylaw21_ElectDrops.f k a0 a1 a2 = some true
theorem withylaw21_ElectDrops.walk (P : withylaw21_ElectDrops.Pure) (a0 : Int) (a1 : Int) (a2 : Int) (w : World) (w0 : (Lit.int .i64 a0).wf = true) (w1 : (Lit.int .i64 a1).wf = true) (w2 : (Lit.int .i64 a2).wf = true) :
    Calls Try.prog 5 #[.int .i64 a0, .int .i64 a1, .int .i64 a2] w fun e w' => e = .returned (.bool true) ∧ Below w.heap.size w w' := by
  obtain ⟨k, h⟩ := P a0 a1 a2 w0 w1 w2
  refine (withylaw21_ElectDrops.calls k a0 a1 a2 true w h).mono ?_
  rintro e w' ⟨rfl, hd⟩
  exact ⟨rfl, hd.below⟩

end Go.Proofs.Ytbdlkcgaobkdcaa.PElectDrops

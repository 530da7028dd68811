-- Written by wip/mkprint.py over the kit's print.py, out of the translation; Lean checks it.
import Derived.Test.YtbdlkcgaobkdcaaPx0
import Derived.Test.YtbdlkcgaobkdcaaPx2
import Derived.Test.YtbdlkcgaobkdcaaPx19
import Derived.Test.YtbdlkcgaobkdcaaHCtl
import Derived.Test.YtbdlkcgaobkdcaaHRef
namespace Go.Proofs.Ytbdlkcgaobkdcaa.P
open Go.RowKit Go.Proofs.YtbdlkcgaobkdcaaW.PrintWords Go.Proofs.YtbdlkcgaobkdcaaW.PrintLast Go.Proofs.YtbdlkcgaobkdcaaW.PrintMore
attribute [local go_sem] max2_int min2_int max_two min_two max_three min_three max_four min_four   -- for this text's walks alone
set_option linter.unusedVariables false
set_option linter.unusedSimpArgs false

/-! ### withylaw5_ControlKinds: function 15 -/
mutual
def withylaw5_ControlKinds.j0 : Nat → List (S46) → Int → Int → ByteArray → Bool → Option (Bool)
  | 0, _, _, _, _, _ => none
  | k + 1, x2, x7, x8, x9, x34 => if x34 = true then (some true) else ((control_Put.f x7 x8 x2 (⟨#[]⟩ : ByteArray)).bind fun bt378 => ((control_Put.f x7 x8 ([] : List (S46)) x9).bind fun bt380 => (if x7 ≥ 1 then (withylaw5_ControlKinds.j1 k x2 x9 bt378.1 bt378.2 bt380.1 bt380.2 (decide (x7 ≤ 4))) else (withylaw5_ControlKinds.j1 k x2 x9 bt378.1 bt378.2 bt380.1 bt380.2 false))))
def withylaw5_ControlKinds.j1 : Nat → List (S46) → ByteArray → ByteArray → Int → ByteArray → Int → Bool → Option (Bool)
  | 0, _, _, _, _, _, _, _ => none
  | k + 1, x2, x9, x11, x12, x13, x14, x15 => if x15 = true then ((withylaw0_Num.f x12).bind fun t382 => (if t382 = 0 then (if 4 ≤ (x11.size : Int) then (if (x11.extract 4 x11.size).toList = x9.toList then ((withylaw0_Num.f x14).bind fun t383 => (some ((t383 == 0) == (x9.toList == ([] : List UInt8))))) else (some false)) else (none)) else (some false))) else ((withylaw0_Num.f x14).bind fun t384 => (if t384 = 0 then (if 4 ≤ (x13.size : Int) then (if (x13.extract 4 x13.size).toList = x9.toList then ((withylaw0_Num.f x12).bind fun t385 => (some ((t385 == 0) == ((x2.length : Int) == 0)))) else (some false)) else (none)) else (some false)))
end
def withylaw5_ControlKinds.f (k : Nat) (a0 : Int) (a1 : Int) (l2 : List (S46)) : Option (Bool) := (withylaw5_awake.f k).bind fun t375 => (if t375 = true then ((withyref1_Opts.f l2).bind fun bt376 => (if bt376.2 = 0 then (withylaw5_ControlKinds.j0 k l2 (Go.bits .and .i64 a0 255) (Go.bits .and .i64 a1 255) bt376.1 (decide ((wrap64 ((bt376.1.size : Int) + 4)) > 2048))) else (withylaw5_ControlKinds.j0 k l2 (Go.bits .and .i64 a0 255) (Go.bits .and .i64 a1 255) bt376.1 true))) else (some false))
theorem withylaw5_ControlKinds.mono_l : ∀ k, (∀ y0 y1 y2 y3 y4, LeO (withylaw5_ControlKinds.j0 k y0 y1 y2 y3 y4) (withylaw5_ControlKinds.j0 (k + 1) y0 y1 y2 y3 y4)) ∧ (∀ y0 y1 y2 y3 y4 y5 y6, LeO (withylaw5_ControlKinds.j1 k y0 y1 y2 y3 y4 y5 y6) (withylaw5_ControlKinds.j1 (k + 1) y0 y1 y2 y3 y4 y5 y6))
  | 0 => ⟨fun _ _ _ _ _ r h => by simp [withylaw5_ControlKinds.j0] at h, fun _ _ _ _ _ _ _ r h => by simp [withylaw5_ControlKinds.j1] at h⟩
  | k + 1 => by
    obtain ⟨ih0, ih1⟩ := withylaw5_ControlKinds.mono_l k
    refine ⟨?_, ?_⟩
    · intro y0 y1 y2 y3 y4
      unfold withylaw5_ControlKinds.j0
      repeat' first
      | (with_reducible exact ih0 _ _ _ _ _)
      | (with_reducible exact ih1 _ _ _ _ _ _ _)
      | (with_reducible exact withylaw5_awake.mono _)
      | (with_reducible exact LeO.refl _)
      | (with_reducible exact LeO.none _)
      | (with_reducible refine LeO.ite ?_ ?_)
      | (with_reducible refine LeO.bind ?_ (fun _ => ?_))
      | exact ih0 _ _ _ _ _
      | exact ih1 _ _ _ _ _ _ _
      | exact withylaw5_awake.mono _
      | exact LeO.none _
      | refine LeO.ite ?_ ?_
      | refine LeO.bind ?_ (fun _ => ?_)
    · intro y0 y1 y2 y3 y4 y5 y6
      unfold withylaw5_ControlKinds.j1
      repeat' first
      | (with_reducible exact ih0 _ _ _ _ _)
      | (with_reducible exact ih1 _ _ _ _ _ _ _)
      | (with_reducible exact withylaw5_awake.mono _)
      | (with_reducible exact LeO.refl _)
      | (with_reducible exact LeO.none _)
      | (with_reducible refine LeO.ite ?_ ?_)
      | (with_reducible refine LeO.bind ?_ (fun _ => ?_))
      | exact ih0 _ _ _ _ _
      | exact ih1 _ _ _ _ _ _ _
      | exact withylaw5_awake.mono _
      | exact LeO.none _
      | refine LeO.ite ?_ ?_
      | refine LeO.bind ?_ (fun _ => ?_)
theorem withylaw5_ControlKinds.mono : ∀ a0 a1 a2 k, LeO (withylaw5_ControlKinds.f k a0 a1 a2) (withylaw5_ControlKinds.f (k + 1) a0 a1 a2) := by
  intro a0 a1 a2 k
  obtain ⟨ih0, ih1⟩ := withylaw5_ControlKinds.mono_l k
  unfold withylaw5_ControlKinds.f
  repeat' first
      | (with_reducible exact ih0 _ _ _ _ _)
      | (with_reducible exact ih1 _ _ _ _ _ _ _)
      | (with_reducible exact withylaw5_awake.mono _)
      | (with_reducible exact LeO.refl _)
      | (with_reducible exact LeO.none _)
      | (with_reducible refine LeO.ite ?_ ?_)
      | (with_reducible refine LeO.bind ?_ (fun _ => ?_))
      | exact ih0 _ _ _ _ _
      | exact ih1 _ _ _ _ _ _ _
      | exact withylaw5_awake.mono _
      | exact LeO.none _
      | refine LeO.ite ?_ ?_
      | refine LeO.bind ?_ (fun _ => ?_)
set_option maxHeartbeats 8000000 in
set_option maxRecDepth 100000 in
theorem withylaw5_ControlKinds.calls (k : Nat) (a0 : Int) (a1 : Int) (A2 : Option Addr) (c2 : Nat) (l2 : List (S46)) (r : Bool) (w : World) (hr2 : Kd.C k46 w A2 l2.length l2) (hc2 : l2.length ≤ c2) (h : withylaw5_ControlKinds.f k a0 a1 l2 = some r) :
    Calls Try.prog 15 #[.int .i64 a0, .int .i64 a1, .slice A2 l2.length c2] w fun e w' => e = .returned (.bool r) ∧ Below w.heap.size w w' := by
  have hu69 := Try.underlying69
  have HR2 := Aside0.mk hr2
  have HC2 := Aside0.mk hc2
  clear hr2 hc2
  have HB := Aside0.mk (Below.refl w.heap.size w)
  have H : ((withylaw5_awake.f k).bind fun t375 => (if t375 = true then ((withyref1_Opts.f l2).bind fun bt376 => (if bt376.2 = 0 then (withylaw5_ControlKinds.j0 k l2 (Go.bits .and .i64 a0 255) (Go.bits .and .i64 a1 255) bt376.1 (decide ((wrap64 ((bt376.1.size : Int) + 4)) > 2048))) else (withylaw5_ControlKinds.j0 k l2 (Go.bits .and .i64 a0 255) (Go.bits .and .i64 a1 255) bt376.1 true))) else (some false))) = some r := h
  clear h
  replace H := Option.bind_eq_some_iff.mp H
  obtain ⟨t375, A40, H⟩ := H
  replace H : (if t375 = true then ((withyref1_Opts.f l2).bind fun bt376 => (if bt376.2 = 0 then (withylaw5_ControlKinds.j0 k l2 (Go.bits .and .i64 a0 255) (Go.bits .and .i64 a1 255) bt376.1 (decide ((wrap64 ((bt376.1.size : Int) + 4)) > 2048))) else (withylaw5_ControlKinds.j0 k l2 (Go.bits .and .i64 a0 255) (Go.bits .and .i64 a1 255) bt376.1 true))) else (some false)) = some r := H
  have A4 := Aside0.mk A40
  clear A40
  by_cases c5 : t375 = true
  · subst c5
    have H1 : ((withyref1_Opts.f l2).bind fun bt376 => (if bt376.2 = 0 then (withylaw5_ControlKinds.j0 k l2 (Go.bits .and .i64 a0 255) (Go.bits .and .i64 a1 255) bt376.1 (decide ((wrap64 ((bt376.1.size : Int) + 4)) > 2048))) else (withylaw5_ControlKinds.j0 k l2 (Go.bits .and .i64 a0 255) (Go.bits .and .i64 a1 255) bt376.1 true))) = some r := by rw [if_pos rfl] at H; exact H
    clear H
    have H := H1
    clear H1
    replace H := Option.bind_eq_some_iff.mp H
    obtain ⟨⟨t376, t377⟩, A60, H⟩ := H
    replace H : (if t377 = 0 then (withylaw5_ControlKinds.j0 k l2 (Go.bits .and .i64 a0 255) (Go.bits .and .i64 a1 255) t376 (decide ((wrap64 ((t376.size : Int) + 4)) > 2048))) else (withylaw5_ControlKinds.j0 k l2 (Go.bits .and .i64 a0 255) (Go.bits .and .i64 a1 255) t376 true)) = some r := H
    have A6 := Aside0.mk A60
    clear A60
    have HC7 := Aside0.mk H
    clear H
    go_enter Try.func15, Try.ntmps15
    go_upto_region 5 with (first | ((with_reducible refine gate_callee (f := 52) rfl ?_); refine goesL_ (some 16) rfl rfl Try.func52 (by kernel_rfl) rfl #[] rfl (by (try simp only [List.map_toArray, List.map_cons, List.map_nil]); first | done | rfl | (simp only [List.length_drop, List.length_take]; rfl)) ?_; (with_reducible refine (withylaw5_awake.calls k  true _ A4.out).mono ?_); rintro e w8 ⟨rfl, hb⟩; refine ⟨_, rfl, ?_⟩; have n0_ := Aside0.mk (below_step (by repeat (first | (with_reducible first | exact HB.out | apply below_alloc | apply pw_below_drewN | apply below_drew1) | exact HB.out)) hb); clear HB; have HB := n0_; clear n0_; (try clear hb); (try clear hb2); (try clear hk); (try clear hi)) | ((with_reducible refine gate_callee (f := 33) rfl ?_); refine goesL_ (some 24) rfl rfl Try.func33 (by kernel_rfl) rfl #[.slice A2 l2.length c2] rfl (by (try simp only [List.map_toArray, List.map_cons, List.map_nil]); first | done | rfl | (simp only [List.length_drop, List.length_take]; rfl)) ?_; (with_reducible refine (withyref1_Opts.calls _ _ l2 t376 t377 _ ?side1 ?side2 A6.out).mono ?_); (case side1 => repeat (first | exact (Kd.C_below HR2.out HB.out) | (with_reducible refine Kd.C_alloc ?_ _) | (with_reducible refine Kd.C_drewN ?_ _) | (with_reducible refine Kd.C_drew ?_))); (case side2 => exact HC2.out); rintro e w9 ⟨rfl, hb⟩; refine ⟨_, rfl, ?_⟩; have n0_ := Aside0.mk (below_step (by repeat (first | (with_reducible first | exact HB.out | apply below_alloc | apply pw_below_drewN | apply below_drew1) | exact HB.out)) hb); clear HB; have HB := n0_; clear n0_; (try clear hb); (try clear hb2); (try clear hk); (try clear hi)))
    (try simp only [Act.put, List.setIfInBounds_toArray, List.set_cons_zero, List.set_cons_succ])
    go_cut [34] (fun v34 wc => ∃ (kq : Nat) (x34_6 : Bool), v34 = .bool x34_6 ∧ Aside0 (withylaw5_ControlKinds.j0 kq l2 (Go.bits .and .i64 a0 255) (Go.bits .and .i64 a1 255) t376 x34_6 = some r) ∧ Aside0 (kq ≤ k) ∧ Aside0 (Below w.heap.size w wc))
    case first =>
      have H := HC7.out
      clear HC7
      by_cases c10 : t377 = 0
      · rw [if_pos c10] at H
        have c10b0 : (t377 == 0) = true := beq_iff_eq.mpr c10
        have c10b1 : (t377 != 0) = false := bne_eq_false_iff_eq.mpr c10
        clear c10
        (first | rw [c10b0] | (simp only [i64_w, i32_w]; rw [c10b0]) | skip)
        have H' := Aside0.mk H
        clear H
        go_wp2
        go_meet
        case rel => exact ⟨_, (decide ((wrap64 ((t376.size : Int) + 4)) > 2048)), (by first | rfl | (simp; done) | (simp [*]; done)), H', ⟨by first | omega | exact Nat.le_refl _⟩, ⟨by repeat (first | (with_reducible first | exact HB.out | apply below_alloc | apply pw_below_drewN | apply below_drew1) | exact HB.out)⟩⟩
      · rw [if_neg c10] at H
        have c10b0 : (t377 == 0) = false := beq_eq_false_iff_ne.mpr c10
        have c10b1 : (t377 != 0) = true := bne_iff_ne.mpr c10
        (first | rw [c10b0] | (simp only [i64_w, i32_w]; rw [c10b0]) | skip)
        have H' := Aside0.mk H
        clear H
        go_wp2
        go_meet
        case rel => exact ⟨_, (true), (by first | rfl | (simp; done) | (simp [*]; done)), H', ⟨by first | omega | exact Nat.le_refl _⟩, ⟨by repeat (first | (with_reducible first | exact HB.out | apply below_alloc | apply pw_below_drewN | apply below_drew1) | exact HB.out)⟩⟩
    case rest =>
      clear HC7
      try clear c1
      try clear c2
      try clear p2
      try clear c3
      try clear c5
      try clear p6
      try clear c10
      try clear c10b0
      try clear c10b1
      obtain ⟨kq, x34_6, rfl, HA, HJ6, HB⟩ := hcut
      cases kq with
      | zero => exact absurd HA.out (by simp [withylaw5_ControlKinds.j0])
      | succ kj6 =>
        have H := HA.out
        clear HA
        simp only [withylaw5_ControlKinds.j0] at H
        by_cases c11 : x34_6 = true
        · subst c11
          have H1 : (some true) = some r := by rw [if_pos rfl] at H; exact H
          clear H
          have H := H1
          clear H1
          obtain rfl := Option.some.inj H
          go_wp2
          go_ret
          exact ⟨by first | rfl | (simp [errW_none, errW_some] <;> rfl) | (simp [*, errW_none, errW_some] <;> rfl), by repeat (first | (with_reducible first | exact HB.out | apply below_alloc | apply pw_below_drewN | apply below_drew1) | exact HB.out)⟩
        · replace c11 := Bool.eq_false_iff.mpr c11
          subst c11
          have H1 : ((control_Put.f (Go.bits .and .i64 a0 255) (Go.bits .and .i64 a1 255) l2 (⟨#[]⟩ : ByteArray)).bind fun bt378 => ((control_Put.f (Go.bits .and .i64 a0 255) (Go.bits .and .i64 a1 255) ([] : List (S46)) t376).bind fun bt380 => (if (Go.bits .and .i64 a0 255) ≥ 1 then (withylaw5_ControlKinds.j1 kj6 l2 t376 bt378.1 bt378.2 bt380.1 bt380.2 (decide ((Go.bits .and .i64 a0 255) ≤ 4))) else (withylaw5_ControlKinds.j1 kj6 l2 t376 bt378.1 bt378.2 bt380.1 bt380.2 false)))) = some r := by rw [if_neg (show ¬ (false = true) by decide)] at H; exact H
          clear H
          have H := H1
          clear H1
          replace H := Option.bind_eq_some_iff.mp H
          obtain ⟨⟨t378, t379⟩, A120, H⟩ := H
          replace H : ((control_Put.f (Go.bits .and .i64 a0 255) (Go.bits .and .i64 a1 255) ([] : List (S46)) t376).bind fun bt380 => (if (Go.bits .and .i64 a0 255) ≥ 1 then (withylaw5_ControlKinds.j1 kj6 l2 t376 t378 t379 bt380.1 bt380.2 (decide ((Go.bits .and .i64 a0 255) ≤ 4))) else (withylaw5_ControlKinds.j1 kj6 l2 t376 t378 t379 bt380.1 bt380.2 false))) = some r := H
          have A12 := Aside0.mk A120
          clear A120
          replace H := Option.bind_eq_some_iff.mp H
          obtain ⟨⟨t380, t381⟩, A130, H⟩ := H
          replace H : (if (Go.bits .and .i64 a0 255) ≥ 1 then (withylaw5_ControlKinds.j1 kj6 l2 t376 t378 t379 t380 t381 (decide ((Go.bits .and .i64 a0 255) ≤ 4))) else (withylaw5_ControlKinds.j1 kj6 l2 t376 t378 t379 t380 t381 false)) = some r := H
          have A13 := Aside0.mk A130
          clear A130
          have HC14 := Aside0.mk H
          clear H
          go_upto_region 9 with (first | ((with_reducible refine gate_callee (f := 47) rfl ?_); refine goesL_ (some 40) rfl rfl Try.func47 (by kernel_rfl) rfl #[.agg #[.int .i64 (Go.bits .and .i64 a0 255), .int .i64 (Go.bits .and .i64 a1 255), .slice A2 l2.length c2, .string (⟨#[]⟩ : ByteArray)]] rfl (by (try simp only [List.map_toArray, List.map_cons, List.map_nil]); first | done | rfl | (simp only [List.length_drop, List.length_take]; rfl)) ?_; (with_reducible refine (control_Put.calls (Go.bits .and .i64 a0 255) (Go.bits .and .i64 a1 255) _ _ l2 (⟨#[]⟩ : ByteArray) t378 t379 _ ?side1 ?side2 A12.out).mono ?_); (case side1 => repeat (first | exact (Kd.C_below HR2.out HB.out) | (with_reducible refine Kd.C_alloc ?_ _) | (with_reducible refine Kd.C_drewN ?_ _) | (with_reducible refine Kd.C_drew ?_))); (case side2 => exact HC2.out); rintro e w15 ⟨rfl, hb⟩; refine ⟨_, rfl, ?_⟩; have n0_ := Aside0.mk (below_step (by repeat (first | (with_reducible first | exact HB.out | apply below_alloc | apply pw_below_drewN | apply below_drew1) | exact HB.out)) hb); clear HB; have HB := n0_; clear n0_; (try clear hb); (try clear hb2); (try clear hk); (try clear hi)) | ((with_reducible refine gate_callee (f := 47) rfl ?_); refine goesL_ (some 48) rfl rfl Try.func47 (by kernel_rfl) rfl #[.agg #[.int .i64 (Go.bits .and .i64 a0 255), .int .i64 (Go.bits .and .i64 a1 255), .slice none 0 0, .string t376]] rfl (by (try simp only [List.map_toArray, List.map_cons, List.map_nil]); first | done | rfl | (simp only [List.length_drop, List.length_take]; rfl)) ?_; (refine (control_Put.calls (Go.bits .and .i64 a0 255) (Go.bits .and .i64 a1 255) _ _ ([] : List (S46)) t376 t380 t381 _ ?side1 ?side2 A13.out).mono ?_); (case side1 => exact Kd.C_nil _ _); (case side2 => exact Nat.le_refl _); rintro e w16 ⟨rfl, hb⟩; refine ⟨_, rfl, ?_⟩; have n0_ := Aside0.mk (below_step (by repeat (first | (with_reducible first | exact HB.out | apply below_alloc | apply pw_below_drewN | apply below_drew1) | exact HB.out)) hb); clear HB; have HB := n0_; clear n0_; (try clear hb); (try clear hb2); (try clear hk); (try clear hi)))
          (try simp only [Act.put, List.setIfInBounds_toArray, List.set_cons_zero, List.set_cons_succ])
          go_cut [15] (fun v15 wc => ∃ (kq : Nat) (x15_13 : Bool), v15 = .bool x15_13 ∧ Aside0 (withylaw5_ControlKinds.j1 kq l2 t376 t378 t379 t380 t381 x15_13 = some r) ∧ Aside0 (kq ≤ kj6) ∧ Aside0 (Below w.heap.size w wc))
          case first =>
            have H := HC14.out
            clear HC14
            by_cases c17 : (Go.bits .and .i64 a0 255) ≥ 1
            · rw [if_pos c17] at H
              have c17b0 : decide (1 ≤ (Go.bits .and .i64 a0 255)) = true := decide_eq_true c17
              clear c17
              (first | rw [c17b0] | (simp only [i64_w, i32_w]; rw [c17b0]) | skip)
              have H' := Aside0.mk H
              clear H
              go_wp2
              go_meet
              case rel => exact ⟨_, (decide ((Go.bits .and .i64 a0 255) ≤ 4)), (by first | rfl | (simp; done) | (simp [*]; done)), H', ⟨by have := HJ6.out; first | omega | exact Nat.le_refl _⟩, ⟨by repeat (first | (with_reducible first | exact HB.out | apply below_alloc | apply pw_below_drewN | apply below_drew1) | exact HB.out)⟩⟩
            · rw [if_neg c17] at H
              have c17b0 : decide (1 ≤ (Go.bits .and .i64 a0 255)) = false := decide_eq_false c17
              clear c17
              (first | rw [c17b0] | (simp only [i64_w, i32_w]; rw [c17b0]) | skip)
              have H' := Aside0.mk H
              clear H
              go_wp2
              go_meet
              case rel => exact ⟨_, (false), (by first | rfl | (simp; done) | (simp [*]; done)), H', ⟨by have := HJ6.out; first | omega | exact Nat.le_refl _⟩, ⟨by repeat (first | (with_reducible first | exact HB.out | apply below_alloc | apply pw_below_drewN | apply below_drew1) | exact HB.out)⟩⟩
          case rest =>
            clear HC14
            try clear c1
            try clear c2
            try clear p2
            try clear c3
            try clear c4
            try clear c5
            try clear p6
            try clear c10
            try clear c10b0
            try clear c10b1
            try clear c11
            try clear c15
            try clear c17
            try clear c17b0
            try clear p2
            try clear p6
            obtain ⟨kq, x15_13, rfl, HA, HJ13, HB⟩ := hcut
            cases kq with
            | zero => exact absurd HA.out (by simp [withylaw5_ControlKinds.j1])
            | succ kj13 =>
              have H := HA.out
              clear HA
              simp only [withylaw5_ControlKinds.j1] at H
              by_cases c18 : x15_13 = true
              · subst c18
                have H1 : ((withylaw0_Num.f t379).bind fun t382 => (if t382 = 0 then (if 4 ≤ (t378.size : Int) then (if (t378.extract 4 t378.size).toList = t376.toList then ((withylaw0_Num.f t381).bind fun t383 => (some ((t383 == 0) == (t376.toList == ([] : List UInt8))))) else (some false)) else (none)) else (some false))) = some r := by rw [if_pos rfl] at H; exact H
                clear H
                have H := H1
                clear H1
                replace H := Option.bind_eq_some_iff.mp H
                obtain ⟨t382, A190, H⟩ := H
                replace H : (if t382 = 0 then (if 4 ≤ (t378.size : Int) then (if (t378.extract 4 t378.size).toList = t376.toList then ((withylaw0_Num.f t381).bind fun t383 => (some ((t383 == 0) == (t376.toList == ([] : List UInt8))))) else (some false)) else (none)) else (some false)) = some r := H
                have A19 := Aside0.mk A190
                clear A190
                by_cases c20 : t382 = 0
                · rw [if_pos c20] at H
                  have c20b0 : (t382 == 0) = true := beq_iff_eq.mpr c20
                  have c20b1 : (t382 != 0) = false := bne_eq_false_iff_eq.mpr c20
                  clear c20
                  by_cases c21 : 4 ≤ (t378.size : Int)
                  · rw [if_pos c21] at H
                    have c21b0 := eq_true c21
                    have c21b1 : decide (4 ≤ (t378.size : Int)) = true := decide_eq_true c21
                    clear c21
                    by_cases c22 : (t378.extract 4 t378.size).toList = t376.toList
                    · rw [if_pos c22] at H
                      have c22b0 : ((t378.extract 4 t378.size).toList == t376.toList) = true := beq_iff_eq.mpr c22
                      have c22b1 : ((t378.extract 4 t378.size).toList != t376.toList) = false := bne_eq_false_iff_eq.mpr c22
                      clear c22
                      replace H := Option.bind_eq_some_iff.mp H
                      obtain ⟨t383, A230, H⟩ := H
                      replace H : (some ((t383 == 0) == (t376.toList == ([] : List UInt8)))) = some r := H
                      have A23 := Aside0.mk A230
                      clear A230
                      obtain rfl := Option.some.inj H
                      go_wp2_with (first | ((with_reducible refine gate_callee (f := 29) rfl ?_); refine goesL_ (some 59) rfl rfl Try.func29 (by kernel_rfl) rfl #[.int .i64 t379] rfl (by (try simp only [List.map_toArray, List.map_cons, List.map_nil]); first | done | rfl | (simp only [List.length_drop, List.length_take]; rfl)) ?_; (with_reducible refine (withylaw0_Num.calls t379 t382 _ A19.out).mono ?_); rintro e w' ⟨rfl, ⟨nd, rfl⟩⟩; refine ⟨_, rfl, ?_⟩) | (go_at_call 29; (with_reducible refine (withylaw0_Num.calls t381 t383 _ A23.out).mono ?_); rintro e w' ⟨rfl, ⟨nd, rfl⟩⟩))
                      go_ret
                      exact ⟨by first | rfl | (simp [errW_none, errW_some] <;> rfl) | (simp [*, errW_none, errW_some] <;> rfl), by repeat (first | (with_reducible first | exact HB.out | apply below_alloc | apply pw_below_drewN | apply below_drew1) | exact HB.out)⟩
                    · rw [if_neg c22] at H
                      have c22b0 : ((t378.extract 4 t378.size).toList == t376.toList) = false := beq_eq_false_iff_ne.mpr c22
                      have c22b1 : ((t378.extract 4 t378.size).toList != t376.toList) = true := bne_iff_ne.mpr c22
                      obtain rfl := Option.some.inj H
                      go_wp2_with (first | ((with_reducible refine gate_callee (f := 29) rfl ?_); refine goesL_ (some 59) rfl rfl Try.func29 (by kernel_rfl) rfl #[.int .i64 t379] rfl (by (try simp only [List.map_toArray, List.map_cons, List.map_nil]); first | done | rfl | (simp only [List.length_drop, List.length_take]; rfl)) ?_; (with_reducible refine (withylaw0_Num.calls t379 t382 _ A19.out).mono ?_); rintro e w' ⟨rfl, ⟨nd, rfl⟩⟩; refine ⟨_, rfl, ?_⟩))
                      go_ret
                      exact ⟨by first | rfl | (simp [errW_none, errW_some] <;> rfl) | (simp [*, errW_none, errW_some] <;> rfl), by repeat (first | (with_reducible first | exact HB.out | apply below_alloc | apply pw_below_drewN | apply below_drew1) | exact HB.out)⟩
                  · rw [if_neg c21] at H
                    exact absurd H (by simp)
                · rw [if_neg c20] at H
                  have c20b0 : (t382 == 0) = false := beq_eq_false_iff_ne.mpr c20
                  have c20b1 : (t382 != 0) = true := bne_iff_ne.mpr c20
                  obtain rfl := Option.some.inj H
                  go_wp2_with (first | ((with_reducible refine gate_callee (f := 29) rfl ?_); refine goesL_ (some 59) rfl rfl Try.func29 (by kernel_rfl) rfl #[.int .i64 t379] rfl (by (try simp only [List.map_toArray, List.map_cons, List.map_nil]); first | done | rfl | (simp only [List.length_drop, List.length_take]; rfl)) ?_; (with_reducible refine (withylaw0_Num.calls t379 t382 _ A19.out).mono ?_); rintro e w' ⟨rfl, ⟨nd, rfl⟩⟩; refine ⟨_, rfl, ?_⟩))
                  go_ret
                  exact ⟨by first | rfl | (simp [errW_none, errW_some] <;> rfl) | (simp [*, errW_none, errW_some] <;> rfl), by repeat (first | (with_reducible first | exact HB.out | apply below_alloc | apply pw_below_drewN | apply below_drew1) | exact HB.out)⟩
              · replace c18 := Bool.eq_false_iff.mpr c18
                subst c18
                have H1 : ((withylaw0_Num.f t381).bind fun t384 => (if t384 = 0 then (if 4 ≤ (t380.size : Int) then (if (t380.extract 4 t380.size).toList = t376.toList then ((withylaw0_Num.f t379).bind fun t385 => (some ((t385 == 0) == ((l2.length : Int) == 0)))) else (some false)) else (none)) else (some false))) = some r := by rw [if_neg (show ¬ (false = true) by decide)] at H; exact H
                clear H
                have H := H1
                clear H1
                replace H := Option.bind_eq_some_iff.mp H
                obtain ⟨t384, A240, H⟩ := H
                replace H : (if t384 = 0 then (if 4 ≤ (t380.size : Int) then (if (t380.extract 4 t380.size).toList = t376.toList then ((withylaw0_Num.f t379).bind fun t385 => (some ((t385 == 0) == ((l2.length : Int) == 0)))) else (some false)) else (none)) else (some false)) = some r := H
                have A24 := Aside0.mk A240
                clear A240
                by_cases c25 : t384 = 0
                · rw [if_pos c25] at H
                  have c25b0 : (t384 == 0) = true := beq_iff_eq.mpr c25
                  have c25b1 : (t384 != 0) = false := bne_eq_false_iff_eq.mpr c25
                  clear c25
                  by_cases c26 : 4 ≤ (t380.size : Int)
                  · rw [if_pos c26] at H
                    have c26b0 := eq_true c26
                    have c26b1 : decide (4 ≤ (t380.size : Int)) = true := decide_eq_true c26
                    clear c26
                    by_cases c27 : (t380.extract 4 t380.size).toList = t376.toList
                    · rw [if_pos c27] at H
                      have c27b0 : ((t380.extract 4 t380.size).toList == t376.toList) = true := beq_iff_eq.mpr c27
                      have c27b1 : ((t380.extract 4 t380.size).toList != t376.toList) = false := bne_eq_false_iff_eq.mpr c27
                      clear c27
                      replace H := Option.bind_eq_some_iff.mp H
                      obtain ⟨t385, A280, H⟩ := H
                      replace H : (some ((t385 == 0) == ((l2.length : Int) == 0))) = some r := H
                      have A28 := Aside0.mk A280
                      clear A280
                      obtain rfl := Option.some.inj H
                      go_wp2_with (first | ((with_reducible refine gate_callee (f := 29) rfl ?_); refine goesL_ (some 76) rfl rfl Try.func29 (by kernel_rfl) rfl #[.int .i64 t381] rfl (by (try simp only [List.map_toArray, List.map_cons, List.map_nil]); first | done | rfl | (simp only [List.length_drop, List.length_take]; rfl)) ?_; (with_reducible refine (withylaw0_Num.calls t381 t384 _ A24.out).mono ?_); rintro e w' ⟨rfl, ⟨nd, rfl⟩⟩; refine ⟨_, rfl, ?_⟩) | (go_at_call 29; (with_reducible refine (withylaw0_Num.calls t379 t385 _ A28.out).mono ?_); rintro e w' ⟨rfl, ⟨nd, rfl⟩⟩))
                      go_ret
                      exact ⟨by first | rfl | (simp [errW_none, errW_some] <;> rfl) | (simp [*, errW_none, errW_some] <;> rfl), by repeat (first | (with_reducible first | exact HB.out | apply below_alloc | apply pw_below_drewN | apply below_drew1) | exact HB.out)⟩
                    · rw [if_neg c27] at H
                      have c27b0 : ((t380.extract 4 t380.size).toList == t376.toList) = false := beq_eq_false_iff_ne.mpr c27
                      have c27b1 : ((t380.extract 4 t380.size).toList != t376.toList) = true := bne_iff_ne.mpr c27
                      obtain rfl := Option.some.inj H
                      go_wp2_with (first | ((with_reducible refine gate_callee (f := 29) rfl ?_); refine goesL_ (some 76) rfl rfl Try.func29 (by kernel_rfl) rfl #[.int .i64 t381] rfl (by (try simp only [List.map_toArray, List.map_cons, List.map_nil]); first | done | rfl | (simp only [List.length_drop, List.length_take]; rfl)) ?_; (with_reducible refine (withylaw0_Num.calls t381 t384 _ A24.out).mono ?_); rintro e w' ⟨rfl, ⟨nd, rfl⟩⟩; refine ⟨_, rfl, ?_⟩))
                      go_ret
                      exact ⟨by first | rfl | (simp [errW_none, errW_some] <;> rfl) | (simp [*, errW_none, errW_some] <;> rfl), by repeat (first | (with_reducible first | exact HB.out | apply below_alloc | apply pw_below_drewN | apply below_drew1) | exact HB.out)⟩
                  · rw [if_neg c26] at H
                    exact absurd H (by simp)
                · rw [if_neg c25] at H
                  have c25b0 : (t384 == 0) = false := beq_eq_false_iff_ne.mpr c25
                  have c25b1 : (t384 != 0) = true := bne_iff_ne.mpr c25
                  obtain rfl := Option.some.inj H
                  go_wp2_with (first | ((with_reducible refine gate_callee (f := 29) rfl ?_); refine goesL_ (some 76) rfl rfl Try.func29 (by kernel_rfl) rfl #[.int .i64 t381] rfl (by (try simp only [List.map_toArray, List.map_cons, List.map_nil]); first | done | rfl | (simp only [List.length_drop, List.length_take]; rfl)) ?_; (with_reducible refine (withylaw0_Num.calls t381 t384 _ A24.out).mono ?_); rintro e w' ⟨rfl, ⟨nd, rfl⟩⟩; refine ⟨_, rfl, ?_⟩))
                  go_ret
                  exact ⟨by first | rfl | (simp [errW_none, errW_some] <;> rfl) | (simp [*, errW_none, errW_some] <;> rfl), by repeat (first | (with_reducible first | exact HB.out | apply below_alloc | apply pw_below_drewN | apply below_drew1) | exact HB.out)⟩
  · replace c5 := Bool.eq_false_iff.mpr c5
    subst c5
    have H1 : (some false) = some r := by rw [if_neg (show ¬ (false = true) by decide)] at H; exact H
    clear H
    have H := H1
    clear H1
    obtain rfl := Option.some.inj H
    go_enter Try.func15, Try.ntmps15
    go_wp2_with (first | ((with_reducible refine gate_callee (f := 52) rfl ?_); refine goesL_ (some 16) rfl rfl Try.func52 (by kernel_rfl) rfl #[] rfl (by (try simp only [List.map_toArray, List.map_cons, List.map_nil]); first | done | rfl | (simp only [List.length_drop, List.length_take]; rfl)) ?_; (with_reducible refine (withylaw5_awake.calls k  false _ A4.out).mono ?_); rintro e w29 ⟨rfl, hb⟩; refine ⟨_, rfl, ?_⟩; have n0_ := Aside0.mk (below_step (by repeat (first | (with_reducible first | exact HB.out | apply below_alloc | apply pw_below_drewN | apply below_drew1) | exact HB.out)) hb); clear HB; have HB := n0_; clear n0_; (try clear hb); (try clear hb2); (try clear hk); (try clear hi)))
    go_ret
    exact ⟨by first | rfl | (simp [errW_none, errW_some] <;> rfl) | (simp [*, errW_none, errW_some] <;> rfl), by repeat (first | (with_reducible first | exact HB.out | apply below_alloc | apply pw_below_drewN | apply below_drew1) | exact HB.out)⟩

end Go.Proofs.Ytbdlkcgaobkdcaa.P

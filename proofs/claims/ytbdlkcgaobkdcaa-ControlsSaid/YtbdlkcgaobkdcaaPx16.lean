-- Written by wip/mkprint.py over the kit's print.py, out of the translation; Lean checks it.
import Derived.Test.YtbdlkcgaobkdcaaPx0
import Derived.Test.YtbdlkcgaobkdcaaPx15
import Derived.Test.YtbdlkcgaobkdcaaHRef
namespace Go.Proofs.Ytbdlkcgaobkdcaa.P
open Go.RowKit Go.Proofs.YtbdlkcgaobkdcaaW.PrintWords Go.Proofs.YtbdlkcgaobkdcaaW.PrintLast Go.Proofs.YtbdlkcgaobkdcaaW.PrintMore
attribute [local go_sem] max2_int min2_int max_two min_two max_three min_three max_four min_four   -- for this text's walks alone
set_option linter.unusedVariables false
set_option linter.unusedSimpArgs false

/-! ### withyref1_Control: function 48 -/
mutual
def withyref1_Control.j0 : Nat → Bool → Int → Int → List (S46) → ByteArray → Option (ByteArray × Int)
  | 0, _, _, _, _, _ => none
  | k + 1, x24, x246000, x246001, x246002, x246003 => if x24 = true then (some ((⟨#[]⟩ : ByteArray), 501)) else (if x246000 ≥ 1 then (withyref1_Control.j1 k x246003 (decide (x246000 ≤ 4)) x246000 x246001 x246002 x246003) else (withyref1_Control.j1 k x246003 false x246000 x246001 x246002 x246003))
def withyref1_Control.j1 : Nat → ByteArray → Bool → Int → Int → List (S46) → ByteArray → Option (ByteArray × Int)
  | 0, _, _, _, _, _, _ => none
  | k + 1, x4, x34, x246000, x246001, x246002, x246003 => if x34 = true then ((withyref1_Opts.f x246002).bind fun bt246 => (if bt246.2 = 0 then (withyref1_Control.j2 k bt246.1 (x246003.toList != ([] : List UInt8)) x246000 x246001 x246002 x246003) else (withyref1_Control.j2 k bt246.1 true x246000 x246001 x246002 x246003))) else (if (x246002.length : Int) > 0 then (some ((⟨#[]⟩ : ByteArray), 502)) else (if (wrap64 ((x4.size : Int) + 4)) > 2048 then (some ((⟨#[]⟩ : ByteArray), 503)) else ((some (([(x246000) % 256, (x246001) % 256] : List Int) : List Int)).bind fun y252 => ((withyref1_two.f (wrap64 ((x4.size : Int) + 4))).bind fun t255 => (if (strOfNums y252).size + t255.size ≤ 9223372036854775807 then (if ((strOfNums y252) ++ t255).size + x4.size ≤ 9223372036854775807 then (some (((strOfNums y252) ++ t255) ++ x4, 0)) else (none)) else (none))))))
def withyref1_Control.j2 : Nat → ByteArray → Bool → Int → Int → List (S46) → ByteArray → Option (ByteArray × Int)
  | 0, _, _, _, _, _, _ => none
  | k + 1, x5, x47, x246000, x246001, x246002, x246003 => if x47 = true then (some ((⟨#[]⟩ : ByteArray), 502)) else (if (wrap64 ((x5.size : Int) + 4)) > 2048 then (some ((⟨#[]⟩ : ByteArray), 503)) else ((some (([(x246000) % 256, (x246001) % 256] : List Int) : List Int)).bind fun y248 => ((withyref1_two.f (wrap64 ((x5.size : Int) + 4))).bind fun t251 => (if (strOfNums y248).size + t251.size ≤ 9223372036854775807 then (if ((strOfNums y248) ++ t251).size + x5.size ≤ 9223372036854775807 then (some (((strOfNums y248) ++ t251) ++ x5, 0)) else (none)) else (none)))))
end
def withyref1_Control.f (k : Nat) (a0_0 : Int) (a0_1 : Int) (l0_2 : List (S46)) (a0_3 : ByteArray) : Option (ByteArray × Int) := if a0_0 < 0 then (withyref1_Control.j0 k true a0_0 a0_1 l0_2 a0_3) else (if a0_0 > 255 then (withyref1_Control.j0 k true a0_0 a0_1 l0_2 a0_3) else (if a0_1 < 0 then (withyref1_Control.j0 k true a0_0 a0_1 l0_2 a0_3) else (withyref1_Control.j0 k (decide (a0_1 > 255)) a0_0 a0_1 l0_2 a0_3)))
theorem withyref1_Control.mono_l : ∀ k, (∀ y0 y1 y2 y3 y4, LeO (withyref1_Control.j0 k y0 y1 y2 y3 y4) (withyref1_Control.j0 (k + 1) y0 y1 y2 y3 y4)) ∧ (∀ y0 y1 y2 y3 y4 y5, LeO (withyref1_Control.j1 k y0 y1 y2 y3 y4 y5) (withyref1_Control.j1 (k + 1) y0 y1 y2 y3 y4 y5)) ∧ (∀ y0 y1 y2 y3 y4 y5, LeO (withyref1_Control.j2 k y0 y1 y2 y3 y4 y5) (withyref1_Control.j2 (k + 1) y0 y1 y2 y3 y4 y5))
  | 0 => ⟨fun _ _ _ _ _ r h => by simp [withyref1_Control.j0] at h, fun _ _ _ _ _ _ r h => by simp [withyref1_Control.j1] at h, fun _ _ _ _ _ _ r h => by simp [withyref1_Control.j2] at h⟩
  | k + 1 => by
    obtain ⟨ih0, ih1, ih2⟩ := withyref1_Control.mono_l k
    refine ⟨?_, ?_, ?_⟩
    · intro y0 y1 y2 y3 y4
      unfold withyref1_Control.j0
      repeat' first
      | (with_reducible exact ih0 _ _ _ _ _)
      | (with_reducible exact ih1 _ _ _ _ _ _)
      | (with_reducible exact ih2 _ _ _ _ _ _)
      | (with_reducible exact LeO.refl _)
      | (with_reducible exact LeO.none _)
      | (with_reducible refine LeO.ite ?_ ?_)
      | (with_reducible refine LeO.bind ?_ (fun _ => ?_))
      | exact ih0 _ _ _ _ _
      | exact ih1 _ _ _ _ _ _
      | exact ih2 _ _ _ _ _ _
      | exact LeO.none _
      | refine LeO.ite ?_ ?_
      | refine LeO.bind ?_ (fun _ => ?_)
    · intro y0 y1 y2 y3 y4 y5
      unfold withyref1_Control.j1
      repeat' first
      | (with_reducible exact ih0 _ _ _ _ _)
      | (with_reducible exact ih1 _ _ _ _ _ _)
      | (with_reducible exact ih2 _ _ _ _ _ _)
      | (with_reducible exact LeO.refl _)
      | (with_reducible exact LeO.none _)
      | (with_reducible refine LeO.ite ?_ ?_)
      | (with_reducible refine LeO.bind ?_ (fun _ => ?_))
      | exact ih0 _ _ _ _ _
      | exact ih1 _ _ _ _ _ _
      | exact ih2 _ _ _ _ _ _
      | exact LeO.none _
      | refine LeO.ite ?_ ?_
      | refine LeO.bind ?_ (fun _ => ?_)
    · intro y0 y1 y2 y3 y4 y5
      unfold withyref1_Control.j2
      repeat' first
      | (with_reducible exact ih0 _ _ _ _ _)
      | (with_reducible exact ih1 _ _ _ _ _ _)
      | (with_reducible exact ih2 _ _ _ _ _ _)
      | (with_reducible exact LeO.refl _)
      | (with_reducible exact LeO.none _)
      | (with_reducible refine LeO.ite ?_ ?_)
      | (with_reducible refine LeO.bind ?_ (fun _ => ?_))
      | exact ih0 _ _ _ _ _
      | exact ih1 _ _ _ _ _ _
      | exact ih2 _ _ _ _ _ _
      | exact LeO.none _
      | refine LeO.ite ?_ ?_
      | refine LeO.bind ?_ (fun _ => ?_)
theorem withyref1_Control.mono : ∀ a0 a1 a2 a3 k, LeO (withyref1_Control.f k a0 a1 a2 a3) (withyref1_Control.f (k + 1) a0 a1 a2 a3) := by
  intro a0 a1 a2 a3 k
  obtain ⟨ih0, ih1, ih2⟩ := withyref1_Control.mono_l k
  unfold withyref1_Control.f
  repeat' first
      | (with_reducible exact ih0 _ _ _ _ _)
      | (with_reducible exact ih1 _ _ _ _ _ _)
      | (with_reducible exact ih2 _ _ _ _ _ _)
      | (with_reducible exact LeO.refl _)
      | (with_reducible exact LeO.none _)
      | (with_reducible refine LeO.ite ?_ ?_)
      | (with_reducible refine LeO.bind ?_ (fun _ => ?_))
      | exact ih0 _ _ _ _ _
      | exact ih1 _ _ _ _ _ _
      | exact ih2 _ _ _ _ _ _
      | exact LeO.none _
      | refine LeO.ite ?_ ?_
      | refine LeO.bind ?_ (fun _ => ?_)
def withyref1_Control.T13 : Bool × List (List Nat × List Nat) := (true, [([], []), ([0], [0]), ([1], [1]), ([], []), ([3], [3]), ([4], [4]), ([2, 5], [2, 5]), ([6], [6]), ([], []), ([8], [8]), ([9], [9]), ([10], [10]), ([7, 11], [7, 11]), ([], []), ([12, 13], [12, 13]), ([14, 11, 0, 1, 2, 3, 4, 5, 6, 7, 8, 9, 10, 11, 12, 13, 14], [14]), ([15, 0, 1, 2, 3, 4, 5, 6, 7, 8, 9, 10, 11, 12, 13, 14, 15], [])])
def withyref1_Control.B13 : List Nat := [0, 1, 3, 0, 8, 24, 63, 127, 0, 256, 768, 1792, 4095, 0, 16383, 32767, 65535]
theorem withyref1_Control.tab13 : rtab .any (opsOf Try.f48 13) = withyref1_Control.T13 := by kernel_rfl
theorem withyref1_Control.bits13 : waitsOk withyref1_Control.T13.2 withyref1_Control.B13 = true := by kernel_rfl
set_option maxHeartbeats 8000000 in
set_option maxRecDepth 100000 in
theorem withyref1_Control.calls (k : Nat) (a0_0 : Int) (a0_1 : Int) (A0_2 : Option Addr) (c0_2 : Nat) (l0_2 : List (S46)) (a0_3 : ByteArray) (r1 : ByteArray) (r2 : Int) (w : World) (hr0_2 : Kd.C k46 w A0_2 l0_2.length l0_2) (hc0_2 : l0_2.length ≤ c0_2) (h : withyref1_Control.f k a0_0 a0_1 l0_2 a0_3 = some (r1,r2)) :
    Calls Try.prog 48 #[.agg #[.int .i64 a0_0,.int .i64 a0_1,.slice A0_2 l0_2.length c0_2,.string a0_3]] w fun e w' => e = .returned (.tuple #[.string r1,.int .i64 r2]) ∧ Below w.heap.size w w':=by
  have hu69:=Try.underlying69
  have HR0_2:=Aside0.mk hr0_2
  have HC0_2:=Aside0.mk hc0_2
  clear hr0_2 hc0_2
  have HB:=Aside0.mk (Below.refl w.heap.size w)
  have H : (if a0_0 < 0 then (withyref1_Control.j0 k true a0_0 a0_1 l0_2 a0_3) else (if a0_0 > 255 then (withyref1_Control.j0 k true a0_0 a0_1 l0_2 a0_3) else (if a0_1 < 0 then (withyref1_Control.j0 k true a0_0 a0_1 l0_2 a0_3) else (withyref1_Control.j0 k (decide (a0_1 > 255)) a0_0 a0_1 l0_2 a0_3)))) = some (r1,r2):=h
  clear h
  have HC2:=Aside0.mk H
  clear H
  go_enter Try.func48,Try.ntmps48
  go_upto_region 1 with (first|((with_reducible refine gate_dst (N:=1) rfl ?_);refine box_event ?hg (N:=1) ?hd (cs:=#[.int .i64 a0_0,.int .i64 a0_1,.slice A0_2 l0_2.length c0_2,.string a0_3]) (t:=69) ?hr ?_;(case hd => rfl);(case hg => rfl);(case hr => first|(go_simp;done)|(go_simp;rfl));intro gb245 hg w3 hbox hb;have n0_:=Aside0.mk (below_step (by repeat (first|(with_reducible first|exact HB.out|apply below_alloc|apply pw_below_drewN|apply below_drew1)|exact HB.out)) hb);have n1_:=Aside0.mk (hbox);have n2_:=Aside0.mk ((by rw [hg];exact (below_size (by repeat (first|(with_reducible first|exact HB.out|apply below_alloc|apply pw_below_drewN|apply below_drew1)|exact HB.out))) : w.heap.size ≤ gb245));have n3_:=Aside0.mk ((by rw [hg];exact (below_size (by repeat (first|(with_reducible first|exact HB.out|apply below_alloc|apply pw_below_drewN|apply below_drew1)|exact HB.out))) : w.heap.size ≤ gb245));clear HB;have HB:=n0_;have BK245:=n1_;have GW245:=n2_;have GE245:=n3_;clear n0_ n1_ n2_ n3_;clear hb hbox hg))
  (try simp only [Act.put,List.setIfInBounds_toArray,List.set_cons_zero,List.set_cons_succ])
  go_cut [24] (fun v24 wc => ∃ (kq : Nat) (x24_1 : Bool),v24 = .bool x24_1 ∧ Aside0 (withyref1_Control.j0 kq x24_1 a0_0 a0_1 l0_2 a0_3 = some (r1,r2)) ∧ Aside0 (kq ≤ k) ∧ Aside0 (wc.heap[gb245]? = some (.cells #[.int .i64 a0_0,.int .i64 a0_1,(.slice A0_2 l0_2.length c0_2),.string a0_3] 69 (0,0))) ∧ Aside0 (Below w.heap.size w wc))
  case first =>
    have H:=HC2.out
    clear HC2
    by_cases c4 : a0_0 < 0
    · rw [if_pos c4] at H
      have c4b0 : decide (a0_0 < 0) = true:=decide_eq_true c4
      clear c4
      (first|rw [c4b0]|(simp only [i64_w,i32_w];rw [c4b0])|skip)
      have H':=Aside0.mk H
      clear H
      have hcz5_0 : w3.cell? ⟨gb245,0,none⟩ = some (.int .i64 a0_0):=(blk_cell BK245.out 0).trans rfl
      have hcz5_1 : w3.cell? ⟨gb245,1,none⟩ = some (.int .i64 a0_1):=(blk_cell BK245.out 1).trans rfl
      have hcz5_2 : w3.cell? ⟨gb245,2,none⟩ = some (.slice A0_2 l0_2.length c0_2):=(blk_cell BK245.out 2).trans rfl
      have hcz5_3 : w3.cell? ⟨gb245,3,none⟩ = some (.string a0_3):=(blk_cell BK245.out 3).trans rfl
      have hfz5_0:=blk_frozen BK245.out 0
      have hfz5_1:=blk_frozen BK245.out 1
      have hfz5_2:=blk_frozen BK245.out 2
      have hfz5_3:=blk_frozen BK245.out 3
      go_wp2
      go_meet
      case rel => exact ⟨_,(true),(by first|rfl|(simp;done)|(simp [*];done)),H',⟨by first|omega|exact Nat.le_refl _⟩,⟨by (with_reducible repeat (first|refine blk_drewN ?_ _|refine blk_drew ?_|refine blk_alloc ?_ _));exact BK245.out⟩,⟨by repeat (first|(with_reducible first|exact HB.out|apply below_alloc|apply pw_below_drewN|apply below_drew1|refine below_set ?_ GE245.out)|exact HB.out)⟩⟩
    · rw [if_neg c4] at H
      have c4b0 : decide (a0_0 < 0) = false:=decide_eq_false c4
      clear c4
      (first|rw [c4b0]|(simp only [i64_w,i32_w];rw [c4b0])|skip)
      by_cases c6 : a0_0 > 255
      · rw [if_pos c6] at H
        have c6b0 : decide (255 < a0_0) = true:=decide_eq_true c6
        clear c6
        have H':=Aside0.mk H
        clear H
        have hcz7_0 : w3.cell? ⟨gb245,0,none⟩ = some (.int .i64 a0_0):=(blk_cell BK245.out 0).trans rfl
        have hcz7_1 : w3.cell? ⟨gb245,1,none⟩ = some (.int .i64 a0_1):=(blk_cell BK245.out 1).trans rfl
        have hcz7_2 : w3.cell? ⟨gb245,2,none⟩ = some (.slice A0_2 l0_2.length c0_2):=(blk_cell BK245.out 2).trans rfl
        have hcz7_3 : w3.cell? ⟨gb245,3,none⟩ = some (.string a0_3):=(blk_cell BK245.out 3).trans rfl
        have hfz7_0:=blk_frozen BK245.out 0
        have hfz7_1:=blk_frozen BK245.out 1
        have hfz7_2:=blk_frozen BK245.out 2
        have hfz7_3:=blk_frozen BK245.out 3
        go_wp2
        go_meet
        case rel => exact ⟨_,(true),(by first|rfl|(simp;done)|(simp [*];done)),H',⟨by first|omega|exact Nat.le_refl _⟩,⟨by (with_reducible repeat (first|refine blk_drewN ?_ _|refine blk_drew ?_|refine blk_alloc ?_ _));exact BK245.out⟩,⟨by repeat (first|(with_reducible first|exact HB.out|apply below_alloc|apply pw_below_drewN|apply below_drew1|refine below_set ?_ GE245.out)|exact HB.out)⟩⟩
      · rw [if_neg c6] at H
        have c6b0 : decide (255 < a0_0) = false:=decide_eq_false c6
        clear c6
        by_cases c8 : a0_1 < 0
        · rw [if_pos c8] at H
          have c8b0 : decide (a0_1 < 0) = true:=decide_eq_true c8
          clear c8
          have H':=Aside0.mk H
          clear H
          have hcz9_0 : w3.cell? ⟨gb245,0,none⟩ = some (.int .i64 a0_0):=(blk_cell BK245.out 0).trans rfl
          have hcz9_1 : w3.cell? ⟨gb245,1,none⟩ = some (.int .i64 a0_1):=(blk_cell BK245.out 1).trans rfl
          have hcz9_2 : w3.cell? ⟨gb245,2,none⟩ = some (.slice A0_2 l0_2.length c0_2):=(blk_cell BK245.out 2).trans rfl
          have hcz9_3 : w3.cell? ⟨gb245,3,none⟩ = some (.string a0_3):=(blk_cell BK245.out 3).trans rfl
          have hfz9_0:=blk_frozen BK245.out 0
          have hfz9_1:=blk_frozen BK245.out 1
          have hfz9_2:=blk_frozen BK245.out 2
          have hfz9_3:=blk_frozen BK245.out 3
          go_wp2
          go_meet
          case rel => exact ⟨_,(true),(by first|rfl|(simp;done)|(simp [*];done)),H',⟨by first|omega|exact Nat.le_refl _⟩,⟨by (with_reducible repeat (first|refine blk_drewN ?_ _|refine blk_drew ?_|refine blk_alloc ?_ _));exact BK245.out⟩,⟨by repeat (first|(with_reducible first|exact HB.out|apply below_alloc|apply pw_below_drewN|apply below_drew1|refine below_set ?_ GE245.out)|exact HB.out)⟩⟩
        · rw [if_neg c8] at H
          have c8b0 : decide (a0_1 < 0) = false:=decide_eq_false c8
          clear c8
          have H':=Aside0.mk H
          clear H
          have hcz10_0 : w3.cell? ⟨gb245,0,none⟩ = some (.int .i64 a0_0):=(blk_cell BK245.out 0).trans rfl
          have hcz10_1 : w3.cell? ⟨gb245,1,none⟩ = some (.int .i64 a0_1):=(blk_cell BK245.out 1).trans rfl
          have hcz10_2 : w3.cell? ⟨gb245,2,none⟩ = some (.slice A0_2 l0_2.length c0_2):=(blk_cell BK245.out 2).trans rfl
          have hcz10_3 : w3.cell? ⟨gb245,3,none⟩ = some (.string a0_3):=(blk_cell BK245.out 3).trans rfl
          have hfz10_0:=blk_frozen BK245.out 0
          have hfz10_1:=blk_frozen BK245.out 1
          have hfz10_2:=blk_frozen BK245.out 2
          have hfz10_3:=blk_frozen BK245.out 3
          go_wp2
          go_meet
          case rel => exact ⟨_,(decide (a0_1 > 255)),(by first|rfl|(simp;done)|(simp [*];done)),H',⟨by first|omega|exact Nat.le_refl _⟩,⟨by (with_reducible repeat (first|refine blk_drewN ?_ _|refine blk_drew ?_|refine blk_alloc ?_ _));exact BK245.out⟩,⟨by repeat (first|(with_reducible first|exact HB.out|apply below_alloc|apply pw_below_drewN|apply below_drew1|refine below_set ?_ GE245.out)|exact HB.out)⟩⟩
  case rest =>
    clear HC2
    try clear p2
    try clear c4
    try clear c4b0
    try clear c6
    try clear c6b0
    try clear c8
    try clear c8b0
    try clear hcz10_0
    try clear hcz10_1
    try clear hcz10_2
    try clear hcz10_3
    try clear hcz5_0
    try clear hcz5_1
    try clear hcz5_2
    try clear hcz5_3
    try clear hcz7_0
    try clear hcz7_1
    try clear hcz7_2
    try clear hcz7_3
    try clear hcz9_0
    try clear hcz9_1
    try clear hcz9_2
    try clear hcz9_3
    try clear hfz10_0
    try clear hfz10_1
    try clear hfz10_2
    try clear hfz10_3
    try clear hfz5_0
    try clear hfz5_1
    try clear hfz5_2
    try clear hfz5_3
    try clear hfz7_0
    try clear hfz7_1
    try clear hfz7_2
    try clear hfz7_3
    try clear hfz9_0
    try clear hfz9_1
    try clear hfz9_2
    try clear hfz9_3
    obtain ⟨kq,x24_1,rfl,HA,HJ1,BK245,HB⟩:=hcut
    cases kq with
   |zero => exact absurd HA.out (by simp [withyref1_Control.j0])
   |succ kj1 =>
      have H:=HA.out
      clear HA
      simp only [withyref1_Control.j0] at H
      by_cases c11 : x24_1 = true
      · subst c11
        have H1 : (some ((⟨#[]⟩ : ByteArray),501)) = some (r1,r2):=by rw [if_pos rfl] at H;exact H
        clear H
        have H:=H1
        clear H1
        simp only [Option.some.injEq,Prod.mk.injEq] at H
        obtain ⟨rfl,rfl⟩:=H
        go_wp2
        go_ret2
        exact ⟨by first|rfl|(simp [errW_none,errW_some] <;> rfl)|(simp [*,errW_none,errW_some] <;> rfl),by repeat (first|(with_reducible first|exact HB.out|apply below_alloc|apply pw_below_drewN|apply below_drew1|refine below_set ?_ GE245.out)|exact HB.out)⟩
      · replace c11:=Bool.eq_false_iff.mpr c11
        subst c11
        have H1 : (if a0_0 ≥ 1 then (withyref1_Control.j1 kj1 a0_3 (decide (a0_0 ≤ 4)) a0_0 a0_1 l0_2 a0_3) else (withyref1_Control.j1 kj1 a0_3 false a0_0 a0_1 l0_2 a0_3)) = some (r1,r2):=by rw [if_neg (show ¬ (false = true) by decide)] at H;exact H
        clear H
        have H:=H1
        clear H1
        have HC12:=Aside0.mk H
        clear H
        have hcz13_0 : wc.cell? ⟨gb245,0,none⟩ = some (.int .i64 a0_0):=(blk_cell BK245.out 0).trans rfl
        have hcz13_1 : wc.cell? ⟨gb245,1,none⟩ = some (.int .i64 a0_1):=(blk_cell BK245.out 1).trans rfl
        have hcz13_2 : wc.cell? ⟨gb245,2,none⟩ = some (.slice A0_2 l0_2.length c0_2):=(blk_cell BK245.out 2).trans rfl
        have hcz13_3 : wc.cell? ⟨gb245,3,none⟩ = some (.string a0_3):=(blk_cell BK245.out 3).trans rfl
        have hfz13_0:=blk_frozen BK245.out 0
        have hfz13_1:=blk_frozen BK245.out 1
        have hfz13_2:=blk_frozen BK245.out 2
        have hfz13_3:=blk_frozen BK245.out 3
        go_upto_region 4 with (fail)
        go_cut [34] (fun v34 wc => ∃ (kq : Nat) (x34_11 : Bool),v34 = .bool x34_11 ∧ Aside0 (withyref1_Control.j1 kq a0_3 x34_11 a0_0 a0_1 l0_2 a0_3 = some (r1,r2)) ∧ Aside0 (kq ≤ kj1) ∧ Aside0 (wc.heap[gb245]? = some (.cells #[.int .i64 a0_0,.int .i64 a0_1,(.slice A0_2 l0_2.length c0_2),.string a0_3] 69 (0,0))) ∧ Aside0 (Below w.heap.size w wc))
        case first =>
          have H:=HC12.out
          clear HC12
          by_cases c14 : a0_0 ≥ 1
          · rw [if_pos c14] at H
            have c14b0 : decide (1 ≤ a0_0) = true:=decide_eq_true c14
            clear c14
            (first|rw [c14b0]|(simp only [i64_w,i32_w];rw [c14b0])|skip)
            have H':=Aside0.mk H
            clear H
            have hcz15_0 : wc.cell? ⟨gb245,0,none⟩ = some (.int .i64 a0_0):=(blk_cell BK245.out 0).trans rfl
            have hcz15_1 : wc.cell? ⟨gb245,1,none⟩ = some (.int .i64 a0_1):=(blk_cell BK245.out 1).trans rfl
            have hcz15_2 : wc.cell? ⟨gb245,2,none⟩ = some (.slice A0_2 l0_2.length c0_2):=(blk_cell BK245.out 2).trans rfl
            have hcz15_3 : wc.cell? ⟨gb245,3,none⟩ = some (.string a0_3):=(blk_cell BK245.out 3).trans rfl
            have hfz15_0:=blk_frozen BK245.out 0
            have hfz15_1:=blk_frozen BK245.out 1
            have hfz15_2:=blk_frozen BK245.out 2
            have hfz15_3:=blk_frozen BK245.out 3
            go_wp2
            go_meet
            case rel => exact ⟨_,(decide (a0_0 ≤ 4)),(by first|rfl|(simp;done)|(simp [*];done)),H',⟨by have:=HJ1.out;first|omega|exact Nat.le_refl _⟩,⟨by (with_reducible repeat (first|refine blk_drewN ?_ _|refine blk_drew ?_|refine blk_alloc ?_ _));exact BK245.out⟩,⟨by repeat (first|(with_reducible first|exact HB.out|apply below_alloc|apply pw_below_drewN|apply below_drew1|refine below_set ?_ GE245.out)|exact HB.out)⟩⟩
          · rw [if_neg c14] at H
            have c14b0 : decide (1 ≤ a0_0) = false:=decide_eq_false c14
            clear c14
            (first|rw [c14b0]|(simp only [i64_w,i32_w];rw [c14b0])|skip)
            have H':=Aside0.mk H
            clear H
            have hcz16_0 : wc.cell? ⟨gb245,0,none⟩ = some (.int .i64 a0_0):=(blk_cell BK245.out 0).trans rfl
            have hcz16_1 : wc.cell? ⟨gb245,1,none⟩ = some (.int .i64 a0_1):=(blk_cell BK245.out 1).trans rfl
            have hcz16_2 : wc.cell? ⟨gb245,2,none⟩ = some (.slice A0_2 l0_2.length c0_2):=(blk_cell BK245.out 2).trans rfl
            have hcz16_3 : wc.cell? ⟨gb245,3,none⟩ = some (.string a0_3):=(blk_cell BK245.out 3).trans rfl
            have hfz16_0:=blk_frozen BK245.out 0
            have hfz16_1:=blk_frozen BK245.out 1
            have hfz16_2:=blk_frozen BK245.out 2
            have hfz16_3:=blk_frozen BK245.out 3
            go_wp2
            go_meet
            case rel => exact ⟨_,(false),(by first|rfl|(simp;done)|(simp [*];done)),H',⟨by have:=HJ1.out;first|omega|exact Nat.le_refl _⟩,⟨by (with_reducible repeat (first|refine blk_drewN ?_ _|refine blk_drew ?_|refine blk_alloc ?_ _));exact BK245.out⟩,⟨by repeat (first|(with_reducible first|exact HB.out|apply below_alloc|apply pw_below_drewN|apply below_drew1|refine below_set ?_ GE245.out)|exact HB.out)⟩⟩
        case rest =>
          clear HC12
          try clear c1
          try clear p2
          try clear c4
          try clear c4b0
          try clear c6
          try clear c6b0
          try clear c8
          try clear c8b0
          try clear c11
          try clear c14
          try clear c14b0
          try clear hcz10_0
          try clear hcz10_1
          try clear hcz10_2
          try clear hcz10_3
          try clear hcz13_0
          try clear hcz13_1
          try clear hcz13_2
          try clear hcz13_3
          try clear hcz15_0
          try clear hcz15_1
          try clear hcz15_2
          try clear hcz15_3
          try clear hcz16_0
          try clear hcz16_1
          try clear hcz16_2
          try clear hcz16_3
          try clear hcz5_0
          try clear hcz5_1
          try clear hcz5_2
          try clear hcz5_3
          try clear hcz7_0
          try clear hcz7_1
          try clear hcz7_2
          try clear hcz7_3
          try clear hcz9_0
          try clear hcz9_1
          try clear hcz9_2
          try clear hcz9_3
          try clear hfz10_0
          try clear hfz10_1
          try clear hfz10_2
          try clear hfz10_3
          try clear hfz13_0
          try clear hfz13_1
          try clear hfz13_2
          try clear hfz13_3
          try clear hfz15_0
          try clear hfz15_1
          try clear hfz15_2
          try clear hfz15_3
          try clear hfz16_0
          try clear hfz16_1
          try clear hfz16_2
          try clear hfz16_3
          try clear hfz5_0
          try clear hfz5_1
          try clear hfz5_2
          try clear hfz5_3
          try clear hfz7_0
          try clear hfz7_1
          try clear hfz7_2
          try clear hfz7_3
          try clear hfz9_0
          try clear hfz9_1
          try clear hfz9_2
          try clear hfz9_3
          try clear p2
          obtain ⟨kq,x34_11,rfl,HA,HJ11,BK245,HB⟩:=hcut
          cases kq with
         |zero => exact absurd HA.out (by simp [withyref1_Control.j1])
         |succ kj11 =>
            have H:=HA.out
            clear HA
            simp only [withyref1_Control.j1] at H
            by_cases c17 : x34_11 = true
            · subst c17
              have H1 : ((withyref1_Opts.f l0_2).bind fun bt246 => (if bt246.2 = 0 then (withyref1_Control.j2 kj11 bt246.1 (a0_3.toList != ([] : List UInt8)) a0_0 a0_1 l0_2 a0_3) else (withyref1_Control.j2 kj11 bt246.1 true a0_0 a0_1 l0_2 a0_3))) = some (r1,r2):=by rw [if_pos rfl] at H;exact H
              clear H
              have H:=H1
              clear H1
              replace H:=Option.bind_eq_some_iff.mp H
              obtain ⟨⟨t246,t247⟩,A180,H⟩:=H
              replace H : (if t247 = 0 then (withyref1_Control.j2 kj11 t246 (a0_3.toList != ([] : List UInt8)) a0_0 a0_1 l0_2 a0_3) else (withyref1_Control.j2 kj11 t246 true a0_0 a0_1 l0_2 a0_3)) = some (r1,r2):=H
              have A18:=Aside0.mk A180
              clear A180
              have HC19:=Aside0.mk H
              clear H
              have hcz20_0 : wc.cell? ⟨gb245,0,none⟩ = some (.int .i64 a0_0):=(blk_cell BK245.out 0).trans rfl
              have hcz20_1 : wc.cell? ⟨gb245,1,none⟩ = some (.int .i64 a0_1):=(blk_cell BK245.out 1).trans rfl
              have hcz20_2 : wc.cell? ⟨gb245,2,none⟩ = some (.slice A0_2 l0_2.length c0_2):=(blk_cell BK245.out 2).trans rfl
              have hcz20_3 : wc.cell? ⟨gb245,3,none⟩ = some (.string a0_3):=(blk_cell BK245.out 3).trans rfl
              have hfz20_0:=blk_frozen BK245.out 0
              have hfz20_1:=blk_frozen BK245.out 1
              have hfz20_2:=blk_frozen BK245.out 2
              have hfz20_3:=blk_frozen BK245.out 3
              go_upto_region 6 with (first|((with_reducible refine gate_callee (f:=33) rfl ?_);refine goesL_ (some 38) rfl rfl Try.func33 (by kernel_rfl) rfl #[.slice A0_2 l0_2.length c0_2] rfl (by (try simp only [List.map_toArray,List.map_cons,List.map_nil]);first|done|rfl|(simp only [List.length_drop,List.length_take];rfl)) ?_;(with_reducible refine (withyref1_Opts.calls _ _ l0_2 t246 t247 _ ?side1 ?side2 A18.out).mono ?_);(case side1 => repeat (first|exact (Kd.C_below HR0_2.out HB.out)|(with_reducible refine Kd.C_alloc ?_ _)|(with_reducible refine Kd.C_drewN ?_ _)|(with_reducible refine Kd.C_drew ?_)));(case side2 => exact HC0_2.out);rintro e w21 ⟨rfl,hb⟩;refine ⟨_,rfl,?_⟩;have n0_:=Aside0.mk (blk_below (g:=gb245) (o:=.cells #[.int .i64 a0_0,.int .i64 a0_1,.slice A0_2 l0_2.length c0_2,.string a0_3] 69 (0,0)) (by (with_reducible repeat (first|refine blk_drewN ?_ _|refine blk_drew ?_|refine blk_alloc ?_ _));exact BK245.out) hb);have n1_:=Aside0.mk (below_step (by repeat (first|(with_reducible first|exact HB.out|apply below_alloc|apply pw_below_drewN|apply below_drew1|refine below_set ?_ GE245.out)|exact HB.out)) hb);clear BK245;clear HB;have BK245:=n0_;have HB:=n1_;clear n0_ n1_;(try clear hb);(try clear hb2);(try clear hk);(try clear hi)))
              (try simp only [Act.put,List.setIfInBounds_toArray,List.set_cons_zero,List.set_cons_succ])
              go_cut [47] (fun v47 wc => ∃ (kq : Nat) (x47_18 : Bool),v47 = .bool x47_18 ∧ Aside0 (withyref1_Control.j2 kq t246 x47_18 a0_0 a0_1 l0_2 a0_3 = some (r1,r2)) ∧ Aside0 (kq ≤ kj11) ∧ Aside0 (wc.heap[gb245]? = some (.cells #[.int .i64 a0_0,.int .i64 a0_1,(.slice A0_2 l0_2.length c0_2),.string a0_3] 69 (0,0))) ∧ Aside0 (Below w.heap.size w wc))
              case first =>
                have H:=HC19.out
                clear HC19
                by_cases c22 : t247 = 0
                · rw [if_pos c22] at H
                  have c22b0 : (t247 == 0) = true:=beq_iff_eq.mpr c22
                  have c22b1 : (t247 != 0) = false:=bne_eq_false_iff_eq.mpr c22
                  clear c22
                  (first|rw [c22b0]|(simp only [i64_w,i32_w];rw [c22b0])|skip)
                  have H':=Aside0.mk H
                  clear H
                  have hcz23_0 : w21.cell? ⟨gb245,0,none⟩ = some (.int .i64 a0_0):=(blk_cell BK245.out 0).trans rfl
                  have hcz23_1 : w21.cell? ⟨gb245,1,none⟩ = some (.int .i64 a0_1):=(blk_cell BK245.out 1).trans rfl
                  have hcz23_2 : w21.cell? ⟨gb245,2,none⟩ = some (.slice A0_2 l0_2.length c0_2):=(blk_cell BK245.out 2).trans rfl
                  have hcz23_3 : w21.cell? ⟨gb245,3,none⟩ = some (.string a0_3):=(blk_cell BK245.out 3).trans rfl
                  have hfz23_0:=blk_frozen BK245.out 0
                  have hfz23_1:=blk_frozen BK245.out 1
                  have hfz23_2:=blk_frozen BK245.out 2
                  have hfz23_3:=blk_frozen BK245.out 3
                  go_wp2
                  go_meet
                  case rel => exact ⟨_,((a0_3.toList != ([] : List UInt8))),(by first|rfl|(simp;done)|(cases a0_3.toList <;> rfl)|(simp [*];cases a0_3.toList <;> rfl)),H',⟨by have:=HJ1.out;have:=HJ11.out;first|omega|exact Nat.le_refl _⟩,⟨by (with_reducible repeat (first|refine blk_drewN ?_ _|refine blk_drew ?_|refine blk_alloc ?_ _));exact BK245.out⟩,⟨by repeat (first|(with_reducible first|exact HB.out|apply below_alloc|apply pw_below_drewN|apply below_drew1|refine below_set ?_ GE245.out)|exact HB.out)⟩⟩
                · rw [if_neg c22] at H
                  have c22b0 : (t247 == 0) = false:=beq_eq_false_iff_ne.mpr c22
                  have c22b1 : (t247 != 0) = true:=bne_iff_ne.mpr c22
                  (first|rw [c22b0]|(simp only [i64_w,i32_w];rw [c22b0])|skip)
                  have H':=Aside0.mk H
                  clear H
                  go_wp2
                  go_meet
                  case rel => exact ⟨_,(true),(by first|rfl|(simp;done)|(simp [*];done)),H',⟨by have:=HJ1.out;have:=HJ11.out;first|omega|exact Nat.le_refl _⟩,⟨by (with_reducible repeat (first|refine blk_drewN ?_ _|refine blk_drew ?_|refine blk_alloc ?_ _));exact BK245.out⟩,⟨by repeat (first|(with_reducible first|exact HB.out|apply below_alloc|apply pw_below_drewN|apply below_drew1|refine below_set ?_ GE245.out)|exact HB.out)⟩⟩
              case rest =>
                clear HC19
                try clear c1
                try clear c2
                try clear p2
                try clear c3
                try clear c4
                try clear c4b0
                try clear c6
                try clear c6b0
                try clear c8
                try clear c8b0
                try clear c11
                try clear c14
                try clear c14b0
                try clear c17
                try clear c22
                try clear c22b0
                try clear c22b1
                try clear hcz10_0
                try clear hcz10_1
                try clear hcz10_2
                try clear hcz10_3
                try clear hcz13_0
                try clear hcz13_1
                try clear hcz13_2
                try clear hcz13_3
                try clear hcz15_0
                try clear hcz15_1
                try clear hcz15_2
                try clear hcz15_3
                try clear hcz16_0
                try clear hcz16_1
                try clear hcz16_2
                try clear hcz16_3
                try clear hcz20_0
                try clear hcz20_1
                try clear hcz20_2
                try clear hcz20_3
                try clear hcz23_0
                try clear hcz23_1
                try clear hcz23_2
                try clear hcz23_3
                try clear hcz5_0
                try clear hcz5_1
                try clear hcz5_2
                try clear hcz5_3
                try clear hcz7_0
                try clear hcz7_1
                try clear hcz7_2
                try clear hcz7_3
                try clear hcz9_0
                try clear hcz9_1
                try clear hcz9_2
                try clear hcz9_3
                try clear hfz10_0
                try clear hfz10_1
                try clear hfz10_2
                try clear hfz10_3
                try clear hfz13_0
                try clear hfz13_1
                try clear hfz13_2
                try clear hfz13_3
                try clear hfz15_0
                try clear hfz15_1
                try clear hfz15_2
                try clear hfz15_3
                try clear hfz16_0
                try clear hfz16_1
                try clear hfz16_2
                try clear hfz16_3
                try clear hfz20_0
                try clear hfz20_1
                try clear hfz20_2
                try clear hfz20_3
                try clear hfz23_0
                try clear hfz23_1
                try clear hfz23_2
                try clear hfz23_3
                try clear hfz5_0
                try clear hfz5_1
                try clear hfz5_2
                try clear hfz5_3
                try clear hfz7_0
                try clear hfz7_1
                try clear hfz7_2
                try clear hfz7_3
                try clear hfz9_0
                try clear hfz9_1
                try clear hfz9_2
                try clear hfz9_3
                try clear p2
                obtain ⟨kq,x47_18,rfl,HA,HJ18,BK245,HB⟩:=hcut
                cases kq with
               |zero => exact absurd HA.out (by simp [withyref1_Control.j2])
               |succ kj18 =>
                  have H:=HA.out
                  clear HA
                  simp only [withyref1_Control.j2] at H
                  by_cases c24 : x47_18 = true
                  · subst c24
                    have H1 : (some ((⟨#[]⟩ : ByteArray),502)) = some (r1,r2):=by rw [if_pos rfl] at H;exact H
                    clear H
                    have H:=H1
                    clear H1
                    simp only [Option.some.injEq,Prod.mk.injEq] at H
                    obtain ⟨rfl,rfl⟩:=H
                    go_wp2
                    go_ret2
                    exact ⟨by first|rfl|(simp [errW_none,errW_some] <;> rfl)|(simp [*,errW_none,errW_some] <;> rfl),by repeat (first|(with_reducible first|exact HB.out|apply below_alloc|apply pw_below_drewN|apply below_drew1|refine below_set ?_ GE245.out)|exact HB.out)⟩
                  · replace c24:=Bool.eq_false_iff.mpr c24
                    subst c24
                    have H1 : (if (wrap64 ((t246.size : Int) + 4)) > 2048 then (some ((⟨#[]⟩ : ByteArray),503)) else ((some (([(a0_0) % 256,(a0_1) % 256] : List Int) : List Int)).bind fun y248 => ((withyref1_two.f (wrap64 ((t246.size : Int) + 4))).bind fun t251 => (if (strOfNums y248).size + t251.size ≤ 9223372036854775807 then (if ((strOfNums y248) ++ t251).size + t246.size ≤ 9223372036854775807 then (some (((strOfNums y248) ++ t251) ++ t246,0)) else (none)) else (none))))) = some (r1,r2):=by rw [if_neg (show ¬ (false = true) by decide)] at H;exact H
                    clear H
                    have H:=H1
                    clear H1
                    by_cases c25 : (wrap64 ((t246.size : Int) + 4)) > 2048
                    · rw [if_pos c25] at H
                      have c25b0 : decide (2048 < (wrap64 ((t246.size : Int) + 4))) = true:=decide_eq_true c25
                      clear c25
                      simp only [Option.some.injEq,Prod.mk.injEq] at H
                      obtain ⟨rfl,rfl⟩:=H
                      go_wp2
                      go_ret2
                      exact ⟨by first|rfl|(simp [errW_none,errW_some] <;> rfl)|(simp [*,errW_none,errW_some] <;> rfl),by repeat (first|(with_reducible first|exact HB.out|apply below_alloc|apply pw_below_drewN|apply below_drew1|refine below_set ?_ GE245.out)|exact HB.out)⟩
                    · rw [if_neg c25] at H
                      have c25b0 : decide (2048 < (wrap64 ((t246.size : Int) + 4))) = false:=decide_eq_false c25
                      clear c25
                      obtain ⟨y248,hy248⟩ : ∃ y_ : List Int,y_ = (([(a0_0) % 256,(a0_1) % 256] : List Int)):=⟨_,rfl⟩
                      replace H : ((withyref1_two.f (wrap64 ((t246.size : Int) + 4))).bind fun t251 => (if (strOfNums y248).size + t251.size ≤ 9223372036854775807 then (if ((strOfNums y248) ++ t251).size + t246.size ≤ 9223372036854775807 then (some (((strOfNums y248) ++ t251) ++ t246,0)) else (none)) else (none))) = some (r1,r2):=by first|(rw [hy248];with_reducible exact H)|(have H2_:=(Option.bind_some _ _).symm.trans H;rw [hy248];with_reducible exact H2_)|(have H2_:=(Option.bind_some _ _).symm.trans H;with_reducible exact H2_)|with_reducible exact H|(rw [hy248];exact H)|exact H
                      have Ny248:=Aside0.mk hy248
                      clear hy248
                      replace H:=Option.bind_eq_some_iff.mp H
                      obtain ⟨t251,A260,H⟩:=H
                      replace H : (if (strOfNums y248).size + t251.size ≤ 9223372036854775807 then (if ((strOfNums y248) ++ t251).size + t246.size ≤ 9223372036854775807 then (some (((strOfNums y248) ++ t251) ++ t246,0)) else (none)) else (none)) = some (r1,r2):=H
                      have A26:=Aside0.mk A260
                      clear A260
                      by_cases c27 : (strOfNums y248).size + t251.size ≤ 9223372036854775807
                      · rw [if_pos c27] at H
                        have c27b0:=eq_true c27
                        have c27b1 : decide ((strOfNums y248).size + t251.size ≤ 9223372036854775807) = true:=decide_eq_true c27
                        try have c27b2 : (9223372036854775807 < (strOfNums y248).size + t251.size) = False:=eq_false (Nat.not_lt.2 c27)
                        by_cases c28 : ((strOfNums y248) ++ t251).size + t246.size ≤ 9223372036854775807
                        · rw [if_pos c28] at H
                          have c28b0:=eq_true c28
                          have c28b1 : decide (((strOfNums y248) ++ t251).size + t246.size ≤ 9223372036854775807) = true:=decide_eq_true c28
                          try have c28b2 : (9223372036854775807 < ((strOfNums y248) ++ t251).size + t246.size) = False:=eq_false (Nat.not_lt.2 c28)
                          have c28b3 : (9223372036854775807 < (strOfNums y248).size + t251.size + t246.size) = False:=eq_false (Nat.not_lt.2 (by have hh_:=c28;rw [ByteArray.size_append] at hh_;omega))
                          simp only [Option.some.injEq,Prod.mk.injEq] at H
                          obtain ⟨rfl,rfl⟩:=H
                          try go_wp2
                          have n0_:=Aside0.mk (blk_drew BK245.out)
                          have n1_:=Aside0.mk (below_drew1 HB.out)
                          clear BK245
                          clear HB
                          have BK245:=n0_
                          have HB:=n1_
                          clear n0_ n1_
                          refine start_ (n:=17) (S:=fun w' => w'.cell? ⟨gb245,0,none⟩ = some (.int .i64 a0_0) ∧ w'.cell? ⟨gb245,1,none⟩ = some (.int .i64 a0_1) ∧ w'.cell? ⟨gb245,2,none⟩ = some (.slice A0_2 l0_2.length c0_2) ∧ w'.cell? ⟨gb245,3,none⟩ = some (.string a0_3)) (ds:=[]) #[false,false,false,false,false,false,false,false,false,false,false,false,false,false,false,false,false] (by kernel_rfl) rfl rfl ⟨(blk_cell BK245.out 0).trans rfl,(blk_cell BK245.out 1).trans rfl,(blk_cell BK245.out 2).trans rfl,(blk_cell BK245.out 3).trans rfl⟩ (fun hHeld => ?_);refine with_tabW withyref1_Control.tab13 withyref1_Control.bits13 (fun HT_ HW_ => ?_)
                          generalize wc.drew = w29 at BK245 HB hHeld ⊢
                          refine pure_ (i:=0) (N:=some 57) (v:=?_) (a':=?_) #[true,false,false,false,false,false,false,false,false,false,false,false,false,false,false,false,false] rfl rfl (any_of HT_.out (by kernel_rfl)) (fun _ _ _ h => h) (Or.inl ⟨by rfl,?_⟩) ?_ ?_
                          rotate_left
                          · intro w'
                            go_simp
                            with_reducible rfl
                          rotate_left
                          · simp only [Act.put,List.setIfInBounds_toArray,List.set_cons_zero,List.set_cons_succ,i64_w,i32_w]
                            rfl
                          refine pure_ (i:=3) (N:=some 60) (v:=?_) (a':=?_) #[true,false,false,true,false,false,false,false,false,false,false,false,false,false,false,false,false] rfl rfl (any_of HT_.out (by kernel_rfl)) (fun _ _ _ h => h) (Or.inl ⟨by rfl,?_⟩) ?_ ?_
                          rotate_left
                          · intro w'
                            go_simp
                            with_reducible rfl
                          rotate_left
                          · simp only [Act.put,List.setIfInBounds_toArray,List.set_cons_zero,List.set_cons_succ,i64_w,i32_w]
                            rfl
                          refine pure_ (i:=8) (N:=some 65) (v:=?_) (a':=?_) #[true,false,false,true,false,false,false,false,true,false,false,false,false,false,false,false,false] rfl rfl (any_of HT_.out (by kernel_rfl)) (fun _ _ _ h => h) (Or.inl ⟨by rfl,?_⟩) ?_ ?_
                          rotate_left
                          · intro w'
                            go_simp
                            with_reducible rfl
                          rotate_left
                          · simp only [Act.put,List.setIfInBounds_toArray,List.set_cons_zero,List.set_cons_succ,i64_w,i32_w]
                            rfl
                          refine pure_ (i:=9) (N:=some 66) (v:=?_) (a':=?_) #[true,false,false,true,false,false,false,false,true,true,false,false,false,false,false,false,false] rfl rfl (any_of HT_.out (by kernel_rfl)) (fun _ _ _ h => h) (Or.inl ⟨by rfl,?_⟩) ?_ ?_
                          rotate_left
                          · intro w'
                            go_simp
                            with_reducible rfl
                          rotate_left
                          · simp only [Act.put,List.setIfInBounds_toArray,List.set_cons_zero,List.set_cons_succ,i64_w,i32_w]
                            rfl
                          refine pure_ (i:=10) (N:=some 67) (v:=?_) (a':=?_) #[true,false,false,true,false,false,false,false,true,true,true,false,false,false,false,false,false] rfl rfl (any_of HT_.out (by kernel_rfl)) (fun _ _ _ h => h) (Or.inl ⟨by rfl,?_⟩) ?_ ?_
                          rotate_left
                          · intro w'
                            go_simp
                            with_reducible rfl
                          rotate_left
                          · simp only [Act.put,List.setIfInBounds_toArray,List.set_cons_zero,List.set_cons_succ,i64_w,i32_w]
                            rfl
                          refine pure_ (i:=13) (N:=some 70) (v:=?_) (a':=?_) #[true,false,false,true,false,false,false,false,true,true,true,false,false,true,false,false,false] rfl rfl (any_of HT_.out (by kernel_rfl)) (fun _ _ _ h => h) (Or.inl ⟨by rfl,?_⟩) ?_ ?_
                          rotate_left
                          · intro w'
                            go_simp
                            with_reducible rfl
                          rotate_left
                          · simp only [Act.put,List.setIfInBounds_toArray,List.set_cons_zero,List.set_cons_succ,i64_w,i32_w]
                            rfl
                          refine take_ (i:=1) (N:=some 58) (v:=?_) (a':=?_) #[true,true,false,true,false,false,false,false,true,true,true,false,false,true,false,false,false] rfl rfl (take_ofW HT_.out HW_.out (by kernel_rfl)) (fun _ _ _ h => h) (Or.inl ⟨by rfl,?_⟩) hHeld ?_ ?_
                          rotate_left
                          · rintro w' ⟨s0,s1,s2,s3⟩
                            go_simp
                            with_reducible rfl
                          rotate_left
                          · simp only [Act.put,List.setIfInBounds_toArray,List.set_cons_zero,List.set_cons_succ,i64_w,i32_w]
                            rfl
                          refine pure_ (i:=2) (N:=some 59) (v:=?_) (a':=?_) #[true,true,true,true,false,false,false,false,true,true,true,false,false,true,false,false,false] rfl rfl (any_of HT_.out (by kernel_rfl)) (fun _ _ _ h => h) (Or.inl ⟨by rfl,?_⟩) ?_ ?_
                          rotate_left
                          · intro w'
                            go_simp
                            with_reducible rfl
                          rotate_left
                          · simp only [Act.put,List.setIfInBounds_toArray,List.set_cons_zero,List.set_cons_succ,i64_w,i32_w]
                            rfl
                          refine take_ (i:=4) (N:=some 61) (v:=?_) (a':=?_) #[true,true,true,true,true,false,false,false,true,true,true,false,false,true,false,false,false] rfl rfl (take_ofW HT_.out HW_.out (by kernel_rfl)) (fun _ _ _ h => h) (Or.inl ⟨by rfl,?_⟩) hHeld ?_ ?_
                          rotate_left
                          · rintro w' ⟨s0,s1,s2,s3⟩
                            go_simp
                            with_reducible rfl
                          rotate_left
                          · simp only [Act.put,List.setIfInBounds_toArray,List.set_cons_zero,List.set_cons_succ,i64_w,i32_w]
                            rfl
                          refine pure_ (i:=5) (N:=some 62) (v:=?_) (a':=?_) #[true,true,true,true,true,true,false,false,true,true,true,false,false,true,false,false,false] rfl rfl (any_of HT_.out (by kernel_rfl)) (fun _ _ _ h => h) (Or.inl ⟨by rfl,?_⟩) ?_ ?_
                          rotate_left
                          · intro w'
                            go_simp
                            with_reducible rfl
                          rotate_left
                          · simp only [Act.put,List.setIfInBounds_toArray,List.set_cons_zero,List.set_cons_succ,i64_w,i32_w]
                            rfl
                          refine join_ (σ:=Value) 4 #[true,true,true,true,true,true,true,true,true,true,true,true,false,true,false,false,false] (fun s_ => [(63,s_),(64,.string (strOfNums y248)),(68,.string t251)]) (fun s_ w' => (w'.cell? ⟨gb245,0,none⟩ = some (.int .i64 a0_0) ∧ w'.cell? ⟨gb245,1,none⟩ = some (.int .i64 a0_1) ∧ w'.cell? ⟨gb245,2,none⟩ = some (.slice A0_2 l0_2.length c0_2) ∧ w'.cell? ⟨gb245,3,none⟩ = some (.string a0_3)) ∧ (Kd.R (Kd.int .u8) 5 w' w.heap.size (fun _ => True) s_ y248) ∧ (w'.heap[gb245]? = some (.cells #[.int .i64 a0_0,.int .i64 a0_1,.slice A0_2 l0_2.length c0_2,.string a0_3] 69 (0,0))) ∧ (Below w.heap.size w w')) ?_ ?_
                          rotate_left
                          · intro hCont
                            refine two_ (i:=6) (j:=11) (Ni:=some 63) (Nj:=some 68) #[true,true,true,true,true,true,true,false,true,true,true,false,false,true,false,false,false] #[true,true,true,true,true,true,false,false,true,true,true,true,false,true,false,false,false] rfl rfl rfl rfl (two_of HT_.out (by kernel_rfl)) (by decide) (by decide) (fun K hK => ?_) (fun K hK => ?_)
                            · skip
                              refine Kd.R_lit_step (Kd.int .u8) _ 5 ?hg (N:=63) ?hd (xs:=([(a0_0) % 256,(a0_1) % 256] : List Int)) (inner:=[.int .u8 ((a0_0) % 256),.int .u8 ((a0_1) % 256)]) (ok:=fun _ => True) (okp:=fun _ => True) ?hr ?hp (fun _ hk => hk) trivial (Below.refl _ _) (Nat.le_refl _) (by simp) ?_;(case hd => rfl);(case hg => rfl);(case hr => first|(go_simp;done)|(go_simp;rfl));(case hp => exact (Reps.one (show Kd.M (Kd.int .u8) _ _ _ ((a0_0) % 256) [.int .u8 ((a0_0) % 256)] from rfl) (Reps.one (show Kd.M (Kd.int .u8) _ _ _ ((a0_1) % 256) [.int .u8 ((a0_1) % 256)] from rfl) (Reps.none _ _))))
                              intro v249 w30 ho31 hb hg_ hnew_
                              clear hg_ hnew_
                              (first|rw [← Ny248.out] at ho31|(simp only [Int.reduceToNat] at ho31;rw [← Ny248.out] at ho31))
                              have n0_:=Aside0.mk (Kd.R_lower ho31 (below_size (by repeat (first|(with_reducible first|exact HB.out|apply below_alloc|apply pw_below_drewN|apply below_drew1|refine below_set ?_ GE245.out)|exact HB.out))))
                              have n1_:=Aside0.mk (blk_below (g:=gb245) (o:=.cells #[.int .i64 a0_0,.int .i64 a0_1,.slice A0_2 l0_2.length c0_2,.string a0_3] 69 (0,0)) (by (with_reducible repeat (first|refine blk_drewN ?_ _|refine blk_drew ?_|refine blk_alloc ?_ _));exact BK245.out) hb)
                              have n2_:=Aside0.mk (below_step (by repeat (first|(with_reducible first|exact HB.out|apply below_alloc|apply pw_below_drewN|apply below_drew1|refine below_set ?_ GE245.out)|exact HB.out)) hb)
                              clear BK245
                              clear HB
                              have HO250:=n0_
                              have BK245:=n1_
                              have HB:=n2_
                              clear n0_ n1_ n2_
                              clear hb ho31
                              refine hK.out _ _ ⟨(blk_cell BK245.out 0).trans rfl,(blk_cell BK245.out 1).trans rfl,(blk_cell BK245.out 2).trans rfl,(blk_cell BK245.out 3).trans rfl⟩ (fun hHeld => ?_)
                              clear hK K
                              refine norm_ (a':=?_) ?_ ?_
                              rotate_left
                              · show Act.put _ (some 63) _ = _
                                simp only [Act.put,List.setIfInBounds_toArray,List.set_cons_zero,List.set_cons_succ,i64_w,i32_w]
                                rfl
                              refine two_ (i:=7) (j:=11) (Ni:=some 64) (Nj:=some 68) #[true,true,true,true,true,true,true,true,true,true,true,false,false,true,false,false,false] #[true,true,true,true,true,true,true,false,true,true,true,true,false,true,false,false,false] rfl rfl rfl rfl (two_of HT_.out (by kernel_rfl)) (by decide) (by decide) (fun K hK => ?_) (fun K hK => ?_)
                              · skip
                                have hcv32:=own_string (P:=Try.prog) Try.underlying61 Try.underlying5 Try.underlying9 (Kd.own_of_R HO250.out)
                                refine value_ (w1:=?_) (v:=?_) (by rfl) rfl ?_ ?_
                                rotate_left 2
                                · go_simp
                                  constructor
                                  · rfl
                                  · rfl
                                clear hcv32
                                refine hK.out _ _ ⟨(blk_cell BK245.out 0).trans rfl,(blk_cell BK245.out 1).trans rfl,(blk_cell BK245.out 2).trans rfl,(blk_cell BK245.out 3).trans rfl⟩ (fun hHeld => ?_)
                                clear hK K
                                refine norm_ (a':=?_) ?_ ?_
                                rotate_left
                                · show Act.put _ (some 64) _ = _
                                  simp only [Act.put,List.setIfInBounds_toArray,List.set_cons_zero,List.set_cons_succ,i64_w,i32_w]
                                  rfl
                                refine one_ (i:=11) (N:=some 68) #[true,true,true,true,true,true,true,true,true,true,true,true,false,true,false,false,false] rfl rfl (one_of HT_.out (by kernel_rfl)) (by decide) (fun K hK => ?_)
                                refine goes_ Try.func84 (by kernel_rfl) rfl #[.int .i64 (wrap64 ((t246.size : Int) + 4))] (by rfl) rfl rfl (by (try simp only [List.map_toArray,List.map_cons,List.map_nil]);first|done|rfl|(simp only [List.length_drop,List.length_take];rfl)) ?_
                                with_reducible refine (withyref1_two.calls (wrap64 ((t246.size : Int) + 4)) t251 _ A26.out).mono ?_
                                rintro e w33 ⟨rfl,hb⟩
                                refine ⟨_,rfl,?_⟩
                                have n0_:=Aside0.mk (Kd.R_below (by (with_reducible repeat (first|apply Kd.R_alloc|apply Kd.R_drewN|apply Kd.R_drew));exact HO250.out) hb)
                                have n1_:=Aside0.mk (blk_below (g:=gb245) (o:=.cells #[.int .i64 a0_0,.int .i64 a0_1,.slice A0_2 l0_2.length c0_2,.string a0_3] 69 (0,0)) (by (with_reducible repeat (first|refine blk_drewN ?_ _|refine blk_drew ?_|refine blk_alloc ?_ _));exact BK245.out) hb)
                                have n2_:=Aside0.mk (below_step (by repeat (first|(with_reducible first|exact HB.out|apply below_alloc|apply pw_below_drewN|apply below_drew1|refine below_set ?_ GE245.out)|exact HB.out)) hb)
                                clear HO250
                                clear BK245
                                clear HB
                                have HO250:=n0_
                                have BK245:=n1_
                                have HB:=n2_
                                clear n0_ n1_ n2_
                                (try clear hb)
                                (try clear hb2)
                                (try clear hk)
                                (try clear hi)
                                refine hK.out _ _ ⟨(blk_cell BK245.out 0).trans rfl,(blk_cell BK245.out 1).trans rfl,(blk_cell BK245.out 2).trans rfl,(blk_cell BK245.out 3).trans rfl⟩ (fun hHeld => ?_)
                                clear hK K
                                refine norm_ (a':=?_) ?_ ?_
                                rotate_left
                                · show Act.put _ (some 68) _ = _
                                  simp only [Act.put,List.setIfInBounds_toArray,List.set_cons_zero,List.set_cons_succ,i64_w,i32_w]
                                  rfl
                                exact norm_ (by simp only [putAll,Act.put,List.setIfInBounds_toArray,List.set_cons_zero,List.set_cons_succ]) (hCont (v249) _ ⟨hHeld,(by (with_reducible repeat (first|apply Kd.R_alloc|apply Kd.R_drewN|apply Kd.R_drew));exact HO250.out),(by (with_reducible repeat (first|refine blk_drewN ?_ _|refine blk_drew ?_|refine blk_alloc ?_ _));exact BK245.out),(by repeat (first|(with_reducible first|exact HB.out|apply below_alloc|apply pw_below_drewN|apply below_drew1|refine below_set ?_ GE245.out)|exact HB.out))⟩)
                              · skip
                                refine goes_ Try.func84 (by kernel_rfl) rfl #[.int .i64 (wrap64 ((t246.size : Int) + 4))] (by rfl) rfl rfl (by (try simp only [List.map_toArray,List.map_cons,List.map_nil]);first|done|rfl|(simp only [List.length_drop,List.length_take];rfl)) ?_
                                with_reducible refine (withyref1_two.calls (wrap64 ((t246.size : Int) + 4)) t251 _ A26.out).mono ?_
                                rintro e w32 ⟨rfl,hb⟩
                                refine ⟨_,rfl,?_⟩
                                have n0_:=Aside0.mk (Kd.R_below (by (with_reducible repeat (first|apply Kd.R_alloc|apply Kd.R_drewN|apply Kd.R_drew));exact HO250.out) hb)
                                have n1_:=Aside0.mk (blk_below (g:=gb245) (o:=.cells #[.int .i64 a0_0,.int .i64 a0_1,.slice A0_2 l0_2.length c0_2,.string a0_3] 69 (0,0)) (by (with_reducible repeat (first|refine blk_drewN ?_ _|refine blk_drew ?_|refine blk_alloc ?_ _));exact BK245.out) hb)
                                have n2_:=Aside0.mk (below_step (by repeat (first|(with_reducible first|exact HB.out|apply below_alloc|apply pw_below_drewN|apply below_drew1|refine below_set ?_ GE245.out)|exact HB.out)) hb)
                                clear HO250
                                clear BK245
                                clear HB
                                have HO250:=n0_
                                have BK245:=n1_
                                have HB:=n2_
                                clear n0_ n1_ n2_
                                (try clear hb)
                                (try clear hb2)
                                (try clear hk)
                                (try clear hi)
                                refine hK.out _ _ ⟨(blk_cell BK245.out 0).trans rfl,(blk_cell BK245.out 1).trans rfl,(blk_cell BK245.out 2).trans rfl,(blk_cell BK245.out 3).trans rfl⟩ (fun hHeld => ?_)
                                clear hK K
                                refine norm_ (a':=?_) ?_ ?_
                                rotate_left
                                · show Act.put _ (some 68) _ = _
                                  simp only [Act.put,List.setIfInBounds_toArray,List.set_cons_zero,List.set_cons_succ,i64_w,i32_w]
                                  rfl
                                refine one_ (i:=7) (N:=some 64) #[true,true,true,true,true,true,true,true,true,true,true,true,false,true,false,false,false] rfl rfl (one_of HT_.out (by kernel_rfl)) (by decide) (fun K hK => ?_)
                                have hcv33:=own_string (P:=Try.prog) Try.underlying61 Try.underlying5 Try.underlying9 (Kd.own_of_R HO250.out)
                                refine value_ (w1:=?_) (v:=?_) (by rfl) rfl ?_ ?_
                                rotate_left 2
                                · go_simp
                                  constructor
                                  · rfl
                                  · rfl
                                clear hcv33
                                refine hK.out _ _ ⟨(blk_cell BK245.out 0).trans rfl,(blk_cell BK245.out 1).trans rfl,(blk_cell BK245.out 2).trans rfl,(blk_cell BK245.out 3).trans rfl⟩ (fun hHeld => ?_)
                                clear hK K
                                refine norm_ (a':=?_) ?_ ?_
                                rotate_left
                                · show Act.put _ (some 64) _ = _
                                  simp only [Act.put,List.setIfInBounds_toArray,List.set_cons_zero,List.set_cons_succ,i64_w,i32_w]
                                  rfl
                                exact norm_ (by simp only [putAll,Act.put,List.setIfInBounds_toArray,List.set_cons_zero,List.set_cons_succ]) (hCont (v249) _ ⟨hHeld,(by (with_reducible repeat (first|apply Kd.R_alloc|apply Kd.R_drewN|apply Kd.R_drew));exact HO250.out),(by (with_reducible repeat (first|refine blk_drewN ?_ _|refine blk_drew ?_|refine blk_alloc ?_ _));exact BK245.out),(by repeat (first|(with_reducible first|exact HB.out|apply below_alloc|apply pw_below_drewN|apply below_drew1|refine below_set ?_ GE245.out)|exact HB.out))⟩)
                            · skip
                              refine goes_ Try.func84 (by kernel_rfl) rfl #[.int .i64 (wrap64 ((t246.size : Int) + 4))] (by rfl) rfl rfl (by (try simp only [List.map_toArray,List.map_cons,List.map_nil]);first|done|rfl|(simp only [List.length_drop,List.length_take];rfl)) ?_
                              with_reducible refine (withyref1_two.calls (wrap64 ((t246.size : Int) + 4)) t251 _ A26.out).mono ?_
                              rintro e w30 ⟨rfl,hb⟩
                              refine ⟨_,rfl,?_⟩
                              have n0_:=Aside0.mk (blk_below (g:=gb245) (o:=.cells #[.int .i64 a0_0,.int .i64 a0_1,.slice A0_2 l0_2.length c0_2,.string a0_3] 69 (0,0)) (by (with_reducible repeat (first|refine blk_drewN ?_ _|refine blk_drew ?_|refine blk_alloc ?_ _));exact BK245.out) hb)
                              have n1_:=Aside0.mk (below_step (by repeat (first|(with_reducible first|exact HB.out|apply below_alloc|apply pw_below_drewN|apply below_drew1|refine below_set ?_ GE245.out)|exact HB.out)) hb)
                              clear BK245
                              clear HB
                              have BK245:=n0_
                              have HB:=n1_
                              clear n0_ n1_
                              (try clear hb)
                              (try clear hb2)
                              (try clear hk)
                              (try clear hi)
                              refine hK.out _ _ ⟨(blk_cell BK245.out 0).trans rfl,(blk_cell BK245.out 1).trans rfl,(blk_cell BK245.out 2).trans rfl,(blk_cell BK245.out 3).trans rfl⟩ (fun hHeld => ?_)
                              clear hK K
                              refine norm_ (a':=?_) ?_ ?_
                              rotate_left
                              · show Act.put _ (some 68) _ = _
                                simp only [Act.put,List.setIfInBounds_toArray,List.set_cons_zero,List.set_cons_succ,i64_w,i32_w]
                                rfl
                              refine one_ (i:=6) (N:=some 63) #[true,true,true,true,true,true,true,false,true,true,true,true,false,true,false,false,false] rfl rfl (one_of HT_.out (by kernel_rfl)) (by decide) (fun K hK => ?_)
                              refine Kd.R_lit_step (Kd.int .u8) _ 5 ?hg (N:=63) ?hd (xs:=([(a0_0) % 256,(a0_1) % 256] : List Int)) (inner:=[.int .u8 ((a0_0) % 256),.int .u8 ((a0_1) % 256)]) (ok:=fun _ => True) (okp:=fun _ => True) ?hr ?hp (fun _ hk => hk) trivial (Below.refl _ _) (Nat.le_refl _) (by simp) ?_;(case hd => rfl);(case hg => rfl);(case hr => first|(go_simp;done)|(go_simp;rfl));(case hp => exact (Reps.one (show Kd.M (Kd.int .u8) _ _ _ ((a0_0) % 256) [.int .u8 ((a0_0) % 256)] from rfl) (Reps.one (show Kd.M (Kd.int .u8) _ _ _ ((a0_1) % 256) [.int .u8 ((a0_1) % 256)] from rfl) (Reps.none _ _))))
                              intro v249 w31 ho32 hb hg_ hnew_
                              clear hg_ hnew_
                              (first|rw [← Ny248.out] at ho32|(simp only [Int.reduceToNat] at ho32;rw [← Ny248.out] at ho32))
                              have n0_:=Aside0.mk (Kd.R_lower ho32 (below_size (by repeat (first|(with_reducible first|exact HB.out|apply below_alloc|apply pw_below_drewN|apply below_drew1|refine below_set ?_ GE245.out)|exact HB.out))))
                              have n1_:=Aside0.mk (blk_below (g:=gb245) (o:=.cells #[.int .i64 a0_0,.int .i64 a0_1,.slice A0_2 l0_2.length c0_2,.string a0_3] 69 (0,0)) (by (with_reducible repeat (first|refine blk_drewN ?_ _|refine blk_drew ?_|refine blk_alloc ?_ _));exact BK245.out) hb)
                              have n2_:=Aside0.mk (below_step (by repeat (first|(with_reducible first|exact HB.out|apply below_alloc|apply pw_below_drewN|apply below_drew1|refine below_set ?_ GE245.out)|exact HB.out)) hb)
                              clear BK245
                              clear HB
                              have HO250:=n0_
                              have BK245:=n1_
                              have HB:=n2_
                              clear n0_ n1_ n2_
                              clear hb ho32
                              refine hK.out _ _ ⟨(blk_cell BK245.out 0).trans rfl,(blk_cell BK245.out 1).trans rfl,(blk_cell BK245.out 2).trans rfl,(blk_cell BK245.out 3).trans rfl⟩ (fun hHeld => ?_)
                              clear hK K
                              refine norm_ (a':=?_) ?_ ?_
                              rotate_left
                              · show Act.put _ (some 63) _ = _
                                simp only [Act.put,List.setIfInBounds_toArray,List.set_cons_zero,List.set_cons_succ,i64_w,i32_w]
                                rfl
                              refine one_ (i:=7) (N:=some 64) #[true,true,true,true,true,true,true,true,true,true,true,true,false,true,false,false,false] rfl rfl (one_of HT_.out (by kernel_rfl)) (by decide) (fun K hK => ?_)
                              have hcv33:=own_string (P:=Try.prog) Try.underlying61 Try.underlying5 Try.underlying9 (Kd.own_of_R HO250.out)
                              refine value_ (w1:=?_) (v:=?_) (by rfl) rfl ?_ ?_
                              rotate_left 2
                              · go_simp
                                constructor
                                · rfl
                                · rfl
                              clear hcv33
                              refine hK.out _ _ ⟨(blk_cell BK245.out 0).trans rfl,(blk_cell BK245.out 1).trans rfl,(blk_cell BK245.out 2).trans rfl,(blk_cell BK245.out 3).trans rfl⟩ (fun hHeld => ?_)
                              clear hK K
                              refine norm_ (a':=?_) ?_ ?_
                              rotate_left
                              · show Act.put _ (some 64) _ = _
                                simp only [Act.put,List.setIfInBounds_toArray,List.set_cons_zero,List.set_cons_succ,i64_w,i32_w]
                                rfl
                              exact norm_ (by simp only [putAll,Act.put,List.setIfInBounds_toArray,List.set_cons_zero,List.set_cons_succ]) (hCont (v249) _ ⟨hHeld,(by (with_reducible repeat (first|apply Kd.R_alloc|apply Kd.R_drewN|apply Kd.R_drew));exact HO250.out),(by (with_reducible repeat (first|refine blk_drewN ?_ _|refine blk_drew ?_|refine blk_alloc ?_ _));exact BK245.out),(by repeat (first|(with_reducible first|exact HB.out|apply below_alloc|apply pw_below_drewN|apply below_drew1|refine below_set ?_ GE245.out)|exact HB.out))⟩)
                          rintro v249 w34 ⟨hS_,h0_,h1_,h2_⟩
                          have n0_ : Aside0 (Kd.R (Kd.int .u8) 5 w34 w.heap.size (fun _ => True) v249 y248):=⟨h0_⟩
                          have n1_ : Aside0 (w34.heap[gb245]? = some (.cells #[.int .i64 a0_0,.int .i64 a0_1,.slice A0_2 l0_2.length c0_2,.string a0_3] 69 (0,0))):=⟨h1_⟩
                          have n2_ : Aside0 (Below w.heap.size w w34):=⟨h2_⟩
                          clear BK245
                          clear HB
                          clear h0_ h1_ h2_
                          have HO250:=n0_
                          have BK245:=n1_
                          have HB:=n2_
                          clear n0_ n1_ n2_
                          have hHeld : w34.cell? ⟨gb245,0,none⟩ = some (.int .i64 a0_0) ∧ w34.cell? ⟨gb245,1,none⟩ = some (.int .i64 a0_1) ∧ w34.cell? ⟨gb245,2,none⟩ = some (.slice A0_2 l0_2.length c0_2) ∧ w34.cell? ⟨gb245,3,none⟩ = some (.string a0_3):=hS_
                          refine norm_ (a':=?_) ?_ ?_
                          rotate_left
                          · simp only [putAll,Act.put,List.setIfInBounds_toArray,List.set_cons_zero,List.set_cons_succ]
                            rfl
                          refine pure_ (i:=12) (N:=some 69) (v:=?_) (a':=?_) #[true,true,true,true,true,true,true,true,true,true,true,true,true,true,false,false,false] rfl rfl (any_of HT_.out (by kernel_rfl)) (fun _ _ _ h => h) (Or.inl ⟨by rfl,?_⟩) ?_ ?_
                          rotate_left
                          · intro w'
                            go_simp
                            with_reducible rfl
                          rotate_left
                          · simp only [Act.put,List.setIfInBounds_toArray,List.set_cons_zero,List.set_cons_succ,i64_w,i32_w]
                            rfl
                          refine pure_ (i:=14) (N:=some 71) (v:=?_) (a':=?_) #[true,true,true,true,true,true,true,true,true,true,true,true,true,true,true,false,false] rfl rfl (any_of HT_.out (by kernel_rfl)) (fun _ _ _ h => h) (Or.inl ⟨by rfl,?_⟩) ?_ ?_
                          rotate_left
                          · intro w'
                            go_simp
                            with_reducible rfl
                          rotate_left
                          · simp only [Act.put,List.setIfInBounds_toArray,List.set_cons_zero,List.set_cons_succ,i64_w,i32_w]
                            rfl
                          refine pure_ (i:=15) (N:=some 2) (v:=?_) (a':=?_) #[true,true,true,true,true,true,true,true,true,true,true,true,true,true,true,true,false] rfl rfl (any_of HT_.out (by kernel_rfl)) (fun _ _ _ h => h) (Or.inl ⟨by rfl,?_⟩) ?_ ?_
                          rotate_left
                          · intro w'
                            go_simp
                            with_reducible rfl
                          rotate_left
                          · simp only [Act.put,List.setIfInBounds_toArray,List.set_cons_zero,List.set_cons_succ,i64_w,i32_w]
                            rfl
                          refine pure_ (i:=16) (N:=some 3) (v:=?_) (a':=?_) #[true,true,true,true,true,true,true,true,true,true,true,true,true,true,true,true,true] rfl rfl (any_of HT_.out (by kernel_rfl)) (fun _ _ _ h => h) (Or.inl ⟨by rfl,?_⟩) ?_ ?_
                          rotate_left
                          · intro w'
                            go_simp
                            with_reducible rfl
                          rotate_left
                          · simp only [Act.put,List.setIfInBounds_toArray,List.set_cons_zero,List.set_cons_succ,i64_w,i32_w]
                            rfl
                          refine done_ (done_of HT_.out (by kernel_rfl)) ?_
                          try go_wp2
                          go_ret2
                          exact ⟨by first|rfl|(simp [errW_none,errW_some] <;> rfl)|(simp [*,errW_none,errW_some] <;> rfl),by repeat (first|(with_reducible first|exact HB.out|apply below_alloc|apply pw_below_drewN|apply below_drew1|refine below_set ?_ GE245.out)|exact HB.out)⟩
                        · rw [if_neg c28] at H
                          exact absurd H (by simp)
                      · rw [if_neg c27] at H
                        exact absurd H (by simp)
            · replace c17:=Bool.eq_false_iff.mpr c17
              subst c17
              have H1 : (if (l0_2.length : Int) > 0 then (some ((⟨#[]⟩ : ByteArray),502)) else (if (wrap64 ((a0_3.size : Int) + 4)) > 2048 then (some ((⟨#[]⟩ : ByteArray),503)) else ((some (([(a0_0) % 256,(a0_1) % 256] : List Int) : List Int)).bind fun y252 => ((withyref1_two.f (wrap64 ((a0_3.size : Int) + 4))).bind fun t255 => (if (strOfNums y252).size + t255.size ≤ 9223372036854775807 then (if ((strOfNums y252) ++ t255).size + a0_3.size ≤ 9223372036854775807 then (some (((strOfNums y252) ++ t255) ++ a0_3,0)) else (none)) else (none)))))) = some (r1,r2):=by rw [if_neg (show ¬ (false = true) by decide)] at H;exact H
              clear H
              have H:=H1
              clear H1
              by_cases c35 : (l0_2.length : Int) > 0
              · rw [if_pos c35] at H
                have c35b0 : decide (0 < (l0_2.length : Int)) = true:=decide_eq_true c35
                have c35b1 : decide (0 < l0_2.length) = true:=decide_eq_true (by omega)
                clear c35
                simp only [Option.some.injEq,Prod.mk.injEq] at H
                obtain ⟨rfl,rfl⟩:=H
                have hcz36_0 : wc.cell? ⟨gb245,0,none⟩ = some (.int .i64 a0_0):=(blk_cell BK245.out 0).trans rfl
                have hcz36_1 : wc.cell? ⟨gb245,1,none⟩ = some (.int .i64 a0_1):=(blk_cell BK245.out 1).trans rfl
                have hcz36_2 : wc.cell? ⟨gb245,2,none⟩ = some (.slice A0_2 l0_2.length c0_2):=(blk_cell BK245.out 2).trans rfl
                have hcz36_3 : wc.cell? ⟨gb245,3,none⟩ = some (.string a0_3):=(blk_cell BK245.out 3).trans rfl
                have hfz36_0:=blk_frozen BK245.out 0
                have hfz36_1:=blk_frozen BK245.out 1
                have hfz36_2:=blk_frozen BK245.out 2
                have hfz36_3:=blk_frozen BK245.out 3
                go_wp2
                go_ret2
                exact ⟨by first|rfl|(simp [errW_none,errW_some] <;> rfl)|(simp [*,errW_none,errW_some] <;> rfl),by repeat (first|(with_reducible first|exact HB.out|apply below_alloc|apply pw_below_drewN|apply below_drew1|refine below_set ?_ GE245.out)|exact HB.out)⟩
              · rw [if_neg c35] at H
                have c35b0 : decide (0 < (l0_2.length : Int)) = false:=decide_eq_false c35
                have c35b1 : decide (0 < l0_2.length) = false:=decide_eq_false (by omega)
                clear c35
                by_cases c37 : (wrap64 ((a0_3.size : Int) + 4)) > 2048
                · rw [if_pos c37] at H
                  have c37b0 : decide (2048 < (wrap64 ((a0_3.size : Int) + 4))) = true:=decide_eq_true c37
                  clear c37
                  simp only [Option.some.injEq,Prod.mk.injEq] at H
                  obtain ⟨rfl,rfl⟩:=H
                  have hcz38_0 : wc.cell? ⟨gb245,0,none⟩ = some (.int .i64 a0_0):=(blk_cell BK245.out 0).trans rfl
                  have hcz38_1 : wc.cell? ⟨gb245,1,none⟩ = some (.int .i64 a0_1):=(blk_cell BK245.out 1).trans rfl
                  have hcz38_2 : wc.cell? ⟨gb245,2,none⟩ = some (.slice A0_2 l0_2.length c0_2):=(blk_cell BK245.out 2).trans rfl
                  have hcz38_3 : wc.cell? ⟨gb245,3,none⟩ = some (.string a0_3):=(blk_cell BK245.out 3).trans rfl
                  have hfz38_0:=blk_frozen BK245.out 0
                  have hfz38_1:=blk_frozen BK245.out 1
                  have hfz38_2:=blk_frozen BK245.out 2
                  have hfz38_3:=blk_frozen BK245.out 3
                  go_wp2
                  go_ret2
                  exact ⟨by first|rfl|(simp [errW_none,errW_some] <;> rfl)|(simp [*,errW_none,errW_some] <;> rfl),by repeat (first|(with_reducible first|exact HB.out|apply below_alloc|apply pw_below_drewN|apply below_drew1|refine below_set ?_ GE245.out)|exact HB.out)⟩
                · rw [if_neg c37] at H
                  have c37b0 : decide (2048 < (wrap64 ((a0_3.size : Int) + 4))) = false:=decide_eq_false c37
                  clear c37
                  obtain ⟨y252,hy252⟩ : ∃ y_ : List Int,y_ = (([(a0_0) % 256,(a0_1) % 256] : List Int)):=⟨_,rfl⟩
                  replace H : ((withyref1_two.f (wrap64 ((a0_3.size : Int) + 4))).bind fun t255 => (if (strOfNums y252).size + t255.size ≤ 9223372036854775807 then (if ((strOfNums y252) ++ t255).size + a0_3.size ≤ 9223372036854775807 then (some (((strOfNums y252) ++ t255) ++ a0_3,0)) else (none)) else (none))) = some (r1,r2):=by first|(rw [hy252];with_reducible exact H)|(have H2_:=(Option.bind_some _ _).symm.trans H;rw [hy252];with_reducible exact H2_)|(have H2_:=(Option.bind_some _ _).symm.trans H;with_reducible exact H2_)|with_reducible exact H|(rw [hy252];exact H)|exact H
                  have Ny252:=Aside0.mk hy252
                  clear hy252
                  replace H:=Option.bind_eq_some_iff.mp H
                  obtain ⟨t255,A390,H⟩:=H
                  replace H : (if (strOfNums y252).size + t255.size ≤ 9223372036854775807 then (if ((strOfNums y252) ++ t255).size + a0_3.size ≤ 9223372036854775807 then (some (((strOfNums y252) ++ t255) ++ a0_3,0)) else (none)) else (none)) = some (r1,r2):=H
                  have A39:=Aside0.mk A390
                  clear A390
                  by_cases c40 : (strOfNums y252).size + t255.size ≤ 9223372036854775807
                  · rw [if_pos c40] at H
                    have c40b0:=eq_true c40
                    have c40b1 : decide ((strOfNums y252).size + t255.size ≤ 9223372036854775807) = true:=decide_eq_true c40
                    try have c40b2 : (9223372036854775807 < (strOfNums y252).size + t255.size) = False:=eq_false (Nat.not_lt.2 c40)
                    by_cases c41 : ((strOfNums y252) ++ t255).size + a0_3.size ≤ 9223372036854775807
                    · rw [if_pos c41] at H
                      have c41b0:=eq_true c41
                      have c41b1 : decide (((strOfNums y252) ++ t255).size + a0_3.size ≤ 9223372036854775807) = true:=decide_eq_true c41
                      try have c41b2 : (9223372036854775807 < ((strOfNums y252) ++ t255).size + a0_3.size) = False:=eq_false (Nat.not_lt.2 c41)
                      have c41b3 : (9223372036854775807 < (strOfNums y252).size + t255.size + a0_3.size) = False:=eq_false (Nat.not_lt.2 (by have hh_:=c41;rw [ByteArray.size_append] at hh_;omega))
                      simp only [Option.some.injEq,Prod.mk.injEq] at H
                      obtain ⟨rfl,rfl⟩:=H
                      have hcz42_0 : wc.cell? ⟨gb245,0,none⟩ = some (.int .i64 a0_0):=(blk_cell BK245.out 0).trans rfl
                      have hcz42_1 : wc.cell? ⟨gb245,1,none⟩ = some (.int .i64 a0_1):=(blk_cell BK245.out 1).trans rfl
                      have hcz42_2 : wc.cell? ⟨gb245,2,none⟩ = some (.slice A0_2 l0_2.length c0_2):=(blk_cell BK245.out 2).trans rfl
                      have hcz42_3 : wc.cell? ⟨gb245,3,none⟩ = some (.string a0_3):=(blk_cell BK245.out 3).trans rfl
                      have hfz42_0:=blk_frozen BK245.out 0
                      have hfz42_1:=blk_frozen BK245.out 1
                      have hfz42_2:=blk_frozen BK245.out 2
                      have hfz42_3:=blk_frozen BK245.out 3
                      try go_wp2
                      have n0_:=Aside0.mk (blk_drew BK245.out)
                      have n1_:=Aside0.mk (below_drew1 HB.out)
                      clear BK245
                      clear HB
                      have BK245:=n0_
                      have HB:=n1_
                      clear n0_ n1_
                      refine start_ (n:=17) (S:=fun w' => w'.cell? ⟨gb245,0,none⟩ = some (.int .i64 a0_0) ∧ w'.cell? ⟨gb245,1,none⟩ = some (.int .i64 a0_1) ∧ w'.cell? ⟨gb245,2,none⟩ = some (.slice A0_2 l0_2.length c0_2) ∧ w'.cell? ⟨gb245,3,none⟩ = some (.string a0_3)) (ds:=[]) #[false,false,false,false,false,false,false,false,false,false,false,false,false,false,false,false,false] (by kernel_rfl) rfl rfl ⟨(blk_cell BK245.out 0).trans rfl,(blk_cell BK245.out 1).trans rfl,(blk_cell BK245.out 2).trans rfl,(blk_cell BK245.out 3).trans rfl⟩ (fun hHeld => ?_);refine with_tabW withyref1_Control.tab13 withyref1_Control.bits13 (fun HT_ HW_ => ?_)
                      generalize wc.drew = w43 at BK245 HB hHeld ⊢
                      refine pure_ (i:=0) (N:=some 57) (v:=?_) (a':=?_) #[true,false,false,false,false,false,false,false,false,false,false,false,false,false,false,false,false] rfl rfl (any_of HT_.out (by kernel_rfl)) (fun _ _ _ h => h) (Or.inl ⟨by rfl,?_⟩) ?_ ?_
                      rotate_left
                      · intro w'
                        go_simp
                        with_reducible rfl
                      rotate_left
                      · simp only [Act.put,List.setIfInBounds_toArray,List.set_cons_zero,List.set_cons_succ,i64_w,i32_w]
                        rfl
                      refine pure_ (i:=3) (N:=some 60) (v:=?_) (a':=?_) #[true,false,false,true,false,false,false,false,false,false,false,false,false,false,false,false,false] rfl rfl (any_of HT_.out (by kernel_rfl)) (fun _ _ _ h => h) (Or.inl ⟨by rfl,?_⟩) ?_ ?_
                      rotate_left
                      · intro w'
                        go_simp
                        with_reducible rfl
                      rotate_left
                      · simp only [Act.put,List.setIfInBounds_toArray,List.set_cons_zero,List.set_cons_succ,i64_w,i32_w]
                        rfl
                      refine pure_ (i:=8) (N:=some 65) (v:=?_) (a':=?_) #[true,false,false,true,false,false,false,false,true,false,false,false,false,false,false,false,false] rfl rfl (any_of HT_.out (by kernel_rfl)) (fun _ _ _ h => h) (Or.inl ⟨by rfl,?_⟩) ?_ ?_
                      rotate_left
                      · intro w'
                        go_simp
                        with_reducible rfl
                      rotate_left
                      · simp only [Act.put,List.setIfInBounds_toArray,List.set_cons_zero,List.set_cons_succ,i64_w,i32_w]
                        rfl
                      refine pure_ (i:=9) (N:=some 66) (v:=?_) (a':=?_) #[true,false,false,true,false,false,false,false,true,true,false,false,false,false,false,false,false] rfl rfl (any_of HT_.out (by kernel_rfl)) (fun _ _ _ h => h) (Or.inl ⟨by rfl,?_⟩) ?_ ?_
                      rotate_left
                      · intro w'
                        go_simp
                        with_reducible rfl
                      rotate_left
                      · simp only [Act.put,List.setIfInBounds_toArray,List.set_cons_zero,List.set_cons_succ,i64_w,i32_w]
                        rfl
                      refine pure_ (i:=10) (N:=some 67) (v:=?_) (a':=?_) #[true,false,false,true,false,false,false,false,true,true,true,false,false,false,false,false,false] rfl rfl (any_of HT_.out (by kernel_rfl)) (fun _ _ _ h => h) (Or.inl ⟨by rfl,?_⟩) ?_ ?_
                      rotate_left
                      · intro w'
                        go_simp
                        with_reducible rfl
                      rotate_left
                      · simp only [Act.put,List.setIfInBounds_toArray,List.set_cons_zero,List.set_cons_succ,i64_w,i32_w]
                        rfl
                      refine pure_ (i:=13) (N:=some 70) (v:=?_) (a':=?_) #[true,false,false,true,false,false,false,false,true,true,true,false,false,true,false,false,false] rfl rfl (any_of HT_.out (by kernel_rfl)) (fun _ _ _ h => h) (Or.inl ⟨by rfl,?_⟩) ?_ ?_
                      rotate_left
                      · intro w'
                        go_simp
                        with_reducible rfl
                      rotate_left
                      · simp only [Act.put,List.setIfInBounds_toArray,List.set_cons_zero,List.set_cons_succ,i64_w,i32_w]
                        rfl
                      refine take_ (i:=1) (N:=some 58) (v:=?_) (a':=?_) #[true,true,false,true,false,false,false,false,true,true,true,false,false,true,false,false,false] rfl rfl (take_ofW HT_.out HW_.out (by kernel_rfl)) (fun _ _ _ h => h) (Or.inl ⟨by rfl,?_⟩) hHeld ?_ ?_
                      rotate_left
                      · rintro w' ⟨s0,s1,s2,s3⟩
                        go_simp
                        with_reducible rfl
                      rotate_left
                      · simp only [Act.put,List.setIfInBounds_toArray,List.set_cons_zero,List.set_cons_succ,i64_w,i32_w]
                        rfl
                      refine pure_ (i:=2) (N:=some 59) (v:=?_) (a':=?_) #[true,true,true,true,false,false,false,false,true,true,true,false,false,true,false,false,false] rfl rfl (any_of HT_.out (by kernel_rfl)) (fun _ _ _ h => h) (Or.inl ⟨by rfl,?_⟩) ?_ ?_
                      rotate_left
                      · intro w'
                        go_simp
                        with_reducible rfl
                      rotate_left
                      · simp only [Act.put,List.setIfInBounds_toArray,List.set_cons_zero,List.set_cons_succ,i64_w,i32_w]
                        rfl
                      refine take_ (i:=4) (N:=some 61) (v:=?_) (a':=?_) #[true,true,true,true,true,false,false,false,true,true,true,false,false,true,false,false,false] rfl rfl (take_ofW HT_.out HW_.out (by kernel_rfl)) (fun _ _ _ h => h) (Or.inl ⟨by rfl,?_⟩) hHeld ?_ ?_
                      rotate_left
                      · rintro w' ⟨s0,s1,s2,s3⟩
                        go_simp
                        with_reducible rfl
                      rotate_left
                      · simp only [Act.put,List.setIfInBounds_toArray,List.set_cons_zero,List.set_cons_succ,i64_w,i32_w]
                        rfl
                      refine pure_ (i:=5) (N:=some 62) (v:=?_) (a':=?_) #[true,true,true,true,true,true,false,false,true,true,true,false,false,true,false,false,false] rfl rfl (any_of HT_.out (by kernel_rfl)) (fun _ _ _ h => h) (Or.inl ⟨by rfl,?_⟩) ?_ ?_
                      rotate_left
                      · intro w'
                        go_simp
                        with_reducible rfl
                      rotate_left
                      · simp only [Act.put,List.setIfInBounds_toArray,List.set_cons_zero,List.set_cons_succ,i64_w,i32_w]
                        rfl
                      refine join_ (σ:=Value) 4 #[true,true,true,true,true,true,true,true,true,true,true,true,false,true,false,false,false] (fun s_ => [(63,s_),(64,.string (strOfNums y252)),(68,.string t255)]) (fun s_ w' => (w'.cell? ⟨gb245,0,none⟩ = some (.int .i64 a0_0) ∧ w'.cell? ⟨gb245,1,none⟩ = some (.int .i64 a0_1) ∧ w'.cell? ⟨gb245,2,none⟩ = some (.slice A0_2 l0_2.length c0_2) ∧ w'.cell? ⟨gb245,3,none⟩ = some (.string a0_3)) ∧ (Kd.R (Kd.int .u8) 5 w' w.heap.size (fun _ => True) s_ y252) ∧ (w'.heap[gb245]? = some (.cells #[.int .i64 a0_0,.int .i64 a0_1,.slice A0_2 l0_2.length c0_2,.string a0_3] 69 (0,0))) ∧ (Below w.heap.size w w')) ?_ ?_
                      rotate_left
                      · intro hCont
                        refine two_ (i:=6) (j:=11) (Ni:=some 63) (Nj:=some 68) #[true,true,true,true,true,true,true,false,true,true,true,false,false,true,false,false,false] #[true,true,true,true,true,true,false,false,true,true,true,true,false,true,false,false,false] rfl rfl rfl rfl (two_of HT_.out (by kernel_rfl)) (by decide) (by decide) (fun K hK => ?_) (fun K hK => ?_)
                        · skip
                          refine Kd.R_lit_step (Kd.int .u8) _ 5 ?hg (N:=63) ?hd (xs:=([(a0_0) % 256,(a0_1) % 256] : List Int)) (inner:=[.int .u8 ((a0_0) % 256),.int .u8 ((a0_1) % 256)]) (ok:=fun _ => True) (okp:=fun _ => True) ?hr ?hp (fun _ hk => hk) trivial (Below.refl _ _) (Nat.le_refl _) (by simp) ?_;(case hd => rfl);(case hg => rfl);(case hr => first|(go_simp;done)|(go_simp;rfl));(case hp => exact (Reps.one (show Kd.M (Kd.int .u8) _ _ _ ((a0_0) % 256) [.int .u8 ((a0_0) % 256)] from rfl) (Reps.one (show Kd.M (Kd.int .u8) _ _ _ ((a0_1) % 256) [.int .u8 ((a0_1) % 256)] from rfl) (Reps.none _ _))))
                          intro v253 w44 ho45 hb hg_ hnew_
                          clear hg_ hnew_
                          (first|rw [← Ny252.out] at ho45|(simp only [Int.reduceToNat] at ho45;rw [← Ny252.out] at ho45))
                          have n0_:=Aside0.mk (Kd.R_lower ho45 (below_size (by repeat (first|(with_reducible first|exact HB.out|apply below_alloc|apply pw_below_drewN|apply below_drew1|refine below_set ?_ GE245.out)|exact HB.out))))
                          have n1_:=Aside0.mk (blk_below (g:=gb245) (o:=.cells #[.int .i64 a0_0,.int .i64 a0_1,.slice A0_2 l0_2.length c0_2,.string a0_3] 69 (0,0)) (by (with_reducible repeat (first|refine blk_drewN ?_ _|refine blk_drew ?_|refine blk_alloc ?_ _));exact BK245.out) hb)
                          have n2_:=Aside0.mk (below_step (by repeat (first|(with_reducible first|exact HB.out|apply below_alloc|apply pw_below_drewN|apply below_drew1|refine below_set ?_ GE245.out)|exact HB.out)) hb)
                          clear BK245
                          clear HB
                          have HO254:=n0_
                          have BK245:=n1_
                          have HB:=n2_
                          clear n0_ n1_ n2_
                          clear hb ho45
                          refine hK.out _ _ ⟨(blk_cell BK245.out 0).trans rfl,(blk_cell BK245.out 1).trans rfl,(blk_cell BK245.out 2).trans rfl,(blk_cell BK245.out 3).trans rfl⟩ (fun hHeld => ?_)
                          clear hK K
                          refine norm_ (a':=?_) ?_ ?_
                          rotate_left
                          · show Act.put _ (some 63) _ = _
                            simp only [Act.put,List.setIfInBounds_toArray,List.set_cons_zero,List.set_cons_succ,i64_w,i32_w]
                            rfl
                          refine two_ (i:=7) (j:=11) (Ni:=some 64) (Nj:=some 68) #[true,true,true,true,true,true,true,true,true,true,true,false,false,true,false,false,false] #[true,true,true,true,true,true,true,false,true,true,true,true,false,true,false,false,false] rfl rfl rfl rfl (two_of HT_.out (by kernel_rfl)) (by decide) (by decide) (fun K hK => ?_) (fun K hK => ?_)
                          · skip
                            have hcv46:=own_string (P:=Try.prog) Try.underlying61 Try.underlying5 Try.underlying9 (Kd.own_of_R HO254.out)
                            refine value_ (w1:=?_) (v:=?_) (by rfl) rfl ?_ ?_
                            rotate_left 2
                            · go_simp
                              constructor
                              · rfl
                              · rfl
                            clear hcv46
                            refine hK.out _ _ ⟨(blk_cell BK245.out 0).trans rfl,(blk_cell BK245.out 1).trans rfl,(blk_cell BK245.out 2).trans rfl,(blk_cell BK245.out 3).trans rfl⟩ (fun hHeld => ?_)
                            clear hK K
                            refine norm_ (a':=?_) ?_ ?_
                            rotate_left
                            · show Act.put _ (some 64) _ = _
                              simp only [Act.put,List.setIfInBounds_toArray,List.set_cons_zero,List.set_cons_succ,i64_w,i32_w]
                              rfl
                            refine one_ (i:=11) (N:=some 68) #[true,true,true,true,true,true,true,true,true,true,true,true,false,true,false,false,false] rfl rfl (one_of HT_.out (by kernel_rfl)) (by decide) (fun K hK => ?_)
                            refine goes_ Try.func84 (by kernel_rfl) rfl #[.int .i64 (wrap64 ((a0_3.size : Int) + 4))] (by rfl) rfl rfl (by (try simp only [List.map_toArray,List.map_cons,List.map_nil]);first|done|rfl|(simp only [List.length_drop,List.length_take];rfl)) ?_
                            with_reducible refine (withyref1_two.calls (wrap64 ((a0_3.size : Int) + 4)) t255 _ A39.out).mono ?_
                            rintro e w47 ⟨rfl,hb⟩
                            refine ⟨_,rfl,?_⟩
                            have n0_:=Aside0.mk (Kd.R_below (by (with_reducible repeat (first|apply Kd.R_alloc|apply Kd.R_drewN|apply Kd.R_drew));exact HO254.out) hb)
                            have n1_:=Aside0.mk (blk_below (g:=gb245) (o:=.cells #[.int .i64 a0_0,.int .i64 a0_1,.slice A0_2 l0_2.length c0_2,.string a0_3] 69 (0,0)) (by (with_reducible repeat (first|refine blk_drewN ?_ _|refine blk_drew ?_|refine blk_alloc ?_ _));exact BK245.out) hb)
                            have n2_:=Aside0.mk (below_step (by repeat (first|(with_reducible first|exact HB.out|apply below_alloc|apply pw_below_drewN|apply below_drew1|refine below_set ?_ GE245.out)|exact HB.out)) hb)
                            clear HO254
                            clear BK245
                            clear HB
                            have HO254:=n0_
                            have BK245:=n1_
                            have HB:=n2_
                            clear n0_ n1_ n2_
                            (try clear hb)
                            (try clear hb2)
                            (try clear hk)
                            (try clear hi)
                            refine hK.out _ _ ⟨(blk_cell BK245.out 0).trans rfl,(blk_cell BK245.out 1).trans rfl,(blk_cell BK245.out 2).trans rfl,(blk_cell BK245.out 3).trans rfl⟩ (fun hHeld => ?_)
                            clear hK K
                            refine norm_ (a':=?_) ?_ ?_
                            rotate_left
                            · show Act.put _ (some 68) _ = _
                              simp only [Act.put,List.setIfInBounds_toArray,List.set_cons_zero,List.set_cons_succ,i64_w,i32_w]
                              rfl
                            exact norm_ (by simp only [putAll,Act.put,List.setIfInBounds_toArray,List.set_cons_zero,List.set_cons_succ]) (hCont (v253) _ ⟨hHeld,(by (with_reducible repeat (first|apply Kd.R_alloc|apply Kd.R_drewN|apply Kd.R_drew));exact HO254.out),(by (with_reducible repeat (first|refine blk_drewN ?_ _|refine blk_drew ?_|refine blk_alloc ?_ _));exact BK245.out),(by repeat (first|(with_reducible first|exact HB.out|apply below_alloc|apply pw_below_drewN|apply below_drew1|refine below_set ?_ GE245.out)|exact HB.out))⟩)
                          · skip
                            refine goes_ Try.func84 (by kernel_rfl) rfl #[.int .i64 (wrap64 ((a0_3.size : Int) + 4))] (by rfl) rfl rfl (by (try simp only [List.map_toArray,List.map_cons,List.map_nil]);first|done|rfl|(simp only [List.length_drop,List.length_take];rfl)) ?_
                            with_reducible refine (withyref1_two.calls (wrap64 ((a0_3.size : Int) + 4)) t255 _ A39.out).mono ?_
                            rintro e w46 ⟨rfl,hb⟩
                            refine ⟨_,rfl,?_⟩
                            have n0_:=Aside0.mk (Kd.R_below (by (with_reducible repeat (first|apply Kd.R_alloc|apply Kd.R_drewN|apply Kd.R_drew));exact HO254.out) hb)
                            have n1_:=Aside0.mk (blk_below (g:=gb245) (o:=.cells #[.int .i64 a0_0,.int .i64 a0_1,.slice A0_2 l0_2.length c0_2,.string a0_3] 69 (0,0)) (by (with_reducible repeat (first|refine blk_drewN ?_ _|refine blk_drew ?_|refine blk_alloc ?_ _));exact BK245.out) hb)
                            have n2_:=Aside0.mk (below_step (by repeat (first|(with_reducible first|exact HB.out|apply below_alloc|apply pw_below_drewN|apply below_drew1|refine below_set ?_ GE245.out)|exact HB.out)) hb)
                            clear HO254
                            clear BK245
                            clear HB
                            have HO254:=n0_
                            have BK245:=n1_
                            have HB:=n2_
                            clear n0_ n1_ n2_
                            (try clear hb)
                            (try clear hb2)
                            (try clear hk)
                            (try clear hi)
                            refine hK.out _ _ ⟨(blk_cell BK245.out 0).trans rfl,(blk_cell BK245.out 1).trans rfl,(blk_cell BK245.out 2).trans rfl,(blk_cell BK245.out 3).trans rfl⟩ (fun hHeld => ?_)
                            clear hK K
                            refine norm_ (a':=?_) ?_ ?_
                            rotate_left
                            · show Act.put _ (some 68) _ = _
                              simp only [Act.put,List.setIfInBounds_toArray,List.set_cons_zero,List.set_cons_succ,i64_w,i32_w]
                              rfl
                            refine one_ (i:=7) (N:=some 64) #[true,true,true,true,true,true,true,true,true,true,true,true,false,true,false,false,false] rfl rfl (one_of HT_.out (by kernel_rfl)) (by decide) (fun K hK => ?_)
                            have hcv47:=own_string (P:=Try.prog) Try.underlying61 Try.underlying5 Try.underlying9 (Kd.own_of_R HO254.out)
                            refine value_ (w1:=?_) (v:=?_) (by rfl) rfl ?_ ?_
                            rotate_left 2
                            · go_simp
                              constructor
                              · rfl
                              · rfl
                            clear hcv47
                            refine hK.out _ _ ⟨(blk_cell BK245.out 0).trans rfl,(blk_cell BK245.out 1).trans rfl,(blk_cell BK245.out 2).trans rfl,(blk_cell BK245.out 3).trans rfl⟩ (fun hHeld => ?_)
                            clear hK K
                            refine norm_ (a':=?_) ?_ ?_
                            rotate_left
                            · show Act.put _ (some 64) _ = _
                              simp only [Act.put,List.setIfInBounds_toArray,List.set_cons_zero,List.set_cons_succ,i64_w,i32_w]
                              rfl
                            exact norm_ (by simp only [putAll,Act.put,List.setIfInBounds_toArray,List.set_cons_zero,List.set_cons_succ]) (hCont (v253) _ ⟨hHeld,(by (with_reducible repeat (first|apply Kd.R_alloc|apply Kd.R_drewN|apply Kd.R_drew));exact HO254.out),(by (with_reducible repeat (first|refine blk_drewN ?_ _|refine blk_drew ?_|refine blk_alloc ?_ _));exact BK245.out),(by repeat (first|(with_reducible first|exact HB.out|apply below_alloc|apply pw_below_drewN|apply below_drew1|refine below_set ?_ GE245.out)|exact HB.out))⟩)
                        · skip
                          refine goes_ Try.func84 (by kernel_rfl) rfl #[.int .i64 (wrap64 ((a0_3.size : Int) + 4))] (by rfl) rfl rfl (by (try simp only [List.map_toArray,List.map_cons,List.map_nil]);first|done|rfl|(simp only [List.length_drop,List.length_take];rfl)) ?_
                          with_reducible refine (withyref1_two.calls (wrap64 ((a0_3.size : Int) + 4)) t255 _ A39.out).mono ?_
                          rintro e w44 ⟨rfl,hb⟩
                          refine ⟨_,rfl,?_⟩
                          have n0_:=Aside0.mk (blk_below (g:=gb245) (o:=.cells #[.int .i64 a0_0,.int .i64 a0_1,.slice A0_2 l0_2.length c0_2,.string a0_3] 69 (0,0)) (by (with_reducible repeat (first|refine blk_drewN ?_ _|refine blk_drew ?_|refine blk_alloc ?_ _));exact BK245.out) hb)
                          have n1_:=Aside0.mk (below_step (by repeat (first|(with_reducible first|exact HB.out|apply below_alloc|apply pw_below_drewN|apply below_drew1|refine below_set ?_ GE245.out)|exact HB.out)) hb)
                          clear BK245
                          clear HB
                          have BK245:=n0_
                          have HB:=n1_
                          clear n0_ n1_
                          (try clear hb)
                          (try clear hb2)
                          (try clear hk)
                          (try clear hi)
                          refine hK.out _ _ ⟨(blk_cell BK245.out 0).trans rfl,(blk_cell BK245.out 1).trans rfl,(blk_cell BK245.out 2).trans rfl,(blk_cell BK245.out 3).trans rfl⟩ (fun hHeld => ?_)
                          clear hK K
                          refine norm_ (a':=?_) ?_ ?_
                          rotate_left
                          · show Act.put _ (some 68) _ = _
                            simp only [Act.put,List.setIfInBounds_toArray,List.set_cons_zero,List.set_cons_succ,i64_w,i32_w]
                            rfl
                          refine one_ (i:=6) (N:=some 63) #[true,true,true,true,true,true,true,false,true,true,true,true,false,true,false,false,false] rfl rfl (one_of HT_.out (by kernel_rfl)) (by decide) (fun K hK => ?_)
                          refine Kd.R_lit_step (Kd.int .u8) _ 5 ?hg (N:=63) ?hd (xs:=([(a0_0) % 256,(a0_1) % 256] : List Int)) (inner:=[.int .u8 ((a0_0) % 256),.int .u8 ((a0_1) % 256)]) (ok:=fun _ => True) (okp:=fun _ => True) ?hr ?hp (fun _ hk => hk) trivial (Below.refl _ _) (Nat.le_refl _) (by simp) ?_;(case hd => rfl);(case hg => rfl);(case hr => first|(go_simp;done)|(go_simp;rfl));(case hp => exact (Reps.one (show Kd.M (Kd.int .u8) _ _ _ ((a0_0) % 256) [.int .u8 ((a0_0) % 256)] from rfl) (Reps.one (show Kd.M (Kd.int .u8) _ _ _ ((a0_1) % 256) [.int .u8 ((a0_1) % 256)] from rfl) (Reps.none _ _))))
                          intro v253 w45 ho46 hb hg_ hnew_
                          clear hg_ hnew_
                          (first|rw [← Ny252.out] at ho46|(simp only [Int.reduceToNat] at ho46;rw [← Ny252.out] at ho46))
                          have n0_:=Aside0.mk (Kd.R_lower ho46 (below_size (by repeat (first|(with_reducible first|exact HB.out|apply below_alloc|apply pw_below_drewN|apply below_drew1|refine below_set ?_ GE245.out)|exact HB.out))))
                          have n1_:=Aside0.mk (blk_below (g:=gb245) (o:=.cells #[.int .i64 a0_0,.int .i64 a0_1,.slice A0_2 l0_2.length c0_2,.string a0_3] 69 (0,0)) (by (with_reducible repeat (first|refine blk_drewN ?_ _|refine blk_drew ?_|refine blk_alloc ?_ _));exact BK245.out) hb)
                          have n2_:=Aside0.mk (below_step (by repeat (first|(with_reducible first|exact HB.out|apply below_alloc|apply pw_below_drewN|apply below_drew1|refine below_set ?_ GE245.out)|exact HB.out)) hb)
                          clear BK245
                          clear HB
                          have HO254:=n0_
                          have BK245:=n1_
                          have HB:=n2_
                          clear n0_ n1_ n2_
                          clear hb ho46
                          refine hK.out _ _ ⟨(blk_cell BK245.out 0).trans rfl,(blk_cell BK245.out 1).trans rfl,(blk_cell BK245.out 2).trans rfl,(blk_cell BK245.out 3).trans rfl⟩ (fun hHeld => ?_)
                          clear hK K
                          refine norm_ (a':=?_) ?_ ?_
                          rotate_left
                          · show Act.put _ (some 63) _ = _
                            simp only [Act.put,List.setIfInBounds_toArray,List.set_cons_zero,List.set_cons_succ,i64_w,i32_w]
                            rfl
                          refine one_ (i:=7) (N:=some 64) #[true,true,true,true,true,true,true,true,true,true,true,true,false,true,false,false,false] rfl rfl (one_of HT_.out (by kernel_rfl)) (by decide) (fun K hK => ?_)
                          have hcv47:=own_string (P:=Try.prog) Try.underlying61 Try.underlying5 Try.underlying9 (Kd.own_of_R HO254.out)
                          refine value_ (w1:=?_) (v:=?_) (by rfl) rfl ?_ ?_
                          rotate_left 2
                          · go_simp
                            constructor
                            · rfl
                            · rfl
                          clear hcv47
                          refine hK.out _ _ ⟨(blk_cell BK245.out 0).trans rfl,(blk_cell BK245.out 1).trans rfl,(blk_cell BK245.out 2).trans rfl,(blk_cell BK245.out 3).trans rfl⟩ (fun hHeld => ?_)
                          clear hK K
                          refine norm_ (a':=?_) ?_ ?_
                          rotate_left
                          · show Act.put _ (some 64) _ = _
                            simp only [Act.put,List.setIfInBounds_toArray,List.set_cons_zero,List.set_cons_succ,i64_w,i32_w]
                            rfl
                          exact norm_ (by simp only [putAll,Act.put,List.setIfInBounds_toArray,List.set_cons_zero,List.set_cons_succ]) (hCont (v253) _ ⟨hHeld,(by (with_reducible repeat (first|apply Kd.R_alloc|apply Kd.R_drewN|apply Kd.R_drew));exact HO254.out),(by (with_reducible repeat (first|refine blk_drewN ?_ _|refine blk_drew ?_|refine blk_alloc ?_ _));exact BK245.out),(by repeat (first|(with_reducible first|exact HB.out|apply below_alloc|apply pw_below_drewN|apply below_drew1|refine below_set ?_ GE245.out)|exact HB.out))⟩)
                      rintro v253 w48 ⟨hS_,h0_,h1_,h2_⟩
                      have n0_ : Aside0 (Kd.R (Kd.int .u8) 5 w48 w.heap.size (fun _ => True) v253 y252):=⟨h0_⟩
                      have n1_ : Aside0 (w48.heap[gb245]? = some (.cells #[.int .i64 a0_0,.int .i64 a0_1,.slice A0_2 l0_2.length c0_2,.string a0_3] 69 (0,0))):=⟨h1_⟩
                      have n2_ : Aside0 (Below w.heap.size w w48):=⟨h2_⟩
                      clear BK245
                      clear HB
                      clear h0_ h1_ h2_
                      have HO254:=n0_
                      have BK245:=n1_
                      have HB:=n2_
                      clear n0_ n1_ n2_
                      have hHeld : w48.cell? ⟨gb245,0,none⟩ = some (.int .i64 a0_0) ∧ w48.cell? ⟨gb245,1,none⟩ = some (.int .i64 a0_1) ∧ w48.cell? ⟨gb245,2,none⟩ = some (.slice A0_2 l0_2.length c0_2) ∧ w48.cell? ⟨gb245,3,none⟩ = some (.string a0_3):=hS_
                      refine norm_ (a':=?_) ?_ ?_
                      rotate_left
                      · simp only [putAll,Act.put,List.setIfInBounds_toArray,List.set_cons_zero,List.set_cons_succ]
                        rfl
                      refine pure_ (i:=12) (N:=some 69) (v:=?_) (a':=?_) #[true,true,true,true,true,true,true,true,true,true,true,true,true,true,false,false,false] rfl rfl (any_of HT_.out (by kernel_rfl)) (fun _ _ _ h => h) (Or.inl ⟨by rfl,?_⟩) ?_ ?_
                      rotate_left
                      · intro w'
                        go_simp
                        with_reducible rfl
                      rotate_left
                      · simp only [Act.put,List.setIfInBounds_toArray,List.set_cons_zero,List.set_cons_succ,i64_w,i32_w]
                        rfl
                      refine pure_ (i:=14) (N:=some 71) (v:=?_) (a':=?_) #[true,true,true,true,true,true,true,true,true,true,true,true,true,true,true,false,false] rfl rfl (any_of HT_.out (by kernel_rfl)) (fun _ _ _ h => h) (Or.inl ⟨by rfl,?_⟩) ?_ ?_
                      rotate_left
                      · intro w'
                        go_simp
                        with_reducible rfl
                      rotate_left
                      · simp only [Act.put,List.setIfInBounds_toArray,List.set_cons_zero,List.set_cons_succ,i64_w,i32_w]
                        rfl
                      refine pure_ (i:=15) (N:=some 2) (v:=?_) (a':=?_) #[true,true,true,true,true,true,true,true,true,true,true,true,true,true,true,true,false] rfl rfl (any_of HT_.out (by kernel_rfl)) (fun _ _ _ h => h) (Or.inl ⟨by rfl,?_⟩) ?_ ?_
                      rotate_left
                      · intro w'
                        go_simp
                        with_reducible rfl
                      rotate_left
                      · simp only [Act.put,List.setIfInBounds_toArray,List.set_cons_zero,List.set_cons_succ,i64_w,i32_w]
                        rfl
                      refine pure_ (i:=16) (N:=some 3) (v:=?_) (a':=?_) #[true,true,true,true,true,true,true,true,true,true,true,true,true,true,true,true,true] rfl rfl (any_of HT_.out (by kernel_rfl)) (fun _ _ _ h => h) (Or.inl ⟨by rfl,?_⟩) ?_ ?_
                      rotate_left
                      · intro w'
                        go_simp
                        with_reducible rfl
                      rotate_left
                      · simp only [Act.put,List.setIfInBounds_toArray,List.set_cons_zero,List.set_cons_succ,i64_w,i32_w]
                        rfl
                      refine done_ (done_of HT_.out (by kernel_rfl)) ?_
                      try go_wp2
                      go_ret2
                      exact ⟨by first|rfl|(simp [errW_none,errW_some] <;> rfl)|(simp [*,errW_none,errW_some] <;> rfl),by repeat (first|(with_reducible first|exact HB.out|apply below_alloc|apply pw_below_drewN|apply below_drew1|refine below_set ?_ GE245.out)|exact HB.out)⟩
                    · rw [if_neg c41] at H
                      exact absurd H (by simp)
                  · rw [if_neg c40] at H
                    exact absurd H (by simp)

end Go.Proofs.Ytbdlkcgaobkdcaa.P

-- Written by wip/mkprint.py over the kit's print.py, out of the translation; Lean checks it.
import Derived.Test.YtbdlkcgaobkdcaaPx0
import Derived.Test.YtbdlkcgaobkdcaaPx2
import Derived.Test.YtbdlkcgaobkdcaaPx27
import Derived.Test.YtbdlkcgaobkdcaaPx28
import Derived.Test.YtbdlkcgaobkdcaaPx29
namespace Go.Proofs.Ytbdlkcgaobkdcaa.P
open Go.RowKit Go.Proofs.YtbdlkcgaobkdcaaW.PrintWords Go.Proofs.YtbdlkcgaobkdcaaW.PrintLast Go.Proofs.YtbdlkcgaobkdcaaW.PrintMore
attribute [local go_sem] max2_int min2_int max_two min_two max_three min_three max_four min_four   -- for this text's walks alone
set_option linter.unusedVariables false
set_option linter.unusedSimpArgs false

theorem kR1 : type_of% @Kd.R_alloc := @Kd.R_alloc
theorem kR2 : type_of% @Kd.R_drewN := @Kd.R_drewN
theorem kR3 : type_of% @Kd.R_drew := @Kd.R_drew
theorem lS0 : type_of% @List.setIfInBounds_toArray := @List.setIfInBounds_toArray
theorem lS1 : type_of% @List.set_cons_zero := @List.set_cons_zero
theorem lS2 : type_of% @List.set_cons_succ := @List.set_cons_succ
theorem bD1 : type_of% @blk_drewN := @blk_drewN
theorem bD2 : type_of% @blk_drew := @blk_drew
theorem bD3 : type_of% @blk_alloc := @blk_alloc
theorem pB1 : type_of% @pw_below_drewN := @pw_below_drewN
theorem pB2 : type_of% @below_drew1 := @below_drew1
theorem pB3 : type_of% @below_alloc := @below_alloc
/-! ### withylaw9_BapLengths: function 19 -/
mutual
def withylaw9_BapLengths.j0 : Nat → Int → Int → ByteArray → Option (Bool)
  | 0, _, _, _ => none
  | k + 1, x7, x8, x9 => (some (([(x7) % 256, 3, 0, (x8) % 256] : List Int) : List Int)).bind fun y502 => (if (strOfNums y502).size + x9.size ≤ 9223372036854775807 then ((bapmsg_Get.f k ((strOfNums y502) ++ x9)).bind fun bt505 => (if x8 < 4 then (withylaw9_BapLengths.j1 k x7 x8 x9 bt505.2.2.2.2 true bt505.1 bt505.2.1 bt505.2.2.1 bt505.2.2.2.1) else (withylaw9_BapLengths.j1 k x7 x8 x9 bt505.2.2.2.2 (decide (x8 > (wrap64 ((x9.size : Int) + 4)))) bt505.1 bt505.2.1 bt505.2.2.1 bt505.2.2.2.1))) else (none))
def withylaw9_BapLengths.j1 : Nat → Int → Int → ByteArray → Int → Bool → Int → Int → Int → List (S46) → Option (Bool)
  | 0, _, _, _, _, _, _, _, _, _ => none
  | k + 1, x7, x8, x9, x11, x50, x513000, x513001, x513002, x513003 => if x50 = true then ((withylaw0_Num.f x11).bind fun t513 => (if t513 = 900 then ((withylaw0_SameBap.f k x513000 x513001 x513002 x513003 0 0 0 ([] : List (S46))).bind fun t514 => (some t514)) else (some false))) else ((some (([(x7) % 256, 3, 0, (x8) % 256] : List Int) : List Int)).bind fun y515 => (if 0 ≤ (wrap64 (x8 - 4)) then (if (wrap64 (x8 - 4)) ≤ (x9.size : Int) then (if (strOfNums y515).size + (x9.extract 0 ((wrap64 (x8 - 4)) : Int).toNat).size ≤ 9223372036854775807 then ((bapmsg_Get.f k ((strOfNums y515) ++ (x9.extract 0 ((wrap64 (x8 - 4)) : Int).toNat))).bind fun bt518 => ((withylaw0_Num.f x11).bind fun t526 => ((withylaw0_Num.f bt518.2.2.2.2).bind fun t527 => (if t526 = t527 then ((withylaw0_SameBap.f k x513000 x513001 x513002 x513003 bt518.1 bt518.2.1 bt518.2.2.1 bt518.2.2.2.1).bind fun t528 => (if t528 = true then ((withylaw0_Num.f x11).bind fun t529 => (if t529 = 0 then (some true) else ((withylaw0_Num.f x11).bind fun t530 => (some (t530 == 900))))) else (some false))) else (some false))))) else (none)) else (none)) else (none)))
end
def withylaw9_BapLengths.f (k : Nat) (a0 : Int) (a1 : Int) (a2 : ByteArray) : Option (Bool) := (withylaw9_awake.f k).bind fun t501 => (if t501 = true then (if (a2.size : Int) > 60 then (if 0 ≤ 60 then (if 60 ≤ (a2.size : Int) then (withylaw9_BapLengths.j0 k (wrap64 (1 + (wrap64 (2 * (wrap64 (Int.tmod (IntKind.u64.wrap (a0)) 4)))))) (Go.bits .and .i64 a1 63) (a2.extract 0 60)) else (none)) else (none)) else (withylaw9_BapLengths.j0 k (wrap64 (1 + (wrap64 (2 * (wrap64 (Int.tmod (IntKind.u64.wrap (a0)) 4)))))) (Go.bits .and .i64 a1 63) a2)) else (some false))
theorem withylaw9_BapLengths.mono_l : ∀ k, (∀ y0 y1 y2, LeO (withylaw9_BapLengths.j0 k y0 y1 y2) (withylaw9_BapLengths.j0 (k + 1) y0 y1 y2)) ∧ (∀ y0 y1 y2 y3 y4 y5 y6 y7 y8, LeO (withylaw9_BapLengths.j1 k y0 y1 y2 y3 y4 y5 y6 y7 y8) (withylaw9_BapLengths.j1 (k + 1) y0 y1 y2 y3 y4 y5 y6 y7 y8))
  | 0 => ⟨fun _ _ _ r h => by simp [withylaw9_BapLengths.j0] at h, fun _ _ _ _ _ _ _ _ _ r h => by simp [withylaw9_BapLengths.j1] at h⟩
  | k + 1 => by
    obtain ⟨ih0, ih1⟩ := withylaw9_BapLengths.mono_l k
    refine ⟨?_, ?_⟩
    · intro y0 y1 y2
      unfold withylaw9_BapLengths.j0
      repeat' first
      | (with_reducible exact ih0 _ _ _)
      | (with_reducible exact ih1 _ _ _ _ _ _ _ _ _)
      | (with_reducible exact bapmsg_Get.mono _ _)
      | (with_reducible exact withylaw0_SameBap.mono _ _ _ _ _ _ _ _ _)
      | (with_reducible exact withylaw9_awake.mono _)
      | (with_reducible exact LeO.refl _)
      | (with_reducible exact LeO.none _)
      | (with_reducible refine LeO.ite ?_ ?_)
      | (with_reducible refine LeO.bind ?_ (fun _ => ?_))
      | exact ih0 _ _ _
      | exact ih1 _ _ _ _ _ _ _ _ _
      | exact bapmsg_Get.mono _ _
      | exact withylaw0_SameBap.mono _ _ _ _ _ _ _ _ _
      | exact withylaw9_awake.mono _
      | exact LeO.none _
      | refine LeO.ite ?_ ?_
      | refine LeO.bind ?_ (fun _ => ?_)
    · intro y0 y1 y2 y3 y4 y5 y6 y7 y8
      unfold withylaw9_BapLengths.j1
      repeat' first
      | (with_reducible exact ih0 _ _ _)
      | (with_reducible exact ih1 _ _ _ _ _ _ _ _ _)
      | (with_reducible exact bapmsg_Get.mono _ _)
      | (with_reducible exact withylaw0_SameBap.mono _ _ _ _ _ _ _ _ _)
      | (with_reducible exact withylaw9_awake.mono _)
      | (with_reducible exact LeO.refl _)
      | (with_reducible exact LeO.none _)
      | (with_reducible refine LeO.ite ?_ ?_)
      | (with_reducible refine LeO.bind ?_ (fun _ => ?_))
      | exact ih0 _ _ _
      | exact ih1 _ _ _ _ _ _ _ _ _
      | exact bapmsg_Get.mono _ _
      | exact withylaw0_SameBap.mono _ _ _ _ _ _ _ _ _
      | exact withylaw9_awake.mono _
      | exact LeO.none _
      | refine LeO.ite ?_ ?_
      | refine LeO.bind ?_ (fun _ => ?_)
theorem withylaw9_BapLengths.mono : ∀ a0 a1 a2 k, LeO (withylaw9_BapLengths.f k a0 a1 a2) (withylaw9_BapLengths.f (k + 1) a0 a1 a2) := by
  intro a0 a1 a2 k
  obtain ⟨ih0, ih1⟩ := withylaw9_BapLengths.mono_l k
  unfold withylaw9_BapLengths.f
  repeat' first
      | (with_reducible exact ih0 _ _ _)
      | (with_reducible exact ih1 _ _ _ _ _ _ _ _ _)
      | (with_reducible exact bapmsg_Get.mono _ _)
      | (with_reducible exact withylaw0_SameBap.mono _ _ _ _ _ _ _ _ _)
      | (with_reducible exact withylaw9_awake.mono _)
      | (with_reducible exact LeO.refl _)
      | (with_reducible exact LeO.none _)
      | (with_reducible refine LeO.ite ?_ ?_)
      | (with_reducible refine LeO.bind ?_ (fun _ => ?_))
      | exact ih0 _ _ _
      | exact ih1 _ _ _ _ _ _ _ _ _
      | exact bapmsg_Get.mono _ _
      | exact withylaw0_SameBap.mono _ _ _ _ _ _ _ _ _
      | exact withylaw9_awake.mono _
      | exact LeO.none _
      | refine LeO.ite ?_ ?_
      | refine LeO.bind ?_ (fun _ => ?_)
def withylaw9_BapLengths.T11 : Bool × List (List Nat × List Nat) := (true, [([], []), ([0], [0]), ([], []), ([2], [2]), ([1, 3], [1, 3]), ([4], [4]), ([], []), ([], []), ([7], [7]), ([6, 8], [6, 8]), ([5, 9], [5, 9]), ([10], [10]), ([11], [11]), ([12], [12]), ([12], [12]), ([], []), ([15, 13, 11, 0, 1, 2, 3, 4, 5, 6, 7, 8, 9, 10, 11, 12, 13, 15], [13, 15]), ([14, 16, 0, 1, 2, 3, 4, 5, 6, 7, 8, 9, 10, 11, 12, 13, 14, 15, 16], [14])])
def withylaw9_BapLengths.B11 : List Nat := [0, 1, 0, 4, 15, 31, 0, 0, 128, 448, 1023, 2047, 4095, 8191, 8191, 0, 49151, 131071]
theorem withylaw9_BapLengths.tab11 : rtab .any (opsOf Try.f19 11) = withylaw9_BapLengths.T11 := by kernel_rfl
theorem withylaw9_BapLengths.bits11 : waitsOk withylaw9_BapLengths.T11.2 withylaw9_BapLengths.B11 = true := by kernel_rfl
set_option maxHeartbeats 8000000 in
set_option maxRecDepth 100000 in
theorem withylaw9_BapLengths.calls (k : Nat) (a0 : Int) (a1 : Int) (a2 : ByteArray) (r : Bool) (w : World) (h : withylaw9_BapLengths.f k a0 a1 a2 = some r) :
  Calls Try.prog 19 #[.int .i64 a0,.int .i64 a1,.string a2] w fun e w' => e = .returned (.bool r) ∧ Below w.heap.size w w':=by
 have hu56:=Try.underlying56
 have HB:=Aside0.mk (Below.refl w.heap.size w)
 have H : ((withylaw9_awake.f k).bind fun t501 => (if t501 = true then (if (a2.size : Int) > 60 then (if 0 ≤ 60 then (if 60 ≤ (a2.size : Int) then (withylaw9_BapLengths.j0 k (wrap64 (1 + (wrap64 (2 * (wrap64 (Int.tmod (IntKind.u64.wrap (a0)) 4)))))) (Go.bits .and .i64 a1 63) (a2.extract 0 60)) else (none)) else (none)) else (withylaw9_BapLengths.j0 k (wrap64 (1 + (wrap64 (2 * (wrap64 (Int.tmod (IntKind.u64.wrap (a0)) 4)))))) (Go.bits .and .i64 a1 63) a2)) else (some false))) = some r:=h
 clear h
 replace H:=Option.bind_eq_some_iff.mp H
 obtain ⟨t501,A40,H⟩:=H
 replace H : (if t501 = true then (if (a2.size : Int) > 60 then (if 0 ≤ 60 then (if 60 ≤ (a2.size : Int) then (withylaw9_BapLengths.j0 k (wrap64 (1 + (wrap64 (2 * (wrap64 (Int.tmod (IntKind.u64.wrap (a0)) 4)))))) (Go.bits .and .i64 a1 63) (a2.extract 0 60)) else (none)) else (none)) else (withylaw9_BapLengths.j0 k (wrap64 (1 + (wrap64 (2 * (wrap64 (Int.tmod (IntKind.u64.wrap (a0)) 4)))))) (Go.bits .and .i64 a1 63) a2)) else (some false)) = some r:=H
 have A4:=Aside0.mk A40
 clear A40
 by_cases c5 : t501 = true
 ·subst c5
  have H1 : (if (a2.size : Int) > 60 then (if 0 ≤ 60 then (if 60 ≤ (a2.size : Int) then (withylaw9_BapLengths.j0 k (wrap64 (1 + (wrap64 (2 * (wrap64 (Int.tmod (IntKind.u64.wrap (a0)) 4)))))) (Go.bits .and .i64 a1 63) (a2.extract 0 60)) else (none)) else (none)) else (withylaw9_BapLengths.j0 k (wrap64 (1 + (wrap64 (2 * (wrap64 (Int.tmod (IntKind.u64.wrap (a0)) 4)))))) (Go.bits .and .i64 a1 63) a2)) = some r:=by rw [if_pos rfl] at H;exact H
  clear H
  have H:=H1
  clear H1
  have HC6:=Aside0.mk H
  clear H
  go_enter Try.func19,Try.ntmps19
  go_upto_if 27 with (first|((with_reducible refine gate_callee (f:=53) rfl ?_);refine goesL_ (some 14) rfl rfl Try.func53 (by kernel_rfl) rfl #[] rfl (by (try simp only [List.map_toArray,List.map_cons,List.map_nil]);first|done|rfl|(simp only [List.length_drop,List.length_take];rfl)) ?_;(with_reducible refine (withylaw9_awake.calls k  true _ A4.out).mono ?_);rintro e w7 ⟨rfl,hb⟩;refine ⟨_,rfl,?_⟩;have n0_:=Aside0.mk (below_step (by repeat (first|(with_reducible first|exact HB.out|apply pB3|apply pB1|apply pB2)|exact HB.out)) hb);clear HB;have HB:=n0_;clear n0_;(try clear hb);(try clear hb2);(try clear hk);(try clear hi)))
  (try simp only [Act.put,lS0,lS1,lS2])
  go_cut [9] (fun v9 wc => ∃ (kq : Nat) (x9_5 : ByteArray),v9 = .string x9_5 ∧ Aside0 (withylaw9_BapLengths.j0 kq (wrap64 (1 + (wrap64 (2 * (wrap64 (Int.tmod (IntKind.u64.wrap (a0)) 4)))))) (Go.bits .and .i64 a1 63) x9_5 = some r) ∧ Aside0 (kq ≤ k) ∧ Aside0 (Below w.heap.size w wc))
  case first =>
   have H:=HC6.out
   clear HC6
   by_cases c8 : (a2.size : Int) > 60
   ·rw [if_pos c8] at H
    have c8b0 : decide (60 < (a2.size : Int)) = true:=decide_eq_true c8
    have c8b1 : decide (60 < a2.size) = true:=decide_eq_true (by omega)
    clear c8
    (first|rw [c8b0]|(simp only [i64_w,i32_w];rw [c8b0])|skip)
    by_cases c9 : 0 ≤ 60
    ·rw [if_pos c9] at H
     have c9b0:=eq_true c9
     have c9b1 : decide (0 ≤ 60) = true:=decide_eq_true c9
     clear c9
     by_cases c10 : 60 ≤ (a2.size : Int)
     ·rw [if_pos c10] at H
      have c10b0:=eq_true c10
      have c10b1 : decide (60 ≤ (a2.size : Int)) = true:=decide_eq_true c10
      clear c10
      have H':=Aside0.mk H
      clear H
      go_wp2
      go_meet
      case rel => exact ⟨_,(a2.extract 0 60),(by first|rfl|(simp;done)|(simp [*];done)),H',⟨by first|omega|exact Nat.le_refl _⟩,⟨by repeat (first|(with_reducible first|exact HB.out|apply pB3|apply pB1|apply pB2)|exact HB.out)⟩⟩
     ·rw [if_neg c10] at H
      exact absurd H (by simp)
    ·rw [if_neg c9] at H
     exact absurd H (by simp)
   ·rw [if_neg c8] at H
    have c8b0 : decide (60 < (a2.size : Int)) = false:=decide_eq_false c8
    have c8b1 : decide (60 < a2.size) = false:=decide_eq_false (by omega)
    clear c8
    (first|rw [c8b0]|(simp only [i64_w,i32_w];rw [c8b0])|skip)
    have H':=Aside0.mk H
    clear H
    go_wp2
    go_meet
    case rel => exact ⟨_,(a2),(by first|rfl|(simp;done)|(simp [*];done)),H',⟨by first|omega|exact Nat.le_refl _⟩,⟨by repeat (first|(with_reducible first|exact HB.out|apply pB3|apply pB1|apply pB2)|exact HB.out)⟩⟩
  case rest =>
   clear HC6
   try clear c1
   try clear p2
   try clear c5
   try clear p6
   try clear c8
   try clear c8b0
   try clear c8b1
   try clear c9
   try clear c9b0
   try clear c9b1
   try clear c10
   try clear c10b0
   try clear c10b1
   obtain ⟨kq,x9_5,rfl,HA,HJ5,HB⟩:=hcut
   cases kq with
  |zero => exact absurd HA.out (by simp [withylaw9_BapLengths.j0])
  |succ kj5 =>
    have H:=HA.out
    clear HA
    simp only [withylaw9_BapLengths.j0] at H
    obtain ⟨y502,hy502⟩ : ∃ y_ : List Int,y_ = (([((wrap64 (1 + (wrap64 (2 * (wrap64 (Int.tmod (IntKind.u64.wrap (a0)) 4))))))) % 256,3,0,((Go.bits .and .i64 a1 63)) % 256] : List Int)):=⟨_,rfl⟩
    replace H : (if (strOfNums y502).size + x9_5.size ≤ 9223372036854775807 then ((bapmsg_Get.f kj5 ((strOfNums y502) ++ x9_5)).bind fun bt505 => (if (Go.bits .and .i64 a1 63) < 4 then (withylaw9_BapLengths.j1 kj5 (wrap64 (1 + (wrap64 (2 * (wrap64 (Int.tmod (IntKind.u64.wrap (a0)) 4)))))) (Go.bits .and .i64 a1 63) x9_5 bt505.2.2.2.2 true bt505.1 bt505.2.1 bt505.2.2.1 bt505.2.2.2.1) else (withylaw9_BapLengths.j1 kj5 (wrap64 (1 + (wrap64 (2 * (wrap64 (Int.tmod (IntKind.u64.wrap (a0)) 4)))))) (Go.bits .and .i64 a1 63) x9_5 bt505.2.2.2.2 (decide ((Go.bits .and .i64 a1 63) > (wrap64 ((x9_5.size : Int) + 4)))) bt505.1 bt505.2.1 bt505.2.2.1 bt505.2.2.2.1))) else (none)) = some r:=by first|(rw [hy502];with_reducible exact H)|(have H2_:=(Option.bind_some _ _).symm.trans H;rw [hy502];with_reducible exact H2_)|(have H2_:=(Option.bind_some _ _).symm.trans H;with_reducible exact H2_)|with_reducible exact H|(rw [hy502];exact H)|exact H
    have Ny502:=Aside0.mk hy502
    clear hy502
    by_cases c11 : (strOfNums y502).size + x9_5.size ≤ 9223372036854775807
    ·rw [if_pos c11] at H
     have c11b0:=eq_true c11
     have c11b1 : decide ((strOfNums y502).size + x9_5.size ≤ 9223372036854775807) = true:=decide_eq_true c11
     try have c11b2 : (9223372036854775807 < (strOfNums y502).size + x9_5.size) = False:=eq_false (Nat.not_lt.2 c11)
     replace H:=Option.bind_eq_some_iff.mp H
     obtain ⟨⟨t505,t506,t507,t508,t511⟩,A120,H⟩:=H
     replace H : (if (Go.bits .and .i64 a1 63) < 4 then (withylaw9_BapLengths.j1 kj5 (wrap64 (1 + (wrap64 (2 * (wrap64 (Int.tmod (IntKind.u64.wrap (a0)) 4)))))) (Go.bits .and .i64 a1 63) x9_5 t511 true t505 t506 t507 t508) else (withylaw9_BapLengths.j1 kj5 (wrap64 (1 + (wrap64 (2 * (wrap64 (Int.tmod (IntKind.u64.wrap (a0)) 4)))))) (Go.bits .and .i64 a1 63) x9_5 t511 (decide ((Go.bits .and .i64 a1 63) > (wrap64 ((x9_5.size : Int) + 4)))) t505 t506 t507 t508)) = some r:=H
     have A12:=Aside0.mk A120
     clear A120
     have HC13:=Aside0.mk H
     clear H
     go_upto_region 9 with (first|((with_reducible refine gate_dst (N:=35) rfl ?_);(try (refine gate_guard (by rfl) ?_;dsimp only));refine Kd.R_lit (Kd.int .u8) _ 5 ?hg (N:=35) ?hd (xs:=([((wrap64 (1 + (wrap64 (2 * (wrap64 (Int.tmod (IntKind.u64.wrap (a0)) 4))))))) % 256,3,0,((Go.bits .and .i64 a1 63)) % 256] : List Int)) (inner:=[.int .u8 (((wrap64 (1 + (wrap64 (2 * (wrap64 (Int.tmod (IntKind.u64.wrap (a0)) 4))))))) % 256),.int .u8 3,.int .u8 0,.int .u8 (((Go.bits .and .i64 a1 63)) % 256)]) (ok:=fun _ => True) (okp:=fun _ => True) ?hr ?hp (fun _ hk => hk) trivial (Below.refl _ _) (Nat.le_refl _) (by simp) ?_;(case hd => rfl);(case hg => rfl);(case hr => first|(go_simp;done)|(go_simp;rfl));(case hp => exact (Reps.one (show Kd.M (Kd.int .u8) _ _ _ (((wrap64 (1 + (wrap64 (2 * (wrap64 (Int.tmod (IntKind.u64.wrap (a0)) 4))))))) % 256) [.int .u8 (((wrap64 (1 + (wrap64 (2 * (wrap64 (Int.tmod (IntKind.u64.wrap (a0)) 4))))))) % 256)] from rfl) (Reps.one (show Kd.M (Kd.int .u8) _ _ _ 3 [.int .u8 3] from rfl) (Reps.one (show Kd.M (Kd.int .u8) _ _ _ 0 [.int .u8 0] from rfl) (Reps.one (show Kd.M (Kd.int .u8) _ _ _ (((Go.bits .and .i64 a1 63)) % 256) [.int .u8 (((Go.bits .and .i64 a1 63)) % 256)] from rfl) (Reps.none _ _))))));intro v503 w14 ho15 hb hg_ hnew_;clear hg_ hnew_;(first|rw [← Ny502.out] at ho15|(simp only [Int.reduceToNat] at ho15;rw [← Ny502.out] at ho15));have n0_:=Aside0.mk (Kd.R_lower ho15 (below_size (by repeat (first|(with_reducible first|exact HB.out|apply pB3|apply pB1|apply pB2)|exact HB.out))));have n1_:=Aside0.mk (below_step (by repeat (first|(with_reducible first|exact HB.out|apply pB3|apply pB1|apply pB2)|exact HB.out)) hb);clear HB;have HO504:=n0_;have HB:=n1_;clear n0_ n1_;clear hb ho15;have hcv16:=own_string (P:=Try.prog) Try.underlying61 Try.underlying5 Try.underlying9 (Kd.own_of_R HO504.out))|((with_reducible refine gate_callee (f:=55) rfl ?_);refine goesL_ (some 39) rfl rfl Try.func55 (by kernel_rfl) rfl #[.string ((strOfNums y502) ++ x9_5)] rfl (by (try simp only [List.map_toArray,List.map_cons,List.map_nil]);first|done|rfl|(simp only [List.length_drop,List.length_take];rfl)) ?_;(with_reducible refine (bapmsg_Get.calls kj5 ((strOfNums y502) ++ x9_5) t505 t506 t507 t508 t511 _ A12.out).mono ?_);rintro e w17 ⟨v509,rfl,ho0,hb⟩;refine ⟨_,rfl,?_⟩;have n0_:=Aside0.mk (Kd.R_below (by (with_reducible repeat (first|apply kR1|apply kR2|apply kR3));exact HO504.out) hb);have n1_:=Aside0.mk (Kd.R_lower ho0 (below_size (by repeat (first|(with_reducible first|exact HB.out|apply pB3|apply pB1|apply pB2)|exact HB.out))));have n2_:=Aside0.mk (below_step (by repeat (first|(with_reducible first|exact HB.out|apply pB3|apply pB1|apply pB2)|exact HB.out)) hb);clear HO504;clear HB;have HO504:=n0_;have HO510:=n1_;have HB:=n2_;clear n0_ n1_ n2_;(try clear hb);(try clear hb2);(try clear hk);(try clear hi);(try clear ho0))|((with_reducible refine gate_dst (N:=10) rfl ?_);(try (refine gate_guard (by rfl) ?_;dsimp only));refine box_event ?hg (N:=10) ?hd (cs:=#[.int .i64 0,.int .i64 0,.int .i64 0,.slice none 0 0]) (t:=56) ?hr ?_;(case hd => rfl);(case hg => rfl);(case hr => first|(go_simp;done)|(go_simp;rfl));intro gb512 hg w18 hbox hb;have n0_:=Aside0.mk (Kd.R_below (by (with_reducible repeat (first|apply kR1|apply kR2|apply kR3));exact HO504.out) hb);have n1_:=Aside0.mk (Kd.R_below (by (with_reducible repeat (first|apply kR1|apply kR2|apply kR3));exact HO510.out) hb);have n2_:=Aside0.mk (below_step (by repeat (first|(with_reducible first|exact HB.out|apply pB3|apply pB1|apply pB2)|exact HB.out)) hb);have n3_:=Aside0.mk (hbox);have n4_:=Aside0.mk ((by rw [hg];exact (below_size (by repeat (first|(with_reducible first|exact HB.out|apply pB3|apply pB1|apply pB2)|exact HB.out))) : w.heap.size ≤ gb512));have n5_:=Aside0.mk ((by rw [hg];exact (below_size (by repeat (first|(with_reducible first|exact HB.out|apply pB3|apply pB1|apply pB2)|exact HB.out))) : w.heap.size ≤ gb512));clear HO504;clear HO510;clear HB;have HO504:=n0_;have HO510:=n1_;have HB:=n2_;have BK512:=n3_;have GW512:=n4_;have GE512:=n5_;clear n0_ n1_ n2_ n3_ n4_ n5_;clear hb hbox hg;have hcz19_0 : w18.cell? ⟨gb512,0,none⟩ = some (.int .i64 0):=(blk_cell BK512.out 0).trans rfl;have hcz19_1 : w18.cell? ⟨gb512,1,none⟩ = some (.int .i64 0):=(blk_cell BK512.out 1).trans rfl;have hcz19_2 : w18.cell? ⟨gb512,2,none⟩ = some (.int .i64 0):=(blk_cell BK512.out 2).trans rfl;have hcz19_3 : w18.cell? ⟨gb512,3,none⟩ = some (.slice none 0 0):=(blk_cell BK512.out 3).trans rfl;have hfz19_0:=blk_frozen BK512.out 0;have hfz19_1:=blk_frozen BK512.out 1;have hfz19_2:=blk_frozen BK512.out 2;have hfz19_3:=blk_frozen BK512.out 3;obtain ⟨Ao20,co20,eo20⟩:=Kd.R_slice HO510.out;subst eo20))
     (try simp only [Act.put,lS0,lS1,lS2])
     go_cut [50] (fun v50 wc => ∃ (kq : Nat) (x50_12 : Bool),v50 = .bool x50_12 ∧ Aside0 (withylaw9_BapLengths.j1 kq (wrap64 (1 + (wrap64 (2 * (wrap64 (Int.tmod (IntKind.u64.wrap (a0)) 4)))))) (Go.bits .and .i64 a1 63) x9_5 t511 x50_12 t505 t506 t507 t508 = some r) ∧ Aside0 (kq ≤ kj5) ∧ Aside0 (Kd.R k46 46 wc w.heap.size (fun _ => True) (.slice Ao20 t508.length co20) t508) ∧ Aside0 (wc.heap[gb512]? = some (.cells #[.int .i64 t505,.int .i64 t506,.int .i64 t507,(.slice Ao20 t508.length co20)] 56 (0,0))) ∧ Aside0 (Below w.heap.size w wc))
     case first =>
      have H:=HC13.out
      clear HC13
      by_cases c21 : (Go.bits .and .i64 a1 63) < 4
      ·rw [if_pos c21] at H
       have c21b0 : decide ((Go.bits .and .i64 a1 63) < 4) = true:=decide_eq_true c21
       clear c21
       (first|rw [c21b0]|(simp only [i64_w,i32_w];rw [c21b0])|skip)
       have H':=Aside0.mk H
       clear H
       go_wp2
       go_meet
       case rel => exact ⟨_,(true),(by first|rfl|(simp;done)|(simp [*];done)),H',⟨by have:=HJ5.out;first|omega|exact Nat.le_refl _⟩,⟨by (with_reducible repeat (first|apply kR1|apply kR2|apply kR3));exact Kd.R_mono (Kd.R_far (p:=⟨gb512,3,none⟩) (Kd.R_far (p:=⟨gb512,2,none⟩) (Kd.R_far (p:=⟨gb512,1,none⟩) (Kd.R_far (p:=⟨gb512,0,none⟩) (Kd.R_types HO510.out BK512.out (by decide)) (fun _ hk => hk.2) (.int .i64 t505)) (fun _ hk => hk.2) (.int .i64 t506)) (fun _ hk => hk.2) (.int .i64 t507)) (fun _ hk => hk.2) (.slice Ao20 t508.length co20)) (fun _ hk => trivial)⟩,⟨by (with_reducible repeat (first|refine bD1 ?_ _|refine bD2 ?_|refine bD3 ?_ _));refine blk_put (cs:=#[.int .i64 t505,.int .i64 t506,.int .i64 t507,.slice none 0 0]) ?_ 3 _ rfl;(with_reducible repeat (first|refine bD1 ?_ _|refine bD2 ?_|refine bD3 ?_ _));refine blk_put (cs:=#[.int .i64 t505,.int .i64 t506,.int .i64 0,.slice none 0 0]) ?_ 2 _ rfl;(with_reducible repeat (first|refine bD1 ?_ _|refine bD2 ?_|refine bD3 ?_ _));refine blk_put (cs:=#[.int .i64 t505,.int .i64 0,.int .i64 0,.slice none 0 0]) ?_ 1 _ rfl;(with_reducible repeat (first|refine bD1 ?_ _|refine bD2 ?_|refine bD3 ?_ _));refine blk_put (cs:=#[.int .i64 0,.int .i64 0,.int .i64 0,.slice none 0 0]) ?_ 0 _ rfl;(with_reducible repeat (first|refine bD1 ?_ _|refine bD2 ?_|refine bD3 ?_ _));exact BK512.out⟩,⟨by repeat (first|(with_reducible first|exact HB.out|apply pB3|apply pB1|apply pB2|refine below_set ?_ GE512.out)|exact HB.out)⟩⟩
      ·rw [if_neg c21] at H
       have c21b0 : decide ((Go.bits .and .i64 a1 63) < 4) = false:=decide_eq_false c21
       clear c21
       (first|rw [c21b0]|(simp only [i64_w,i32_w];rw [c21b0])|skip)
       have H':=Aside0.mk H
       clear H
       go_wp2
       go_meet
       case rel => exact ⟨_,(decide ((Go.bits .and .i64 a1 63) > (wrap64 ((x9_5.size : Int) + 4)))),(by first|rfl|(simp;done)|(simp [*];done)),H',⟨by have:=HJ5.out;first|omega|exact Nat.le_refl _⟩,⟨by (with_reducible repeat (first|apply kR1|apply kR2|apply kR3));exact Kd.R_mono (Kd.R_far (p:=⟨gb512,3,none⟩) (Kd.R_far (p:=⟨gb512,2,none⟩) (Kd.R_far (p:=⟨gb512,1,none⟩) (Kd.R_far (p:=⟨gb512,0,none⟩) (Kd.R_types HO510.out BK512.out (by decide)) (fun _ hk => hk.2) (.int .i64 t505)) (fun _ hk => hk.2) (.int .i64 t506)) (fun _ hk => hk.2) (.int .i64 t507)) (fun _ hk => hk.2) (.slice Ao20 t508.length co20)) (fun _ hk => trivial)⟩,⟨by (with_reducible repeat (first|refine bD1 ?_ _|refine bD2 ?_|refine bD3 ?_ _));refine blk_put (cs:=#[.int .i64 t505,.int .i64 t506,.int .i64 t507,.slice none 0 0]) ?_ 3 _ rfl;(with_reducible repeat (first|refine bD1 ?_ _|refine bD2 ?_|refine bD3 ?_ _));refine blk_put (cs:=#[.int .i64 t505,.int .i64 t506,.int .i64 0,.slice none 0 0]) ?_ 2 _ rfl;(with_reducible repeat (first|refine bD1 ?_ _|refine bD2 ?_|refine bD3 ?_ _));refine blk_put (cs:=#[.int .i64 t505,.int .i64 0,.int .i64 0,.slice none 0 0]) ?_ 1 _ rfl;(with_reducible repeat (first|refine bD1 ?_ _|refine bD2 ?_|refine bD3 ?_ _));refine blk_put (cs:=#[.int .i64 0,.int .i64 0,.int .i64 0,.slice none 0 0]) ?_ 0 _ rfl;(with_reducible repeat (first|refine bD1 ?_ _|refine bD2 ?_|refine bD3 ?_ _));exact BK512.out⟩,⟨by repeat (first|(with_reducible first|exact HB.out|apply pB3|apply pB1|apply pB2|refine below_set ?_ GE512.out)|exact HB.out)⟩⟩
     case rest =>
      clear HC13
      try clear c1
      try clear hcv1
      try clear c2
      try clear p2
      try clear c5
      try clear p6
      try clear c8
      try clear c8b0
      try clear c8b1
      try clear c9
      try clear c9b0
      try clear c9b1
      try clear c10
      try clear c10b0
      try clear c10b1
      try clear c11
      try clear c11b0
      try clear c11b1
      try clear c11b2
      try clear hcv16
      try clear c19
      try clear c21
      try clear c21b0
      try clear hcz19_0
      try clear hcz19_1
      try clear hcz19_2
      try clear hcz19_3
      try clear hfz19_0
      try clear hfz19_1
      try clear hfz19_2
      try clear hfz19_3
      try clear p2
      try clear p6
      obtain ⟨kq,x50_12,rfl,HA,HJ12,HO_513003,BK512,HB⟩:=hcut
      cases kq with
     |zero => exact absurd HA.out (by simp [withylaw9_BapLengths.j1])
     |succ kj12 =>
       have H:=HA.out
       clear HA
       simp only [withylaw9_BapLengths.j1] at H
       by_cases c22 : x50_12 = true
       ·subst c22
        have H1 : ((withylaw0_Num.f t511).bind fun t513 => (if t513 = 900 then ((withylaw0_SameBap.f kj12 t505 t506 t507 t508 0 0 0 ([] : List (S46))).bind fun t514 => (some t514)) else (some false))) = some r:=by rw [if_pos rfl] at H;exact H
        clear H
        have H:=H1
        clear H1
        replace H:=Option.bind_eq_some_iff.mp H
        obtain ⟨t513,A230,H⟩:=H
        replace H : (if t513 = 900 then ((withylaw0_SameBap.f kj12 t505 t506 t507 t508 0 0 0 ([] : List (S46))).bind fun t514 => (some t514)) else (some false)) = some r:=H
        have A23:=Aside0.mk A230
        clear A230
        by_cases c24 : t513 = 900
        ·rw [if_pos c24] at H
         have c24b0 : (t513 == 900) = true:=beq_iff_eq.mpr c24
         have c24b1 : (t513 != 900) = false:=bne_eq_false_iff_eq.mpr c24
         clear c24
         replace H:=Option.bind_eq_some_iff.mp H
         obtain ⟨t514,A250,H⟩:=H
         replace H : (some t514) = some r:=H
         have A25:=Aside0.mk A250
         clear A250
         obtain rfl:=Option.some.inj H
         go_wp2_with (first|((with_reducible refine gate_callee (f:=29) rfl ?_);refine goesL_ (some 52) rfl rfl Try.func29 (by kernel_rfl) rfl #[.int .i64 t511] rfl (by (try simp only [List.map_toArray,List.map_cons,List.map_nil]);first|done|rfl|(simp only [List.length_drop,List.length_take];rfl)) ?_;(with_reducible refine (withylaw0_Num.calls t511 t513 _ A23.out).mono ?_);rintro e w' ⟨rfl,⟨nd,rfl⟩⟩;refine ⟨_,rfl,?_⟩;have hcz26_0 : wc.cell? ⟨gb512,0,none⟩ = some (.int .i64 t505):=(blk_cell BK512.out 0).trans rfl;have hcz26_1 : wc.cell? ⟨gb512,1,none⟩ = some (.int .i64 t506):=(blk_cell BK512.out 1).trans rfl;have hcz26_2 : wc.cell? ⟨gb512,2,none⟩ = some (.int .i64 t507):=(blk_cell BK512.out 2).trans rfl;have hcz26_3 : wc.cell? ⟨gb512,3,none⟩ = some (.slice Ao20 t508.length co20):=(blk_cell BK512.out 3).trans rfl;have hfz26_0:=blk_frozen BK512.out 0;have hfz26_1:=blk_frozen BK512.out 1;have hfz26_2:=blk_frozen BK512.out 2;have hfz26_3:=blk_frozen BK512.out 3)|(go_at_call 56;(refine (withylaw0_SameBap.calls kj12 t505 t506 t507 _ _ t508 0 0 0 _ _ ([] : List (S46)) t514 _ ?side1 ?side2 ?side3 ?side4 A25.out).mono ?_);(case side1 => repeat (first|exact (Kd.R_reads' HO_513003.out).2.2|(with_reducible refine Kd.C_alloc ?_ _)|(with_reducible refine Kd.C_drewN ?_ _)|(with_reducible refine Kd.C_drew ?_)));(case side2 => exact (Kd.R_reads' HO_513003.out).2.1);(case side3 => exact Kd.C_nil _ _);(case side4 => exact Nat.le_refl _);rintro e w27 ⟨rfl,hb⟩;have n0_:=Aside0.mk (Kd.R_below (by (with_reducible repeat (first|apply kR1|apply kR2|apply kR3));exact HO_513003.out) hb);have n1_:=Aside0.mk (blk_below (g:=gb512) (o:=.cells #[.int .i64 t505,.int .i64 t506,.int .i64 t507,.slice Ao20 t508.length co20] 56 (0,0)) (by (with_reducible repeat (first|refine bD1 ?_ _|refine bD2 ?_|refine bD3 ?_ _));exact BK512.out) hb);have n2_:=Aside0.mk (below_step (by repeat (first|(with_reducible first|exact HB.out|apply pB3|apply pB1|apply pB2|refine below_set ?_ GE512.out)|exact HB.out)) hb);clear HO_513003;clear BK512;clear HB;have HO_513003:=n0_;have BK512:=n1_;have HB:=n2_;clear n0_ n1_ n2_;(try clear hb);(try clear hb2);(try clear hk);(try clear hi)))
         go_ret
         exact ⟨by first|rfl|(simp [errW_none,errW_some] <;> rfl)|(simp [*,errW_none,errW_some] <;> rfl),by repeat (first|(with_reducible first|exact HB.out|apply pB3|apply pB1|apply pB2|refine below_set ?_ GE512.out)|exact HB.out)⟩
        ·rw [if_neg c24] at H
         have c24b0 : (t513 == 900) = false:=beq_eq_false_iff_ne.mpr c24
         have c24b1 : (t513 != 900) = true:=bne_iff_ne.mpr c24
         obtain rfl:=Option.some.inj H
         go_wp2_with (first|((with_reducible refine gate_callee (f:=29) rfl ?_);refine goesL_ (some 52) rfl rfl Try.func29 (by kernel_rfl) rfl #[.int .i64 t511] rfl (by (try simp only [List.map_toArray,List.map_cons,List.map_nil]);first|done|rfl|(simp only [List.length_drop,List.length_take];rfl)) ?_;(with_reducible refine (withylaw0_Num.calls t511 t513 _ A23.out).mono ?_);rintro e w' ⟨rfl,⟨nd,rfl⟩⟩;refine ⟨_,rfl,?_⟩))
         go_ret
         exact ⟨by first|rfl|(simp [errW_none,errW_some] <;> rfl)|(simp [*,errW_none,errW_some] <;> rfl),by repeat (first|(with_reducible first|exact HB.out|apply pB3|apply pB1|apply pB2|refine below_set ?_ GE512.out)|exact HB.out)⟩
       ·replace c22:=Bool.eq_false_iff.mpr c22
        subst c22
        have H1 : ((some (([((wrap64 (1 + (wrap64 (2 * (wrap64 (Int.tmod (IntKind.u64.wrap (a0)) 4))))))) % 256,3,0,((Go.bits .and .i64 a1 63)) % 256] : List Int) : List Int)).bind fun y515 => (if 0 ≤ (wrap64 ((Go.bits .and .i64 a1 63) - 4)) then (if (wrap64 ((Go.bits .and .i64 a1 63) - 4)) ≤ (x9_5.size : Int) then (if (strOfNums y515).size + (x9_5.extract 0 ((wrap64 ((Go.bits .and .i64 a1 63) - 4)) : Int).toNat).size ≤ 9223372036854775807 then ((bapmsg_Get.f kj12 ((strOfNums y515) ++ (x9_5.extract 0 ((wrap64 ((Go.bits .and .i64 a1 63) - 4)) : Int).toNat))).bind fun bt518 => ((withylaw0_Num.f t511).bind fun t526 => ((withylaw0_Num.f bt518.2.2.2.2).bind fun t527 => (if t526 = t527 then ((withylaw0_SameBap.f kj12 t505 t506 t507 t508 bt518.1 bt518.2.1 bt518.2.2.1 bt518.2.2.2.1).bind fun t528 => (if t528 = true then ((withylaw0_Num.f t511).bind fun t529 => (if t529 = 0 then (some true) else ((withylaw0_Num.f t511).bind fun t530 => (some (t530 == 900))))) else (some false))) else (some false))))) else (none)) else (none)) else (none))) = some r:=by rw [if_neg (show ¬ (false = true) by decide)] at H;exact H
        clear H
        have H:=H1
        clear H1
        obtain ⟨y515,hy515⟩ : ∃ y_ : List Int,y_ = (([((wrap64 (1 + (wrap64 (2 * (wrap64 (Int.tmod (IntKind.u64.wrap (a0)) 4))))))) % 256,3,0,((Go.bits .and .i64 a1 63)) % 256] : List Int)):=⟨_,rfl⟩
        replace H : (if 0 ≤ (wrap64 ((Go.bits .and .i64 a1 63) - 4)) then (if (wrap64 ((Go.bits .and .i64 a1 63) - 4)) ≤ (x9_5.size : Int) then (if (strOfNums y515).size + (x9_5.extract 0 ((wrap64 ((Go.bits .and .i64 a1 63) - 4)) : Int).toNat).size ≤ 9223372036854775807 then ((bapmsg_Get.f kj12 ((strOfNums y515) ++ (x9_5.extract 0 ((wrap64 ((Go.bits .and .i64 a1 63) - 4)) : Int).toNat))).bind fun bt518 => ((withylaw0_Num.f t511).bind fun t526 => ((withylaw0_Num.f bt518.2.2.2.2).bind fun t527 => (if t526 = t527 then ((withylaw0_SameBap.f kj12 t505 t506 t507 t508 bt518.1 bt518.2.1 bt518.2.2.1 bt518.2.2.2.1).bind fun t528 => (if t528 = true then ((withylaw0_Num.f t511).bind fun t529 => (if t529 = 0 then (some true) else ((withylaw0_Num.f t511).bind fun t530 => (some (t530 == 900))))) else (some false))) else (some false))))) else (none)) else (none)) else (none)) = some r:=by first|(rw [hy515];with_reducible exact H)|(have H2_:=(Option.bind_some _ _).symm.trans H;rw [hy515];with_reducible exact H2_)|(have H2_:=(Option.bind_some _ _).symm.trans H;with_reducible exact H2_)|with_reducible exact H|(rw [hy515];exact H)|exact H
        have Ny515:=Aside0.mk hy515
        clear hy515
        obtain ⟨ji28,hji28⟩ : ∃ j_ : Int,(wrap64 ((Go.bits .and .i64 a1 63) - 4)) = j_:=⟨_,rfl⟩
        replace H : (if 0 ≤ (ji28) then (if (ji28) ≤ (x9_5.size : Int) then (if (strOfNums y515).size + (x9_5.extract 0 ((ji28) : Int).toNat).size ≤ 9223372036854775807 then ((bapmsg_Get.f kj12 ((strOfNums y515) ++ (x9_5.extract 0 ((ji28) : Int).toNat))).bind fun bt518 => ((withylaw0_Num.f t511).bind fun t526 => ((withylaw0_Num.f bt518.2.2.2.2).bind fun t527 => (if t526 = t527 then ((withylaw0_SameBap.f kj12 t505 t506 t507 t508 bt518.1 bt518.2.1 bt518.2.2.1 bt518.2.2.2.1).bind fun t528 => (if t528 = true then ((withylaw0_Num.f t511).bind fun t529 => (if t529 = 0 then (some true) else ((withylaw0_Num.f t511).bind fun t530 => (some (t530 == 900))))) else (some false))) else (some false))))) else (none)) else (none)) else (none)) = some r:=by first|(rw [hji28] at H;exact H)|(simp only [hji28] at H ⊢;exact H)
        have hji28w : (IntKind.i64.wrap ((Go.bits .and .i64 a1 63) - 4)) = ji28:=(i64_w _).trans hji28
        by_cases c29 : 0 ≤ (ji28)
        ·rw [if_pos c29] at H
         have c29b0:=eq_true c29
         have c29b1 : decide (0 ≤ (ji28)) = true:=decide_eq_true c29
         clear c29
         by_cases c30 : (ji28) ≤ (x9_5.size : Int)
         ·rw [if_pos c30] at H
          have c30b0:=eq_true c30
          have c30b1 : decide ((ji28) ≤ (x9_5.size : Int)) = true:=decide_eq_true c30
          clear c30
          by_cases c31 : (strOfNums y515).size + (x9_5.extract 0 ((ji28) : Int).toNat).size ≤ 9223372036854775807
          ·rw [if_pos c31] at H
           have c31b0:=eq_true c31
           have c31b1 : decide ((strOfNums y515).size + (x9_5.extract 0 ((ji28) : Int).toNat).size ≤ 9223372036854775807) = true:=decide_eq_true c31
           try have c31b2 : (9223372036854775807 < (strOfNums y515).size + (x9_5.extract 0 ((ji28) : Int).toNat).size) = False:=eq_false (Nat.not_lt.2 c31)
           have c31b3 : (9223372036854775807 < (strOfNums y515).size + ji28.toNat) = False:=eq_false (Nat.not_lt.2 (by have hh_:=c31;have zz_:=of_decide_eq_true c30b1;rw [ByteArray.size_extract] at hh_;omega))
           replace H:=Option.bind_eq_some_iff.mp H
           obtain ⟨⟨t518,t519,t520,t521,t524⟩,A320,H⟩:=H
           replace H : ((withylaw0_Num.f t511).bind fun t526 => ((withylaw0_Num.f t524).bind fun t527 => (if t526 = t527 then ((withylaw0_SameBap.f kj12 t505 t506 t507 t508 t518 t519 t520 t521).bind fun t528 => (if t528 = true then ((withylaw0_Num.f t511).bind fun t529 => (if t529 = 0 then (some true) else ((withylaw0_Num.f t511).bind fun t530 => (some (t530 == 900))))) else (some false))) else (some false)))) = some r:=H
           have A32:=Aside0.mk A320
           clear A320
           replace H:=Option.bind_eq_some_iff.mp H
           obtain ⟨t526,A330,H⟩:=H
           replace H : ((withylaw0_Num.f t524).bind fun t527 => (if t526 = t527 then ((withylaw0_SameBap.f kj12 t505 t506 t507 t508 t518 t519 t520 t521).bind fun t528 => (if t528 = true then ((withylaw0_Num.f t511).bind fun t529 => (if t529 = 0 then (some true) else ((withylaw0_Num.f t511).bind fun t530 => (some (t530 == 900))))) else (some false))) else (some false))) = some r:=H
           have A33:=Aside0.mk A330
           clear A330
           replace H:=Option.bind_eq_some_iff.mp H
           obtain ⟨t527,A340,H⟩:=H
           replace H : (if t526 = t527 then ((withylaw0_SameBap.f kj12 t505 t506 t507 t508 t518 t519 t520 t521).bind fun t528 => (if t528 = true then ((withylaw0_Num.f t511).bind fun t529 => (if t529 = 0 then (some true) else ((withylaw0_Num.f t511).bind fun t530 => (some (t530 == 900))))) else (some false))) else (some false)) = some r:=H
           have A34:=Aside0.mk A340
           clear A340
           by_cases c35 : t526 = t527
           ·rw [if_pos c35] at H
            have c35b0 : (t526 == t527) = true:=beq_iff_eq.mpr c35
            have c35b1 : (t526 != t527) = false:=bne_eq_false_iff_eq.mpr c35
            clear c35
            replace H:=Option.bind_eq_some_iff.mp H
            obtain ⟨t528,A360,H⟩:=H
            replace H : (if t528 = true then ((withylaw0_Num.f t511).bind fun t529 => (if t529 = 0 then (some true) else ((withylaw0_Num.f t511).bind fun t530 => (some (t530 == 900))))) else (some false)) = some r:=H
            have A36:=Aside0.mk A360
            clear A360
            by_cases c37 : t528 = true
            ·subst c37
             have H1 : ((withylaw0_Num.f t511).bind fun t529 => (if t529 = 0 then (some true) else ((withylaw0_Num.f t511).bind fun t530 => (some (t530 == 900))))) = some r:=by rw [if_pos rfl] at H;exact H
             clear H
             have H:=H1
             clear H1
             replace H:=Option.bind_eq_some_iff.mp H
             obtain ⟨t529,A380,H⟩:=H
             replace H : (if t529 = 0 then (some true) else ((withylaw0_Num.f t511).bind fun t530 => (some (t530 == 900)))) = some r:=H
             have A38:=Aside0.mk A380
             clear A380
             by_cases c39 : t529 = 0
             ·rw [if_pos c39] at H
              have c39b0 : (t529 == 0) = true:=beq_iff_eq.mpr c39
              have c39b1 : (t529 != 0) = false:=bne_eq_false_iff_eq.mpr c39
              clear c39
              obtain rfl:=Option.some.inj H
              try go_wp2
              have n0_:=Aside0.mk (Kd.R_drew HO_513003.out)
              have n1_:=Aside0.mk (blk_drew BK512.out)
              have n2_:=Aside0.mk (below_drew1 HB.out)
              clear HO_513003
              clear BK512
              clear HB
              have HO_513003:=n0_
              have BK512:=n1_
              have HB:=n2_
              clear n0_ n1_ n2_
              refine start_ (n:=18) (S:=fun w' => True) (ds:=[]) #[false,false,false,false,false,false,false,false,false,false,false,false,false,false,false,false,false,false] (by kernel_rfl) rfl rfl trivial (fun hHeld => ?_);refine with_tabW withylaw9_BapLengths.tab11 withylaw9_BapLengths.bits11 (fun HT_ HW_ => ?_)
              generalize wc.drew = w40 at HO_513003 BK512 HB hHeld ⊢
              refine pure_ (i:=0) (N:=some 60) (v:=?_) (a':=?_) #[true,false,false,false,false,false,false,false,false,false,false,false,false,false,false,false,false,false] rfl rfl (any_of HT_.out (by kernel_rfl)) (fun _ _ _ h => h) (Or.inl ⟨by rfl,?_⟩) ?_ ?_
              rotate_left
              ·intro w'
               go_simp
               with_reducible rfl
              rotate_left
              ·simp only [Act.put,lS0,lS1,lS2,i64_w,i32_w]
               rfl
              refine pure_ (i:=1) (N:=some 61) (v:=?_) (a':=?_) #[true,true,false,false,false,false,false,false,false,false,false,false,false,false,false,false,false,false] rfl rfl (any_of HT_.out (by kernel_rfl)) (fun _ _ _ h => h) (Or.inl ⟨by rfl,?_⟩) ?_ ?_
              rotate_left
              ·intro w'
               go_simp
               with_reducible rfl
              rotate_left
              ·simp only [Act.put,lS0,lS1,lS2,i64_w,i32_w]
               rfl
              refine pure_ (i:=2) (N:=some 62) (v:=?_) (a':=?_) #[true,true,true,false,false,false,false,false,false,false,false,false,false,false,false,false,false,false] rfl rfl (any_of HT_.out (by kernel_rfl)) (fun _ _ _ h => h) (Or.inl ⟨by rfl,?_⟩) ?_ ?_
              rotate_left
              ·intro w'
               go_simp
               with_reducible rfl
              rotate_left
              ·simp only [Act.put,lS0,lS1,lS2,i64_w,i32_w]
               rfl
              refine pure_ (i:=3) (N:=some 63) (v:=?_) (a':=?_) #[true,true,true,true,false,false,false,false,false,false,false,false,false,false,false,false,false,false] rfl rfl (any_of HT_.out (by kernel_rfl)) (fun _ _ _ h => h) (Or.inl ⟨by rfl,?_⟩) ?_ ?_
              rotate_left
              ·intro w'
               go_simp
               with_reducible rfl
              rotate_left
              ·simp only [Act.put,lS0,lS1,lS2,i64_w,i32_w]
               rfl
              refine pure_ (i:=6) (N:=some 66) (v:=?_) (a':=?_) #[true,true,true,true,false,false,true,false,false,false,false,false,false,false,false,false,false,false] rfl rfl (any_of HT_.out (by kernel_rfl)) (fun _ _ _ h => h) (Or.inl ⟨by rfl,?_⟩) ?_ ?_
              rotate_left
              ·intro w'
               go_simp
               with_reducible rfl
              rotate_left
              ·simp only [Act.put,lS0,lS1,lS2,i64_w,i32_w]
               rfl
              refine pure_ (i:=7) (N:=some 67) (v:=?_) (a':=?_) #[true,true,true,true,false,false,true,true,false,false,false,false,false,false,false,false,false,false] rfl rfl (any_of HT_.out (by kernel_rfl)) (fun _ _ _ h => h) (Or.inl ⟨by rfl,?_⟩) ?_ ?_
              rotate_left
              ·intro w'
               go_simp
               with_reducible rfl
              rotate_left
              ·simp only [Act.put,lS0,lS1,lS2,i64_w,i32_w]
               rfl
              refine pure_ (i:=8) (N:=some 68) (v:=?_) (a':=?_) #[true,true,true,true,false,false,true,true,true,false,false,false,false,false,false,false,false,false] rfl rfl (any_of HT_.out (by kernel_rfl)) (fun _ _ _ h => h) (Or.inl ⟨by rfl,?_⟩) ?_ ?_
              rotate_left
              ·intro w'
               go_simp
               with_reducible rfl
              rotate_left
              ·simp only [Act.put,lS0,lS1,lS2,i64_w,i32_w]
               rfl
              refine pure_ (i:=9) (N:=some 69) (v:=?_) (a':=?_) #[true,true,true,true,false,false,true,true,true,true,false,false,false,false,false,false,false,false] rfl rfl (any_of HT_.out (by kernel_rfl)) (fun _ _ _ h => h) (Or.inl ⟨by rfl,?_⟩) ?_ ?_
              rotate_left
              ·intro w'
               go_simp
               with_reducible rfl
              rotate_left
              ·simp only [Act.put,lS0,lS1,lS2,i64_w,i32_w]
               rfl
              refine join_ (σ:=Value × Value × Nat) 2 #[true,true,true,true,true,true,true,true,true,true,true,true,true,true,true,true,false,false] (fun s_ => [(64,s_.1),(65,.string (strOfNums y515)),(71,.tuple #[.agg #[.int .i64 t518,.int .i64 t519,.int .i64 t520,s_.2.1],.int .i64 t524]),(12,.pointer (some ⟨s_.2.2,0,none⟩)),(70,.string ((strOfNums y515) ++ (x9_5.extract 0 ((ji28) : Int).toNat))),(59,.tuple #[.agg #[.int .i64 t518,.int .i64 t519,.int .i64 t520,s_.2.1],.int .i64 t524]),(72,.agg #[.int .i64 t518,.int .i64 t519,.int .i64 t520,s_.2.1]),(73,.int .i64 t524)]) (fun s_ w' => (Kd.R (Kd.int .u8) 5 w' w.heap.size (fun _ => True) s_.1 y515) ∧ (Kd.R k46 46 w' w.heap.size (fun k_ => some k_ ≠ (.slice Ao20 t508.length co20 : Value).ownBlock) s_.2.1 t521) ∧ (Kd.R k46 46 w' w.heap.size (fun k_ => some k_ ≠ (s_.2.1 : Value).ownBlock) (.slice Ao20 t508.length co20) t508) ∧ (w'.heap[gb512]? = some (.cells #[.int .i64 t505,.int .i64 t506,.int .i64 t507,.slice Ao20 t508.length co20] 56 (0,0))) ∧ (w'.heap[s_.2.2]? = some (.cells #[.int .i64 0,.int .i64 0,.int .i64 0,.slice none 0 0] 56 (0,0))) ∧ (w.heap.size ≤ s_.2.2) ∧ (w.heap.size ≤ s_.2.2) ∧ (gb512 ≠ s_.2.2) ∧ (s_.2.2 ≠ gb512) ∧ (Below w.heap.size w w')) ?_ ?_
              rotate_left
              ·intro hCont
               refine two_ (i:=4) (j:=15) (Ni:=some 64) (Nj:=some 12) #[true,true,true,true,true,false,true,true,true,true,false,false,false,false,false,false,false,false] #[true,true,true,true,false,false,true,true,true,true,false,false,false,false,false,true,false,false] rfl rfl rfl rfl (two_of HT_.out (by kernel_rfl)) (by decide) (by decide) (fun K hK => ?_) (fun K hK => ?_)
               ·skip
                refine Kd.R_lit_step (Kd.int .u8) _ 5 ?hg (N:=64) ?hd (xs:=([((wrap64 (1 + (wrap64 (2 * (wrap64 (Int.tmod (IntKind.u64.wrap (a0)) 4))))))) % 256,3,0,((Go.bits .and .i64 a1 63)) % 256] : List Int)) (inner:=[.int .u8 (((wrap64 (1 + (wrap64 (2 * (wrap64 (Int.tmod (IntKind.u64.wrap (a0)) 4))))))) % 256),.int .u8 3,.int .u8 0,.int .u8 (((Go.bits .and .i64 a1 63)) % 256)]) (ok:=fun _ => True) (okp:=fun _ => True) ?hr ?hp (fun _ hk => hk) trivial (Below.refl _ _) (Nat.le_refl _) (by simp) ?_;(case hd => rfl);(case hg => rfl);(case hr => first|(go_simp;done)|(go_simp;rfl));(case hp => exact (Reps.one (show Kd.M (Kd.int .u8) _ _ _ (((wrap64 (1 + (wrap64 (2 * (wrap64 (Int.tmod (IntKind.u64.wrap (a0)) 4))))))) % 256) [.int .u8 (((wrap64 (1 + (wrap64 (2 * (wrap64 (Int.tmod (IntKind.u64.wrap (a0)) 4))))))) % 256)] from rfl) (Reps.one (show Kd.M (Kd.int .u8) _ _ _ 3 [.int .u8 3] from rfl) (Reps.one (show Kd.M (Kd.int .u8) _ _ _ 0 [.int .u8 0] from rfl) (Reps.one (show Kd.M (Kd.int .u8) _ _ _ (((Go.bits .and .i64 a1 63)) % 256) [.int .u8 (((Go.bits .and .i64 a1 63)) % 256)] from rfl) (Reps.none _ _))))))
                intro v516 w41 ho42 hb hg_ hnew_
                clear hg_ hnew_
                (first|rw [← Ny515.out] at ho42|(simp only [Int.reduceToNat] at ho42;rw [← Ny515.out] at ho42))
                have n0_:=Aside0.mk (Kd.R_below (by (with_reducible repeat (first|apply kR1|apply kR2|apply kR3));exact HO_513003.out) hb)
                have n1_:=Aside0.mk (Kd.R_lower ho42 (below_size (by repeat (first|(with_reducible first|exact HB.out|apply pB3|apply pB1|apply pB2|refine below_set ?_ GE512.out)|exact HB.out))))
                have n2_:=Aside0.mk (blk_below (g:=gb512) (o:=.cells #[.int .i64 t505,.int .i64 t506,.int .i64 t507,.slice Ao20 t508.length co20] 56 (0,0)) (by (with_reducible repeat (first|refine bD1 ?_ _|refine bD2 ?_|refine bD3 ?_ _));exact BK512.out) hb)
                have n3_:=Aside0.mk (below_step (by repeat (first|(with_reducible first|exact HB.out|apply pB3|apply pB1|apply pB2|refine below_set ?_ GE512.out)|exact HB.out)) hb)
                clear HO_513003
                clear BK512
                clear HB
                have HO_513003:=n0_
                have HO517:=n1_
                have BK512:=n2_
                have HB:=n3_
                clear n0_ n1_ n2_ n3_
                clear hb ho42
                refine hK.out _ _ trivial (fun hHeld => ?_)
                clear hK K
                refine norm_ (a':=?_) ?_ ?_
                rotate_left
                ·show Act.put _ (some 64) _ = _
                 simp only [Act.put,lS0,lS1,lS2,i64_w,i32_w]
                 rfl
                refine two_ (i:=5) (j:=15) (Ni:=some 65) (Nj:=some 12) #[true,true,true,true,true,true,true,true,true,true,false,false,false,false,false,false,false,false] #[true,true,true,true,true,false,true,true,true,true,false,false,false,false,false,true,false,false] rfl rfl rfl rfl (two_of HT_.out (by kernel_rfl)) (by decide) (by decide) (fun K hK => ?_) (fun K hK => ?_)
                ·skip
                 have hcv43:=own_string (P:=Try.prog) Try.underlying61 Try.underlying5 Try.underlying9 (Kd.own_of_R HO517.out)
                 refine value_ (w1:=?_) (v:=?_) (by rfl) rfl ?_ ?_
                 rotate_left 2
                 ·go_simp
                  constructor
                  ·rfl
                  ·rfl
                 clear hcv43
                 refine hK.out _ _ trivial (fun hHeld => ?_)
                 clear hK K
                 refine norm_ (a':=?_) ?_ ?_
                 rotate_left
                 ·show Act.put _ (some 65) _ = _
                  simp only [Act.put,lS0,lS1,lS2,i64_w,i32_w]
                  rfl
                 refine pure_ (i:=10) (N:=some 70) (v:=?_) (a':=?_) #[true,true,true,true,true,true,true,true,true,true,true,false,false,false,false,false,false,false] rfl rfl (any_of HT_.out (by kernel_rfl)) (fun _ _ _ h => h) (Or.inl ⟨by rfl,?_⟩) ?_ ?_
                 rotate_left
                 ·intro w'
                  go_simp
                  with_reducible rfl
                 rotate_left
                 ·simp only [Act.put,lS0,lS1,lS2,i64_w,i32_w]
                  rfl
                 refine two_ (i:=11) (j:=15) (Ni:=some 71) (Nj:=some 12) #[true,true,true,true,true,true,true,true,true,true,true,true,false,false,false,false,false,false] #[true,true,true,true,true,true,true,true,true,true,true,false,false,false,false,true,false,false] rfl rfl rfl rfl (two_of HT_.out (by kernel_rfl)) (by decide) (by decide) (fun K hK => ?_) (fun K hK => ?_)
                 ·skip
                  refine goes_ Try.func55 (by kernel_rfl) rfl #[.string ((strOfNums y515) ++ (x9_5.extract 0 ((ji28) : Int).toNat))] (by rfl) rfl rfl (by (try simp only [List.map_toArray,List.map_cons,List.map_nil]);first|done|(simp only [hji28];rfl)|rfl|(simp only [List.length_drop,List.length_take];rfl)) ?_
                  with_reducible refine (bapmsg_Get.calls kj12 ((strOfNums y515) ++ (x9_5.extract 0 ((ji28) : Int).toNat)) t518 t519 t520 t521 t524 _ A32.out).mono ?_
                  rintro e w44 ⟨v522,rfl,ho0,hb⟩
                  refine ⟨_,rfl,?_⟩
                  have n0_:=Aside0.mk (Kd.R_elder' (by (with_reducible repeat (first|apply kR1|apply kR2|apply kR3));exact HO_513003.out) (Kd.R_base ho0) hb)
                  have n1_:=Aside0.mk (Kd.R_below (by (with_reducible repeat (first|apply kR1|apply kR2|apply kR3));exact HO517.out) hb)
                  have n2_:=Aside0.mk (Kd.R_lower (Kd.R_new' ho0 (Kd.R_lt (by (with_reducible repeat (first|apply kR1|apply kR2|apply kR3));exact HO_513003.out))) (below_size (by repeat (first|(with_reducible first|exact HB.out|apply pB3|apply pB1|apply pB2|refine below_set ?_ GE512.out)|exact HB.out))))
                  have n3_:=Aside0.mk (blk_below (g:=gb512) (o:=.cells #[.int .i64 t505,.int .i64 t506,.int .i64 t507,.slice Ao20 t508.length co20] 56 (0,0)) (by (with_reducible repeat (first|refine bD1 ?_ _|refine bD2 ?_|refine bD3 ?_ _));exact BK512.out) hb)
                  have n4_:=Aside0.mk (below_step (by repeat (first|(with_reducible first|exact HB.out|apply pB3|apply pB1|apply pB2|refine below_set ?_ GE512.out)|exact HB.out)) hb)
                  clear HO_513003
                  clear HO517
                  clear BK512
                  clear HB
                  have HO_513003:=n0_
                  have HO517:=n1_
                  have HO523:=n2_
                  have BK512:=n3_
                  have HB:=n4_
                  clear n0_ n1_ n2_ n3_ n4_
                  (try clear hb)
                  (try clear hb2)
                  (try clear hk)
                  (try clear hi)
                  (try clear ho0)
                  refine hK.out _ _ trivial (fun hHeld => ?_)
                  clear hK K
                  refine norm_ (a':=?_) ?_ ?_
                  rotate_left
                  ·show Act.put _ (some 71) _ = _
                   simp only [Act.put,lS0,lS1,lS2,i64_w,i32_w]
                   rfl
                  refine pure_ (i:=12) (N:=some 59) (v:=?_) (a':=?_) #[true,true,true,true,true,true,true,true,true,true,true,true,true,false,false,false,false,false] rfl rfl (any_of HT_.out (by kernel_rfl)) (fun _ _ _ h => h) (Or.inl ⟨by rfl,?_⟩) ?_ ?_
                  rotate_left
                  ·intro w'
                   go_simp
                   with_reducible rfl
                  rotate_left
                  ·simp only [Act.put,lS0,lS1,lS2,i64_w,i32_w]
                   rfl
                  refine pure_ (i:=13) (N:=some 72) (v:=?_) (a':=?_) #[true,true,true,true,true,true,true,true,true,true,true,true,true,true,false,false,false,false] rfl rfl (any_of HT_.out (by kernel_rfl)) (fun _ _ _ h => h) (Or.inl ⟨by rfl,?_⟩) ?_ ?_
                  rotate_left
                  ·intro w'
                   go_simp
                   with_reducible rfl
                  rotate_left
                  ·simp only [Act.put,lS0,lS1,lS2,i64_w,i32_w]
                   rfl
                  refine pure_ (i:=14) (N:=some 73) (v:=?_) (a':=?_) #[true,true,true,true,true,true,true,true,true,true,true,true,true,true,true,false,false,false] rfl rfl (any_of HT_.out (by kernel_rfl)) (fun _ _ _ h => h) (Or.inl ⟨by rfl,?_⟩) ?_ ?_
                  rotate_left
                  ·intro w'
                   go_simp
                   with_reducible rfl
                  rotate_left
                  ·simp only [Act.put,lS0,lS1,lS2,i64_w,i32_w]
                   rfl
                  refine one_ (i:=15) (N:=some 12) #[true,true,true,true,true,true,true,true,true,true,true,true,true,true,true,true,false,false] rfl rfl (one_of HT_.out (by kernel_rfl)) (by decide) (fun K hK => ?_)
                  refine box_step ?hg (N:=12) ?hd (cs:=#[.int .i64 0,.int .i64 0,.int .i64 0,.slice none 0 0]) (t:=56) ?hr ?_;(case hd => rfl);(case hg => rfl);(case hr => first|(go_simp;done)|(go_simp;rfl))
                  intro gb525 hg w45 hbox hb
                  have n0_:=Aside0.mk (Kd.R_below (by (with_reducible repeat (first|apply kR1|apply kR2|apply kR3));exact HO_513003.out) hb)
                  have n1_:=Aside0.mk (Kd.R_below (by (with_reducible repeat (first|apply kR1|apply kR2|apply kR3));exact HO517.out) hb)
                  have n2_:=Aside0.mk (Kd.R_below (by (with_reducible repeat (first|apply kR1|apply kR2|apply kR3));exact HO523.out) hb)
                  have n3_:=Aside0.mk (blk_below (g:=gb512) (o:=.cells #[.int .i64 t505,.int .i64 t506,.int .i64 t507,.slice Ao20 t508.length co20] 56 (0,0)) (by (with_reducible repeat (first|refine bD1 ?_ _|refine bD2 ?_|refine bD3 ?_ _));exact BK512.out) hb)
                  have n4_:=Aside0.mk (below_step (by repeat (first|(with_reducible first|exact HB.out|apply pB3|apply pB1|apply pB2|refine below_set ?_ GE512.out)|exact HB.out)) hb)
                  have n5_:=Aside0.mk (hbox)
                  have n6_:=Aside0.mk ((by rw [hg];exact (below_size (by repeat (first|(with_reducible first|exact HB.out|apply pB3|apply pB1|apply pB2|refine below_set ?_ GE512.out)|exact HB.out))) : w.heap.size ≤ gb525))
                  have n7_:=Aside0.mk ((by rw [hg];exact (below_size (by repeat (first|(with_reducible first|exact HB.out|apply pB3|apply pB1|apply pB2|refine below_set ?_ GE512.out)|exact HB.out))) : w.heap.size ≤ gb525))
                  have n8_:=Aside0.mk ((by rw [hg];exact Nat.ne_of_lt (blk_lt (g:=gb512) (o:=.cells #[.int .i64 t505,.int .i64 t506,.int .i64 t507,.slice Ao20 t508.length co20] 56 (0,0)) (by (with_reducible repeat (first|refine bD1 ?_ _|refine bD2 ?_|refine bD3 ?_ _));exact BK512.out)) : gb512 ≠ gb525))
                  have n9_:=Aside0.mk ((by rw [hg];exact Nat.ne_of_gt (blk_lt (g:=gb512) (o:=.cells #[.int .i64 t505,.int .i64 t506,.int .i64 t507,.slice Ao20 t508.length co20] 56 (0,0)) (by (with_reducible repeat (first|refine bD1 ?_ _|refine bD2 ?_|refine bD3 ?_ _));exact BK512.out)) : gb525 ≠ gb512))
                  clear HO_513003
                  clear HO517
                  clear HO523
                  clear BK512
                  clear HB
                  have HO_513003:=n0_
                  have HO517:=n1_
                  have HO523:=n2_
                  have BK512:=n3_
                  have HB:=n4_
                  have BK525:=n5_
                  have GW525:=n6_
                  have GE525:=n7_
                  have NB512_525:=n8_
                  have NB525_512:=n9_
                  clear n0_ n1_ n2_ n3_ n4_ n5_ n6_ n7_ n8_ n9_
                  clear hb hbox hg
                  refine hK.out _ _ trivial (fun hHeld => ?_)
                  clear hK K
                  refine norm_ (a':=?_) ?_ ?_
                  rotate_left
                  ·show Act.put _ (some 12) _ = _
                   simp only [Act.put,lS0,lS1,lS2,i64_w,i32_w]
                   rfl
                  exact norm_ (by simp only [putAll,Act.put,lS0,lS1,lS2]) (hCont (v516,v522,gb525) _ ⟨(by (with_reducible repeat (first|apply kR1|apply kR2|apply kR3));exact HO517.out),(by (with_reducible repeat (first|apply kR1|apply kR2|apply kR3));exact Kd.R_mono HO523.out (fun _ hk => hk.2)),(by (with_reducible repeat (first|apply kR1|apply kR2|apply kR3));exact Kd.R_mono HO_513003.out (fun _ hk => hk.2)),(by (with_reducible repeat (first|refine bD1 ?_ _|refine bD2 ?_|refine bD3 ?_ _));exact BK512.out),(by (with_reducible repeat (first|refine bD1 ?_ _|refine bD2 ?_|refine bD3 ?_ _));exact BK525.out),GW525.out,GE525.out,NB512_525.out,NB525_512.out,(by repeat (first|(with_reducible first|exact HB.out|apply pB3|apply pB1|apply pB2|refine below_set ?_ GE512.out|refine below_set ?_ GE525.out)|exact HB.out))⟩)
                 ·skip
                  refine box_step ?hg (N:=12) ?hd (cs:=#[.int .i64 0,.int .i64 0,.int .i64 0,.slice none 0 0]) (t:=56) ?hr ?_;(case hd => rfl);(case hg => rfl);(case hr => first|(go_simp;done)|(go_simp;rfl))
                  intro gb525 hg w44 hbox hb
                  have n0_:=Aside0.mk (Kd.R_below (by (with_reducible repeat (first|apply kR1|apply kR2|apply kR3));exact HO_513003.out) hb)
                  have n1_:=Aside0.mk (Kd.R_below (by (with_reducible repeat (first|apply kR1|apply kR2|apply kR3));exact HO517.out) hb)
                  have n2_:=Aside0.mk (blk_below (g:=gb512) (o:=.cells #[.int .i64 t505,.int .i64 t506,.int .i64 t507,.slice Ao20 t508.length co20] 56 (0,0)) (by (with_reducible repeat (first|refine bD1 ?_ _|refine bD2 ?_|refine bD3 ?_ _));exact BK512.out) hb)
                  have n3_:=Aside0.mk (below_step (by repeat (first|(with_reducible first|exact HB.out|apply pB3|apply pB1|apply pB2|refine below_set ?_ GE512.out)|exact HB.out)) hb)
                  have n4_:=Aside0.mk (hbox)
                  have n5_:=Aside0.mk ((by rw [hg];exact (below_size (by repeat (first|(with_reducible first|exact HB.out|apply pB3|apply pB1|apply pB2|refine below_set ?_ GE512.out)|exact HB.out))) : w.heap.size ≤ gb525))
                  have n6_:=Aside0.mk ((by rw [hg];exact (below_size (by repeat (first|(with_reducible first|exact HB.out|apply pB3|apply pB1|apply pB2|refine below_set ?_ GE512.out)|exact HB.out))) : w.heap.size ≤ gb525))
                  have n7_:=Aside0.mk ((by rw [hg];exact Nat.ne_of_lt (blk_lt (g:=gb512) (o:=.cells #[.int .i64 t505,.int .i64 t506,.int .i64 t507,.slice Ao20 t508.length co20] 56 (0,0)) (by (with_reducible repeat (first|refine bD1 ?_ _|refine bD2 ?_|refine bD3 ?_ _));exact BK512.out)) : gb512 ≠ gb525))
                  have n8_:=Aside0.mk ((by rw [hg];exact Nat.ne_of_gt (blk_lt (g:=gb512) (o:=.cells #[.int .i64 t505,.int .i64 t506,.int .i64 t507,.slice Ao20 t508.length co20] 56 (0,0)) (by (with_reducible repeat (first|refine bD1 ?_ _|refine bD2 ?_|refine bD3 ?_ _));exact BK512.out)) : gb525 ≠ gb512))
                  clear HO_513003
                  clear HO517
                  clear BK512
                  clear HB
                  have HO_513003:=n0_
                  have HO517:=n1_
                  have BK512:=n2_
                  have HB:=n3_
                  have BK525:=n4_
                  have GW525:=n5_
                  have GE525:=n6_
                  have NB512_525:=n7_
                  have NB525_512:=n8_
                  clear n0_ n1_ n2_ n3_ n4_ n5_ n6_ n7_ n8_
                  clear hb hbox hg
                  refine hK.out _ _ trivial (fun hHeld => ?_)
                  clear hK K
                  refine norm_ (a':=?_) ?_ ?_
                  rotate_left
                  ·show Act.put _ (some 12) _ = _
                   simp only [Act.put,lS0,lS1,lS2,i64_w,i32_w]
                   rfl
                  refine one_ (i:=11) (N:=some 71) #[true,true,true,true,true,true,true,true,true,true,true,true,false,false,false,true,false,false] rfl rfl (one_of HT_.out (by kernel_rfl)) (by decide) (fun K hK => ?_)
                  refine goes_ Try.func55 (by kernel_rfl) rfl #[.string ((strOfNums y515) ++ (x9_5.extract 0 ((ji28) : Int).toNat))] (by rfl) rfl rfl (by (try simp only [List.map_toArray,List.map_cons,List.map_nil]);first|done|(simp only [hji28];rfl)|rfl|(simp only [List.length_drop,List.length_take];rfl)) ?_
                  with_reducible refine (bapmsg_Get.calls kj12 ((strOfNums y515) ++ (x9_5.extract 0 ((ji28) : Int).toNat)) t518 t519 t520 t521 t524 _ A32.out).mono ?_
                  rintro e w45 ⟨v522,rfl,ho0,hb⟩
                  refine ⟨_,rfl,?_⟩
                  have n0_:=Aside0.mk (Kd.R_elder' (by (with_reducible repeat (first|apply kR1|apply kR2|apply kR3));exact HO_513003.out) (Kd.R_base ho0) hb)
                  have n1_:=Aside0.mk (Kd.R_below (by (with_reducible repeat (first|apply kR1|apply kR2|apply kR3));exact HO517.out) hb)
                  have n2_:=Aside0.mk (Kd.R_lower (Kd.R_new' ho0 (Kd.R_lt (by (with_reducible repeat (first|apply kR1|apply kR2|apply kR3));exact HO_513003.out))) (below_size (by repeat (first|(with_reducible first|exact HB.out|apply pB3|apply pB1|apply pB2|refine below_set ?_ GE512.out|refine below_set ?_ GE525.out)|exact HB.out))))
                  have n3_:=Aside0.mk (blk_below (g:=gb512) (o:=.cells #[.int .i64 t505,.int .i64 t506,.int .i64 t507,.slice Ao20 t508.length co20] 56 (0,0)) (by (with_reducible repeat (first|refine bD1 ?_ _|refine bD2 ?_|refine bD3 ?_ _));exact BK512.out) hb)
                  have n4_:=Aside0.mk (blk_below (g:=gb525) (o:=.cells #[.int .i64 0,.int .i64 0,.int .i64 0,.slice none 0 0] 56 (0,0)) (by (with_reducible repeat (first|refine bD1 ?_ _|refine bD2 ?_|refine bD3 ?_ _));exact BK525.out) hb)
                  have n5_:=Aside0.mk (below_step (by repeat (first|(with_reducible first|exact HB.out|apply pB3|apply pB1|apply pB2|refine below_set ?_ GE512.out|refine below_set ?_ GE525.out)|exact HB.out)) hb)
                  clear HO_513003
                  clear HO517
                  clear BK512
                  clear BK525
                  clear HB
                  have HO_513003:=n0_
                  have HO517:=n1_
                  have HO523:=n2_
                  have BK512:=n3_
                  have BK525:=n4_
                  have HB:=n5_
                  clear n0_ n1_ n2_ n3_ n4_ n5_
                  (try clear hb)
                  (try clear hb2)
                  (try clear hk)
                  (try clear hi)
                  (try clear ho0)
                  refine hK.out _ _ trivial (fun hHeld => ?_)
                  clear hK K
                  refine norm_ (a':=?_) ?_ ?_
                  rotate_left
                  ·show Act.put _ (some 71) _ = _
                   simp only [Act.put,lS0,lS1,lS2,i64_w,i32_w]
                   rfl
                  refine pure_ (i:=12) (N:=some 59) (v:=?_) (a':=?_) #[true,true,true,true,true,true,true,true,true,true,true,true,true,false,false,true,false,false] rfl rfl (any_of HT_.out (by kernel_rfl)) (fun _ _ _ h => h) (Or.inl ⟨by rfl,?_⟩) ?_ ?_
                  rotate_left
                  ·intro w'
                   go_simp
                   with_reducible rfl
                  rotate_left
                  ·simp only [Act.put,lS0,lS1,lS2,i64_w,i32_w]
                   rfl
                  refine pure_ (i:=13) (N:=some 72) (v:=?_) (a':=?_) #[true,true,true,true,true,true,true,true,true,true,true,true,true,true,false,true,false,false] rfl rfl (any_of HT_.out (by kernel_rfl)) (fun _ _ _ h => h) (Or.inl ⟨by rfl,?_⟩) ?_ ?_
                  rotate_left
                  ·intro w'
                   go_simp
                   with_reducible rfl
                  rotate_left
                  ·simp only [Act.put,lS0,lS1,lS2,i64_w,i32_w]
                   rfl
                  refine pure_ (i:=14) (N:=some 73) (v:=?_) (a':=?_) #[true,true,true,true,true,true,true,true,true,true,true,true,true,true,true,true,false,false] rfl rfl (any_of HT_.out (by kernel_rfl)) (fun _ _ _ h => h) (Or.inl ⟨by rfl,?_⟩) ?_ ?_
                  rotate_left
                  ·intro w'
                   go_simp
                   with_reducible rfl
                  rotate_left
                  ·simp only [Act.put,lS0,lS1,lS2,i64_w,i32_w]
                   rfl
                  exact norm_ (by simp only [putAll,Act.put,lS0,lS1,lS2]) (hCont (v516,v522,gb525) _ ⟨(by (with_reducible repeat (first|apply kR1|apply kR2|apply kR3));exact HO517.out),(by (with_reducible repeat (first|apply kR1|apply kR2|apply kR3));exact Kd.R_mono HO523.out (fun _ hk => hk.2)),(by (with_reducible repeat (first|apply kR1|apply kR2|apply kR3));exact Kd.R_mono HO_513003.out (fun _ hk => hk.2)),(by (with_reducible repeat (first|refine bD1 ?_ _|refine bD2 ?_|refine bD3 ?_ _));exact BK512.out),(by (with_reducible repeat (first|refine bD1 ?_ _|refine bD2 ?_|refine bD3 ?_ _));exact BK525.out),GW525.out,GE525.out,NB512_525.out,NB525_512.out,(by repeat (first|(with_reducible first|exact HB.out|apply pB3|apply pB1|apply pB2|refine below_set ?_ GE512.out|refine below_set ?_ GE525.out)|exact HB.out))⟩)
                ·skip
                 refine box_step ?hg (N:=12) ?hd (cs:=#[.int .i64 0,.int .i64 0,.int .i64 0,.slice none 0 0]) (t:=56) ?hr ?_;(case hd => rfl);(case hg => rfl);(case hr => first|(go_simp;done)|(go_simp;rfl))
                 intro gb525 hg w43 hbox hb
                 have n0_:=Aside0.mk (Kd.R_below (by (with_reducible repeat (first|apply kR1|apply kR2|apply kR3));exact HO_513003.out) hb)
                 have n1_:=Aside0.mk (Kd.R_below (by (with_reducible repeat (first|apply kR1|apply kR2|apply kR3));exact HO517.out) hb)
                 have n2_:=Aside0.mk (blk_below (g:=gb512) (o:=.cells #[.int .i64 t505,.int .i64 t506,.int .i64 t507,.slice Ao20 t508.length co20] 56 (0,0)) (by (with_reducible repeat (first|refine bD1 ?_ _|refine bD2 ?_|refine bD3 ?_ _));exact BK512.out) hb)
                 have n3_:=Aside0.mk (below_step (by repeat (first|(with_reducible first|exact HB.out|apply pB3|apply pB1|apply pB2|refine below_set ?_ GE512.out)|exact HB.out)) hb)
                 have n4_:=Aside0.mk (hbox)
                 have n5_:=Aside0.mk ((by rw [hg];exact (below_size (by repeat (first|(with_reducible first|exact HB.out|apply pB3|apply pB1|apply pB2|refine below_set ?_ GE512.out)|exact HB.out))) : w.heap.size ≤ gb525))
                 have n6_:=Aside0.mk ((by rw [hg];exact (below_size (by repeat (first|(with_reducible first|exact HB.out|apply pB3|apply pB1|apply pB2|refine below_set ?_ GE512.out)|exact HB.out))) : w.heap.size ≤ gb525))
                 have n7_:=Aside0.mk ((by rw [hg];exact Nat.ne_of_lt (blk_lt (g:=gb512) (o:=.cells #[.int .i64 t505,.int .i64 t506,.int .i64 t507,.slice Ao20 t508.length co20] 56 (0,0)) (by (with_reducible repeat (first|refine bD1 ?_ _|refine bD2 ?_|refine bD3 ?_ _));exact BK512.out)) : gb512 ≠ gb525))
                 have n8_:=Aside0.mk ((by rw [hg];exact Nat.ne_of_gt (blk_lt (g:=gb512) (o:=.cells #[.int .i64 t505,.int .i64 t506,.int .i64 t507,.slice Ao20 t508.length co20] 56 (0,0)) (by (with_reducible repeat (first|refine bD1 ?_ _|refine bD2 ?_|refine bD3 ?_ _));exact BK512.out)) : gb525 ≠ gb512))
                 clear HO_513003
                 clear HO517
                 clear BK512
                 clear HB
                 have HO_513003:=n0_
                 have HO517:=n1_
                 have BK512:=n2_
                 have HB:=n3_
                 have BK525:=n4_
                 have GW525:=n5_
                 have GE525:=n6_
                 have NB512_525:=n7_
                 have NB525_512:=n8_
                 clear n0_ n1_ n2_ n3_ n4_ n5_ n6_ n7_ n8_
                 clear hb hbox hg
                 refine hK.out _ _ trivial (fun hHeld => ?_)
                 clear hK K
                 refine norm_ (a':=?_) ?_ ?_
                 rotate_left
                 ·show Act.put _ (some 12) _ = _
                  simp only [Act.put,lS0,lS1,lS2,i64_w,i32_w]
                  rfl
                 refine one_ (i:=5) (N:=some 65) #[true,true,true,true,true,true,true,true,true,true,false,false,false,false,false,true,false,false] rfl rfl (one_of HT_.out (by kernel_rfl)) (by decide) (fun K hK => ?_)
                 have hcv44:=own_string (P:=Try.prog) Try.underlying61 Try.underlying5 Try.underlying9 (Kd.own_of_R HO517.out)
                 refine value_ (w1:=?_) (v:=?_) (by rfl) rfl ?_ ?_
                 rotate_left 2
                 ·go_simp
                  constructor
                  ·rfl
                  ·rfl
                 clear hcv44
                 refine hK.out _ _ trivial (fun hHeld => ?_)
                 clear hK K
                 refine norm_ (a':=?_) ?_ ?_
                 rotate_left
                 ·show Act.put _ (some 65) _ = _
                  simp only [Act.put,lS0,lS1,lS2,i64_w,i32_w]
                  rfl
                 refine pure_ (i:=10) (N:=some 70) (v:=?_) (a':=?_) #[true,true,true,true,true,true,true,true,true,true,true,false,false,false,false,true,false,false] rfl rfl (any_of HT_.out (by kernel_rfl)) (fun _ _ _ h => h) (Or.inl ⟨by rfl,?_⟩) ?_ ?_
                 rotate_left
                 ·intro w'
                  go_simp
                  with_reducible rfl
                 rotate_left
                 ·simp only [Act.put,lS0,lS1,lS2,i64_w,i32_w]
                  rfl
                 refine one_ (i:=11) (N:=some 71) #[true,true,true,true,true,true,true,true,true,true,true,true,false,false,false,true,false,false] rfl rfl (one_of HT_.out (by kernel_rfl)) (by decide) (fun K hK => ?_)
                 refine goes_ Try.func55 (by kernel_rfl) rfl #[.string ((strOfNums y515) ++ (x9_5.extract 0 ((ji28) : Int).toNat))] (by rfl) rfl rfl (by (try simp only [List.map_toArray,List.map_cons,List.map_nil]);first|done|(simp only [hji28];rfl)|rfl|(simp only [List.length_drop,List.length_take];rfl)) ?_
                 with_reducible refine (bapmsg_Get.calls kj12 ((strOfNums y515) ++ (x9_5.extract 0 ((ji28) : Int).toNat)) t518 t519 t520 t521 t524 _ A32.out).mono ?_
                 rintro e w45 ⟨v522,rfl,ho0,hb⟩
                 refine ⟨_,rfl,?_⟩
                 have n0_:=Aside0.mk (Kd.R_elder' (by (with_reducible repeat (first|apply kR1|apply kR2|apply kR3));exact HO_513003.out) (Kd.R_base ho0) hb)
                 have n1_:=Aside0.mk (Kd.R_below (by (with_reducible repeat (first|apply kR1|apply kR2|apply kR3));exact HO517.out) hb)
                 have n2_:=Aside0.mk (Kd.R_lower (Kd.R_new' ho0 (Kd.R_lt (by (with_reducible repeat (first|apply kR1|apply kR2|apply kR3));exact HO_513003.out))) (below_size (by repeat (first|(with_reducible first|exact HB.out|apply pB3|apply pB1|apply pB2|refine below_set ?_ GE512.out|refine below_set ?_ GE525.out)|exact HB.out))))
                 have n3_:=Aside0.mk (blk_below (g:=gb512) (o:=.cells #[.int .i64 t505,.int .i64 t506,.int .i64 t507,.slice Ao20 t508.length co20] 56 (0,0)) (by (with_reducible repeat (first|refine bD1 ?_ _|refine bD2 ?_|refine bD3 ?_ _));exact BK512.out) hb)
                 have n4_:=Aside0.mk (blk_below (g:=gb525) (o:=.cells #[.int .i64 0,.int .i64 0,.int .i64 0,.slice none 0 0] 56 (0,0)) (by (with_reducible repeat (first|refine bD1 ?_ _|refine bD2 ?_|refine bD3 ?_ _));exact BK525.out) hb)
                 have n5_:=Aside0.mk (below_step (by repeat (first|(with_reducible first|exact HB.out|apply pB3|apply pB1|apply pB2|refine below_set ?_ GE512.out|refine below_set ?_ GE525.out)|exact HB.out)) hb)
                 clear HO_513003
                 clear HO517
                 clear BK512
                 clear BK525
                 clear HB
                 have HO_513003:=n0_
                 have HO517:=n1_
                 have HO523:=n2_
                 have BK512:=n3_
                 have BK525:=n4_
                 have HB:=n5_
                 clear n0_ n1_ n2_ n3_ n4_ n5_
                 (try clear hb)
                 (try clear hb2)
                 (try clear hk)
                 (try clear hi)
                 (try clear ho0)
                 refine hK.out _ _ trivial (fun hHeld => ?_)
                 clear hK K
                 refine norm_ (a':=?_) ?_ ?_
                 rotate_left
                 ·show Act.put _ (some 71) _ = _
                  simp only [Act.put,lS0,lS1,lS2,i64_w,i32_w]
                  rfl
                 refine pure_ (i:=12) (N:=some 59) (v:=?_) (a':=?_) #[true,true,true,true,true,true,true,true,true,true,true,true,true,false,false,true,false,false] rfl rfl (any_of HT_.out (by kernel_rfl)) (fun _ _ _ h => h) (Or.inl ⟨by rfl,?_⟩) ?_ ?_
                 rotate_left
                 ·intro w'
                  go_simp
                  with_reducible rfl
                 rotate_left
                 ·simp only [Act.put,lS0,lS1,lS2,i64_w,i32_w]
                  rfl
                 refine pure_ (i:=13) (N:=some 72) (v:=?_) (a':=?_) #[true,true,true,true,true,true,true,true,true,true,true,true,true,true,false,true,false,false] rfl rfl (any_of HT_.out (by kernel_rfl)) (fun _ _ _ h => h) (Or.inl ⟨by rfl,?_⟩) ?_ ?_
                 rotate_left
                 ·intro w'
                  go_simp
                  with_reducible rfl
                 rotate_left
                 ·simp only [Act.put,lS0,lS1,lS2,i64_w,i32_w]
                  rfl
                 refine pure_ (i:=14) (N:=some 73) (v:=?_) (a':=?_) #[true,true,true,true,true,true,true,true,true,true,true,true,true,true,true,true,false,false] rfl rfl (any_of HT_.out (by kernel_rfl)) (fun _ _ _ h => h) (Or.inl ⟨by rfl,?_⟩) ?_ ?_
                 rotate_left
                 ·intro w'
                  go_simp
                  with_reducible rfl
                 rotate_left
                 ·simp only [Act.put,lS0,lS1,lS2,i64_w,i32_w]
                  rfl
                 exact norm_ (by simp only [putAll,Act.put,lS0,lS1,lS2]) (hCont (v516,v522,gb525) _ ⟨(by (with_reducible repeat (first|apply kR1|apply kR2|apply kR3));exact HO517.out),(by (with_reducible repeat (first|apply kR1|apply kR2|apply kR3));exact Kd.R_mono HO523.out (fun _ hk => hk.2)),(by (with_reducible repeat (first|apply kR1|apply kR2|apply kR3));exact Kd.R_mono HO_513003.out (fun _ hk => hk.2)),(by (with_reducible repeat (first|refine bD1 ?_ _|refine bD2 ?_|refine bD3 ?_ _));exact BK512.out),(by (with_reducible repeat (first|refine bD1 ?_ _|refine bD2 ?_|refine bD3 ?_ _));exact BK525.out),GW525.out,GE525.out,NB512_525.out,NB525_512.out,(by repeat (first|(with_reducible first|exact HB.out|apply pB3|apply pB1|apply pB2|refine below_set ?_ GE512.out|refine below_set ?_ GE525.out)|exact HB.out))⟩)
               ·skip
                refine box_step ?hg (N:=12) ?hd (cs:=#[.int .i64 0,.int .i64 0,.int .i64 0,.slice none 0 0]) (t:=56) ?hr ?_;(case hd => rfl);(case hg => rfl);(case hr => first|(go_simp;done)|(go_simp;rfl))
                intro gb525 hg w41 hbox hb
                have n0_:=Aside0.mk (Kd.R_below (by (with_reducible repeat (first|apply kR1|apply kR2|apply kR3));exact HO_513003.out) hb)
                have n1_:=Aside0.mk (blk_below (g:=gb512) (o:=.cells #[.int .i64 t505,.int .i64 t506,.int .i64 t507,.slice Ao20 t508.length co20] 56 (0,0)) (by (with_reducible repeat (first|refine bD1 ?_ _|refine bD2 ?_|refine bD3 ?_ _));exact BK512.out) hb)
                have n2_:=Aside0.mk (below_step (by repeat (first|(with_reducible first|exact HB.out|apply pB3|apply pB1|apply pB2|refine below_set ?_ GE512.out)|exact HB.out)) hb)
                have n3_:=Aside0.mk (hbox)
                have n4_:=Aside0.mk ((by rw [hg];exact (below_size (by repeat (first|(with_reducible first|exact HB.out|apply pB3|apply pB1|apply pB2|refine below_set ?_ GE512.out)|exact HB.out))) : w.heap.size ≤ gb525))
                have n5_:=Aside0.mk ((by rw [hg];exact (below_size (by repeat (first|(with_reducible first|exact HB.out|apply pB3|apply pB1|apply pB2|refine below_set ?_ GE512.out)|exact HB.out))) : w.heap.size ≤ gb525))
                have n6_:=Aside0.mk ((by rw [hg];exact Nat.ne_of_lt (blk_lt (g:=gb512) (o:=.cells #[.int .i64 t505,.int .i64 t506,.int .i64 t507,.slice Ao20 t508.length co20] 56 (0,0)) (by (with_reducible repeat (first|refine bD1 ?_ _|refine bD2 ?_|refine bD3 ?_ _));exact BK512.out)) : gb512 ≠ gb525))
                have n7_:=Aside0.mk ((by rw [hg];exact Nat.ne_of_gt (blk_lt (g:=gb512) (o:=.cells #[.int .i64 t505,.int .i64 t506,.int .i64 t507,.slice Ao20 t508.length co20] 56 (0,0)) (by (with_reducible repeat (first|refine bD1 ?_ _|refine bD2 ?_|refine bD3 ?_ _));exact BK512.out)) : gb525 ≠ gb512))
                clear HO_513003
                clear BK512
                clear HB
                have HO_513003:=n0_
                have BK512:=n1_
                have HB:=n2_
                have BK525:=n3_
                have GW525:=n4_
                have GE525:=n5_
                have NB512_525:=n6_
                have NB525_512:=n7_
                clear n0_ n1_ n2_ n3_ n4_ n5_ n6_ n7_
                clear hb hbox hg
                refine hK.out _ _ trivial (fun hHeld => ?_)
                clear hK K
                refine norm_ (a':=?_) ?_ ?_
                rotate_left
                ·show Act.put _ (some 12) _ = _
                 simp only [Act.put,lS0,lS1,lS2,i64_w,i32_w]
                 rfl
                refine one_ (i:=4) (N:=some 64) #[true,true,true,true,true,false,true,true,true,true,false,false,false,false,false,true,false,false] rfl rfl (one_of HT_.out (by kernel_rfl)) (by decide) (fun K hK => ?_)
                refine Kd.R_lit_step (Kd.int .u8) _ 5 ?hg (N:=64) ?hd (xs:=([((wrap64 (1 + (wrap64 (2 * (wrap64 (Int.tmod (IntKind.u64.wrap (a0)) 4))))))) % 256,3,0,((Go.bits .and .i64 a1 63)) % 256] : List Int)) (inner:=[.int .u8 (((wrap64 (1 + (wrap64 (2 * (wrap64 (Int.tmod (IntKind.u64.wrap (a0)) 4))))))) % 256),.int .u8 3,.int .u8 0,.int .u8 (((Go.bits .and .i64 a1 63)) % 256)]) (ok:=fun _ => True) (okp:=fun _ => True) ?hr ?hp (fun _ hk => hk) trivial (Below.refl _ _) (Nat.le_refl _) (by simp) ?_;(case hd => rfl);(case hg => rfl);(case hr => first|(go_simp;done)|(go_simp;rfl));(case hp => exact (Reps.one (show Kd.M (Kd.int .u8) _ _ _ (((wrap64 (1 + (wrap64 (2 * (wrap64 (Int.tmod (IntKind.u64.wrap (a0)) 4))))))) % 256) [.int .u8 (((wrap64 (1 + (wrap64 (2 * (wrap64 (Int.tmod (IntKind.u64.wrap (a0)) 4))))))) % 256)] from rfl) (Reps.one (show Kd.M (Kd.int .u8) _ _ _ 3 [.int .u8 3] from rfl) (Reps.one (show Kd.M (Kd.int .u8) _ _ _ 0 [.int .u8 0] from rfl) (Reps.one (show Kd.M (Kd.int .u8) _ _ _ (((Go.bits .and .i64 a1 63)) % 256) [.int .u8 (((Go.bits .and .i64 a1 63)) % 256)] from rfl) (Reps.none _ _))))))
                intro v516 w42 ho43 hb hg_ hnew_
                clear hg_ hnew_
                (first|rw [← Ny515.out] at ho43|(simp only [Int.reduceToNat] at ho43;rw [← Ny515.out] at ho43))
                have n0_:=Aside0.mk (Kd.R_below (by (with_reducible repeat (first|apply kR1|apply kR2|apply kR3));exact HO_513003.out) hb)
                have n1_:=Aside0.mk (Kd.R_lower ho43 (below_size (by repeat (first|(with_reducible first|exact HB.out|apply pB3|apply pB1|apply pB2|refine below_set ?_ GE512.out|refine below_set ?_ GE525.out)|exact HB.out))))
                have n2_:=Aside0.mk (blk_below (g:=gb512) (o:=.cells #[.int .i64 t505,.int .i64 t506,.int .i64 t507,.slice Ao20 t508.length co20] 56 (0,0)) (by (with_reducible repeat (first|refine bD1 ?_ _|refine bD2 ?_|refine bD3 ?_ _));exact BK512.out) hb)
                have n3_:=Aside0.mk (blk_below (g:=gb525) (o:=.cells #[.int .i64 0,.int .i64 0,.int .i64 0,.slice none 0 0] 56 (0,0)) (by (with_reducible repeat (first|refine bD1 ?_ _|refine bD2 ?_|refine bD3 ?_ _));exact BK525.out) hb)
                have n4_:=Aside0.mk (below_step (by repeat (first|(with_reducible first|exact HB.out|apply pB3|apply pB1|apply pB2|refine below_set ?_ GE512.out|refine below_set ?_ GE525.out)|exact HB.out)) hb)
                clear HO_513003
                clear BK512
                clear BK525
                clear HB
                have HO_513003:=n0_
                have HO517:=n1_
                have BK512:=n2_
                have BK525:=n3_
                have HB:=n4_
                clear n0_ n1_ n2_ n3_ n4_
                clear hb ho43
                refine hK.out _ _ trivial (fun hHeld => ?_)
                clear hK K
                refine norm_ (a':=?_) ?_ ?_
                rotate_left
                ·show Act.put _ (some 64) _ = _
                 simp only [Act.put,lS0,lS1,lS2,i64_w,i32_w]
                 rfl
                refine one_ (i:=5) (N:=some 65) #[true,true,true,true,true,true,true,true,true,true,false,false,false,false,false,true,false,false] rfl rfl (one_of HT_.out (by kernel_rfl)) (by decide) (fun K hK => ?_)
                have hcv44:=own_string (P:=Try.prog) Try.underlying61 Try.underlying5 Try.underlying9 (Kd.own_of_R HO517.out)
                refine value_ (w1:=?_) (v:=?_) (by rfl) rfl ?_ ?_
                rotate_left 2
                ·go_simp
                 constructor
                 ·rfl
                 ·rfl
                clear hcv44
                refine hK.out _ _ trivial (fun hHeld => ?_)
                clear hK K
                refine norm_ (a':=?_) ?_ ?_
                rotate_left
                ·show Act.put _ (some 65) _ = _
                 simp only [Act.put,lS0,lS1,lS2,i64_w,i32_w]
                 rfl
                refine pure_ (i:=10) (N:=some 70) (v:=?_) (a':=?_) #[true,true,true,true,true,true,true,true,true,true,true,false,false,false,false,true,false,false] rfl rfl (any_of HT_.out (by kernel_rfl)) (fun _ _ _ h => h) (Or.inl ⟨by rfl,?_⟩) ?_ ?_
                rotate_left
                ·intro w'
                 go_simp
                 with_reducible rfl
                rotate_left
                ·simp only [Act.put,lS0,lS1,lS2,i64_w,i32_w]
                 rfl
                refine one_ (i:=11) (N:=some 71) #[true,true,true,true,true,true,true,true,true,true,true,true,false,false,false,true,false,false] rfl rfl (one_of HT_.out (by kernel_rfl)) (by decide) (fun K hK => ?_)
                refine goes_ Try.func55 (by kernel_rfl) rfl #[.string ((strOfNums y515) ++ (x9_5.extract 0 ((ji28) : Int).toNat))] (by rfl) rfl rfl (by (try simp only [List.map_toArray,List.map_cons,List.map_nil]);first|done|(simp only [hji28];rfl)|rfl|(simp only [List.length_drop,List.length_take];rfl)) ?_
                with_reducible refine (bapmsg_Get.calls kj12 ((strOfNums y515) ++ (x9_5.extract 0 ((ji28) : Int).toNat)) t518 t519 t520 t521 t524 _ A32.out).mono ?_
                rintro e w45 ⟨v522,rfl,ho0,hb⟩
                refine ⟨_,rfl,?_⟩
                have n0_:=Aside0.mk (Kd.R_elder' (by (with_reducible repeat (first|apply kR1|apply kR2|apply kR3));exact HO_513003.out) (Kd.R_base ho0) hb)
                have n1_:=Aside0.mk (Kd.R_below (by (with_reducible repeat (first|apply kR1|apply kR2|apply kR3));exact HO517.out) hb)
                have n2_:=Aside0.mk (Kd.R_lower (Kd.R_new' ho0 (Kd.R_lt (by (with_reducible repeat (first|apply kR1|apply kR2|apply kR3));exact HO_513003.out))) (below_size (by repeat (first|(with_reducible first|exact HB.out|apply pB3|apply pB1|apply pB2|refine below_set ?_ GE512.out|refine below_set ?_ GE525.out)|exact HB.out))))
                have n3_:=Aside0.mk (blk_below (g:=gb512) (o:=.cells #[.int .i64 t505,.int .i64 t506,.int .i64 t507,.slice Ao20 t508.length co20] 56 (0,0)) (by (with_reducible repeat (first|refine bD1 ?_ _|refine bD2 ?_|refine bD3 ?_ _));exact BK512.out) hb)
                have n4_:=Aside0.mk (blk_below (g:=gb525) (o:=.cells #[.int .i64 0,.int .i64 0,.int .i64 0,.slice none 0 0] 56 (0,0)) (by (with_reducible repeat (first|refine bD1 ?_ _|refine bD2 ?_|refine bD3 ?_ _));exact BK525.out) hb)
                have n5_:=Aside0.mk (below_step (by repeat (first|(with_reducible first|exact HB.out|apply pB3|apply pB1|apply pB2|refine below_set ?_ GE512.out|refine below_set ?_ GE525.out)|exact HB.out)) hb)
                clear HO_513003
                clear HO517
                clear BK512
                clear BK525
                clear HB
                have HO_513003:=n0_
                have HO517:=n1_
                have HO523:=n2_
                have BK512:=n3_
                have BK525:=n4_
                have HB:=n5_
                clear n0_ n1_ n2_ n3_ n4_ n5_
                (try clear hb)
                (try clear hb2)
                (try clear hk)
                (try clear hi)
                (try clear ho0)
                refine hK.out _ _ trivial (fun hHeld => ?_)
                clear hK K
                refine norm_ (a':=?_) ?_ ?_
                rotate_left
                ·show Act.put _ (some 71) _ = _
                 simp only [Act.put,lS0,lS1,lS2,i64_w,i32_w]
                 rfl
                refine pure_ (i:=12) (N:=some 59) (v:=?_) (a':=?_) #[true,true,true,true,true,true,true,true,true,true,true,true,true,false,false,true,false,false] rfl rfl (any_of HT_.out (by kernel_rfl)) (fun _ _ _ h => h) (Or.inl ⟨by rfl,?_⟩) ?_ ?_
                rotate_left
                ·intro w'
                 go_simp
                 with_reducible rfl
                rotate_left
                ·simp only [Act.put,lS0,lS1,lS2,i64_w,i32_w]
                 rfl
                refine pure_ (i:=13) (N:=some 72) (v:=?_) (a':=?_) #[true,true,true,true,true,true,true,true,true,true,true,true,true,true,false,true,false,false] rfl rfl (any_of HT_.out (by kernel_rfl)) (fun _ _ _ h => h) (Or.inl ⟨by rfl,?_⟩) ?_ ?_
                rotate_left
                ·intro w'
                 go_simp
                 with_reducible rfl
                rotate_left
                ·simp only [Act.put,lS0,lS1,lS2,i64_w,i32_w]
                 rfl
                refine pure_ (i:=14) (N:=some 73) (v:=?_) (a':=?_) #[true,true,true,true,true,true,true,true,true,true,true,true,true,true,true,true,false,false] rfl rfl (any_of HT_.out (by kernel_rfl)) (fun _ _ _ h => h) (Or.inl ⟨by rfl,?_⟩) ?_ ?_
                rotate_left
                ·intro w'
                 go_simp
                 with_reducible rfl
                rotate_left
                ·simp only [Act.put,lS0,lS1,lS2,i64_w,i32_w]
                 rfl
                exact norm_ (by simp only [putAll,Act.put,lS0,lS1,lS2]) (hCont (v516,v522,gb525) _ ⟨(by (with_reducible repeat (first|apply kR1|apply kR2|apply kR3));exact HO517.out),(by (with_reducible repeat (first|apply kR1|apply kR2|apply kR3));exact Kd.R_mono HO523.out (fun _ hk => hk.2)),(by (with_reducible repeat (first|apply kR1|apply kR2|apply kR3));exact Kd.R_mono HO_513003.out (fun _ hk => hk.2)),(by (with_reducible repeat (first|refine bD1 ?_ _|refine bD2 ?_|refine bD3 ?_ _));exact BK512.out),(by (with_reducible repeat (first|refine bD1 ?_ _|refine bD2 ?_|refine bD3 ?_ _));exact BK525.out),GW525.out,GE525.out,NB512_525.out,NB525_512.out,(by repeat (first|(with_reducible first|exact HB.out|apply pB3|apply pB1|apply pB2|refine below_set ?_ GE512.out|refine below_set ?_ GE525.out)|exact HB.out))⟩)
              rintro ⟨v516,v522,gb525⟩ w46 ⟨h0_,h1_,h2_,h3_,h4_,h5_,h6_,h7_,h8_,h9_⟩
              have n0_ : Aside0 (Kd.R (Kd.int .u8) 5 w46 w.heap.size (fun _ => True) v516 y515):=⟨h0_⟩
              have n1_ : Aside0 (Kd.R k46 46 w46 w.heap.size (fun k_ => some k_ ≠ (.slice Ao20 t508.length co20 : Value).ownBlock) v522 t521):=⟨h1_⟩
              have n2_ : Aside0 (Kd.R k46 46 w46 w.heap.size (fun k_ => some k_ ≠ (v522 : Value).ownBlock) (.slice Ao20 t508.length co20) t508):=⟨h2_⟩
              have n3_ : Aside0 (w46.heap[gb512]? = some (.cells #[.int .i64 t505,.int .i64 t506,.int .i64 t507,.slice Ao20 t508.length co20] 56 (0,0))):=⟨h3_⟩
              have n4_ : Aside0 (w46.heap[gb525]? = some (.cells #[.int .i64 0,.int .i64 0,.int .i64 0,.slice none 0 0] 56 (0,0))):=⟨h4_⟩
              have n5_ : Aside0 (w.heap.size ≤ gb525):=⟨h5_⟩
              have n6_ : Aside0 (w.heap.size ≤ gb525):=⟨h6_⟩
              have n7_ : Aside0 (gb512 ≠ gb525):=⟨h7_⟩
              have n8_ : Aside0 (gb525 ≠ gb512):=⟨h8_⟩
              have n9_ : Aside0 (Below w.heap.size w w46):=⟨h9_⟩
              clear HO_513003
              clear BK512
              clear HB
              clear h0_ h1_ h2_ h3_ h4_ h5_ h6_ h7_ h8_ h9_
              have HO517:=n0_
              have HO523:=n1_
              have HO_513003:=n2_
              have BK512:=n3_
              have BK525:=n4_
              have GW525:=n5_
              have GE525:=n6_
              have NB512_525:=n7_
              have NB525_512:=n8_
              have HB:=n9_
              clear n0_ n1_ n2_ n3_ n4_ n5_ n6_ n7_ n8_ n9_
              have hHeld:=trivial
              obtain ⟨Ao50,co50,eo50⟩:=Kd.R_slice HO523.out
              (first|subst eo50|(injection eo50 with f1_ f2_ f3_;have f4_:=f1_.symm;have f5_:=f3_.symm;clear f1_ f2_ f3_;subst f4_;subst f5_))
              refine norm_ (a':=?_) ?_ ?_
              rotate_left
              ·simp only [putAll,Act.put,lS0,lS1,lS2]
               rfl
              refine one_ (i:=16) (N:=none) #[true,true,true,true,true,true,true,true,true,true,true,true,true,true,true,true,true,false] rfl rfl (one_of HT_.out (by kernel_rfl)) (by decide) (fun K hK => ?_)
              have hs47 : w46.cell? ⟨gb525,0,none⟩ = some (.int .i64 0):=(blk_cell BK525.out 0).trans rfl
              have hfs47:=blk_frozen BK525.out 0
              have hns47_0:=NB512_525.out
              have hms47_0:=NB525_512.out
              have hs48 : w46.cell? ⟨gb525,1,none⟩ = some (.int .i64 0):=(blk_cell BK525.out 1).trans rfl
              have hfs48:=blk_frozen BK525.out 1
              have hns48_0:=NB512_525.out
              have hms48_0:=NB525_512.out
              have hs49 : w46.cell? ⟨gb525,2,none⟩ = some (.int .i64 0):=(blk_cell BK525.out 2).trans rfl
              have hfs49:=blk_frozen BK525.out 2
              have hns49_0:=NB512_525.out
              have hms49_0:=NB525_512.out
              have hs51 : w46.cell? ⟨gb525,3,none⟩ = some (.slice none 0 0):=(blk_cell BK525.out 3).trans rfl
              have hfs51:=blk_frozen BK525.out 3
              have hns51_0:=NB512_525.out
              have hms51_0:=NB525_512.out
              refine skip_ (w1:=?_) (by rfl) rfl ?_ ?_
              rotate_left
              ·go_simp
               rfl
              refine hK.out _ _ trivial (fun hHeld => ?_)
              clear hK K
              refine pure_ (i:=17) (N:=some 13) (v:=?_) (a':=?_) #[true,true,true,true,true,true,true,true,true,true,true,true,true,true,true,true,true,true] rfl rfl (any_of HT_.out (by kernel_rfl)) (fun _ _ _ h => h) (Or.inl ⟨by rfl,?_⟩) ?_ ?_
              rotate_left
              ·intro w'
               go_simp
               with_reducible rfl
              rotate_left
              ·simp only [Act.put,lS0,lS1,lS2,i64_w,i32_w]
               rfl
              refine done_ (done_of HT_.out (by kernel_rfl)) ?_
              try go_wp2_with (first|((with_reducible refine gate_callee (f:=29) rfl ?_);refine goesL_ (some 75) rfl rfl Try.func29 (by kernel_rfl) rfl #[.int .i64 t511] rfl (by (try simp only [List.map_toArray,List.map_cons,List.map_nil]);first|done|rfl|(simp only [List.length_drop,List.length_take];rfl)) ?_;(with_reducible refine (withylaw0_Num.calls t511 t526 _ A33.out).mono ?_);rintro e w' ⟨rfl,⟨nd,rfl⟩⟩;refine ⟨_,rfl,?_⟩)|((with_reducible refine gate_callee (f:=29) rfl ?_);refine goesL_ (some 77) rfl rfl Try.func29 (by kernel_rfl) rfl #[.int .i64 t524] rfl (by (try simp only [List.map_toArray,List.map_cons,List.map_nil]);first|done|rfl|(simp only [List.length_drop,List.length_take];rfl)) ?_;(with_reducible refine (withylaw0_Num.calls t524 t527 _ A34.out).mono ?_);rintro e w' ⟨rfl,⟨nd,rfl⟩⟩;refine ⟨_,rfl,?_⟩;have hnb52:=NB512_525.out;have hnc52:=NB525_512.out;have hcz53_0 : w46.cell? ⟨gb512,0,none⟩ = some (.int .i64 t505):=(blk_cell BK512.out 0).trans rfl;have hcz53_1 : w46.cell? ⟨gb512,1,none⟩ = some (.int .i64 t506):=(blk_cell BK512.out 1).trans rfl;have hcz53_2 : w46.cell? ⟨gb512,2,none⟩ = some (.int .i64 t507):=(blk_cell BK512.out 2).trans rfl;have hcz53_3 : w46.cell? ⟨gb512,3,none⟩ = some (.slice Ao20 t508.length co20):=(blk_cell BK512.out 3).trans rfl;have hfz53_0:=blk_frozen BK512.out 0;have hfz53_1:=blk_frozen BK512.out 1;have hfz53_2:=blk_frozen BK512.out 2;have hfz53_3:=blk_frozen BK512.out 3;have hcz54_0 : w46.cell? ⟨gb525,0,none⟩ = some (.int .i64 0):=(blk_cell BK525.out 0).trans rfl;have hcz54_1 : w46.cell? ⟨gb525,1,none⟩ = some (.int .i64 0):=(blk_cell BK525.out 1).trans rfl;have hcz54_2 : w46.cell? ⟨gb525,2,none⟩ = some (.int .i64 0):=(blk_cell BK525.out 2).trans rfl;have hcz54_3 : w46.cell? ⟨gb525,3,none⟩ = some (.slice none 0 0):=(blk_cell BK525.out 3).trans rfl;have hfz54_0:=blk_frozen BK525.out 0;have hfz54_1:=blk_frozen BK525.out 1;have hfz54_2:=blk_frozen BK525.out 2;have hfz54_3:=blk_frozen BK525.out 3)|(go_at_call 56;(with_reducible refine (withylaw0_SameBap.calls kj12 t505 t506 t507 _ _ t508 t518 t519 t520 _ _ t521 true _ ?side1 ?side2 ?side3 ?side4 A36.out).mono ?_);(case side1 => refine (Kd.R_reads' (e:=46) (base:=w.heap.size) (ok:=fun k_ => some k_ ≠ (.slice Ao50 t521.length co50 : Value).ownBlock) (n:=t508.length) (c:=co20) ?_).2.2;exact (by (with_reducible repeat (first|apply kR1|apply kR2|apply kR3));exact (Kd.R_mono (Kd.R_far (p:=⟨gb525,3,none⟩) (Kd.R_far (p:=⟨gb525,2,none⟩) (Kd.R_far (p:=⟨gb525,1,none⟩) (Kd.R_far (p:=⟨gb525,0,none⟩) (Kd.R_types HO_513003.out BK525.out (by decide)) (fun _ hk => hk.2) (.int .i64 t518)) (fun _ hk => hk.2) (.int .i64 t519)) (fun _ hk => hk.2) (.int .i64 t520)) (fun _ hk => hk.2) (.slice Ao50 t521.length co50)) (fun _ h_ => h_.1))));(case side2 => exact (Kd.R_reads' HO_513003.out).2.1);(case side3 => refine (Kd.R_reads' (e:=46) (base:=w.heap.size) (ok:=fun k_ => some k_ ≠ (.slice Ao20 t508.length co20 : Value).ownBlock) (n:=t521.length) (c:=co50) ?_).2.2;exact (by (with_reducible repeat (first|apply kR1|apply kR2|apply kR3));exact (Kd.R_mono (Kd.R_far (p:=⟨gb525,3,none⟩) (Kd.R_far (p:=⟨gb525,2,none⟩) (Kd.R_far (p:=⟨gb525,1,none⟩) (Kd.R_far (p:=⟨gb525,0,none⟩) (Kd.R_types HO523.out BK525.out (by decide)) (fun _ hk => hk.2) (.int .i64 t518)) (fun _ hk => hk.2) (.int .i64 t519)) (fun _ hk => hk.2) (.int .i64 t520)) (fun _ hk => hk.2) (.slice Ao50 t521.length co50)) (fun _ h_ => h_.1))));(case side4 => exact (Kd.R_reads' HO523.out).2.1);rintro e w55 ⟨rfl,hb⟩;have n0_:=Aside0.mk (Kd.R_below (by (with_reducible repeat (first|apply kR1|apply kR2|apply kR3));exact (Kd.R_mono (Kd.R_far (p:=⟨gb525,3,none⟩) (Kd.R_far (p:=⟨gb525,2,none⟩) (Kd.R_far (p:=⟨gb525,1,none⟩) (Kd.R_far (p:=⟨gb525,0,none⟩) (Kd.R_types HO_513003.out BK525.out (by decide)) (fun _ hk => hk.2) (.int .i64 t518)) (fun _ hk => hk.2) (.int .i64 t519)) (fun _ hk => hk.2) (.int .i64 t520)) (fun _ hk => hk.2) (.slice Ao50 t521.length co50)) (fun _ h_ => h_.1))) hb);have n1_:=Aside0.mk (Kd.R_below (by (with_reducible repeat (first|apply kR1|apply kR2|apply kR3));exact (Kd.R_mono (Kd.R_far (p:=⟨gb525,3,none⟩) (Kd.R_far (p:=⟨gb525,2,none⟩) (Kd.R_far (p:=⟨gb525,1,none⟩) (Kd.R_far (p:=⟨gb525,0,none⟩) (Kd.R_types HO517.out BK525.out (by decide)) (fun _ hk => hk.2) (.int .i64 t518)) (fun _ hk => hk.2) (.int .i64 t519)) (fun _ hk => hk.2) (.int .i64 t520)) (fun _ hk => hk.2) (.slice Ao50 t521.length co50)) (fun _ h_ => h_.1))) hb);have n2_:=Aside0.mk (Kd.R_below (by (with_reducible repeat (first|apply kR1|apply kR2|apply kR3));exact (Kd.R_mono (Kd.R_far (p:=⟨gb525,3,none⟩) (Kd.R_far (p:=⟨gb525,2,none⟩) (Kd.R_far (p:=⟨gb525,1,none⟩) (Kd.R_far (p:=⟨gb525,0,none⟩) (Kd.R_types HO523.out BK525.out (by decide)) (fun _ hk => hk.2) (.int .i64 t518)) (fun _ hk => hk.2) (.int .i64 t519)) (fun _ hk => hk.2) (.int .i64 t520)) (fun _ hk => hk.2) (.slice Ao50 t521.length co50)) (fun _ h_ => h_.1))) hb);have n3_:=Aside0.mk (blk_below (g:=gb512) (o:=.cells #[.int .i64 t505,.int .i64 t506,.int .i64 t507,.slice Ao20 t508.length co20] 56 (0,0)) (by (with_reducible repeat (first|refine bD1 ?_ _|refine bD2 ?_|refine bD3 ?_ _));refine blk_far ?_ NB512_525.out _;(with_reducible repeat (first|refine bD1 ?_ _|refine bD2 ?_|refine bD3 ?_ _));refine blk_far ?_ NB512_525.out _;(with_reducible repeat (first|refine bD1 ?_ _|refine bD2 ?_|refine bD3 ?_ _));refine blk_far ?_ NB512_525.out _;(with_reducible repeat (first|refine bD1 ?_ _|refine bD2 ?_|refine bD3 ?_ _));refine blk_far ?_ NB512_525.out _;(with_reducible repeat (first|refine bD1 ?_ _|refine bD2 ?_|refine bD3 ?_ _));exact BK512.out) hb);have n4_:=Aside0.mk (blk_below (g:=gb525) (o:=.cells #[.int .i64 t518,.int .i64 t519,.int .i64 t520,.slice Ao50 t521.length co50] 56 (0,0)) (by (with_reducible repeat (first|refine bD1 ?_ _|refine bD2 ?_|refine bD3 ?_ _));refine blk_put (cs:=#[.int .i64 t518,.int .i64 t519,.int .i64 t520,.slice none 0 0]) ?_ 3 _ rfl;(with_reducible repeat (first|refine bD1 ?_ _|refine bD2 ?_|refine bD3 ?_ _));refine blk_put (cs:=#[.int .i64 t518,.int .i64 t519,.int .i64 0,.slice none 0 0]) ?_ 2 _ rfl;(with_reducible repeat (first|refine bD1 ?_ _|refine bD2 ?_|refine bD3 ?_ _));refine blk_put (cs:=#[.int .i64 t518,.int .i64 0,.int .i64 0,.slice none 0 0]) ?_ 1 _ rfl;(with_reducible repeat (first|refine bD1 ?_ _|refine bD2 ?_|refine bD3 ?_ _));refine blk_put (cs:=#[.int .i64 0,.int .i64 0,.int .i64 0,.slice none 0 0]) ?_ 0 _ rfl;(with_reducible repeat (first|refine bD1 ?_ _|refine bD2 ?_|refine bD3 ?_ _));exact BK525.out) hb);have n5_:=Aside0.mk (below_step (by repeat (first|(with_reducible first|exact HB.out|apply pB3|apply pB1|apply pB2|refine below_set ?_ GE512.out|refine below_set ?_ GE525.out)|exact HB.out)) hb);clear HO_513003;clear HO517;clear HO523;clear BK512;clear BK525;clear HB;have HO_513003:=n0_;have HO517:=n1_;have HO523:=n2_;have BK512:=n3_;have BK525:=n4_;have HB:=n5_;clear n0_ n1_ n2_ n3_ n4_ n5_;(try clear hb);(try clear hb2);(try clear hk);(try clear hi))|(go_at_call 29;(with_reducible refine (withylaw0_Num.calls t511 t529 _ A38.out).mono ?_);rintro e w' ⟨rfl,⟨nd,rfl⟩⟩))
              go_ret
              exact ⟨by first|rfl|(simp [errW_none,errW_some] <;> rfl)|(simp only [← hji28];first|rfl|(simp [errW_none,errW_some] <;> rfl))|(simp [*,errW_none,errW_some] <;> rfl),by repeat (first|(with_reducible first|exact HB.out|apply pB3|apply pB1|apply pB2|refine below_set ?_ GE512.out|refine below_set ?_ GE525.out)|exact HB.out)⟩
             ·rw [if_neg c39] at H
              have c39b0 : (t529 == 0) = false:=beq_eq_false_iff_ne.mpr c39
              have c39b1 : (t529 != 0) = true:=bne_iff_ne.mpr c39
              replace H:=Option.bind_eq_some_iff.mp H
              obtain ⟨t530,A560,H⟩:=H
              replace H : (some (t530 == 900)) = some r:=H
              have A56:=Aside0.mk A560
              clear A560
              obtain rfl:=Option.some.inj H
              try go_wp2
              have n0_:=Aside0.mk (Kd.R_drew HO_513003.out)
              have n1_:=Aside0.mk (blk_drew BK512.out)
              have n2_:=Aside0.mk (below_drew1 HB.out)
              clear HO_513003
              clear BK512
              clear HB
              have HO_513003:=n0_
              have BK512:=n1_
              have HB:=n2_
              clear n0_ n1_ n2_
              refine start_ (n:=18) (S:=fun w' => True) (ds:=[]) #[false,false,false,false,false,false,false,false,false,false,false,false,false,false,false,false,false,false] (by kernel_rfl) rfl rfl trivial (fun hHeld => ?_);refine with_tabW withylaw9_BapLengths.tab11 withylaw9_BapLengths.bits11 (fun HT_ HW_ => ?_)
              generalize wc.drew = w57 at HO_513003 BK512 HB hHeld ⊢
              refine pure_ (i:=0) (N:=some 60) (v:=?_) (a':=?_) #[true,false,false,false,false,false,false,false,false,false,false,false,false,false,false,false,false,false] rfl rfl (any_of HT_.out (by kernel_rfl)) (fun _ _ _ h => h) (Or.inl ⟨by rfl,?_⟩) ?_ ?_
              rotate_left
              ·intro w'
               go_simp
               with_reducible rfl
              rotate_left
              ·simp only [Act.put,lS0,lS1,lS2,i64_w,i32_w]
               rfl
              refine pure_ (i:=1) (N:=some 61) (v:=?_) (a':=?_) #[true,true,false,false,false,false,false,false,false,false,false,false,false,false,false,false,false,false] rfl rfl (any_of HT_.out (by kernel_rfl)) (fun _ _ _ h => h) (Or.inl ⟨by rfl,?_⟩) ?_ ?_
              rotate_left
              ·intro w'
               go_simp
               with_reducible rfl
              rotate_left
              ·simp only [Act.put,lS0,lS1,lS2,i64_w,i32_w]
               rfl
              refine pure_ (i:=2) (N:=some 62) (v:=?_) (a':=?_) #[true,true,true,false,false,false,false,false,false,false,false,false,false,false,false,false,false,false] rfl rfl (any_of HT_.out (by kernel_rfl)) (fun _ _ _ h => h) (Or.inl ⟨by rfl,?_⟩) ?_ ?_
              rotate_left
              ·intro w'
               go_simp
               with_reducible rfl
              rotate_left
              ·simp only [Act.put,lS0,lS1,lS2,i64_w,i32_w]
               rfl
              refine pure_ (i:=3) (N:=some 63) (v:=?_) (a':=?_) #[true,true,true,true,false,false,false,false,false,false,false,false,false,false,false,false,false,false] rfl rfl (any_of HT_.out (by kernel_rfl)) (fun _ _ _ h => h) (Or.inl ⟨by rfl,?_⟩) ?_ ?_
              rotate_left
              ·intro w'
               go_simp
               with_reducible rfl
              rotate_left
              ·simp only [Act.put,lS0,lS1,lS2,i64_w,i32_w]
               rfl
              refine pure_ (i:=6) (N:=some 66) (v:=?_) (a':=?_) #[true,true,true,true,false,false,true,false,false,false,false,false,false,false,false,false,false,false] rfl rfl (any_of HT_.out (by kernel_rfl)) (fun _ _ _ h => h) (Or.inl ⟨by rfl,?_⟩) ?_ ?_
              rotate_left
              ·intro w'
               go_simp
               with_reducible rfl
              rotate_left
              ·simp only [Act.put,lS0,lS1,lS2,i64_w,i32_w]
               rfl
              refine pure_ (i:=7) (N:=some 67) (v:=?_) (a':=?_) #[true,true,true,true,false,false,true,true,false,false,false,false,false,false,false,false,false,false] rfl rfl (any_of HT_.out (by kernel_rfl)) (fun _ _ _ h => h) (Or.inl ⟨by rfl,?_⟩) ?_ ?_
              rotate_left
              ·intro w'
               go_simp
               with_reducible rfl
              rotate_left
              ·simp only [Act.put,lS0,lS1,lS2,i64_w,i32_w]
               rfl
              refine pure_ (i:=8) (N:=some 68) (v:=?_) (a':=?_) #[true,true,true,true,false,false,true,true,true,false,false,false,false,false,false,false,false,false] rfl rfl (any_of HT_.out (by kernel_rfl)) (fun _ _ _ h => h) (Or.inl ⟨by rfl,?_⟩) ?_ ?_
              rotate_left
              ·intro w'
               go_simp
               with_reducible rfl
              rotate_left
              ·simp only [Act.put,lS0,lS1,lS2,i64_w,i32_w]
               rfl
              refine pure_ (i:=9) (N:=some 69) (v:=?_) (a':=?_) #[true,true,true,true,false,false,true,true,true,true,false,false,false,false,false,false,false,false] rfl rfl (any_of HT_.out (by kernel_rfl)) (fun _ _ _ h => h) (Or.inl ⟨by rfl,?_⟩) ?_ ?_
              rotate_left
              ·intro w'
               go_simp
               with_reducible rfl
              rotate_left
              ·simp only [Act.put,lS0,lS1,lS2,i64_w,i32_w]
               rfl
              refine join_ (σ:=Value × Value × Nat) 2 #[true,true,true,true,true,true,true,true,true,true,true,true,true,true,true,true,false,false] (fun s_ => [(64,s_.1),(65,.string (strOfNums y515)),(71,.tuple #[.agg #[.int .i64 t518,.int .i64 t519,.int .i64 t520,s_.2.1],.int .i64 t524]),(12,.pointer (some ⟨s_.2.2,0,none⟩)),(70,.string ((strOfNums y515) ++ (x9_5.extract 0 ((ji28) : Int).toNat))),(59,.tuple #[.agg #[.int .i64 t518,.int .i64 t519,.int .i64 t520,s_.2.1],.int .i64 t524]),(72,.agg #[.int .i64 t518,.int .i64 t519,.int .i64 t520,s_.2.1]),(73,.int .i64 t524)]) (fun s_ w' => (Kd.R (Kd.int .u8) 5 w' w.heap.size (fun _ => True) s_.1 y515) ∧ (Kd.R k46 46 w' w.heap.size (fun k_ => some k_ ≠ (.slice Ao20 t508.length co20 : Value).ownBlock) s_.2.1 t521) ∧ (Kd.R k46 46 w' w.heap.size (fun k_ => some k_ ≠ (s_.2.1 : Value).ownBlock) (.slice Ao20 t508.length co20) t508) ∧ (w'.heap[gb512]? = some (.cells #[.int .i64 t505,.int .i64 t506,.int .i64 t507,.slice Ao20 t508.length co20] 56 (0,0))) ∧ (w'.heap[s_.2.2]? = some (.cells #[.int .i64 0,.int .i64 0,.int .i64 0,.slice none 0 0] 56 (0,0))) ∧ (w.heap.size ≤ s_.2.2) ∧ (w.heap.size ≤ s_.2.2) ∧ (gb512 ≠ s_.2.2) ∧ (s_.2.2 ≠ gb512) ∧ (Below w.heap.size w w')) ?_ ?_
              rotate_left
              ·intro hCont
               refine two_ (i:=4) (j:=15) (Ni:=some 64) (Nj:=some 12) #[true,true,true,true,true,false,true,true,true,true,false,false,false,false,false,false,false,false] #[true,true,true,true,false,false,true,true,true,true,false,false,false,false,false,true,false,false] rfl rfl rfl rfl (two_of HT_.out (by kernel_rfl)) (by decide) (by decide) (fun K hK => ?_) (fun K hK => ?_)
               ·skip
                refine Kd.R_lit_step (Kd.int .u8) _ 5 ?hg (N:=64) ?hd (xs:=([((wrap64 (1 + (wrap64 (2 * (wrap64 (Int.tmod (IntKind.u64.wrap (a0)) 4))))))) % 256,3,0,((Go.bits .and .i64 a1 63)) % 256] : List Int)) (inner:=[.int .u8 (((wrap64 (1 + (wrap64 (2 * (wrap64 (Int.tmod (IntKind.u64.wrap (a0)) 4))))))) % 256),.int .u8 3,.int .u8 0,.int .u8 (((Go.bits .and .i64 a1 63)) % 256)]) (ok:=fun _ => True) (okp:=fun _ => True) ?hr ?hp (fun _ hk => hk) trivial (Below.refl _ _) (Nat.le_refl _) (by simp) ?_;(case hd => rfl);(case hg => rfl);(case hr => first|(go_simp;done)|(go_simp;rfl));(case hp => exact (Reps.one (show Kd.M (Kd.int .u8) _ _ _ (((wrap64 (1 + (wrap64 (2 * (wrap64 (Int.tmod (IntKind.u64.wrap (a0)) 4))))))) % 256) [.int .u8 (((wrap64 (1 + (wrap64 (2 * (wrap64 (Int.tmod (IntKind.u64.wrap (a0)) 4))))))) % 256)] from rfl) (Reps.one (show Kd.M (Kd.int .u8) _ _ _ 3 [.int .u8 3] from rfl) (Reps.one (show Kd.M (Kd.int .u8) _ _ _ 0 [.int .u8 0] from rfl) (Reps.one (show Kd.M (Kd.int .u8) _ _ _ (((Go.bits .and .i64 a1 63)) % 256) [.int .u8 (((Go.bits .and .i64 a1 63)) % 256)] from rfl) (Reps.none _ _))))))
                intro v516 w58 ho59 hb hg_ hnew_
                clear hg_ hnew_
                (first|rw [← Ny515.out] at ho59|(simp only [Int.reduceToNat] at ho59;rw [← Ny515.out] at ho59))
                have n0_:=Aside0.mk (Kd.R_below (by (with_reducible repeat (first|apply kR1|apply kR2|apply kR3));exact HO_513003.out) hb)
                have n1_:=Aside0.mk (Kd.R_lower ho59 (below_size (by repeat (first|(with_reducible first|exact HB.out|apply pB3|apply pB1|apply pB2|refine below_set ?_ GE512.out)|exact HB.out))))
                have n2_:=Aside0.mk (blk_below (g:=gb512) (o:=.cells #[.int .i64 t505,.int .i64 t506,.int .i64 t507,.slice Ao20 t508.length co20] 56 (0,0)) (by (with_reducible repeat (first|refine bD1 ?_ _|refine bD2 ?_|refine bD3 ?_ _));exact BK512.out) hb)
                have n3_:=Aside0.mk (below_step (by repeat (first|(with_reducible first|exact HB.out|apply pB3|apply pB1|apply pB2|refine below_set ?_ GE512.out)|exact HB.out)) hb)
                clear HO_513003
                clear BK512
                clear HB
                have HO_513003:=n0_
                have HO517:=n1_
                have BK512:=n2_
                have HB:=n3_
                clear n0_ n1_ n2_ n3_
                clear hb ho59
                refine hK.out _ _ trivial (fun hHeld => ?_)
                clear hK K
                refine norm_ (a':=?_) ?_ ?_
                rotate_left
                ·show Act.put _ (some 64) _ = _
                 simp only [Act.put,lS0,lS1,lS2,i64_w,i32_w]
                 rfl
                refine two_ (i:=5) (j:=15) (Ni:=some 65) (Nj:=some 12) #[true,true,true,true,true,true,true,true,true,true,false,false,false,false,false,false,false,false] #[true,true,true,true,true,false,true,true,true,true,false,false,false,false,false,true,false,false] rfl rfl rfl rfl (two_of HT_.out (by kernel_rfl)) (by decide) (by decide) (fun K hK => ?_) (fun K hK => ?_)
                ·skip
                 have hcv60:=own_string (P:=Try.prog) Try.underlying61 Try.underlying5 Try.underlying9 (Kd.own_of_R HO517.out)
                 refine value_ (w1:=?_) (v:=?_) (by rfl) rfl ?_ ?_
                 rotate_left 2
                 ·go_simp
                  constructor
                  ·rfl
                  ·rfl
                 clear hcv60
                 refine hK.out _ _ trivial (fun hHeld => ?_)
                 clear hK K
                 refine norm_ (a':=?_) ?_ ?_
                 rotate_left
                 ·show Act.put _ (some 65) _ = _
                  simp only [Act.put,lS0,lS1,lS2,i64_w,i32_w]
                  rfl
                 refine pure_ (i:=10) (N:=some 70) (v:=?_) (a':=?_) #[true,true,true,true,true,true,true,true,true,true,true,false,false,false,false,false,false,false] rfl rfl (any_of HT_.out (by kernel_rfl)) (fun _ _ _ h => h) (Or.inl ⟨by rfl,?_⟩) ?_ ?_
                 rotate_left
                 ·intro w'
                  go_simp
                  with_reducible rfl
                 rotate_left
                 ·simp only [Act.put,lS0,lS1,lS2,i64_w,i32_w]
                  rfl
                 refine two_ (i:=11) (j:=15) (Ni:=some 71) (Nj:=some 12) #[true,true,true,true,true,true,true,true,true,true,true,true,false,false,false,false,false,false] #[true,true,true,true,true,true,true,true,true,true,true,false,false,false,false,true,false,false] rfl rfl rfl rfl (two_of HT_.out (by kernel_rfl)) (by decide) (by decide) (fun K hK => ?_) (fun K hK => ?_)
                 ·skip
                  refine goes_ Try.func55 (by kernel_rfl) rfl #[.string ((strOfNums y515) ++ (x9_5.extract 0 ((ji28) : Int).toNat))] (by rfl) rfl rfl (by (try simp only [List.map_toArray,List.map_cons,List.map_nil]);first|done|(simp only [hji28];rfl)|rfl|(simp only [List.length_drop,List.length_take];rfl)) ?_
                  with_reducible refine (bapmsg_Get.calls kj12 ((strOfNums y515) ++ (x9_5.extract 0 ((ji28) : Int).toNat)) t518 t519 t520 t521 t524 _ A32.out).mono ?_
                  rintro e w61 ⟨v522,rfl,ho0,hb⟩
                  refine ⟨_,rfl,?_⟩
                  have n0_:=Aside0.mk (Kd.R_elder' (by (with_reducible repeat (first|apply kR1|apply kR2|apply kR3));exact HO_513003.out) (Kd.R_base ho0) hb)
                  have n1_:=Aside0.mk (Kd.R_below (by (with_reducible repeat (first|apply kR1|apply kR2|apply kR3));exact HO517.out) hb)
                  have n2_:=Aside0.mk (Kd.R_lower (Kd.R_new' ho0 (Kd.R_lt (by (with_reducible repeat (first|apply kR1|apply kR2|apply kR3));exact HO_513003.out))) (below_size (by repeat (first|(with_reducible first|exact HB.out|apply pB3|apply pB1|apply pB2|refine below_set ?_ GE512.out)|exact HB.out))))
                  have n3_:=Aside0.mk (blk_below (g:=gb512) (o:=.cells #[.int .i64 t505,.int .i64 t506,.int .i64 t507,.slice Ao20 t508.length co20] 56 (0,0)) (by (with_reducible repeat (first|refine bD1 ?_ _|refine bD2 ?_|refine bD3 ?_ _));exact BK512.out) hb)
                  have n4_:=Aside0.mk (below_step (by repeat (first|(with_reducible first|exact HB.out|apply pB3|apply pB1|apply pB2|refine below_set ?_ GE512.out)|exact HB.out)) hb)
                  clear HO_513003
                  clear HO517
                  clear BK512
                  clear HB
                  have HO_513003:=n0_
                  have HO517:=n1_
                  have HO523:=n2_
                  have BK512:=n3_
                  have HB:=n4_
                  clear n0_ n1_ n2_ n3_ n4_
                  (try clear hb)
                  (try clear hb2)
                  (try clear hk)
                  (try clear hi)
                  (try clear ho0)
                  refine hK.out _ _ trivial (fun hHeld => ?_)
                  clear hK K
                  refine norm_ (a':=?_) ?_ ?_
                  rotate_left
                  ·show Act.put _ (some 71) _ = _
                   simp only [Act.put,lS0,lS1,lS2,i64_w,i32_w]
                   rfl
                  refine pure_ (i:=12) (N:=some 59) (v:=?_) (a':=?_) #[true,true,true,true,true,true,true,true,true,true,true,true,true,false,false,false,false,false] rfl rfl (any_of HT_.out (by kernel_rfl)) (fun _ _ _ h => h) (Or.inl ⟨by rfl,?_⟩) ?_ ?_
                  rotate_left
                  ·intro w'
                   go_simp
                   with_reducible rfl
                  rotate_left
                  ·simp only [Act.put,lS0,lS1,lS2,i64_w,i32_w]
                   rfl
                  refine pure_ (i:=13) (N:=some 72) (v:=?_) (a':=?_) #[true,true,true,true,true,true,true,true,true,true,true,true,true,true,false,false,false,false] rfl rfl (any_of HT_.out (by kernel_rfl)) (fun _ _ _ h => h) (Or.inl ⟨by rfl,?_⟩) ?_ ?_
                  rotate_left
                  ·intro w'
                   go_simp
                   with_reducible rfl
                  rotate_left
                  ·simp only [Act.put,lS0,lS1,lS2,i64_w,i32_w]
                   rfl
                  refine pure_ (i:=14) (N:=some 73) (v:=?_) (a':=?_) #[true,true,true,true,true,true,true,true,true,true,true,true,true,true,true,false,false,false] rfl rfl (any_of HT_.out (by kernel_rfl)) (fun _ _ _ h => h) (Or.inl ⟨by rfl,?_⟩) ?_ ?_
                  rotate_left
                  ·intro w'
                   go_simp
                   with_reducible rfl
                  rotate_left
                  ·simp only [Act.put,lS0,lS1,lS2,i64_w,i32_w]
                   rfl
                  refine one_ (i:=15) (N:=some 12) #[true,true,true,true,true,true,true,true,true,true,true,true,true,true,true,true,false,false] rfl rfl (one_of HT_.out (by kernel_rfl)) (by decide) (fun K hK => ?_)
                  refine box_step ?hg (N:=12) ?hd (cs:=#[.int .i64 0,.int .i64 0,.int .i64 0,.slice none 0 0]) (t:=56) ?hr ?_;(case hd => rfl);(case hg => rfl);(case hr => first|(go_simp;done)|(go_simp;rfl))
                  intro gb525 hg w62 hbox hb
                  have n0_:=Aside0.mk (Kd.R_below (by (with_reducible repeat (first|apply kR1|apply kR2|apply kR3));exact HO_513003.out) hb)
                  have n1_:=Aside0.mk (Kd.R_below (by (with_reducible repeat (first|apply kR1|apply kR2|apply kR3));exact HO517.out) hb)
                  have n2_:=Aside0.mk (Kd.R_below (by (with_reducible repeat (first|apply kR1|apply kR2|apply kR3));exact HO523.out) hb)
                  have n3_:=Aside0.mk (blk_below (g:=gb512) (o:=.cells #[.int .i64 t505,.int .i64 t506,.int .i64 t507,.slice Ao20 t508.length co20] 56 (0,0)) (by (with_reducible repeat (first|refine bD1 ?_ _|refine bD2 ?_|refine bD3 ?_ _));exact BK512.out) hb)
                  have n4_:=Aside0.mk (below_step (by repeat (first|(with_reducible first|exact HB.out|apply pB3|apply pB1|apply pB2|refine below_set ?_ GE512.out)|exact HB.out)) hb)
                  have n5_:=Aside0.mk (hbox)
                  have n6_:=Aside0.mk ((by rw [hg];exact (below_size (by repeat (first|(with_reducible first|exact HB.out|apply pB3|apply pB1|apply pB2|refine below_set ?_ GE512.out)|exact HB.out))) : w.heap.size ≤ gb525))
                  have n7_:=Aside0.mk ((by rw [hg];exact (below_size (by repeat (first|(with_reducible first|exact HB.out|apply pB3|apply pB1|apply pB2|refine below_set ?_ GE512.out)|exact HB.out))) : w.heap.size ≤ gb525))
                  have n8_:=Aside0.mk ((by rw [hg];exact Nat.ne_of_lt (blk_lt (g:=gb512) (o:=.cells #[.int .i64 t505,.int .i64 t506,.int .i64 t507,.slice Ao20 t508.length co20] 56 (0,0)) (by (with_reducible repeat (first|refine bD1 ?_ _|refine bD2 ?_|refine bD3 ?_ _));exact BK512.out)) : gb512 ≠ gb525))
                  have n9_:=Aside0.mk ((by rw [hg];exact Nat.ne_of_gt (blk_lt (g:=gb512) (o:=.cells #[.int .i64 t505,.int .i64 t506,.int .i64 t507,.slice Ao20 t508.length co20] 56 (0,0)) (by (with_reducible repeat (first|refine bD1 ?_ _|refine bD2 ?_|refine bD3 ?_ _));exact BK512.out)) : gb525 ≠ gb512))
                  clear HO_513003
                  clear HO517
                  clear HO523
                  clear BK512
                  clear HB
                  have HO_513003:=n0_
                  have HO517:=n1_
                  have HO523:=n2_
                  have BK512:=n3_
                  have HB:=n4_
                  have BK525:=n5_
                  have GW525:=n6_
                  have GE525:=n7_
                  have NB512_525:=n8_
                  have NB525_512:=n9_
                  clear n0_ n1_ n2_ n3_ n4_ n5_ n6_ n7_ n8_ n9_
                  clear hb hbox hg
                  refine hK.out _ _ trivial (fun hHeld => ?_)
                  clear hK K
                  refine norm_ (a':=?_) ?_ ?_
                  rotate_left
                  ·show Act.put _ (some 12) _ = _
                   simp only [Act.put,lS0,lS1,lS2,i64_w,i32_w]
                   rfl
                  exact norm_ (by simp only [putAll,Act.put,lS0,lS1,lS2]) (hCont (v516,v522,gb525) _ ⟨(by (with_reducible repeat (first|apply kR1|apply kR2|apply kR3));exact HO517.out),(by (with_reducible repeat (first|apply kR1|apply kR2|apply kR3));exact Kd.R_mono HO523.out (fun _ hk => hk.2)),(by (with_reducible repeat (first|apply kR1|apply kR2|apply kR3));exact Kd.R_mono HO_513003.out (fun _ hk => hk.2)),(by (with_reducible repeat (first|refine bD1 ?_ _|refine bD2 ?_|refine bD3 ?_ _));exact BK512.out),(by (with_reducible repeat (first|refine bD1 ?_ _|refine bD2 ?_|refine bD3 ?_ _));exact BK525.out),GW525.out,GE525.out,NB512_525.out,NB525_512.out,(by repeat (first|(with_reducible first|exact HB.out|apply pB3|apply pB1|apply pB2|refine below_set ?_ GE512.out|refine below_set ?_ GE525.out)|exact HB.out))⟩)
                 ·skip
                  refine box_step ?hg (N:=12) ?hd (cs:=#[.int .i64 0,.int .i64 0,.int .i64 0,.slice none 0 0]) (t:=56) ?hr ?_;(case hd => rfl);(case hg => rfl);(case hr => first|(go_simp;done)|(go_simp;rfl))
                  intro gb525 hg w61 hbox hb
                  have n0_:=Aside0.mk (Kd.R_below (by (with_reducible repeat (first|apply kR1|apply kR2|apply kR3));exact HO_513003.out) hb)
                  have n1_:=Aside0.mk (Kd.R_below (by (with_reducible repeat (first|apply kR1|apply kR2|apply kR3));exact HO517.out) hb)
                  have n2_:=Aside0.mk (blk_below (g:=gb512) (o:=.cells #[.int .i64 t505,.int .i64 t506,.int .i64 t507,.slice Ao20 t508.length co20] 56 (0,0)) (by (with_reducible repeat (first|refine bD1 ?_ _|refine bD2 ?_|refine bD3 ?_ _));exact BK512.out) hb)
                  have n3_:=Aside0.mk (below_step (by repeat (first|(with_reducible first|exact HB.out|apply pB3|apply pB1|apply pB2|refine below_set ?_ GE512.out)|exact HB.out)) hb)
                  have n4_:=Aside0.mk (hbox)
                  have n5_:=Aside0.mk ((by rw [hg];exact (below_size (by repeat (first|(with_reducible first|exact HB.out|apply pB3|apply pB1|apply pB2|refine below_set ?_ GE512.out)|exact HB.out))) : w.heap.size ≤ gb525))
                  have n6_:=Aside0.mk ((by rw [hg];exact (below_size (by repeat (first|(with_reducible first|exact HB.out|apply pB3|apply pB1|apply pB2|refine below_set ?_ GE512.out)|exact HB.out))) : w.heap.size ≤ gb525))
                  have n7_:=Aside0.mk ((by rw [hg];exact Nat.ne_of_lt (blk_lt (g:=gb512) (o:=.cells #[.int .i64 t505,.int .i64 t506,.int .i64 t507,.slice Ao20 t508.length co20] 56 (0,0)) (by (with_reducible repeat (first|refine bD1 ?_ _|refine bD2 ?_|refine bD3 ?_ _));exact BK512.out)) : gb512 ≠ gb525))
                  have n8_:=Aside0.mk ((by rw [hg];exact Nat.ne_of_gt (blk_lt (g:=gb512) (o:=.cells #[.int .i64 t505,.int .i64 t506,.int .i64 t507,.slice Ao20 t508.length co20] 56 (0,0)) (by (with_reducible repeat (first|refine bD1 ?_ _|refine bD2 ?_|refine bD3 ?_ _));exact BK512.out)) : gb525 ≠ gb512))
                  clear HO_513003
                  clear HO517
                  clear BK512
                  clear HB
                  have HO_513003:=n0_
                  have HO517:=n1_
                  have BK512:=n2_
                  have HB:=n3_
                  have BK525:=n4_
                  have GW525:=n5_
                  have GE525:=n6_
                  have NB512_525:=n7_
                  have NB525_512:=n8_
                  clear n0_ n1_ n2_ n3_ n4_ n5_ n6_ n7_ n8_
                  clear hb hbox hg
                  refine hK.out _ _ trivial (fun hHeld => ?_)
                  clear hK K
                  refine norm_ (a':=?_) ?_ ?_
                  rotate_left
                  ·show Act.put _ (some 12) _ = _
                   simp only [Act.put,lS0,lS1,lS2,i64_w,i32_w]
                   rfl
                  refine one_ (i:=11) (N:=some 71) #[true,true,true,true,true,true,true,true,true,true,true,true,false,false,false,true,false,false] rfl rfl (one_of HT_.out (by kernel_rfl)) (by decide) (fun K hK => ?_)
                  refine goes_ Try.func55 (by kernel_rfl) rfl #[.string ((strOfNums y515) ++ (x9_5.extract 0 ((ji28) : Int).toNat))] (by rfl) rfl rfl (by (try simp only [List.map_toArray,List.map_cons,List.map_nil]);first|done|(simp only [hji28];rfl)|rfl|(simp only [List.length_drop,List.length_take];rfl)) ?_
                  with_reducible refine (bapmsg_Get.calls kj12 ((strOfNums y515) ++ (x9_5.extract 0 ((ji28) : Int).toNat)) t518 t519 t520 t521 t524 _ A32.out).mono ?_
                  rintro e w62 ⟨v522,rfl,ho0,hb⟩
                  refine ⟨_,rfl,?_⟩
                  have n0_:=Aside0.mk (Kd.R_elder' (by (with_reducible repeat (first|apply kR1|apply kR2|apply kR3));exact HO_513003.out) (Kd.R_base ho0) hb)
                  have n1_:=Aside0.mk (Kd.R_below (by (with_reducible repeat (first|apply kR1|apply kR2|apply kR3));exact HO517.out) hb)
                  have n2_:=Aside0.mk (Kd.R_lower (Kd.R_new' ho0 (Kd.R_lt (by (with_reducible repeat (first|apply kR1|apply kR2|apply kR3));exact HO_513003.out))) (below_size (by repeat (first|(with_reducible first|exact HB.out|apply pB3|apply pB1|apply pB2|refine below_set ?_ GE512.out|refine below_set ?_ GE525.out)|exact HB.out))))
                  have n3_:=Aside0.mk (blk_below (g:=gb512) (o:=.cells #[.int .i64 t505,.int .i64 t506,.int .i64 t507,.slice Ao20 t508.length co20] 56 (0,0)) (by (with_reducible repeat (first|refine bD1 ?_ _|refine bD2 ?_|refine bD3 ?_ _));exact BK512.out) hb)
                  have n4_:=Aside0.mk (blk_below (g:=gb525) (o:=.cells #[.int .i64 0,.int .i64 0,.int .i64 0,.slice none 0 0] 56 (0,0)) (by (with_reducible repeat (first|refine bD1 ?_ _|refine bD2 ?_|refine bD3 ?_ _));exact BK525.out) hb)
                  have n5_:=Aside0.mk (below_step (by repeat (first|(with_reducible first|exact HB.out|apply pB3|apply pB1|apply pB2|refine below_set ?_ GE512.out|refine below_set ?_ GE525.out)|exact HB.out)) hb)
                  clear HO_513003
                  clear HO517
                  clear BK512
                  clear BK525
                  clear HB
                  have HO_513003:=n0_
                  have HO517:=n1_
                  have HO523:=n2_
                  have BK512:=n3_
                  have BK525:=n4_
                  have HB:=n5_
                  clear n0_ n1_ n2_ n3_ n4_ n5_
                  (try clear hb)
                  (try clear hb2)
                  (try clear hk)
                  (try clear hi)
                  (try clear ho0)
                  refine hK.out _ _ trivial (fun hHeld => ?_)
                  clear hK K
                  refine norm_ (a':=?_) ?_ ?_
                  rotate_left
                  ·show Act.put _ (some 71) _ = _
                   simp only [Act.put,lS0,lS1,lS2,i64_w,i32_w]
                   rfl
                  refine pure_ (i:=12) (N:=some 59) (v:=?_) (a':=?_) #[true,true,true,true,true,true,true,true,true,true,true,true,true,false,false,true,false,false] rfl rfl (any_of HT_.out (by kernel_rfl)) (fun _ _ _ h => h) (Or.inl ⟨by rfl,?_⟩) ?_ ?_
                  rotate_left
                  ·intro w'
                   go_simp
                   with_reducible rfl
                  rotate_left
                  ·simp only [Act.put,lS0,lS1,lS2,i64_w,i32_w]
                   rfl
                  refine pure_ (i:=13) (N:=some 72) (v:=?_) (a':=?_) #[true,true,true,true,true,true,true,true,true,true,true,true,true,true,false,true,false,false] rfl rfl (any_of HT_.out (by kernel_rfl)) (fun _ _ _ h => h) (Or.inl ⟨by rfl,?_⟩) ?_ ?_
                  rotate_left
                  ·intro w'
                   go_simp
                   with_reducible rfl
                  rotate_left
                  ·simp only [Act.put,lS0,lS1,lS2,i64_w,i32_w]
                   rfl
                  refine pure_ (i:=14) (N:=some 73) (v:=?_) (a':=?_) #[true,true,true,true,true,true,true,true,true,true,true,true,true,true,true,true,false,false] rfl rfl (any_of HT_.out (by kernel_rfl)) (fun _ _ _ h => h) (Or.inl ⟨by rfl,?_⟩) ?_ ?_
                  rotate_left
                  ·intro w'
                   go_simp
                   with_reducible rfl
                  rotate_left
                  ·simp only [Act.put,lS0,lS1,lS2,i64_w,i32_w]
                   rfl
                  exact norm_ (by simp only [putAll,Act.put,lS0,lS1,lS2]) (hCont (v516,v522,gb525) _ ⟨(by (with_reducible repeat (first|apply kR1|apply kR2|apply kR3));exact HO517.out),(by (with_reducible repeat (first|apply kR1|apply kR2|apply kR3));exact Kd.R_mono HO523.out (fun _ hk => hk.2)),(by (with_reducible repeat (first|apply kR1|apply kR2|apply kR3));exact Kd.R_mono HO_513003.out (fun _ hk => hk.2)),(by (with_reducible repeat (first|refine bD1 ?_ _|refine bD2 ?_|refine bD3 ?_ _));exact BK512.out),(by (with_reducible repeat (first|refine bD1 ?_ _|refine bD2 ?_|refine bD3 ?_ _));exact BK525.out),GW525.out,GE525.out,NB512_525.out,NB525_512.out,(by repeat (first|(with_reducible first|exact HB.out|apply pB3|apply pB1|apply pB2|refine below_set ?_ GE512.out|refine below_set ?_ GE525.out)|exact HB.out))⟩)
                ·skip
                 refine box_step ?hg (N:=12) ?hd (cs:=#[.int .i64 0,.int .i64 0,.int .i64 0,.slice none 0 0]) (t:=56) ?hr ?_;(case hd => rfl);(case hg => rfl);(case hr => first|(go_simp;done)|(go_simp;rfl))
                 intro gb525 hg w60 hbox hb
                 have n0_:=Aside0.mk (Kd.R_below (by (with_reducible repeat (first|apply kR1|apply kR2|apply kR3));exact HO_513003.out) hb)
                 have n1_:=Aside0.mk (Kd.R_below (by (with_reducible repeat (first|apply kR1|apply kR2|apply kR3));exact HO517.out) hb)
                 have n2_:=Aside0.mk (blk_below (g:=gb512) (o:=.cells #[.int .i64 t505,.int .i64 t506,.int .i64 t507,.slice Ao20 t508.length co20] 56 (0,0)) (by (with_reducible repeat (first|refine bD1 ?_ _|refine bD2 ?_|refine bD3 ?_ _));exact BK512.out) hb)
                 have n3_:=Aside0.mk (below_step (by repeat (first|(with_reducible first|exact HB.out|apply pB3|apply pB1|apply pB2|refine below_set ?_ GE512.out)|exact HB.out)) hb)
                 have n4_:=Aside0.mk (hbox)
                 have n5_:=Aside0.mk ((by rw [hg];exact (below_size (by repeat (first|(with_reducible first|exact HB.out|apply pB3|apply pB1|apply pB2|refine below_set ?_ GE512.out)|exact HB.out))) : w.heap.size ≤ gb525))
                 have n6_:=Aside0.mk ((by rw [hg];exact (below_size (by repeat (first|(with_reducible first|exact HB.out|apply pB3|apply pB1|apply pB2|refine below_set ?_ GE512.out)|exact HB.out))) : w.heap.size ≤ gb525))
                 have n7_:=Aside0.mk ((by rw [hg];exact Nat.ne_of_lt (blk_lt (g:=gb512) (o:=.cells #[.int .i64 t505,.int .i64 t506,.int .i64 t507,.slice Ao20 t508.length co20] 56 (0,0)) (by (with_reducible repeat (first|refine bD1 ?_ _|refine bD2 ?_|refine bD3 ?_ _));exact BK512.out)) : gb512 ≠ gb525))
                 have n8_:=Aside0.mk ((by rw [hg];exact Nat.ne_of_gt (blk_lt (g:=gb512) (o:=.cells #[.int .i64 t505,.int .i64 t506,.int .i64 t507,.slice Ao20 t508.length co20] 56 (0,0)) (by (with_reducible repeat (first|refine bD1 ?_ _|refine bD2 ?_|refine bD3 ?_ _));exact BK512.out)) : gb525 ≠ gb512))
                 clear HO_513003
                 clear HO517
                 clear BK512
                 clear HB
                 have HO_513003:=n0_
                 have HO517:=n1_
                 have BK512:=n2_
                 have HB:=n3_
                 have BK525:=n4_
                 have GW525:=n5_
                 have GE525:=n6_
                 have NB512_525:=n7_
                 have NB525_512:=n8_
                 clear n0_ n1_ n2_ n3_ n4_ n5_ n6_ n7_ n8_
                 clear hb hbox hg
                 refine hK.out _ _ trivial (fun hHeld => ?_)
                 clear hK K
                 refine norm_ (a':=?_) ?_ ?_
                 rotate_left
                 ·show Act.put _ (some 12) _ = _
                  simp only [Act.put,lS0,lS1,lS2,i64_w,i32_w]
                  rfl
                 refine one_ (i:=5) (N:=some 65) #[true,true,true,true,true,true,true,true,true,true,false,false,false,false,false,true,false,false] rfl rfl (one_of HT_.out (by kernel_rfl)) (by decide) (fun K hK => ?_)
                 have hcv61:=own_string (P:=Try.prog) Try.underlying61 Try.underlying5 Try.underlying9 (Kd.own_of_R HO517.out)
                 refine value_ (w1:=?_) (v:=?_) (by rfl) rfl ?_ ?_
                 rotate_left 2
                 ·go_simp
                  constructor
                  ·rfl
                  ·rfl
                 clear hcv61
                 refine hK.out _ _ trivial (fun hHeld => ?_)
                 clear hK K
                 refine norm_ (a':=?_) ?_ ?_
                 rotate_left
                 ·show Act.put _ (some 65) _ = _
                  simp only [Act.put,lS0,lS1,lS2,i64_w,i32_w]
                  rfl
                 refine pure_ (i:=10) (N:=some 70) (v:=?_) (a':=?_) #[true,true,true,true,true,true,true,true,true,true,true,false,false,false,false,true,false,false] rfl rfl (any_of HT_.out (by kernel_rfl)) (fun _ _ _ h => h) (Or.inl ⟨by rfl,?_⟩) ?_ ?_
                 rotate_left
                 ·intro w'
                  go_simp
                  with_reducible rfl
                 rotate_left
                 ·simp only [Act.put,lS0,lS1,lS2,i64_w,i32_w]
                  rfl
                 refine one_ (i:=11) (N:=some 71) #[true,true,true,true,true,true,true,true,true,true,true,true,false,false,false,true,false,false] rfl rfl (one_of HT_.out (by kernel_rfl)) (by decide) (fun K hK => ?_)
                 refine goes_ Try.func55 (by kernel_rfl) rfl #[.string ((strOfNums y515) ++ (x9_5.extract 0 ((ji28) : Int).toNat))] (by rfl) rfl rfl (by (try simp only [List.map_toArray,List.map_cons,List.map_nil]);first|done|(simp only [hji28];rfl)|rfl|(simp only [List.length_drop,List.length_take];rfl)) ?_
                 with_reducible refine (bapmsg_Get.calls kj12 ((strOfNums y515) ++ (x9_5.extract 0 ((ji28) : Int).toNat)) t518 t519 t520 t521 t524 _ A32.out).mono ?_
                 rintro e w62 ⟨v522,rfl,ho0,hb⟩
                 refine ⟨_,rfl,?_⟩
                 have n0_:=Aside0.mk (Kd.R_elder' (by (with_reducible repeat (first|apply kR1|apply kR2|apply kR3));exact HO_513003.out) (Kd.R_base ho0) hb)
                 have n1_:=Aside0.mk (Kd.R_below (by (with_reducible repeat (first|apply kR1|apply kR2|apply kR3));exact HO517.out) hb)
                 have n2_:=Aside0.mk (Kd.R_lower (Kd.R_new' ho0 (Kd.R_lt (by (with_reducible repeat (first|apply kR1|apply kR2|apply kR3));exact HO_513003.out))) (below_size (by repeat (first|(with_reducible first|exact HB.out|apply pB3|apply pB1|apply pB2|refine below_set ?_ GE512.out|refine below_set ?_ GE525.out)|exact HB.out))))
                 have n3_:=Aside0.mk (blk_below (g:=gb512) (o:=.cells #[.int .i64 t505,.int .i64 t506,.int .i64 t507,.slice Ao20 t508.length co20] 56 (0,0)) (by (with_reducible repeat (first|refine bD1 ?_ _|refine bD2 ?_|refine bD3 ?_ _));exact BK512.out) hb)
                 have n4_:=Aside0.mk (blk_below (g:=gb525) (o:=.cells #[.int .i64 0,.int .i64 0,.int .i64 0,.slice none 0 0] 56 (0,0)) (by (with_reducible repeat (first|refine bD1 ?_ _|refine bD2 ?_|refine bD3 ?_ _));exact BK525.out) hb)
                 have n5_:=Aside0.mk (below_step (by repeat (first|(with_reducible first|exact HB.out|apply pB3|apply pB1|apply pB2|refine below_set ?_ GE512.out|refine below_set ?_ GE525.out)|exact HB.out)) hb)
                 clear HO_513003
                 clear HO517
                 clear BK512
                 clear BK525
                 clear HB
                 have HO_513003:=n0_
                 have HO517:=n1_
                 have HO523:=n2_
                 have BK512:=n3_
                 have BK525:=n4_
                 have HB:=n5_
                 clear n0_ n1_ n2_ n3_ n4_ n5_
                 (try clear hb)
                 (try clear hb2)
                 (try clear hk)
                 (try clear hi)
                 (try clear ho0)
                 refine hK.out _ _ trivial (fun hHeld => ?_)
                 clear hK K
                 refine norm_ (a':=?_) ?_ ?_
                 rotate_left
                 ·show Act.put _ (some 71) _ = _
                  simp only [Act.put,lS0,lS1,lS2,i64_w,i32_w]
                  rfl
                 refine pure_ (i:=12) (N:=some 59) (v:=?_) (a':=?_) #[true,true,true,true,true,true,true,true,true,true,true,true,true,false,false,true,false,false] rfl rfl (any_of HT_.out (by kernel_rfl)) (fun _ _ _ h => h) (Or.inl ⟨by rfl,?_⟩) ?_ ?_
                 rotate_left
                 ·intro w'
                  go_simp
                  with_reducible rfl
                 rotate_left
                 ·simp only [Act.put,lS0,lS1,lS2,i64_w,i32_w]
                  rfl
                 refine pure_ (i:=13) (N:=some 72) (v:=?_) (a':=?_) #[true,true,true,true,true,true,true,true,true,true,true,true,true,true,false,true,false,false] rfl rfl (any_of HT_.out (by kernel_rfl)) (fun _ _ _ h => h) (Or.inl ⟨by rfl,?_⟩) ?_ ?_
                 rotate_left
                 ·intro w'
                  go_simp
                  with_reducible rfl
                 rotate_left
                 ·simp only [Act.put,lS0,lS1,lS2,i64_w,i32_w]
                  rfl
                 refine pure_ (i:=14) (N:=some 73) (v:=?_) (a':=?_) #[true,true,true,true,true,true,true,true,true,true,true,true,true,true,true,true,false,false] rfl rfl (any_of HT_.out (by kernel_rfl)) (fun _ _ _ h => h) (Or.inl ⟨by rfl,?_⟩) ?_ ?_
                 rotate_left
                 ·intro w'
                  go_simp
                  with_reducible rfl
                 rotate_left
                 ·simp only [Act.put,lS0,lS1,lS2,i64_w,i32_w]
                  rfl
                 exact norm_ (by simp only [putAll,Act.put,lS0,lS1,lS2]) (hCont (v516,v522,gb525) _ ⟨(by (with_reducible repeat (first|apply kR1|apply kR2|apply kR3));exact HO517.out),(by (with_reducible repeat (first|apply kR1|apply kR2|apply kR3));exact Kd.R_mono HO523.out (fun _ hk => hk.2)),(by (with_reducible repeat (first|apply kR1|apply kR2|apply kR3));exact Kd.R_mono HO_513003.out (fun _ hk => hk.2)),(by (with_reducible repeat (first|refine bD1 ?_ _|refine bD2 ?_|refine bD3 ?_ _));exact BK512.out),(by (with_reducible repeat (first|refine bD1 ?_ _|refine bD2 ?_|refine bD3 ?_ _));exact BK525.out),GW525.out,GE525.out,NB512_525.out,NB525_512.out,(by repeat (first|(with_reducible first|exact HB.out|apply pB3|apply pB1|apply pB2|refine below_set ?_ GE512.out|refine below_set ?_ GE525.out)|exact HB.out))⟩)
               ·skip
                refine box_step ?hg (N:=12) ?hd (cs:=#[.int .i64 0,.int .i64 0,.int .i64 0,.slice none 0 0]) (t:=56) ?hr ?_;(case hd => rfl);(case hg => rfl);(case hr => first|(go_simp;done)|(go_simp;rfl))
                intro gb525 hg w58 hbox hb
                have n0_:=Aside0.mk (Kd.R_below (by (with_reducible repeat (first|apply kR1|apply kR2|apply kR3));exact HO_513003.out) hb)
                have n1_:=Aside0.mk (blk_below (g:=gb512) (o:=.cells #[.int .i64 t505,.int .i64 t506,.int .i64 t507,.slice Ao20 t508.length co20] 56 (0,0)) (by (with_reducible repeat (first|refine bD1 ?_ _|refine bD2 ?_|refine bD3 ?_ _));exact BK512.out) hb)
                have n2_:=Aside0.mk (below_step (by repeat (first|(with_reducible first|exact HB.out|apply pB3|apply pB1|apply pB2|refine below_set ?_ GE512.out)|exact HB.out)) hb)
                have n3_:=Aside0.mk (hbox)
                have n4_:=Aside0.mk ((by rw [hg];exact (below_size (by repeat (first|(with_reducible first|exact HB.out|apply pB3|apply pB1|apply pB2|refine below_set ?_ GE512.out)|exact HB.out))) : w.heap.size ≤ gb525))
                have n5_:=Aside0.mk ((by rw [hg];exact (below_size (by repeat (first|(with_reducible first|exact HB.out|apply pB3|apply pB1|apply pB2|refine below_set ?_ GE512.out)|exact HB.out))) : w.heap.size ≤ gb525))
                have n6_:=Aside0.mk ((by rw [hg];exact Nat.ne_of_lt (blk_lt (g:=gb512) (o:=.cells #[.int .i64 t505,.int .i64 t506,.int .i64 t507,.slice Ao20 t508.length co20] 56 (0,0)) (by (with_reducible repeat (first|refine bD1 ?_ _|refine bD2 ?_|refine bD3 ?_ _));exact BK512.out)) : gb512 ≠ gb525))
                have n7_:=Aside0.mk ((by rw [hg];exact Nat.ne_of_gt (blk_lt (g:=gb512) (o:=.cells #[.int .i64 t505,.int .i64 t506,.int .i64 t507,.slice Ao20 t508.length co20] 56 (0,0)) (by (with_reducible repeat (first|refine bD1 ?_ _|refine bD2 ?_|refine bD3 ?_ _));exact BK512.out)) : gb525 ≠ gb512))
                clear HO_513003
                clear BK512
                clear HB
                have HO_513003:=n0_
                have BK512:=n1_
                have HB:=n2_
                have BK525:=n3_
                have GW525:=n4_
                have GE525:=n5_
                have NB512_525:=n6_
                have NB525_512:=n7_
                clear n0_ n1_ n2_ n3_ n4_ n5_ n6_ n7_
                clear hb hbox hg
                refine hK.out _ _ trivial (fun hHeld => ?_)
                clear hK K
                refine norm_ (a':=?_) ?_ ?_
                rotate_left
                ·show Act.put _ (some 12) _ = _
                 simp only [Act.put,lS0,lS1,lS2,i64_w,i32_w]
                 rfl
                refine one_ (i:=4) (N:=some 64) #[true,true,true,true,true,false,true,true,true,true,false,false,false,false,false,true,false,false] rfl rfl (one_of HT_.out (by kernel_rfl)) (by decide) (fun K hK => ?_)
                refine Kd.R_lit_step (Kd.int .u8) _ 5 ?hg (N:=64) ?hd (xs:=([((wrap64 (1 + (wrap64 (2 * (wrap64 (Int.tmod (IntKind.u64.wrap (a0)) 4))))))) % 256,3,0,((Go.bits .and .i64 a1 63)) % 256] : List Int)) (inner:=[.int .u8 (((wrap64 (1 + (wrap64 (2 * (wrap64 (Int.tmod (IntKind.u64.wrap (a0)) 4))))))) % 256),.int .u8 3,.int .u8 0,.int .u8 (((Go.bits .and .i64 a1 63)) % 256)]) (ok:=fun _ => True) (okp:=fun _ => True) ?hr ?hp (fun _ hk => hk) trivial (Below.refl _ _) (Nat.le_refl _) (by simp) ?_;(case hd => rfl);(case hg => rfl);(case hr => first|(go_simp;done)|(go_simp;rfl));(case hp => exact (Reps.one (show Kd.M (Kd.int .u8) _ _ _ (((wrap64 (1 + (wrap64 (2 * (wrap64 (Int.tmod (IntKind.u64.wrap (a0)) 4))))))) % 256) [.int .u8 (((wrap64 (1 + (wrap64 (2 * (wrap64 (Int.tmod (IntKind.u64.wrap (a0)) 4))))))) % 256)] from rfl) (Reps.one (show Kd.M (Kd.int .u8) _ _ _ 3 [.int .u8 3] from rfl) (Reps.one (show Kd.M (Kd.int .u8) _ _ _ 0 [.int .u8 0] from rfl) (Reps.one (show Kd.M (Kd.int .u8) _ _ _ (((Go.bits .and .i64 a1 63)) % 256) [.int .u8 (((Go.bits .and .i64 a1 63)) % 256)] from rfl) (Reps.none _ _))))))
                intro v516 w59 ho60 hb hg_ hnew_
                clear hg_ hnew_
                (first|rw [← Ny515.out] at ho60|(simp only [Int.reduceToNat] at ho60;rw [← Ny515.out] at ho60))
                have n0_:=Aside0.mk (Kd.R_below (by (with_reducible repeat (first|apply kR1|apply kR2|apply kR3));exact HO_513003.out) hb)
                have n1_:=Aside0.mk (Kd.R_lower ho60 (below_size (by repeat (first|(with_reducible first|exact HB.out|apply pB3|apply pB1|apply pB2|refine below_set ?_ GE512.out|refine below_set ?_ GE525.out)|exact HB.out))))
                have n2_:=Aside0.mk (blk_below (g:=gb512) (o:=.cells #[.int .i64 t505,.int .i64 t506,.int .i64 t507,.slice Ao20 t508.length co20] 56 (0,0)) (by (with_reducible repeat (first|refine bD1 ?_ _|refine bD2 ?_|refine bD3 ?_ _));exact BK512.out) hb)
                have n3_:=Aside0.mk (blk_below (g:=gb525) (o:=.cells #[.int .i64 0,.int .i64 0,.int .i64 0,.slice none 0 0] 56 (0,0)) (by (with_reducible repeat (first|refine bD1 ?_ _|refine bD2 ?_|refine bD3 ?_ _));exact BK525.out) hb)
                have n4_:=Aside0.mk (below_step (by repeat (first|(with_reducible first|exact HB.out|apply pB3|apply pB1|apply pB2|refine below_set ?_ GE512.out|refine below_set ?_ GE525.out)|exact HB.out)) hb)
                clear HO_513003
                clear BK512
                clear BK525
                clear HB
                have HO_513003:=n0_
                have HO517:=n1_
                have BK512:=n2_
                have BK525:=n3_
                have HB:=n4_
                clear n0_ n1_ n2_ n3_ n4_
                clear hb ho60
                refine hK.out _ _ trivial (fun hHeld => ?_)
                clear hK K
                refine norm_ (a':=?_) ?_ ?_
                rotate_left
                ·show Act.put _ (some 64) _ = _
                 simp only [Act.put,lS0,lS1,lS2,i64_w,i32_w]
                 rfl
                refine one_ (i:=5) (N:=some 65) #[true,true,true,true,true,true,true,true,true,true,false,false,false,false,false,true,false,false] rfl rfl (one_of HT_.out (by kernel_rfl)) (by decide) (fun K hK => ?_)
                have hcv61:=own_string (P:=Try.prog) Try.underlying61 Try.underlying5 Try.underlying9 (Kd.own_of_R HO517.out)
                refine value_ (w1:=?_) (v:=?_) (by rfl) rfl ?_ ?_
                rotate_left 2
                ·go_simp
                 constructor
                 ·rfl
                 ·rfl
                clear hcv61
                refine hK.out _ _ trivial (fun hHeld => ?_)
                clear hK K
                refine norm_ (a':=?_) ?_ ?_
                rotate_left
                ·show Act.put _ (some 65) _ = _
                 simp only [Act.put,lS0,lS1,lS2,i64_w,i32_w]
                 rfl
                refine pure_ (i:=10) (N:=some 70) (v:=?_) (a':=?_) #[true,true,true,true,true,true,true,true,true,true,true,false,false,false,false,true,false,false] rfl rfl (any_of HT_.out (by kernel_rfl)) (fun _ _ _ h => h) (Or.inl ⟨by rfl,?_⟩) ?_ ?_
                rotate_left
                ·intro w'
                 go_simp
                 with_reducible rfl
                rotate_left
                ·simp only [Act.put,lS0,lS1,lS2,i64_w,i32_w]
                 rfl
                refine one_ (i:=11) (N:=some 71) #[true,true,true,true,true,true,true,true,true,true,true,true,false,false,false,true,false,false] rfl rfl (one_of HT_.out (by kernel_rfl)) (by decide) (fun K hK => ?_)
                refine goes_ Try.func55 (by kernel_rfl) rfl #[.string ((strOfNums y515) ++ (x9_5.extract 0 ((ji28) : Int).toNat))] (by rfl) rfl rfl (by (try simp only [List.map_toArray,List.map_cons,List.map_nil]);first|done|(simp only [hji28];rfl)|rfl|(simp only [List.length_drop,List.length_take];rfl)) ?_
                with_reducible refine (bapmsg_Get.calls kj12 ((strOfNums y515) ++ (x9_5.extract 0 ((ji28) : Int).toNat)) t518 t519 t520 t521 t524 _ A32.out).mono ?_
                rintro e w62 ⟨v522,rfl,ho0,hb⟩
                refine ⟨_,rfl,?_⟩
                have n0_:=Aside0.mk (Kd.R_elder' (by (with_reducible repeat (first|apply kR1|apply kR2|apply kR3));exact HO_513003.out) (Kd.R_base ho0) hb)
                have n1_:=Aside0.mk (Kd.R_below (by (with_reducible repeat (first|apply kR1|apply kR2|apply kR3));exact HO517.out) hb)
                have n2_:=Aside0.mk (Kd.R_lower (Kd.R_new' ho0 (Kd.R_lt (by (with_reducible repeat (first|apply kR1|apply kR2|apply kR3));exact HO_513003.out))) (below_size (by repeat (first|(with_reducible first|exact HB.out|apply pB3|apply pB1|apply pB2|refine below_set ?_ GE512.out|refine below_set ?_ GE525.out)|exact HB.out))))
                have n3_:=Aside0.mk (blk_below (g:=gb512) (o:=.cells #[.int .i64 t505,.int .i64 t506,.int .i64 t507,.slice Ao20 t508.length co20] 56 (0,0)) (by (with_reducible repeat (first|refine bD1 ?_ _|refine bD2 ?_|refine bD3 ?_ _));exact BK512.out) hb)
                have n4_:=Aside0.mk (blk_below (g:=gb525) (o:=.cells #[.int .i64 0,.int .i64 0,.int .i64 0,.slice none 0 0] 56 (0,0)) (by (with_reducible repeat (first|refine bD1 ?_ _|refine bD2 ?_|refine bD3 ?_ _));exact BK525.out) hb)
                have n5_:=Aside0.mk (below_step (by repeat (first|(with_reducible first|exact HB.out|apply pB3|apply pB1|apply pB2|refine below_set ?_ GE512.out|refine below_set ?_ GE525.out)|exact HB.out)) hb)
                clear HO_513003
                clear HO517
                clear BK512
                clear BK525
                clear HB
                have HO_513003:=n0_
                have HO517:=n1_
                have HO523:=n2_
                have BK512:=n3_
                have BK525:=n4_
                have HB:=n5_
                clear n0_ n1_ n2_ n3_ n4_ n5_
                (try clear hb)
                (try clear hb2)
                (try clear hk)
                (try clear hi)
                (try clear ho0)
                refine hK.out _ _ trivial (fun hHeld => ?_)
                clear hK K
                refine norm_ (a':=?_) ?_ ?_
                rotate_left
                ·show Act.put _ (some 71) _ = _
                 simp only [Act.put,lS0,lS1,lS2,i64_w,i32_w]
                 rfl
                refine pure_ (i:=12) (N:=some 59) (v:=?_) (a':=?_) #[true,true,true,true,true,true,true,true,true,true,true,true,true,false,false,true,false,false] rfl rfl (any_of HT_.out (by kernel_rfl)) (fun _ _ _ h => h) (Or.inl ⟨by rfl,?_⟩) ?_ ?_
                rotate_left
                ·intro w'
                 go_simp
                 with_reducible rfl
                rotate_left
                ·simp only [Act.put,lS0,lS1,lS2,i64_w,i32_w]
                 rfl
                refine pure_ (i:=13) (N:=some 72) (v:=?_) (a':=?_) #[true,true,true,true,true,true,true,true,true,true,true,true,true,true,false,true,false,false] rfl rfl (any_of HT_.out (by kernel_rfl)) (fun _ _ _ h => h) (Or.inl ⟨by rfl,?_⟩) ?_ ?_
                rotate_left
                ·intro w'
                 go_simp
                 with_reducible rfl
                rotate_left
                ·simp only [Act.put,lS0,lS1,lS2,i64_w,i32_w]
                 rfl
                refine pure_ (i:=14) (N:=some 73) (v:=?_) (a':=?_) #[true,true,true,true,true,true,true,true,true,true,true,true,true,true,true,true,false,false] rfl rfl (any_of HT_.out (by kernel_rfl)) (fun _ _ _ h => h) (Or.inl ⟨by rfl,?_⟩) ?_ ?_
                rotate_left
                ·intro w'
                 go_simp
                 with_reducible rfl
                rotate_left
                ·simp only [Act.put,lS0,lS1,lS2,i64_w,i32_w]
                 rfl
                exact norm_ (by simp only [putAll,Act.put,lS0,lS1,lS2]) (hCont (v516,v522,gb525) _ ⟨(by (with_reducible repeat (first|apply kR1|apply kR2|apply kR3));exact HO517.out),(by (with_reducible repeat (first|apply kR1|apply kR2|apply kR3));exact Kd.R_mono HO523.out (fun _ hk => hk.2)),(by (with_reducible repeat (first|apply kR1|apply kR2|apply kR3));exact Kd.R_mono HO_513003.out (fun _ hk => hk.2)),(by (with_reducible repeat (first|refine bD1 ?_ _|refine bD2 ?_|refine bD3 ?_ _));exact BK512.out),(by (with_reducible repeat (first|refine bD1 ?_ _|refine bD2 ?_|refine bD3 ?_ _));exact BK525.out),GW525.out,GE525.out,NB512_525.out,NB525_512.out,(by repeat (first|(with_reducible first|exact HB.out|apply pB3|apply pB1|apply pB2|refine below_set ?_ GE512.out|refine below_set ?_ GE525.out)|exact HB.out))⟩)
              rintro ⟨v516,v522,gb525⟩ w63 ⟨h0_,h1_,h2_,h3_,h4_,h5_,h6_,h7_,h8_,h9_⟩
              have n0_ : Aside0 (Kd.R (Kd.int .u8) 5 w63 w.heap.size (fun _ => True) v516 y515):=⟨h0_⟩
              have n1_ : Aside0 (Kd.R k46 46 w63 w.heap.size (fun k_ => some k_ ≠ (.slice Ao20 t508.length co20 : Value).ownBlock) v522 t521):=⟨h1_⟩
              have n2_ : Aside0 (Kd.R k46 46 w63 w.heap.size (fun k_ => some k_ ≠ (v522 : Value).ownBlock) (.slice Ao20 t508.length co20) t508):=⟨h2_⟩
              have n3_ : Aside0 (w63.heap[gb512]? = some (.cells #[.int .i64 t505,.int .i64 t506,.int .i64 t507,.slice Ao20 t508.length co20] 56 (0,0))):=⟨h3_⟩
              have n4_ : Aside0 (w63.heap[gb525]? = some (.cells #[.int .i64 0,.int .i64 0,.int .i64 0,.slice none 0 0] 56 (0,0))):=⟨h4_⟩
              have n5_ : Aside0 (w.heap.size ≤ gb525):=⟨h5_⟩
              have n6_ : Aside0 (w.heap.size ≤ gb525):=⟨h6_⟩
              have n7_ : Aside0 (gb512 ≠ gb525):=⟨h7_⟩
              have n8_ : Aside0 (gb525 ≠ gb512):=⟨h8_⟩
              have n9_ : Aside0 (Below w.heap.size w w63):=⟨h9_⟩
              clear HO_513003
              clear BK512
              clear HB
              clear h0_ h1_ h2_ h3_ h4_ h5_ h6_ h7_ h8_ h9_
              have HO517:=n0_
              have HO523:=n1_
              have HO_513003:=n2_
              have BK512:=n3_
              have BK525:=n4_
              have GW525:=n5_
              have GE525:=n6_
              have NB512_525:=n7_
              have NB525_512:=n8_
              have HB:=n9_
              clear n0_ n1_ n2_ n3_ n4_ n5_ n6_ n7_ n8_ n9_
              have hHeld:=trivial
              obtain ⟨Ao67,co67,eo67⟩:=Kd.R_slice HO523.out
              (first|subst eo67|(injection eo67 with f1_ f2_ f3_;have f4_:=f1_.symm;have f5_:=f3_.symm;clear f1_ f2_ f3_;subst f4_;subst f5_))
              refine norm_ (a':=?_) ?_ ?_
              rotate_left
              ·simp only [putAll,Act.put,lS0,lS1,lS2]
               rfl
              refine one_ (i:=16) (N:=none) #[true,true,true,true,true,true,true,true,true,true,true,true,true,true,true,true,true,false] rfl rfl (one_of HT_.out (by kernel_rfl)) (by decide) (fun K hK => ?_)
              have hs64 : w63.cell? ⟨gb525,0,none⟩ = some (.int .i64 0):=(blk_cell BK525.out 0).trans rfl
              have hfs64:=blk_frozen BK525.out 0
              have hns64_0:=NB512_525.out
              have hms64_0:=NB525_512.out
              have hs65 : w63.cell? ⟨gb525,1,none⟩ = some (.int .i64 0):=(blk_cell BK525.out 1).trans rfl
              have hfs65:=blk_frozen BK525.out 1
              have hns65_0:=NB512_525.out
              have hms65_0:=NB525_512.out
              have hs66 : w63.cell? ⟨gb525,2,none⟩ = some (.int .i64 0):=(blk_cell BK525.out 2).trans rfl
              have hfs66:=blk_frozen BK525.out 2
              have hns66_0:=NB512_525.out
              have hms66_0:=NB525_512.out
              have hs68 : w63.cell? ⟨gb525,3,none⟩ = some (.slice none 0 0):=(blk_cell BK525.out 3).trans rfl
              have hfs68:=blk_frozen BK525.out 3
              have hns68_0:=NB512_525.out
              have hms68_0:=NB525_512.out
              refine skip_ (w1:=?_) (by rfl) rfl ?_ ?_
              rotate_left
              ·go_simp
               rfl
              refine hK.out _ _ trivial (fun hHeld => ?_)
              clear hK K
              refine pure_ (i:=17) (N:=some 13) (v:=?_) (a':=?_) #[true,true,true,true,true,true,true,true,true,true,true,true,true,true,true,true,true,true] rfl rfl (any_of HT_.out (by kernel_rfl)) (fun _ _ _ h => h) (Or.inl ⟨by rfl,?_⟩) ?_ ?_
              rotate_left
              ·intro w'
               go_simp
               with_reducible rfl
              rotate_left
              ·simp only [Act.put,lS0,lS1,lS2,i64_w,i32_w]
               rfl
              refine done_ (done_of HT_.out (by kernel_rfl)) ?_
              try go_wp2_with (first|((with_reducible refine gate_callee (f:=29) rfl ?_);refine goesL_ (some 75) rfl rfl Try.func29 (by kernel_rfl) rfl #[.int .i64 t511] rfl (by (try simp only [List.map_toArray,List.map_cons,List.map_nil]);first|done|rfl|(simp only [List.length_drop,List.length_take];rfl)) ?_;(with_reducible refine (withylaw0_Num.calls t511 t526 _ A33.out).mono ?_);rintro e w' ⟨rfl,⟨nd,rfl⟩⟩;refine ⟨_,rfl,?_⟩)|((with_reducible refine gate_callee (f:=29) rfl ?_);refine goesL_ (some 77) rfl rfl Try.func29 (by kernel_rfl) rfl #[.int .i64 t524] rfl (by (try simp only [List.map_toArray,List.map_cons,List.map_nil]);first|done|rfl|(simp only [List.length_drop,List.length_take];rfl)) ?_;(with_reducible refine (withylaw0_Num.calls t524 t527 _ A34.out).mono ?_);rintro e w' ⟨rfl,⟨nd,rfl⟩⟩;refine ⟨_,rfl,?_⟩;have hnb69:=NB512_525.out;have hnc69:=NB525_512.out;have hcz70_0 : w63.cell? ⟨gb512,0,none⟩ = some (.int .i64 t505):=(blk_cell BK512.out 0).trans rfl;have hcz70_1 : w63.cell? ⟨gb512,1,none⟩ = some (.int .i64 t506):=(blk_cell BK512.out 1).trans rfl;have hcz70_2 : w63.cell? ⟨gb512,2,none⟩ = some (.int .i64 t507):=(blk_cell BK512.out 2).trans rfl;have hcz70_3 : w63.cell? ⟨gb512,3,none⟩ = some (.slice Ao20 t508.length co20):=(blk_cell BK512.out 3).trans rfl;have hfz70_0:=blk_frozen BK512.out 0;have hfz70_1:=blk_frozen BK512.out 1;have hfz70_2:=blk_frozen BK512.out 2;have hfz70_3:=blk_frozen BK512.out 3;have hcz71_0 : w63.cell? ⟨gb525,0,none⟩ = some (.int .i64 0):=(blk_cell BK525.out 0).trans rfl;have hcz71_1 : w63.cell? ⟨gb525,1,none⟩ = some (.int .i64 0):=(blk_cell BK525.out 1).trans rfl;have hcz71_2 : w63.cell? ⟨gb525,2,none⟩ = some (.int .i64 0):=(blk_cell BK525.out 2).trans rfl;have hcz71_3 : w63.cell? ⟨gb525,3,none⟩ = some (.slice none 0 0):=(blk_cell BK525.out 3).trans rfl;have hfz71_0:=blk_frozen BK525.out 0;have hfz71_1:=blk_frozen BK525.out 1;have hfz71_2:=blk_frozen BK525.out 2;have hfz71_3:=blk_frozen BK525.out 3)|(go_at_call 56;(with_reducible refine (withylaw0_SameBap.calls kj12 t505 t506 t507 _ _ t508 t518 t519 t520 _ _ t521 true _ ?side1 ?side2 ?side3 ?side4 A36.out).mono ?_);(case side1 => refine (Kd.R_reads' (e:=46) (base:=w.heap.size) (ok:=fun k_ => some k_ ≠ (.slice Ao67 t521.length co67 : Value).ownBlock) (n:=t508.length) (c:=co20) ?_).2.2;exact (by (with_reducible repeat (first|apply kR1|apply kR2|apply kR3));exact (Kd.R_mono (Kd.R_far (p:=⟨gb525,3,none⟩) (Kd.R_far (p:=⟨gb525,2,none⟩) (Kd.R_far (p:=⟨gb525,1,none⟩) (Kd.R_far (p:=⟨gb525,0,none⟩) (Kd.R_types HO_513003.out BK525.out (by decide)) (fun _ hk => hk.2) (.int .i64 t518)) (fun _ hk => hk.2) (.int .i64 t519)) (fun _ hk => hk.2) (.int .i64 t520)) (fun _ hk => hk.2) (.slice Ao67 t521.length co67)) (fun _ h_ => h_.1))));(case side2 => exact (Kd.R_reads' HO_513003.out).2.1);(case side3 => refine (Kd.R_reads' (e:=46) (base:=w.heap.size) (ok:=fun k_ => some k_ ≠ (.slice Ao20 t508.length co20 : Value).ownBlock) (n:=t521.length) (c:=co67) ?_).2.2;exact (by (with_reducible repeat (first|apply kR1|apply kR2|apply kR3));exact (Kd.R_mono (Kd.R_far (p:=⟨gb525,3,none⟩) (Kd.R_far (p:=⟨gb525,2,none⟩) (Kd.R_far (p:=⟨gb525,1,none⟩) (Kd.R_far (p:=⟨gb525,0,none⟩) (Kd.R_types HO523.out BK525.out (by decide)) (fun _ hk => hk.2) (.int .i64 t518)) (fun _ hk => hk.2) (.int .i64 t519)) (fun _ hk => hk.2) (.int .i64 t520)) (fun _ hk => hk.2) (.slice Ao67 t521.length co67)) (fun _ h_ => h_.1))));(case side4 => exact (Kd.R_reads' HO523.out).2.1);rintro e w72 ⟨rfl,hb⟩;have n0_:=Aside0.mk (Kd.R_below (by (with_reducible repeat (first|apply kR1|apply kR2|apply kR3));exact (Kd.R_mono (Kd.R_far (p:=⟨gb525,3,none⟩) (Kd.R_far (p:=⟨gb525,2,none⟩) (Kd.R_far (p:=⟨gb525,1,none⟩) (Kd.R_far (p:=⟨gb525,0,none⟩) (Kd.R_types HO_513003.out BK525.out (by decide)) (fun _ hk => hk.2) (.int .i64 t518)) (fun _ hk => hk.2) (.int .i64 t519)) (fun _ hk => hk.2) (.int .i64 t520)) (fun _ hk => hk.2) (.slice Ao67 t521.length co67)) (fun _ h_ => h_.1))) hb);have n1_:=Aside0.mk (Kd.R_below (by (with_reducible repeat (first|apply kR1|apply kR2|apply kR3));exact (Kd.R_mono (Kd.R_far (p:=⟨gb525,3,none⟩) (Kd.R_far (p:=⟨gb525,2,none⟩) (Kd.R_far (p:=⟨gb525,1,none⟩) (Kd.R_far (p:=⟨gb525,0,none⟩) (Kd.R_types HO517.out BK525.out (by decide)) (fun _ hk => hk.2) (.int .i64 t518)) (fun _ hk => hk.2) (.int .i64 t519)) (fun _ hk => hk.2) (.int .i64 t520)) (fun _ hk => hk.2) (.slice Ao67 t521.length co67)) (fun _ h_ => h_.1))) hb);have n2_:=Aside0.mk (Kd.R_below (by (with_reducible repeat (first|apply kR1|apply kR2|apply kR3));exact (Kd.R_mono (Kd.R_far (p:=⟨gb525,3,none⟩) (Kd.R_far (p:=⟨gb525,2,none⟩) (Kd.R_far (p:=⟨gb525,1,none⟩) (Kd.R_far (p:=⟨gb525,0,none⟩) (Kd.R_types HO523.out BK525.out (by decide)) (fun _ hk => hk.2) (.int .i64 t518)) (fun _ hk => hk.2) (.int .i64 t519)) (fun _ hk => hk.2) (.int .i64 t520)) (fun _ hk => hk.2) (.slice Ao67 t521.length co67)) (fun _ h_ => h_.1))) hb);have n3_:=Aside0.mk (blk_below (g:=gb512) (o:=.cells #[.int .i64 t505,.int .i64 t506,.int .i64 t507,.slice Ao20 t508.length co20] 56 (0,0)) (by (with_reducible repeat (first|refine bD1 ?_ _|refine bD2 ?_|refine bD3 ?_ _));refine blk_far ?_ NB512_525.out _;(with_reducible repeat (first|refine bD1 ?_ _|refine bD2 ?_|refine bD3 ?_ _));refine blk_far ?_ NB512_525.out _;(with_reducible repeat (first|refine bD1 ?_ _|refine bD2 ?_|refine bD3 ?_ _));refine blk_far ?_ NB512_525.out _;(with_reducible repeat (first|refine bD1 ?_ _|refine bD2 ?_|refine bD3 ?_ _));refine blk_far ?_ NB512_525.out _;(with_reducible repeat (first|refine bD1 ?_ _|refine bD2 ?_|refine bD3 ?_ _));exact BK512.out) hb);have n4_:=Aside0.mk (blk_below (g:=gb525) (o:=.cells #[.int .i64 t518,.int .i64 t519,.int .i64 t520,.slice Ao67 t521.length co67] 56 (0,0)) (by (with_reducible repeat (first|refine bD1 ?_ _|refine bD2 ?_|refine bD3 ?_ _));refine blk_put (cs:=#[.int .i64 t518,.int .i64 t519,.int .i64 t520,.slice none 0 0]) ?_ 3 _ rfl;(with_reducible repeat (first|refine bD1 ?_ _|refine bD2 ?_|refine bD3 ?_ _));refine blk_put (cs:=#[.int .i64 t518,.int .i64 t519,.int .i64 0,.slice none 0 0]) ?_ 2 _ rfl;(with_reducible repeat (first|refine bD1 ?_ _|refine bD2 ?_|refine bD3 ?_ _));refine blk_put (cs:=#[.int .i64 t518,.int .i64 0,.int .i64 0,.slice none 0 0]) ?_ 1 _ rfl;(with_reducible repeat (first|refine bD1 ?_ _|refine bD2 ?_|refine bD3 ?_ _));refine blk_put (cs:=#[.int .i64 0,.int .i64 0,.int .i64 0,.slice none 0 0]) ?_ 0 _ rfl;(with_reducible repeat (first|refine bD1 ?_ _|refine bD2 ?_|refine bD3 ?_ _));exact BK525.out) hb);have n5_:=Aside0.mk (below_step (by repeat (first|(with_reducible first|exact HB.out|apply pB3|apply pB1|apply pB2|refine below_set ?_ GE512.out|refine below_set ?_ GE525.out)|exact HB.out)) hb);clear HO_513003;clear HO517;clear HO523;clear BK512;clear BK525;clear HB;have HO_513003:=n0_;have HO517:=n1_;have HO523:=n2_;have BK512:=n3_;have BK525:=n4_;have HB:=n5_;clear n0_ n1_ n2_ n3_ n4_ n5_;(try clear hb);(try clear hb2);(try clear hk);(try clear hi))|(go_at_call 29;(with_reducible refine (withylaw0_Num.calls t511 t529 _ A38.out).mono ?_);rintro e w' ⟨rfl,⟨nd,rfl⟩⟩)|(go_at_call 29;(with_reducible refine (withylaw0_Num.calls t511 t530 _ A56.out).mono ?_);rintro e w' ⟨rfl,⟨nd,rfl⟩⟩))
              go_ret
              exact ⟨by first|rfl|(have a_:=A38.out;have b_:=A56.out;rw [a_] at b_;obtain rfl:=Option.some.inj b_;rfl)|(simp [errW_none,errW_some] <;> rfl)|(simp only [← hji28];first|rfl|(simp [errW_none,errW_some] <;> rfl))|(simp [*,errW_none,errW_some] <;> rfl),by repeat (first|(with_reducible first|exact HB.out|apply pB3|apply pB1|apply pB2|refine below_set ?_ GE512.out|refine below_set ?_ GE525.out)|exact HB.out)⟩
            ·replace c37:=Bool.eq_false_iff.mpr c37
             subst c37
             have H1 : (some false) = some r:=by rw [if_neg (show ¬ (false = true) by decide)] at H;exact H
             clear H
             have H:=H1
             clear H1
             obtain rfl:=Option.some.inj H
             try go_wp2
             have n0_:=Aside0.mk (Kd.R_drew HO_513003.out)
             have n1_:=Aside0.mk (blk_drew BK512.out)
             have n2_:=Aside0.mk (below_drew1 HB.out)
             clear HO_513003
             clear BK512
             clear HB
             have HO_513003:=n0_
             have BK512:=n1_
             have HB:=n2_
             clear n0_ n1_ n2_
             refine start_ (n:=18) (S:=fun w' => True) (ds:=[]) #[false,false,false,false,false,false,false,false,false,false,false,false,false,false,false,false,false,false] (by kernel_rfl) rfl rfl trivial (fun hHeld => ?_);refine with_tabW withylaw9_BapLengths.tab11 withylaw9_BapLengths.bits11 (fun HT_ HW_ => ?_)
             generalize wc.drew = w73 at HO_513003 BK512 HB hHeld ⊢
             refine pure_ (i:=0) (N:=some 60) (v:=?_) (a':=?_) #[true,false,false,false,false,false,false,false,false,false,false,false,false,false,false,false,false,false] rfl rfl (any_of HT_.out (by kernel_rfl)) (fun _ _ _ h => h) (Or.inl ⟨by rfl,?_⟩) ?_ ?_
             rotate_left
             ·intro w'
              go_simp
              with_reducible rfl
             rotate_left
             ·simp only [Act.put,lS0,lS1,lS2,i64_w,i32_w]
              rfl
             refine pure_ (i:=1) (N:=some 61) (v:=?_) (a':=?_) #[true,true,false,false,false,false,false,false,false,false,false,false,false,false,false,false,false,false] rfl rfl (any_of HT_.out (by kernel_rfl)) (fun _ _ _ h => h) (Or.inl ⟨by rfl,?_⟩) ?_ ?_
             rotate_left
             ·intro w'
              go_simp
              with_reducible rfl
             rotate_left
             ·simp only [Act.put,lS0,lS1,lS2,i64_w,i32_w]
              rfl
             refine pure_ (i:=2) (N:=some 62) (v:=?_) (a':=?_) #[true,true,true,false,false,false,false,false,false,false,false,false,false,false,false,false,false,false] rfl rfl (any_of HT_.out (by kernel_rfl)) (fun _ _ _ h => h) (Or.inl ⟨by rfl,?_⟩) ?_ ?_
             rotate_left
             ·intro w'
              go_simp
              with_reducible rfl
             rotate_left
             ·simp only [Act.put,lS0,lS1,lS2,i64_w,i32_w]
              rfl
             refine pure_ (i:=3) (N:=some 63) (v:=?_) (a':=?_) #[true,true,true,true,false,false,false,false,false,false,false,false,false,false,false,false,false,false] rfl rfl (any_of HT_.out (by kernel_rfl)) (fun _ _ _ h => h) (Or.inl ⟨by rfl,?_⟩) ?_ ?_
             rotate_left
             ·intro w'
              go_simp
              with_reducible rfl
             rotate_left
             ·simp only [Act.put,lS0,lS1,lS2,i64_w,i32_w]
              rfl
             refine pure_ (i:=6) (N:=some 66) (v:=?_) (a':=?_) #[true,true,true,true,false,false,true,false,false,false,false,false,false,false,false,false,false,false] rfl rfl (any_of HT_.out (by kernel_rfl)) (fun _ _ _ h => h) (Or.inl ⟨by rfl,?_⟩) ?_ ?_
             rotate_left
             ·intro w'
              go_simp
              with_reducible rfl
             rotate_left
             ·simp only [Act.put,lS0,lS1,lS2,i64_w,i32_w]
              rfl
             refine pure_ (i:=7) (N:=some 67) (v:=?_) (a':=?_) #[true,true,true,true,false,false,true,true,false,false,false,false,false,false,false,false,false,false] rfl rfl (any_of HT_.out (by kernel_rfl)) (fun _ _ _ h => h) (Or.inl ⟨by rfl,?_⟩) ?_ ?_
             rotate_left
             ·intro w'
              go_simp
              with_reducible rfl
             rotate_left
             ·simp only [Act.put,lS0,lS1,lS2,i64_w,i32_w]
              rfl
             refine pure_ (i:=8) (N:=some 68) (v:=?_) (a':=?_) #[true,true,true,true,false,false,true,true,true,false,false,false,false,false,false,false,false,false] rfl rfl (any_of HT_.out (by kernel_rfl)) (fun _ _ _ h => h) (Or.inl ⟨by rfl,?_⟩) ?_ ?_
             rotate_left
             ·intro w'
              go_simp
              with_reducible rfl
             rotate_left
             ·simp only [Act.put,lS0,lS1,lS2,i64_w,i32_w]
              rfl
             refine pure_ (i:=9) (N:=some 69) (v:=?_) (a':=?_) #[true,true,true,true,false,false,true,true,true,true,false,false,false,false,false,false,false,false] rfl rfl (any_of HT_.out (by kernel_rfl)) (fun _ _ _ h => h) (Or.inl ⟨by rfl,?_⟩) ?_ ?_
             rotate_left
             ·intro w'
              go_simp
              with_reducible rfl
             rotate_left
             ·simp only [Act.put,lS0,lS1,lS2,i64_w,i32_w]
              rfl
             refine join_ (σ:=Value × Value × Nat) 2 #[true,true,true,true,true,true,true,true,true,true,true,true,true,true,true,true,false,false] (fun s_ => [(64,s_.1),(65,.string (strOfNums y515)),(71,.tuple #[.agg #[.int .i64 t518,.int .i64 t519,.int .i64 t520,s_.2.1],.int .i64 t524]),(12,.pointer (some ⟨s_.2.2,0,none⟩)),(70,.string ((strOfNums y515) ++ (x9_5.extract 0 ((ji28) : Int).toNat))),(59,.tuple #[.agg #[.int .i64 t518,.int .i64 t519,.int .i64 t520,s_.2.1],.int .i64 t524]),(72,.agg #[.int .i64 t518,.int .i64 t519,.int .i64 t520,s_.2.1]),(73,.int .i64 t524)]) (fun s_ w' => (Kd.R (Kd.int .u8) 5 w' w.heap.size (fun _ => True) s_.1 y515) ∧ (Kd.R k46 46 w' w.heap.size (fun k_ => some k_ ≠ (.slice Ao20 t508.length co20 : Value).ownBlock) s_.2.1 t521) ∧ (Kd.R k46 46 w' w.heap.size (fun k_ => some k_ ≠ (s_.2.1 : Value).ownBlock) (.slice Ao20 t508.length co20) t508) ∧ (w'.heap[gb512]? = some (.cells #[.int .i64 t505,.int .i64 t506,.int .i64 t507,.slice Ao20 t508.length co20] 56 (0,0))) ∧ (w'.heap[s_.2.2]? = some (.cells #[.int .i64 0,.int .i64 0,.int .i64 0,.slice none 0 0] 56 (0,0))) ∧ (w.heap.size ≤ s_.2.2) ∧ (w.heap.size ≤ s_.2.2) ∧ (gb512 ≠ s_.2.2) ∧ (s_.2.2 ≠ gb512) ∧ (Below w.heap.size w w')) ?_ ?_
             rotate_left
             ·intro hCont
              refine two_ (i:=4) (j:=15) (Ni:=some 64) (Nj:=some 12) #[true,true,true,true,true,false,true,true,true,true,false,false,false,false,false,false,false,false] #[true,true,true,true,false,false,true,true,true,true,false,false,false,false,false,true,false,false] rfl rfl rfl rfl (two_of HT_.out (by kernel_rfl)) (by decide) (by decide) (fun K hK => ?_) (fun K hK => ?_)
              ·skip
               refine Kd.R_lit_step (Kd.int .u8) _ 5 ?hg (N:=64) ?hd (xs:=([((wrap64 (1 + (wrap64 (2 * (wrap64 (Int.tmod (IntKind.u64.wrap (a0)) 4))))))) % 256,3,0,((Go.bits .and .i64 a1 63)) % 256] : List Int)) (inner:=[.int .u8 (((wrap64 (1 + (wrap64 (2 * (wrap64 (Int.tmod (IntKind.u64.wrap (a0)) 4))))))) % 256),.int .u8 3,.int .u8 0,.int .u8 (((Go.bits .and .i64 a1 63)) % 256)]) (ok:=fun _ => True) (okp:=fun _ => True) ?hr ?hp (fun _ hk => hk) trivial (Below.refl _ _) (Nat.le_refl _) (by simp) ?_;(case hd => rfl);(case hg => rfl);(case hr => first|(go_simp;done)|(go_simp;rfl));(case hp => exact (Reps.one (show Kd.M (Kd.int .u8) _ _ _ (((wrap64 (1 + (wrap64 (2 * (wrap64 (Int.tmod (IntKind.u64.wrap (a0)) 4))))))) % 256) [.int .u8 (((wrap64 (1 + (wrap64 (2 * (wrap64 (Int.tmod (IntKind.u64.wrap (a0)) 4))))))) % 256)] from rfl) (Reps.one (show Kd.M (Kd.int .u8) _ _ _ 3 [.int .u8 3] from rfl) (Reps.one (show Kd.M (Kd.int .u8) _ _ _ 0 [.int .u8 0] from rfl) (Reps.one (show Kd.M (Kd.int .u8) _ _ _ (((Go.bits .and .i64 a1 63)) % 256) [.int .u8 (((Go.bits .and .i64 a1 63)) % 256)] from rfl) (Reps.none _ _))))))
               intro v516 w74 ho75 hb hg_ hnew_
               clear hg_ hnew_
               (first|rw [← Ny515.out] at ho75|(simp only [Int.reduceToNat] at ho75;rw [← Ny515.out] at ho75))
               have n0_:=Aside0.mk (Kd.R_below (by (with_reducible repeat (first|apply kR1|apply kR2|apply kR3));exact HO_513003.out) hb)
               have n1_:=Aside0.mk (Kd.R_lower ho75 (below_size (by repeat (first|(with_reducible first|exact HB.out|apply pB3|apply pB1|apply pB2|refine below_set ?_ GE512.out)|exact HB.out))))
               have n2_:=Aside0.mk (blk_below (g:=gb512) (o:=.cells #[.int .i64 t505,.int .i64 t506,.int .i64 t507,.slice Ao20 t508.length co20] 56 (0,0)) (by (with_reducible repeat (first|refine bD1 ?_ _|refine bD2 ?_|refine bD3 ?_ _));exact BK512.out) hb)
               have n3_:=Aside0.mk (below_step (by repeat (first|(with_reducible first|exact HB.out|apply pB3|apply pB1|apply pB2|refine below_set ?_ GE512.out)|exact HB.out)) hb)
               clear HO_513003
               clear BK512
               clear HB
               have HO_513003:=n0_
               have HO517:=n1_
               have BK512:=n2_
               have HB:=n3_
               clear n0_ n1_ n2_ n3_
               clear hb ho75
               refine hK.out _ _ trivial (fun hHeld => ?_)
               clear hK K
               refine norm_ (a':=?_) ?_ ?_
               rotate_left
               ·show Act.put _ (some 64) _ = _
                simp only [Act.put,lS0,lS1,lS2,i64_w,i32_w]
                rfl
               refine two_ (i:=5) (j:=15) (Ni:=some 65) (Nj:=some 12) #[true,true,true,true,true,true,true,true,true,true,false,false,false,false,false,false,false,false] #[true,true,true,true,true,false,true,true,true,true,false,false,false,false,false,true,false,false] rfl rfl rfl rfl (two_of HT_.out (by kernel_rfl)) (by decide) (by decide) (fun K hK => ?_) (fun K hK => ?_)
               ·skip
                have hcv76:=own_string (P:=Try.prog) Try.underlying61 Try.underlying5 Try.underlying9 (Kd.own_of_R HO517.out)
                refine value_ (w1:=?_) (v:=?_) (by rfl) rfl ?_ ?_
                rotate_left 2
                ·go_simp
                 constructor
                 ·rfl
                 ·rfl
                clear hcv76
                refine hK.out _ _ trivial (fun hHeld => ?_)
                clear hK K
                refine norm_ (a':=?_) ?_ ?_
                rotate_left
                ·show Act.put _ (some 65) _ = _
                 simp only [Act.put,lS0,lS1,lS2,i64_w,i32_w]
                 rfl
                refine pure_ (i:=10) (N:=some 70) (v:=?_) (a':=?_) #[true,true,true,true,true,true,true,true,true,true,true,false,false,false,false,false,false,false] rfl rfl (any_of HT_.out (by kernel_rfl)) (fun _ _ _ h => h) (Or.inl ⟨by rfl,?_⟩) ?_ ?_
                rotate_left
                ·intro w'
                 go_simp
                 with_reducible rfl
                rotate_left
                ·simp only [Act.put,lS0,lS1,lS2,i64_w,i32_w]
                 rfl
                refine two_ (i:=11) (j:=15) (Ni:=some 71) (Nj:=some 12) #[true,true,true,true,true,true,true,true,true,true,true,true,false,false,false,false,false,false] #[true,true,true,true,true,true,true,true,true,true,true,false,false,false,false,true,false,false] rfl rfl rfl rfl (two_of HT_.out (by kernel_rfl)) (by decide) (by decide) (fun K hK => ?_) (fun K hK => ?_)
                ·skip
                 refine goes_ Try.func55 (by kernel_rfl) rfl #[.string ((strOfNums y515) ++ (x9_5.extract 0 ((ji28) : Int).toNat))] (by rfl) rfl rfl (by (try simp only [List.map_toArray,List.map_cons,List.map_nil]);first|done|(simp only [hji28];rfl)|rfl|(simp only [List.length_drop,List.length_take];rfl)) ?_
                 with_reducible refine (bapmsg_Get.calls kj12 ((strOfNums y515) ++ (x9_5.extract 0 ((ji28) : Int).toNat)) t518 t519 t520 t521 t524 _ A32.out).mono ?_
                 rintro e w77 ⟨v522,rfl,ho0,hb⟩
                 refine ⟨_,rfl,?_⟩
                 have n0_:=Aside0.mk (Kd.R_elder' (by (with_reducible repeat (first|apply kR1|apply kR2|apply kR3));exact HO_513003.out) (Kd.R_base ho0) hb)
                 have n1_:=Aside0.mk (Kd.R_below (by (with_reducible repeat (first|apply kR1|apply kR2|apply kR3));exact HO517.out) hb)
                 have n2_:=Aside0.mk (Kd.R_lower (Kd.R_new' ho0 (Kd.R_lt (by (with_reducible repeat (first|apply kR1|apply kR2|apply kR3));exact HO_513003.out))) (below_size (by repeat (first|(with_reducible first|exact HB.out|apply pB3|apply pB1|apply pB2|refine below_set ?_ GE512.out)|exact HB.out))))
                 have n3_:=Aside0.mk (blk_below (g:=gb512) (o:=.cells #[.int .i64 t505,.int .i64 t506,.int .i64 t507,.slice Ao20 t508.length co20] 56 (0,0)) (by (with_reducible repeat (first|refine bD1 ?_ _|refine bD2 ?_|refine bD3 ?_ _));exact BK512.out) hb)
                 have n4_:=Aside0.mk (below_step (by repeat (first|(with_reducible first|exact HB.out|apply pB3|apply pB1|apply pB2|refine below_set ?_ GE512.out)|exact HB.out)) hb)
                 clear HO_513003
                 clear HO517
                 clear BK512
                 clear HB
                 have HO_513003:=n0_
                 have HO517:=n1_
                 have HO523:=n2_
                 have BK512:=n3_
                 have HB:=n4_
                 clear n0_ n1_ n2_ n3_ n4_
                 (try clear hb)
                 (try clear hb2)
                 (try clear hk)
                 (try clear hi)
                 (try clear ho0)
                 refine hK.out _ _ trivial (fun hHeld => ?_)
                 clear hK K
                 refine norm_ (a':=?_) ?_ ?_
                 rotate_left
                 ·show Act.put _ (some 71) _ = _
                  simp only [Act.put,lS0,lS1,lS2,i64_w,i32_w]
                  rfl
                 refine pure_ (i:=12) (N:=some 59) (v:=?_) (a':=?_) #[true,true,true,true,true,true,true,true,true,true,true,true,true,false,false,false,false,false] rfl rfl (any_of HT_.out (by kernel_rfl)) (fun _ _ _ h => h) (Or.inl ⟨by rfl,?_⟩) ?_ ?_
                 rotate_left
                 ·intro w'
                  go_simp
                  with_reducible rfl
                 rotate_left
                 ·simp only [Act.put,lS0,lS1,lS2,i64_w,i32_w]
                  rfl
                 refine pure_ (i:=13) (N:=some 72) (v:=?_) (a':=?_) #[true,true,true,true,true,true,true,true,true,true,true,true,true,true,false,false,false,false] rfl rfl (any_of HT_.out (by kernel_rfl)) (fun _ _ _ h => h) (Or.inl ⟨by rfl,?_⟩) ?_ ?_
                 rotate_left
                 ·intro w'
                  go_simp
                  with_reducible rfl
                 rotate_left
                 ·simp only [Act.put,lS0,lS1,lS2,i64_w,i32_w]
                  rfl
                 refine pure_ (i:=14) (N:=some 73) (v:=?_) (a':=?_) #[true,true,true,true,true,true,true,true,true,true,true,true,true,true,true,false,false,false] rfl rfl (any_of HT_.out (by kernel_rfl)) (fun _ _ _ h => h) (Or.inl ⟨by rfl,?_⟩) ?_ ?_
                 rotate_left
                 ·intro w'
                  go_simp
                  with_reducible rfl
                 rotate_left
                 ·simp only [Act.put,lS0,lS1,lS2,i64_w,i32_w]
                  rfl
                 refine one_ (i:=15) (N:=some 12) #[true,true,true,true,true,true,true,true,true,true,true,true,true,true,true,true,false,false] rfl rfl (one_of HT_.out (by kernel_rfl)) (by decide) (fun K hK => ?_)
                 refine box_step ?hg (N:=12) ?hd (cs:=#[.int .i64 0,.int .i64 0,.int .i64 0,.slice none 0 0]) (t:=56) ?hr ?_;(case hd => rfl);(case hg => rfl);(case hr => first|(go_simp;done)|(go_simp;rfl))
                 intro gb525 hg w78 hbox hb
                 have n0_:=Aside0.mk (Kd.R_below (by (with_reducible repeat (first|apply kR1|apply kR2|apply kR3));exact HO_513003.out) hb)
                 have n1_:=Aside0.mk (Kd.R_below (by (with_reducible repeat (first|apply kR1|apply kR2|apply kR3));exact HO517.out) hb)
                 have n2_:=Aside0.mk (Kd.R_below (by (with_reducible repeat (first|apply kR1|apply kR2|apply kR3));exact HO523.out) hb)
                 have n3_:=Aside0.mk (blk_below (g:=gb512) (o:=.cells #[.int .i64 t505,.int .i64 t506,.int .i64 t507,.slice Ao20 t508.length co20] 56 (0,0)) (by (with_reducible repeat (first|refine bD1 ?_ _|refine bD2 ?_|refine bD3 ?_ _));exact BK512.out) hb)
                 have n4_:=Aside0.mk (below_step (by repeat (first|(with_reducible first|exact HB.out|apply pB3|apply pB1|apply pB2|refine below_set ?_ GE512.out)|exact HB.out)) hb)
                 have n5_:=Aside0.mk (hbox)
                 have n6_:=Aside0.mk ((by rw [hg];exact (below_size (by repeat (first|(with_reducible first|exact HB.out|apply pB3|apply pB1|apply pB2|refine below_set ?_ GE512.out)|exact HB.out))) : w.heap.size ≤ gb525))
                 have n7_:=Aside0.mk ((by rw [hg];exact (below_size (by repeat (first|(with_reducible first|exact HB.out|apply pB3|apply pB1|apply pB2|refine below_set ?_ GE512.out)|exact HB.out))) : w.heap.size ≤ gb525))
                 have n8_:=Aside0.mk ((by rw [hg];exact Nat.ne_of_lt (blk_lt (g:=gb512) (o:=.cells #[.int .i64 t505,.int .i64 t506,.int .i64 t507,.slice Ao20 t508.length co20] 56 (0,0)) (by (with_reducible repeat (first|refine bD1 ?_ _|refine bD2 ?_|refine bD3 ?_ _));exact BK512.out)) : gb512 ≠ gb525))
                 have n9_:=Aside0.mk ((by rw [hg];exact Nat.ne_of_gt (blk_lt (g:=gb512) (o:=.cells #[.int .i64 t505,.int .i64 t506,.int .i64 t507,.slice Ao20 t508.length co20] 56 (0,0)) (by (with_reducible repeat (first|refine bD1 ?_ _|refine bD2 ?_|refine bD3 ?_ _));exact BK512.out)) : gb525 ≠ gb512))
                 clear HO_513003
                 clear HO517
                 clear HO523
                 clear BK512
                 clear HB
                 have HO_513003:=n0_
                 have HO517:=n1_
                 have HO523:=n2_
                 have BK512:=n3_
                 have HB:=n4_
                 have BK525:=n5_
                 have GW525:=n6_
                 have GE525:=n7_
                 have NB512_525:=n8_
                 have NB525_512:=n9_
                 clear n0_ n1_ n2_ n3_ n4_ n5_ n6_ n7_ n8_ n9_
                 clear hb hbox hg
                 refine hK.out _ _ trivial (fun hHeld => ?_)
                 clear hK K
                 refine norm_ (a':=?_) ?_ ?_
                 rotate_left
                 ·show Act.put _ (some 12) _ = _
                  simp only [Act.put,lS0,lS1,lS2,i64_w,i32_w]
                  rfl
                 exact norm_ (by simp only [putAll,Act.put,lS0,lS1,lS2]) (hCont (v516,v522,gb525) _ ⟨(by (with_reducible repeat (first|apply kR1|apply kR2|apply kR3));exact HO517.out),(by (with_reducible repeat (first|apply kR1|apply kR2|apply kR3));exact Kd.R_mono HO523.out (fun _ hk => hk.2)),(by (with_reducible repeat (first|apply kR1|apply kR2|apply kR3));exact Kd.R_mono HO_513003.out (fun _ hk => hk.2)),(by (with_reducible repeat (first|refine bD1 ?_ _|refine bD2 ?_|refine bD3 ?_ _));exact BK512.out),(by (with_reducible repeat (first|refine bD1 ?_ _|refine bD2 ?_|refine bD3 ?_ _));exact BK525.out),GW525.out,GE525.out,NB512_525.out,NB525_512.out,(by repeat (first|(with_reducible first|exact HB.out|apply pB3|apply pB1|apply pB2|refine below_set ?_ GE512.out|refine below_set ?_ GE525.out)|exact HB.out))⟩)
                ·skip
                 refine box_step ?hg (N:=12) ?hd (cs:=#[.int .i64 0,.int .i64 0,.int .i64 0,.slice none 0 0]) (t:=56) ?hr ?_;(case hd => rfl);(case hg => rfl);(case hr => first|(go_simp;done)|(go_simp;rfl))
                 intro gb525 hg w77 hbox hb
                 have n0_:=Aside0.mk (Kd.R_below (by (with_reducible repeat (first|apply kR1|apply kR2|apply kR3));exact HO_513003.out) hb)
                 have n1_:=Aside0.mk (Kd.R_below (by (with_reducible repeat (first|apply kR1|apply kR2|apply kR3));exact HO517.out) hb)
                 have n2_:=Aside0.mk (blk_below (g:=gb512) (o:=.cells #[.int .i64 t505,.int .i64 t506,.int .i64 t507,.slice Ao20 t508.length co20] 56 (0,0)) (by (with_reducible repeat (first|refine bD1 ?_ _|refine bD2 ?_|refine bD3 ?_ _));exact BK512.out) hb)
                 have n3_:=Aside0.mk (below_step (by repeat (first|(with_reducible first|exact HB.out|apply pB3|apply pB1|apply pB2|refine below_set ?_ GE512.out)|exact HB.out)) hb)
                 have n4_:=Aside0.mk (hbox)
                 have n5_:=Aside0.mk ((by rw [hg];exact (below_size (by repeat (first|(with_reducible first|exact HB.out|apply pB3|apply pB1|apply pB2|refine below_set ?_ GE512.out)|exact HB.out))) : w.heap.size ≤ gb525))
                 have n6_:=Aside0.mk ((by rw [hg];exact (below_size (by repeat (first|(with_reducible first|exact HB.out|apply pB3|apply pB1|apply pB2|refine below_set ?_ GE512.out)|exact HB.out))) : w.heap.size ≤ gb525))
                 have n7_:=Aside0.mk ((by rw [hg];exact Nat.ne_of_lt (blk_lt (g:=gb512) (o:=.cells #[.int .i64 t505,.int .i64 t506,.int .i64 t507,.slice Ao20 t508.length co20] 56 (0,0)) (by (with_reducible repeat (first|refine bD1 ?_ _|refine bD2 ?_|refine bD3 ?_ _));exact BK512.out)) : gb512 ≠ gb525))
                 have n8_:=Aside0.mk ((by rw [hg];exact Nat.ne_of_gt (blk_lt (g:=gb512) (o:=.cells #[.int .i64 t505,.int .i64 t506,.int .i64 t507,.slice Ao20 t508.length co20] 56 (0,0)) (by (with_reducible repeat (first|refine bD1 ?_ _|refine bD2 ?_|refine bD3 ?_ _));exact BK512.out)) : gb525 ≠ gb512))
                 clear HO_513003
                 clear HO517
                 clear BK512
                 clear HB
                 have HO_513003:=n0_
                 have HO517:=n1_
                 have BK512:=n2_
                 have HB:=n3_
                 have BK525:=n4_
                 have GW525:=n5_
                 have GE525:=n6_
                 have NB512_525:=n7_
                 have NB525_512:=n8_
                 clear n0_ n1_ n2_ n3_ n4_ n5_ n6_ n7_ n8_
                 clear hb hbox hg
                 refine hK.out _ _ trivial (fun hHeld => ?_)
                 clear hK K
                 refine norm_ (a':=?_) ?_ ?_
                 rotate_left
                 ·show Act.put _ (some 12) _ = _
                  simp only [Act.put,lS0,lS1,lS2,i64_w,i32_w]
                  rfl
                 refine one_ (i:=11) (N:=some 71) #[true,true,true,true,true,true,true,true,true,true,true,true,false,false,false,true,false,false] rfl rfl (one_of HT_.out (by kernel_rfl)) (by decide) (fun K hK => ?_)
                 refine goes_ Try.func55 (by kernel_rfl) rfl #[.string ((strOfNums y515) ++ (x9_5.extract 0 ((ji28) : Int).toNat))] (by rfl) rfl rfl (by (try simp only [List.map_toArray,List.map_cons,List.map_nil]);first|done|(simp only [hji28];rfl)|rfl|(simp only [List.length_drop,List.length_take];rfl)) ?_
                 with_reducible refine (bapmsg_Get.calls kj12 ((strOfNums y515) ++ (x9_5.extract 0 ((ji28) : Int).toNat)) t518 t519 t520 t521 t524 _ A32.out).mono ?_
                 rintro e w78 ⟨v522,rfl,ho0,hb⟩
                 refine ⟨_,rfl,?_⟩
                 have n0_:=Aside0.mk (Kd.R_elder' (by (with_reducible repeat (first|apply kR1|apply kR2|apply kR3));exact HO_513003.out) (Kd.R_base ho0) hb)
                 have n1_:=Aside0.mk (Kd.R_below (by (with_reducible repeat (first|apply kR1|apply kR2|apply kR3));exact HO517.out) hb)
                 have n2_:=Aside0.mk (Kd.R_lower (Kd.R_new' ho0 (Kd.R_lt (by (with_reducible repeat (first|apply kR1|apply kR2|apply kR3));exact HO_513003.out))) (below_size (by repeat (first|(with_reducible first|exact HB.out|apply pB3|apply pB1|apply pB2|refine below_set ?_ GE512.out|refine below_set ?_ GE525.out)|exact HB.out))))
                 have n3_:=Aside0.mk (blk_below (g:=gb512) (o:=.cells #[.int .i64 t505,.int .i64 t506,.int .i64 t507,.slice Ao20 t508.length co20] 56 (0,0)) (by (with_reducible repeat (first|refine bD1 ?_ _|refine bD2 ?_|refine bD3 ?_ _));exact BK512.out) hb)
                 have n4_:=Aside0.mk (blk_below (g:=gb525) (o:=.cells #[.int .i64 0,.int .i64 0,.int .i64 0,.slice none 0 0] 56 (0,0)) (by (with_reducible repeat (first|refine bD1 ?_ _|refine bD2 ?_|refine bD3 ?_ _));exact BK525.out) hb)
                 have n5_:=Aside0.mk (below_step (by repeat (first|(with_reducible first|exact HB.out|apply pB3|apply pB1|apply pB2|refine below_set ?_ GE512.out|refine below_set ?_ GE525.out)|exact HB.out)) hb)
                 clear HO_513003
                 clear HO517
                 clear BK512
                 clear BK525
                 clear HB
                 have HO_513003:=n0_
                 have HO517:=n1_
                 have HO523:=n2_
                 have BK512:=n3_
                 have BK525:=n4_
                 have HB:=n5_
                 clear n0_ n1_ n2_ n3_ n4_ n5_
                 (try clear hb)
                 (try clear hb2)
                 (try clear hk)
                 (try clear hi)
                 (try clear ho0)
                 refine hK.out _ _ trivial (fun hHeld => ?_)
                 clear hK K
                 refine norm_ (a':=?_) ?_ ?_
                 rotate_left
                 ·show Act.put _ (some 71) _ = _
                  simp only [Act.put,lS0,lS1,lS2,i64_w,i32_w]
                  rfl
                 refine pure_ (i:=12) (N:=some 59) (v:=?_) (a':=?_) #[true,true,true,true,true,true,true,true,true,true,true,true,true,false,false,true,false,false] rfl rfl (any_of HT_.out (by kernel_rfl)) (fun _ _ _ h => h) (Or.inl ⟨by rfl,?_⟩) ?_ ?_
                 rotate_left
                 ·intro w'
                  go_simp
                  with_reducible rfl
                 rotate_left
                 ·simp only [Act.put,lS0,lS1,lS2,i64_w,i32_w]
                  rfl
                 refine pure_ (i:=13) (N:=some 72) (v:=?_) (a':=?_) #[true,true,true,true,true,true,true,true,true,true,true,true,true,true,false,true,false,false] rfl rfl (any_of HT_.out (by kernel_rfl)) (fun _ _ _ h => h) (Or.inl ⟨by rfl,?_⟩) ?_ ?_
                 rotate_left
                 ·intro w'
                  go_simp
                  with_reducible rfl
                 rotate_left
                 ·simp only [Act.put,lS0,lS1,lS2,i64_w,i32_w]
                  rfl
                 refine pure_ (i:=14) (N:=some 73) (v:=?_) (a':=?_) #[true,true,true,true,true,true,true,true,true,true,true,true,true,true,true,true,false,false] rfl rfl (any_of HT_.out (by kernel_rfl)) (fun _ _ _ h => h) (Or.inl ⟨by rfl,?_⟩) ?_ ?_
                 rotate_left
                 ·intro w'
                  go_simp
                  with_reducible rfl
                 rotate_left
                 ·simp only [Act.put,lS0,lS1,lS2,i64_w,i32_w]
                  rfl
                 exact norm_ (by simp only [putAll,Act.put,lS0,lS1,lS2]) (hCont (v516,v522,gb525) _ ⟨(by (with_reducible repeat (first|apply kR1|apply kR2|apply kR3));exact HO517.out),(by (with_reducible repeat (first|apply kR1|apply kR2|apply kR3));exact Kd.R_mono HO523.out (fun _ hk => hk.2)),(by (with_reducible repeat (first|apply kR1|apply kR2|apply kR3));exact Kd.R_mono HO_513003.out (fun _ hk => hk.2)),(by (with_reducible repeat (first|refine bD1 ?_ _|refine bD2 ?_|refine bD3 ?_ _));exact BK512.out),(by (with_reducible repeat (first|refine bD1 ?_ _|refine bD2 ?_|refine bD3 ?_ _));exact BK525.out),GW525.out,GE525.out,NB512_525.out,NB525_512.out,(by repeat (first|(with_reducible first|exact HB.out|apply pB3|apply pB1|apply pB2|refine below_set ?_ GE512.out|refine below_set ?_ GE525.out)|exact HB.out))⟩)
               ·skip
                refine box_step ?hg (N:=12) ?hd (cs:=#[.int .i64 0,.int .i64 0,.int .i64 0,.slice none 0 0]) (t:=56) ?hr ?_;(case hd => rfl);(case hg => rfl);(case hr => first|(go_simp;done)|(go_simp;rfl))
                intro gb525 hg w76 hbox hb
                have n0_:=Aside0.mk (Kd.R_below (by (with_reducible repeat (first|apply kR1|apply kR2|apply kR3));exact HO_513003.out) hb)
                have n1_:=Aside0.mk (Kd.R_below (by (with_reducible repeat (first|apply kR1|apply kR2|apply kR3));exact HO517.out) hb)
                have n2_:=Aside0.mk (blk_below (g:=gb512) (o:=.cells #[.int .i64 t505,.int .i64 t506,.int .i64 t507,.slice Ao20 t508.length co20] 56 (0,0)) (by (with_reducible repeat (first|refine bD1 ?_ _|refine bD2 ?_|refine bD3 ?_ _));exact BK512.out) hb)
                have n3_:=Aside0.mk (below_step (by repeat (first|(with_reducible first|exact HB.out|apply pB3|apply pB1|apply pB2|refine below_set ?_ GE512.out)|exact HB.out)) hb)
                have n4_:=Aside0.mk (hbox)
                have n5_:=Aside0.mk ((by rw [hg];exact (below_size (by repeat (first|(with_reducible first|exact HB.out|apply pB3|apply pB1|apply pB2|refine below_set ?_ GE512.out)|exact HB.out))) : w.heap.size ≤ gb525))
                have n6_:=Aside0.mk ((by rw [hg];exact (below_size (by repeat (first|(with_reducible first|exact HB.out|apply pB3|apply pB1|apply pB2|refine below_set ?_ GE512.out)|exact HB.out))) : w.heap.size ≤ gb525))
                have n7_:=Aside0.mk ((by rw [hg];exact Nat.ne_of_lt (blk_lt (g:=gb512) (o:=.cells #[.int .i64 t505,.int .i64 t506,.int .i64 t507,.slice Ao20 t508.length co20] 56 (0,0)) (by (with_reducible repeat (first|refine bD1 ?_ _|refine bD2 ?_|refine bD3 ?_ _));exact BK512.out)) : gb512 ≠ gb525))
                have n8_:=Aside0.mk ((by rw [hg];exact Nat.ne_of_gt (blk_lt (g:=gb512) (o:=.cells #[.int .i64 t505,.int .i64 t506,.int .i64 t507,.slice Ao20 t508.length co20] 56 (0,0)) (by (with_reducible repeat (first|refine bD1 ?_ _|refine bD2 ?_|refine bD3 ?_ _));exact BK512.out)) : gb525 ≠ gb512))
                clear HO_513003
                clear HO517
                clear BK512
                clear HB
                have HO_513003:=n0_
                have HO517:=n1_
                have BK512:=n2_
                have HB:=n3_
                have BK525:=n4_
                have GW525:=n5_
                have GE525:=n6_
                have NB512_525:=n7_
                have NB525_512:=n8_
                clear n0_ n1_ n2_ n3_ n4_ n5_ n6_ n7_ n8_
                clear hb hbox hg
                refine hK.out _ _ trivial (fun hHeld => ?_)
                clear hK K
                refine norm_ (a':=?_) ?_ ?_
                rotate_left
                ·show Act.put _ (some 12) _ = _
                 simp only [Act.put,lS0,lS1,lS2,i64_w,i32_w]
                 rfl
                refine one_ (i:=5) (N:=some 65) #[true,true,true,true,true,true,true,true,true,true,false,false,false,false,false,true,false,false] rfl rfl (one_of HT_.out (by kernel_rfl)) (by decide) (fun K hK => ?_)
                have hcv77:=own_string (P:=Try.prog) Try.underlying61 Try.underlying5 Try.underlying9 (Kd.own_of_R HO517.out)
                refine value_ (w1:=?_) (v:=?_) (by rfl) rfl ?_ ?_
                rotate_left 2
                ·go_simp
                 constructor
                 ·rfl
                 ·rfl
                clear hcv77
                refine hK.out _ _ trivial (fun hHeld => ?_)
                clear hK K
                refine norm_ (a':=?_) ?_ ?_
                rotate_left
                ·show Act.put _ (some 65) _ = _
                 simp only [Act.put,lS0,lS1,lS2,i64_w,i32_w]
                 rfl
                refine pure_ (i:=10) (N:=some 70) (v:=?_) (a':=?_) #[true,true,true,true,true,true,true,true,true,true,true,false,false,false,false,true,false,false] rfl rfl (any_of HT_.out (by kernel_rfl)) (fun _ _ _ h => h) (Or.inl ⟨by rfl,?_⟩) ?_ ?_
                rotate_left
                ·intro w'
                 go_simp
                 with_reducible rfl
                rotate_left
                ·simp only [Act.put,lS0,lS1,lS2,i64_w,i32_w]
                 rfl
                refine one_ (i:=11) (N:=some 71) #[true,true,true,true,true,true,true,true,true,true,true,true,false,false,false,true,false,false] rfl rfl (one_of HT_.out (by kernel_rfl)) (by decide) (fun K hK => ?_)
                refine goes_ Try.func55 (by kernel_rfl) rfl #[.string ((strOfNums y515) ++ (x9_5.extract 0 ((ji28) : Int).toNat))] (by rfl) rfl rfl (by (try simp only [List.map_toArray,List.map_cons,List.map_nil]);first|done|(simp only [hji28];rfl)|rfl|(simp only [List.length_drop,List.length_take];rfl)) ?_
                with_reducible refine (bapmsg_Get.calls kj12 ((strOfNums y515) ++ (x9_5.extract 0 ((ji28) : Int).toNat)) t518 t519 t520 t521 t524 _ A32.out).mono ?_
                rintro e w78 ⟨v522,rfl,ho0,hb⟩
                refine ⟨_,rfl,?_⟩
                have n0_:=Aside0.mk (Kd.R_elder' (by (with_reducible repeat (first|apply kR1|apply kR2|apply kR3));exact HO_513003.out) (Kd.R_base ho0) hb)
                have n1_:=Aside0.mk (Kd.R_below (by (with_reducible repeat (first|apply kR1|apply kR2|apply kR3));exact HO517.out) hb)
                have n2_:=Aside0.mk (Kd.R_lower (Kd.R_new' ho0 (Kd.R_lt (by (with_reducible repeat (first|apply kR1|apply kR2|apply kR3));exact HO_513003.out))) (below_size (by repeat (first|(with_reducible first|exact HB.out|apply pB3|apply pB1|apply pB2|refine below_set ?_ GE512.out|refine below_set ?_ GE525.out)|exact HB.out))))
                have n3_:=Aside0.mk (blk_below (g:=gb512) (o:=.cells #[.int .i64 t505,.int .i64 t506,.int .i64 t507,.slice Ao20 t508.length co20] 56 (0,0)) (by (with_reducible repeat (first|refine bD1 ?_ _|refine bD2 ?_|refine bD3 ?_ _));exact BK512.out) hb)
                have n4_:=Aside0.mk (blk_below (g:=gb525) (o:=.cells #[.int .i64 0,.int .i64 0,.int .i64 0,.slice none 0 0] 56 (0,0)) (by (with_reducible repeat (first|refine bD1 ?_ _|refine bD2 ?_|refine bD3 ?_ _));exact BK525.out) hb)
                have n5_:=Aside0.mk (below_step (by repeat (first|(with_reducible first|exact HB.out|apply pB3|apply pB1|apply pB2|refine below_set ?_ GE512.out|refine below_set ?_ GE525.out)|exact HB.out)) hb)
                clear HO_513003
                clear HO517
                clear BK512
                clear BK525
                clear HB
                have HO_513003:=n0_
                have HO517:=n1_
                have HO523:=n2_
                have BK512:=n3_
                have BK525:=n4_
                have HB:=n5_
                clear n0_ n1_ n2_ n3_ n4_ n5_
                (try clear hb)
                (try clear hb2)
                (try clear hk)
                (try clear hi)
                (try clear ho0)
                refine hK.out _ _ trivial (fun hHeld => ?_)
                clear hK K
                refine norm_ (a':=?_) ?_ ?_
                rotate_left
                ·show Act.put _ (some 71) _ = _
                 simp only [Act.put,lS0,lS1,lS2,i64_w,i32_w]
                 rfl
                refine pure_ (i:=12) (N:=some 59) (v:=?_) (a':=?_) #[true,true,true,true,true,true,true,true,true,true,true,true,true,false,false,true,false,false] rfl rfl (any_of HT_.out (by kernel_rfl)) (fun _ _ _ h => h) (Or.inl ⟨by rfl,?_⟩) ?_ ?_
                rotate_left
                ·intro w'
                 go_simp
                 with_reducible rfl
                rotate_left
                ·simp only [Act.put,lS0,lS1,lS2,i64_w,i32_w]
                 rfl
                refine pure_ (i:=13) (N:=some 72) (v:=?_) (a':=?_) #[true,true,true,true,true,true,true,true,true,true,true,true,true,true,false,true,false,false] rfl rfl (any_of HT_.out (by kernel_rfl)) (fun _ _ _ h => h) (Or.inl ⟨by rfl,?_⟩) ?_ ?_
                rotate_left
                ·intro w'
                 go_simp
                 with_reducible rfl
                rotate_left
                ·simp only [Act.put,lS0,lS1,lS2,i64_w,i32_w]
                 rfl
                refine pure_ (i:=14) (N:=some 73) (v:=?_) (a':=?_) #[true,true,true,true,true,true,true,true,true,true,true,true,true,true,true,true,false,false] rfl rfl (any_of HT_.out (by kernel_rfl)) (fun _ _ _ h => h) (Or.inl ⟨by rfl,?_⟩) ?_ ?_
                rotate_left
                ·intro w'
                 go_simp
                 with_reducible rfl
                rotate_left
                ·simp only [Act.put,lS0,lS1,lS2,i64_w,i32_w]
                 rfl
                exact norm_ (by simp only [putAll,Act.put,lS0,lS1,lS2]) (hCont (v516,v522,gb525) _ ⟨(by (with_reducible repeat (first|apply kR1|apply kR2|apply kR3));exact HO517.out),(by (with_reducible repeat (first|apply kR1|apply kR2|apply kR3));exact Kd.R_mono HO523.out (fun _ hk => hk.2)),(by (with_reducible repeat (first|apply kR1|apply kR2|apply kR3));exact Kd.R_mono HO_513003.out (fun _ hk => hk.2)),(by (with_reducible repeat (first|refine bD1 ?_ _|refine bD2 ?_|refine bD3 ?_ _));exact BK512.out),(by (with_reducible repeat (first|refine bD1 ?_ _|refine bD2 ?_|refine bD3 ?_ _));exact BK525.out),GW525.out,GE525.out,NB512_525.out,NB525_512.out,(by repeat (first|(with_reducible first|exact HB.out|apply pB3|apply pB1|apply pB2|refine below_set ?_ GE512.out|refine below_set ?_ GE525.out)|exact HB.out))⟩)
              ·skip
               refine box_step ?hg (N:=12) ?hd (cs:=#[.int .i64 0,.int .i64 0,.int .i64 0,.slice none 0 0]) (t:=56) ?hr ?_;(case hd => rfl);(case hg => rfl);(case hr => first|(go_simp;done)|(go_simp;rfl))
               intro gb525 hg w74 hbox hb
               have n0_:=Aside0.mk (Kd.R_below (by (with_reducible repeat (first|apply kR1|apply kR2|apply kR3));exact HO_513003.out) hb)
               have n1_:=Aside0.mk (blk_below (g:=gb512) (o:=.cells #[.int .i64 t505,.int .i64 t506,.int .i64 t507,.slice Ao20 t508.length co20] 56 (0,0)) (by (with_reducible repeat (first|refine bD1 ?_ _|refine bD2 ?_|refine bD3 ?_ _));exact BK512.out) hb)
               have n2_:=Aside0.mk (below_step (by repeat (first|(with_reducible first|exact HB.out|apply pB3|apply pB1|apply pB2|refine below_set ?_ GE512.out)|exact HB.out)) hb)
               have n3_:=Aside0.mk (hbox)
               have n4_:=Aside0.mk ((by rw [hg];exact (below_size (by repeat (first|(with_reducible first|exact HB.out|apply pB3|apply pB1|apply pB2|refine below_set ?_ GE512.out)|exact HB.out))) : w.heap.size ≤ gb525))
               have n5_:=Aside0.mk ((by rw [hg];exact (below_size (by repeat (first|(with_reducible first|exact HB.out|apply pB3|apply pB1|apply pB2|refine below_set ?_ GE512.out)|exact HB.out))) : w.heap.size ≤ gb525))
               have n6_:=Aside0.mk ((by rw [hg];exact Nat.ne_of_lt (blk_lt (g:=gb512) (o:=.cells #[.int .i64 t505,.int .i64 t506,.int .i64 t507,.slice Ao20 t508.length co20] 56 (0,0)) (by (with_reducible repeat (first|refine bD1 ?_ _|refine bD2 ?_|refine bD3 ?_ _));exact BK512.out)) : gb512 ≠ gb525))
               have n7_:=Aside0.mk ((by rw [hg];exact Nat.ne_of_gt (blk_lt (g:=gb512) (o:=.cells #[.int .i64 t505,.int .i64 t506,.int .i64 t507,.slice Ao20 t508.length co20] 56 (0,0)) (by (with_reducible repeat (first|refine bD1 ?_ _|refine bD2 ?_|refine bD3 ?_ _));exact BK512.out)) : gb525 ≠ gb512))
               clear HO_513003
               clear BK512
               clear HB
               have HO_513003:=n0_
               have BK512:=n1_
               have HB:=n2_
               have BK525:=n3_
               have GW525:=n4_
               have GE525:=n5_
               have NB512_525:=n6_
               have NB525_512:=n7_
               clear n0_ n1_ n2_ n3_ n4_ n5_ n6_ n7_
               clear hb hbox hg
               refine hK.out _ _ trivial (fun hHeld => ?_)
               clear hK K
               refine norm_ (a':=?_) ?_ ?_
               rotate_left
               ·show Act.put _ (some 12) _ = _
                simp only [Act.put,lS0,lS1,lS2,i64_w,i32_w]
                rfl
               refine one_ (i:=4) (N:=some 64) #[true,true,true,true,true,false,true,true,true,true,false,false,false,false,false,true,false,false] rfl rfl (one_of HT_.out (by kernel_rfl)) (by decide) (fun K hK => ?_)
               refine Kd.R_lit_step (Kd.int .u8) _ 5 ?hg (N:=64) ?hd (xs:=([((wrap64 (1 + (wrap64 (2 * (wrap64 (Int.tmod (IntKind.u64.wrap (a0)) 4))))))) % 256,3,0,((Go.bits .and .i64 a1 63)) % 256] : List Int)) (inner:=[.int .u8 (((wrap64 (1 + (wrap64 (2 * (wrap64 (Int.tmod (IntKind.u64.wrap (a0)) 4))))))) % 256),.int .u8 3,.int .u8 0,.int .u8 (((Go.bits .and .i64 a1 63)) % 256)]) (ok:=fun _ => True) (okp:=fun _ => True) ?hr ?hp (fun _ hk => hk) trivial (Below.refl _ _) (Nat.le_refl _) (by simp) ?_;(case hd => rfl);(case hg => rfl);(case hr => first|(go_simp;done)|(go_simp;rfl));(case hp => exact (Reps.one (show Kd.M (Kd.int .u8) _ _ _ (((wrap64 (1 + (wrap64 (2 * (wrap64 (Int.tmod (IntKind.u64.wrap (a0)) 4))))))) % 256) [.int .u8 (((wrap64 (1 + (wrap64 (2 * (wrap64 (Int.tmod (IntKind.u64.wrap (a0)) 4))))))) % 256)] from rfl) (Reps.one (show Kd.M (Kd.int .u8) _ _ _ 3 [.int .u8 3] from rfl) (Reps.one (show Kd.M (Kd.int .u8) _ _ _ 0 [.int .u8 0] from rfl) (Reps.one (show Kd.M (Kd.int .u8) _ _ _ (((Go.bits .and .i64 a1 63)) % 256) [.int .u8 (((Go.bits .and .i64 a1 63)) % 256)] from rfl) (Reps.none _ _))))))
               intro v516 w75 ho76 hb hg_ hnew_
               clear hg_ hnew_
               (first|rw [← Ny515.out] at ho76|(simp only [Int.reduceToNat] at ho76;rw [← Ny515.out] at ho76))
               have n0_:=Aside0.mk (Kd.R_below (by (with_reducible repeat (first|apply kR1|apply kR2|apply kR3));exact HO_513003.out) hb)
               have n1_:=Aside0.mk (Kd.R_lower ho76 (below_size (by repeat (first|(with_reducible first|exact HB.out|apply pB3|apply pB1|apply pB2|refine below_set ?_ GE512.out|refine below_set ?_ GE525.out)|exact HB.out))))
               have n2_:=Aside0.mk (blk_below (g:=gb512) (o:=.cells #[.int .i64 t505,.int .i64 t506,.int .i64 t507,.slice Ao20 t508.length co20] 56 (0,0)) (by (with_reducible repeat (first|refine bD1 ?_ _|refine bD2 ?_|refine bD3 ?_ _));exact BK512.out) hb)
               have n3_:=Aside0.mk (blk_below (g:=gb525) (o:=.cells #[.int .i64 0,.int .i64 0,.int .i64 0,.slice none 0 0] 56 (0,0)) (by (with_reducible repeat (first|refine bD1 ?_ _|refine bD2 ?_|refine bD3 ?_ _));exact BK525.out) hb)
               have n4_:=Aside0.mk (below_step (by repeat (first|(with_reducible first|exact HB.out|apply pB3|apply pB1|apply pB2|refine below_set ?_ GE512.out|refine below_set ?_ GE525.out)|exact HB.out)) hb)
               clear HO_513003
               clear BK512
               clear BK525
               clear HB
               have HO_513003:=n0_
               have HO517:=n1_
               have BK512:=n2_
               have BK525:=n3_
               have HB:=n4_
               clear n0_ n1_ n2_ n3_ n4_
               clear hb ho76
               refine hK.out _ _ trivial (fun hHeld => ?_)
               clear hK K
               refine norm_ (a':=?_) ?_ ?_
               rotate_left
               ·show Act.put _ (some 64) _ = _
                simp only [Act.put,lS0,lS1,lS2,i64_w,i32_w]
                rfl
               refine one_ (i:=5) (N:=some 65) #[true,true,true,true,true,true,true,true,true,true,false,false,false,false,false,true,false,false] rfl rfl (one_of HT_.out (by kernel_rfl)) (by decide) (fun K hK => ?_)
               have hcv77:=own_string (P:=Try.prog) Try.underlying61 Try.underlying5 Try.underlying9 (Kd.own_of_R HO517.out)
               refine value_ (w1:=?_) (v:=?_) (by rfl) rfl ?_ ?_
               rotate_left 2
               ·go_simp
                constructor
                ·rfl
                ·rfl
               clear hcv77
               refine hK.out _ _ trivial (fun hHeld => ?_)
               clear hK K
               refine norm_ (a':=?_) ?_ ?_
               rotate_left
               ·show Act.put _ (some 65) _ = _
                simp only [Act.put,lS0,lS1,lS2,i64_w,i32_w]
                rfl
               refine pure_ (i:=10) (N:=some 70) (v:=?_) (a':=?_) #[true,true,true,true,true,true,true,true,true,true,true,false,false,false,false,true,false,false] rfl rfl (any_of HT_.out (by kernel_rfl)) (fun _ _ _ h => h) (Or.inl ⟨by rfl,?_⟩) ?_ ?_
               rotate_left
               ·intro w'
                go_simp
                with_reducible rfl
               rotate_left
               ·simp only [Act.put,lS0,lS1,lS2,i64_w,i32_w]
                rfl
               refine one_ (i:=11) (N:=some 71) #[true,true,true,true,true,true,true,true,true,true,true,true,false,false,false,true,false,false] rfl rfl (one_of HT_.out (by kernel_rfl)) (by decide) (fun K hK => ?_)
               refine goes_ Try.func55 (by kernel_rfl) rfl #[.string ((strOfNums y515) ++ (x9_5.extract 0 ((ji28) : Int).toNat))] (by rfl) rfl rfl (by (try simp only [List.map_toArray,List.map_cons,List.map_nil]);first|done|(simp only [hji28];rfl)|rfl|(simp only [List.length_drop,List.length_take];rfl)) ?_
               with_reducible refine (bapmsg_Get.calls kj12 ((strOfNums y515) ++ (x9_5.extract 0 ((ji28) : Int).toNat)) t518 t519 t520 t521 t524 _ A32.out).mono ?_
               rintro e w78 ⟨v522,rfl,ho0,hb⟩
               refine ⟨_,rfl,?_⟩
               have n0_:=Aside0.mk (Kd.R_elder' (by (with_reducible repeat (first|apply kR1|apply kR2|apply kR3));exact HO_513003.out) (Kd.R_base ho0) hb)
               have n1_:=Aside0.mk (Kd.R_below (by (with_reducible repeat (first|apply kR1|apply kR2|apply kR3));exact HO517.out) hb)
               have n2_:=Aside0.mk (Kd.R_lower (Kd.R_new' ho0 (Kd.R_lt (by (with_reducible repeat (first|apply kR1|apply kR2|apply kR3));exact HO_513003.out))) (below_size (by repeat (first|(with_reducible first|exact HB.out|apply pB3|apply pB1|apply pB2|refine below_set ?_ GE512.out|refine below_set ?_ GE525.out)|exact HB.out))))
               have n3_:=Aside0.mk (blk_below (g:=gb512) (o:=.cells #[.int .i64 t505,.int .i64 t506,.int .i64 t507,.slice Ao20 t508.length co20] 56 (0,0)) (by (with_reducible repeat (first|refine bD1 ?_ _|refine bD2 ?_|refine bD3 ?_ _));exact BK512.out) hb)
               have n4_:=Aside0.mk (blk_below (g:=gb525) (o:=.cells #[.int .i64 0,.int .i64 0,.int .i64 0,.slice none 0 0] 56 (0,0)) (by (with_reducible repeat (first|refine bD1 ?_ _|refine bD2 ?_|refine bD3 ?_ _));exact BK525.out) hb)
               have n5_:=Aside0.mk (below_step (by repeat (first|(with_reducible first|exact HB.out|apply pB3|apply pB1|apply pB2|refine below_set ?_ GE512.out|refine below_set ?_ GE525.out)|exact HB.out)) hb)
               clear HO_513003
               clear HO517
               clear BK512
               clear BK525
               clear HB
               have HO_513003:=n0_
               have HO517:=n1_
               have HO523:=n2_
               have BK512:=n3_
               have BK525:=n4_
               have HB:=n5_
               clear n0_ n1_ n2_ n3_ n4_ n5_
               (try clear hb)
               (try clear hb2)
               (try clear hk)
               (try clear hi)
               (try clear ho0)
               refine hK.out _ _ trivial (fun hHeld => ?_)
               clear hK K
               refine norm_ (a':=?_) ?_ ?_
               rotate_left
               ·show Act.put _ (some 71) _ = _
                simp only [Act.put,lS0,lS1,lS2,i64_w,i32_w]
                rfl
               refine pure_ (i:=12) (N:=some 59) (v:=?_) (a':=?_) #[true,true,true,true,true,true,true,true,true,true,true,true,true,false,false,true,false,false] rfl rfl (any_of HT_.out (by kernel_rfl)) (fun _ _ _ h => h) (Or.inl ⟨by rfl,?_⟩) ?_ ?_
               rotate_left
               ·intro w'
                go_simp
                with_reducible rfl
               rotate_left
               ·simp only [Act.put,lS0,lS1,lS2,i64_w,i32_w]
                rfl
               refine pure_ (i:=13) (N:=some 72) (v:=?_) (a':=?_) #[true,true,true,true,true,true,true,true,true,true,true,true,true,true,false,true,false,false] rfl rfl (any_of HT_.out (by kernel_rfl)) (fun _ _ _ h => h) (Or.inl ⟨by rfl,?_⟩) ?_ ?_
               rotate_left
               ·intro w'
                go_simp
                with_reducible rfl
               rotate_left
               ·simp only [Act.put,lS0,lS1,lS2,i64_w,i32_w]
                rfl
               refine pure_ (i:=14) (N:=some 73) (v:=?_) (a':=?_) #[true,true,true,true,true,true,true,true,true,true,true,true,true,true,true,true,false,false] rfl rfl (any_of HT_.out (by kernel_rfl)) (fun _ _ _ h => h) (Or.inl ⟨by rfl,?_⟩) ?_ ?_
               rotate_left
               ·intro w'
                go_simp
                with_reducible rfl
               rotate_left
               ·simp only [Act.put,lS0,lS1,lS2,i64_w,i32_w]
                rfl
               exact norm_ (by simp only [putAll,Act.put,lS0,lS1,lS2]) (hCont (v516,v522,gb525) _ ⟨(by (with_reducible repeat (first|apply kR1|apply kR2|apply kR3));exact HO517.out),(by (with_reducible repeat (first|apply kR1|apply kR2|apply kR3));exact Kd.R_mono HO523.out (fun _ hk => hk.2)),(by (with_reducible repeat (first|apply kR1|apply kR2|apply kR3));exact Kd.R_mono HO_513003.out (fun _ hk => hk.2)),(by (with_reducible repeat (first|refine bD1 ?_ _|refine bD2 ?_|refine bD3 ?_ _));exact BK512.out),(by (with_reducible repeat (first|refine bD1 ?_ _|refine bD2 ?_|refine bD3 ?_ _));exact BK525.out),GW525.out,GE525.out,NB512_525.out,NB525_512.out,(by repeat (first|(with_reducible first|exact HB.out|apply pB3|apply pB1|apply pB2|refine below_set ?_ GE512.out|refine below_set ?_ GE525.out)|exact HB.out))⟩)
             rintro ⟨v516,v522,gb525⟩ w79 ⟨h0_,h1_,h2_,h3_,h4_,h5_,h6_,h7_,h8_,h9_⟩
             have n0_ : Aside0 (Kd.R (Kd.int .u8) 5 w79 w.heap.size (fun _ => True) v516 y515):=⟨h0_⟩
             have n1_ : Aside0 (Kd.R k46 46 w79 w.heap.size (fun k_ => some k_ ≠ (.slice Ao20 t508.length co20 : Value).ownBlock) v522 t521):=⟨h1_⟩
             have n2_ : Aside0 (Kd.R k46 46 w79 w.heap.size (fun k_ => some k_ ≠ (v522 : Value).ownBlock) (.slice Ao20 t508.length co20) t508):=⟨h2_⟩
             have n3_ : Aside0 (w79.heap[gb512]? = some (.cells #[.int .i64 t505,.int .i64 t506,.int .i64 t507,.slice Ao20 t508.length co20] 56 (0,0))):=⟨h3_⟩
             have n4_ : Aside0 (w79.heap[gb525]? = some (.cells #[.int .i64 0,.int .i64 0,.int .i64 0,.slice none 0 0] 56 (0,0))):=⟨h4_⟩
             have n5_ : Aside0 (w.heap.size ≤ gb525):=⟨h5_⟩
             have n6_ : Aside0 (w.heap.size ≤ gb525):=⟨h6_⟩
             have n7_ : Aside0 (gb512 ≠ gb525):=⟨h7_⟩
             have n8_ : Aside0 (gb525 ≠ gb512):=⟨h8_⟩
             have n9_ : Aside0 (Below w.heap.size w w79):=⟨h9_⟩
             clear HO_513003
             clear BK512
             clear HB
             clear h0_ h1_ h2_ h3_ h4_ h5_ h6_ h7_ h8_ h9_
             have HO517:=n0_
             have HO523:=n1_
             have HO_513003:=n2_
             have BK512:=n3_
             have BK525:=n4_
             have GW525:=n5_
             have GE525:=n6_
             have NB512_525:=n7_
             have NB525_512:=n8_
             have HB:=n9_
             clear n0_ n1_ n2_ n3_ n4_ n5_ n6_ n7_ n8_ n9_
             have hHeld:=trivial
             obtain ⟨Ao83,co83,eo83⟩:=Kd.R_slice HO523.out
             (first|subst eo83|(injection eo83 with f1_ f2_ f3_;have f4_:=f1_.symm;have f5_:=f3_.symm;clear f1_ f2_ f3_;subst f4_;subst f5_))
             refine norm_ (a':=?_) ?_ ?_
             rotate_left
             ·simp only [putAll,Act.put,lS0,lS1,lS2]
              rfl
             refine one_ (i:=16) (N:=none) #[true,true,true,true,true,true,true,true,true,true,true,true,true,true,true,true,true,false] rfl rfl (one_of HT_.out (by kernel_rfl)) (by decide) (fun K hK => ?_)
             have hs80 : w79.cell? ⟨gb525,0,none⟩ = some (.int .i64 0):=(blk_cell BK525.out 0).trans rfl
             have hfs80:=blk_frozen BK525.out 0
             have hns80_0:=NB512_525.out
             have hms80_0:=NB525_512.out
             have hs81 : w79.cell? ⟨gb525,1,none⟩ = some (.int .i64 0):=(blk_cell BK525.out 1).trans rfl
             have hfs81:=blk_frozen BK525.out 1
             have hns81_0:=NB512_525.out
             have hms81_0:=NB525_512.out
             have hs82 : w79.cell? ⟨gb525,2,none⟩ = some (.int .i64 0):=(blk_cell BK525.out 2).trans rfl
             have hfs82:=blk_frozen BK525.out 2
             have hns82_0:=NB512_525.out
             have hms82_0:=NB525_512.out
             have hs84 : w79.cell? ⟨gb525,3,none⟩ = some (.slice none 0 0):=(blk_cell BK525.out 3).trans rfl
             have hfs84:=blk_frozen BK525.out 3
             have hns84_0:=NB512_525.out
             have hms84_0:=NB525_512.out
             refine skip_ (w1:=?_) (by rfl) rfl ?_ ?_
             rotate_left
             ·go_simp
              rfl
             refine hK.out _ _ trivial (fun hHeld => ?_)
             clear hK K
             refine pure_ (i:=17) (N:=some 13) (v:=?_) (a':=?_) #[true,true,true,true,true,true,true,true,true,true,true,true,true,true,true,true,true,true] rfl rfl (any_of HT_.out (by kernel_rfl)) (fun _ _ _ h => h) (Or.inl ⟨by rfl,?_⟩) ?_ ?_
             rotate_left
             ·intro w'
              go_simp
              with_reducible rfl
             rotate_left
             ·simp only [Act.put,lS0,lS1,lS2,i64_w,i32_w]
              rfl
             refine done_ (done_of HT_.out (by kernel_rfl)) ?_
             try go_wp2_with (first|((with_reducible refine gate_callee (f:=29) rfl ?_);refine goesL_ (some 75) rfl rfl Try.func29 (by kernel_rfl) rfl #[.int .i64 t511] rfl (by (try simp only [List.map_toArray,List.map_cons,List.map_nil]);first|done|rfl|(simp only [List.length_drop,List.length_take];rfl)) ?_;(with_reducible refine (withylaw0_Num.calls t511 t526 _ A33.out).mono ?_);rintro e w' ⟨rfl,⟨nd,rfl⟩⟩;refine ⟨_,rfl,?_⟩)|((with_reducible refine gate_callee (f:=29) rfl ?_);refine goesL_ (some 77) rfl rfl Try.func29 (by kernel_rfl) rfl #[.int .i64 t524] rfl (by (try simp only [List.map_toArray,List.map_cons,List.map_nil]);first|done|rfl|(simp only [List.length_drop,List.length_take];rfl)) ?_;(with_reducible refine (withylaw0_Num.calls t524 t527 _ A34.out).mono ?_);rintro e w' ⟨rfl,⟨nd,rfl⟩⟩;refine ⟨_,rfl,?_⟩;have hnb85:=NB512_525.out;have hnc85:=NB525_512.out;have hcz86_0 : w79.cell? ⟨gb512,0,none⟩ = some (.int .i64 t505):=(blk_cell BK512.out 0).trans rfl;have hcz86_1 : w79.cell? ⟨gb512,1,none⟩ = some (.int .i64 t506):=(blk_cell BK512.out 1).trans rfl;have hcz86_2 : w79.cell? ⟨gb512,2,none⟩ = some (.int .i64 t507):=(blk_cell BK512.out 2).trans rfl;have hcz86_3 : w79.cell? ⟨gb512,3,none⟩ = some (.slice Ao20 t508.length co20):=(blk_cell BK512.out 3).trans rfl;have hfz86_0:=blk_frozen BK512.out 0;have hfz86_1:=blk_frozen BK512.out 1;have hfz86_2:=blk_frozen BK512.out 2;have hfz86_3:=blk_frozen BK512.out 3;have hcz87_0 : w79.cell? ⟨gb525,0,none⟩ = some (.int .i64 0):=(blk_cell BK525.out 0).trans rfl;have hcz87_1 : w79.cell? ⟨gb525,1,none⟩ = some (.int .i64 0):=(blk_cell BK525.out 1).trans rfl;have hcz87_2 : w79.cell? ⟨gb525,2,none⟩ = some (.int .i64 0):=(blk_cell BK525.out 2).trans rfl;have hcz87_3 : w79.cell? ⟨gb525,3,none⟩ = some (.slice none 0 0):=(blk_cell BK525.out 3).trans rfl;have hfz87_0:=blk_frozen BK525.out 0;have hfz87_1:=blk_frozen BK525.out 1;have hfz87_2:=blk_frozen BK525.out 2;have hfz87_3:=blk_frozen BK525.out 3)|(go_at_call 56;(with_reducible refine (withylaw0_SameBap.calls kj12 t505 t506 t507 _ _ t508 t518 t519 t520 _ _ t521 false _ ?side1 ?side2 ?side3 ?side4 A36.out).mono ?_);(case side1 => refine (Kd.R_reads' (e:=46) (base:=w.heap.size) (ok:=fun k_ => some k_ ≠ (.slice Ao83 t521.length co83 : Value).ownBlock) (n:=t508.length) (c:=co20) ?_).2.2;exact (by (with_reducible repeat (first|apply kR1|apply kR2|apply kR3));exact (Kd.R_mono (Kd.R_far (p:=⟨gb525,3,none⟩) (Kd.R_far (p:=⟨gb525,2,none⟩) (Kd.R_far (p:=⟨gb525,1,none⟩) (Kd.R_far (p:=⟨gb525,0,none⟩) (Kd.R_types HO_513003.out BK525.out (by decide)) (fun _ hk => hk.2) (.int .i64 t518)) (fun _ hk => hk.2) (.int .i64 t519)) (fun _ hk => hk.2) (.int .i64 t520)) (fun _ hk => hk.2) (.slice Ao83 t521.length co83)) (fun _ h_ => h_.1))));(case side2 => exact (Kd.R_reads' HO_513003.out).2.1);(case side3 => refine (Kd.R_reads' (e:=46) (base:=w.heap.size) (ok:=fun k_ => some k_ ≠ (.slice Ao20 t508.length co20 : Value).ownBlock) (n:=t521.length) (c:=co83) ?_).2.2;exact (by (with_reducible repeat (first|apply kR1|apply kR2|apply kR3));exact (Kd.R_mono (Kd.R_far (p:=⟨gb525,3,none⟩) (Kd.R_far (p:=⟨gb525,2,none⟩) (Kd.R_far (p:=⟨gb525,1,none⟩) (Kd.R_far (p:=⟨gb525,0,none⟩) (Kd.R_types HO523.out BK525.out (by decide)) (fun _ hk => hk.2) (.int .i64 t518)) (fun _ hk => hk.2) (.int .i64 t519)) (fun _ hk => hk.2) (.int .i64 t520)) (fun _ hk => hk.2) (.slice Ao83 t521.length co83)) (fun _ h_ => h_.1))));(case side4 => exact (Kd.R_reads' HO523.out).2.1);rintro e w88 ⟨rfl,hb⟩;have n0_:=Aside0.mk (Kd.R_below (by (with_reducible repeat (first|apply kR1|apply kR2|apply kR3));exact (Kd.R_mono (Kd.R_far (p:=⟨gb525,3,none⟩) (Kd.R_far (p:=⟨gb525,2,none⟩) (Kd.R_far (p:=⟨gb525,1,none⟩) (Kd.R_far (p:=⟨gb525,0,none⟩) (Kd.R_types HO_513003.out BK525.out (by decide)) (fun _ hk => hk.2) (.int .i64 t518)) (fun _ hk => hk.2) (.int .i64 t519)) (fun _ hk => hk.2) (.int .i64 t520)) (fun _ hk => hk.2) (.slice Ao83 t521.length co83)) (fun _ h_ => h_.1))) hb);have n1_:=Aside0.mk (Kd.R_below (by (with_reducible repeat (first|apply kR1|apply kR2|apply kR3));exact (Kd.R_mono (Kd.R_far (p:=⟨gb525,3,none⟩) (Kd.R_far (p:=⟨gb525,2,none⟩) (Kd.R_far (p:=⟨gb525,1,none⟩) (Kd.R_far (p:=⟨gb525,0,none⟩) (Kd.R_types HO517.out BK525.out (by decide)) (fun _ hk => hk.2) (.int .i64 t518)) (fun _ hk => hk.2) (.int .i64 t519)) (fun _ hk => hk.2) (.int .i64 t520)) (fun _ hk => hk.2) (.slice Ao83 t521.length co83)) (fun _ h_ => h_.1))) hb);have n2_:=Aside0.mk (Kd.R_below (by (with_reducible repeat (first|apply kR1|apply kR2|apply kR3));exact (Kd.R_mono (Kd.R_far (p:=⟨gb525,3,none⟩) (Kd.R_far (p:=⟨gb525,2,none⟩) (Kd.R_far (p:=⟨gb525,1,none⟩) (Kd.R_far (p:=⟨gb525,0,none⟩) (Kd.R_types HO523.out BK525.out (by decide)) (fun _ hk => hk.2) (.int .i64 t518)) (fun _ hk => hk.2) (.int .i64 t519)) (fun _ hk => hk.2) (.int .i64 t520)) (fun _ hk => hk.2) (.slice Ao83 t521.length co83)) (fun _ h_ => h_.1))) hb);have n3_:=Aside0.mk (blk_below (g:=gb512) (o:=.cells #[.int .i64 t505,.int .i64 t506,.int .i64 t507,.slice Ao20 t508.length co20] 56 (0,0)) (by (with_reducible repeat (first|refine bD1 ?_ _|refine bD2 ?_|refine bD3 ?_ _));refine blk_far ?_ NB512_525.out _;(with_reducible repeat (first|refine bD1 ?_ _|refine bD2 ?_|refine bD3 ?_ _));refine blk_far ?_ NB512_525.out _;(with_reducible repeat (first|refine bD1 ?_ _|refine bD2 ?_|refine bD3 ?_ _));refine blk_far ?_ NB512_525.out _;(with_reducible repeat (first|refine bD1 ?_ _|refine bD2 ?_|refine bD3 ?_ _));refine blk_far ?_ NB512_525.out _;(with_reducible repeat (first|refine bD1 ?_ _|refine bD2 ?_|refine bD3 ?_ _));exact BK512.out) hb);have n4_:=Aside0.mk (blk_below (g:=gb525) (o:=.cells #[.int .i64 t518,.int .i64 t519,.int .i64 t520,.slice Ao83 t521.length co83] 56 (0,0)) (by (with_reducible repeat (first|refine bD1 ?_ _|refine bD2 ?_|refine bD3 ?_ _));refine blk_put (cs:=#[.int .i64 t518,.int .i64 t519,.int .i64 t520,.slice none 0 0]) ?_ 3 _ rfl;(with_reducible repeat (first|refine bD1 ?_ _|refine bD2 ?_|refine bD3 ?_ _));refine blk_put (cs:=#[.int .i64 t518,.int .i64 t519,.int .i64 0,.slice none 0 0]) ?_ 2 _ rfl;(with_reducible repeat (first|refine bD1 ?_ _|refine bD2 ?_|refine bD3 ?_ _));refine blk_put (cs:=#[.int .i64 t518,.int .i64 0,.int .i64 0,.slice none 0 0]) ?_ 1 _ rfl;(with_reducible repeat (first|refine bD1 ?_ _|refine bD2 ?_|refine bD3 ?_ _));refine blk_put (cs:=#[.int .i64 0,.int .i64 0,.int .i64 0,.slice none 0 0]) ?_ 0 _ rfl;(with_reducible repeat (first|refine bD1 ?_ _|refine bD2 ?_|refine bD3 ?_ _));exact BK525.out) hb);have n5_:=Aside0.mk (below_step (by repeat (first|(with_reducible first|exact HB.out|apply pB3|apply pB1|apply pB2|refine below_set ?_ GE512.out|refine below_set ?_ GE525.out)|exact HB.out)) hb);clear HO_513003;clear HO517;clear HO523;clear BK512;clear BK525;clear HB;have HO_513003:=n0_;have HO517:=n1_;have HO523:=n2_;have BK512:=n3_;have BK525:=n4_;have HB:=n5_;clear n0_ n1_ n2_ n3_ n4_ n5_;(try clear hb);(try clear hb2);(try clear hk);(try clear hi)))
             go_ret
             exact ⟨by first|rfl|(simp [errW_none,errW_some] <;> rfl)|(simp only [← hji28];first|rfl|(simp [errW_none,errW_some] <;> rfl))|(simp [*,errW_none,errW_some] <;> rfl),by repeat (first|(with_reducible first|exact HB.out|apply pB3|apply pB1|apply pB2|refine below_set ?_ GE512.out|refine below_set ?_ GE525.out)|exact HB.out)⟩
           ·rw [if_neg c35] at H
            have c35b0 : (t526 == t527) = false:=beq_eq_false_iff_ne.mpr c35
            have c35b1 : (t526 != t527) = true:=bne_iff_ne.mpr c35
            obtain rfl:=Option.some.inj H
            try go_wp2
            have n0_:=Aside0.mk (Kd.R_drew HO_513003.out)
            have n1_:=Aside0.mk (blk_drew BK512.out)
            have n2_:=Aside0.mk (below_drew1 HB.out)
            clear HO_513003
            clear BK512
            clear HB
            have HO_513003:=n0_
            have BK512:=n1_
            have HB:=n2_
            clear n0_ n1_ n2_
            refine start_ (n:=18) (S:=fun w' => True) (ds:=[]) #[false,false,false,false,false,false,false,false,false,false,false,false,false,false,false,false,false,false] (by kernel_rfl) rfl rfl trivial (fun hHeld => ?_);refine with_tabW withylaw9_BapLengths.tab11 withylaw9_BapLengths.bits11 (fun HT_ HW_ => ?_)
            generalize wc.drew = w89 at HO_513003 BK512 HB hHeld ⊢
            refine pure_ (i:=0) (N:=some 60) (v:=?_) (a':=?_) #[true,false,false,false,false,false,false,false,false,false,false,false,false,false,false,false,false,false] rfl rfl (any_of HT_.out (by kernel_rfl)) (fun _ _ _ h => h) (Or.inl ⟨by rfl,?_⟩) ?_ ?_
            rotate_left
            ·intro w'
             go_simp
             with_reducible rfl
            rotate_left
            ·simp only [Act.put,lS0,lS1,lS2,i64_w,i32_w]
             rfl
            refine pure_ (i:=1) (N:=some 61) (v:=?_) (a':=?_) #[true,true,false,false,false,false,false,false,false,false,false,false,false,false,false,false,false,false] rfl rfl (any_of HT_.out (by kernel_rfl)) (fun _ _ _ h => h) (Or.inl ⟨by rfl,?_⟩) ?_ ?_
            rotate_left
            ·intro w'
             go_simp
             with_reducible rfl
            rotate_left
            ·simp only [Act.put,lS0,lS1,lS2,i64_w,i32_w]
             rfl
            refine pure_ (i:=2) (N:=some 62) (v:=?_) (a':=?_) #[true,true,true,false,false,false,false,false,false,false,false,false,false,false,false,false,false,false] rfl rfl (any_of HT_.out (by kernel_rfl)) (fun _ _ _ h => h) (Or.inl ⟨by rfl,?_⟩) ?_ ?_
            rotate_left
            ·intro w'
             go_simp
             with_reducible rfl
            rotate_left
            ·simp only [Act.put,lS0,lS1,lS2,i64_w,i32_w]
             rfl
            refine pure_ (i:=3) (N:=some 63) (v:=?_) (a':=?_) #[true,true,true,true,false,false,false,false,false,false,false,false,false,false,false,false,false,false] rfl rfl (any_of HT_.out (by kernel_rfl)) (fun _ _ _ h => h) (Or.inl ⟨by rfl,?_⟩) ?_ ?_
            rotate_left
            ·intro w'
             go_simp
             with_reducible rfl
            rotate_left
            ·simp only [Act.put,lS0,lS1,lS2,i64_w,i32_w]
             rfl
            refine pure_ (i:=6) (N:=some 66) (v:=?_) (a':=?_) #[true,true,true,true,false,false,true,false,false,false,false,false,false,false,false,false,false,false] rfl rfl (any_of HT_.out (by kernel_rfl)) (fun _ _ _ h => h) (Or.inl ⟨by rfl,?_⟩) ?_ ?_
            rotate_left
            ·intro w'
             go_simp
             with_reducible rfl
            rotate_left
            ·simp only [Act.put,lS0,lS1,lS2,i64_w,i32_w]
             rfl
            refine pure_ (i:=7) (N:=some 67) (v:=?_) (a':=?_) #[true,true,true,true,false,false,true,true,false,false,false,false,false,false,false,false,false,false] rfl rfl (any_of HT_.out (by kernel_rfl)) (fun _ _ _ h => h) (Or.inl ⟨by rfl,?_⟩) ?_ ?_
            rotate_left
            ·intro w'
             go_simp
             with_reducible rfl
            rotate_left
            ·simp only [Act.put,lS0,lS1,lS2,i64_w,i32_w]
             rfl
            refine pure_ (i:=8) (N:=some 68) (v:=?_) (a':=?_) #[true,true,true,true,false,false,true,true,true,false,false,false,false,false,false,false,false,false] rfl rfl (any_of HT_.out (by kernel_rfl)) (fun _ _ _ h => h) (Or.inl ⟨by rfl,?_⟩) ?_ ?_
            rotate_left
            ·intro w'
             go_simp
             with_reducible rfl
            rotate_left
            ·simp only [Act.put,lS0,lS1,lS2,i64_w,i32_w]
             rfl
            refine pure_ (i:=9) (N:=some 69) (v:=?_) (a':=?_) #[true,true,true,true,false,false,true,true,true,true,false,false,false,false,false,false,false,false] rfl rfl (any_of HT_.out (by kernel_rfl)) (fun _ _ _ h => h) (Or.inl ⟨by rfl,?_⟩) ?_ ?_
            rotate_left
            ·intro w'
             go_simp
             with_reducible rfl
            rotate_left
            ·simp only [Act.put,lS0,lS1,lS2,i64_w,i32_w]
             rfl
            refine join_ (σ:=Value × Value × Nat) 2 #[true,true,true,true,true,true,true,true,true,true,true,true,true,true,true,true,false,false] (fun s_ => [(64,s_.1),(65,.string (strOfNums y515)),(71,.tuple #[.agg #[.int .i64 t518,.int .i64 t519,.int .i64 t520,s_.2.1],.int .i64 t524]),(12,.pointer (some ⟨s_.2.2,0,none⟩)),(70,.string ((strOfNums y515) ++ (x9_5.extract 0 ((ji28) : Int).toNat))),(59,.tuple #[.agg #[.int .i64 t518,.int .i64 t519,.int .i64 t520,s_.2.1],.int .i64 t524]),(72,.agg #[.int .i64 t518,.int .i64 t519,.int .i64 t520,s_.2.1]),(73,.int .i64 t524)]) (fun s_ w' => (Kd.R (Kd.int .u8) 5 w' w.heap.size (fun _ => True) s_.1 y515) ∧ (Kd.R k46 46 w' w.heap.size (fun k_ => some k_ ≠ (.slice Ao20 t508.length co20 : Value).ownBlock) s_.2.1 t521) ∧ (Kd.R k46 46 w' w.heap.size (fun k_ => some k_ ≠ (s_.2.1 : Value).ownBlock) (.slice Ao20 t508.length co20) t508) ∧ (w'.heap[gb512]? = some (.cells #[.int .i64 t505,.int .i64 t506,.int .i64 t507,.slice Ao20 t508.length co20] 56 (0,0))) ∧ (w'.heap[s_.2.2]? = some (.cells #[.int .i64 0,.int .i64 0,.int .i64 0,.slice none 0 0] 56 (0,0))) ∧ (w.heap.size ≤ s_.2.2) ∧ (w.heap.size ≤ s_.2.2) ∧ (gb512 ≠ s_.2.2) ∧ (s_.2.2 ≠ gb512) ∧ (Below w.heap.size w w')) ?_ ?_
            rotate_left
            ·intro hCont
             refine two_ (i:=4) (j:=15) (Ni:=some 64) (Nj:=some 12) #[true,true,true,true,true,false,true,true,true,true,false,false,false,false,false,false,false,false] #[true,true,true,true,false,false,true,true,true,true,false,false,false,false,false,true,false,false] rfl rfl rfl rfl (two_of HT_.out (by kernel_rfl)) (by decide) (by decide) (fun K hK => ?_) (fun K hK => ?_)
             ·skip
              refine Kd.R_lit_step (Kd.int .u8) _ 5 ?hg (N:=64) ?hd (xs:=([((wrap64 (1 + (wrap64 (2 * (wrap64 (Int.tmod (IntKind.u64.wrap (a0)) 4))))))) % 256,3,0,((Go.bits .and .i64 a1 63)) % 256] : List Int)) (inner:=[.int .u8 (((wrap64 (1 + (wrap64 (2 * (wrap64 (Int.tmod (IntKind.u64.wrap (a0)) 4))))))) % 256),.int .u8 3,.int .u8 0,.int .u8 (((Go.bits .and .i64 a1 63)) % 256)]) (ok:=fun _ => True) (okp:=fun _ => True) ?hr ?hp (fun _ hk => hk) trivial (Below.refl _ _) (Nat.le_refl _) (by simp) ?_;(case hd => rfl);(case hg => rfl);(case hr => first|(go_simp;done)|(go_simp;rfl));(case hp => exact (Reps.one (show Kd.M (Kd.int .u8) _ _ _ (((wrap64 (1 + (wrap64 (2 * (wrap64 (Int.tmod (IntKind.u64.wrap (a0)) 4))))))) % 256) [.int .u8 (((wrap64 (1 + (wrap64 (2 * (wrap64 (Int.tmod (IntKind.u64.wrap (a0)) 4))))))) % 256)] from rfl) (Reps.one (show Kd.M (Kd.int .u8) _ _ _ 3 [.int .u8 3] from rfl) (Reps.one (show Kd.M (Kd.int .u8) _ _ _ 0 [.int .u8 0] from rfl) (Reps.one (show Kd.M (Kd.int .u8) _ _ _ (((Go.bits .and .i64 a1 63)) % 256) [.int .u8 (((Go.bits .and .i64 a1 63)) % 256)] from rfl) (Reps.none _ _))))))
              intro v516 w90 ho91 hb hg_ hnew_
              clear hg_ hnew_
              (first|rw [← Ny515.out] at ho91|(simp only [Int.reduceToNat] at ho91;rw [← Ny515.out] at ho91))
              have n0_:=Aside0.mk (Kd.R_below (by (with_reducible repeat (first|apply kR1|apply kR2|apply kR3));exact HO_513003.out) hb)
              have n1_:=Aside0.mk (Kd.R_lower ho91 (below_size (by repeat (first|(with_reducible first|exact HB.out|apply pB3|apply pB1|apply pB2|refine below_set ?_ GE512.out)|exact HB.out))))
              have n2_:=Aside0.mk (blk_below (g:=gb512) (o:=.cells #[.int .i64 t505,.int .i64 t506,.int .i64 t507,.slice Ao20 t508.length co20] 56 (0,0)) (by (with_reducible repeat (first|refine bD1 ?_ _|refine bD2 ?_|refine bD3 ?_ _));exact BK512.out) hb)
              have n3_:=Aside0.mk (below_step (by repeat (first|(with_reducible first|exact HB.out|apply pB3|apply pB1|apply pB2|refine below_set ?_ GE512.out)|exact HB.out)) hb)
              clear HO_513003
              clear BK512
              clear HB
              have HO_513003:=n0_
              have HO517:=n1_
              have BK512:=n2_
              have HB:=n3_
              clear n0_ n1_ n2_ n3_
              clear hb ho91
              refine hK.out _ _ trivial (fun hHeld => ?_)
              clear hK K
              refine norm_ (a':=?_) ?_ ?_
              rotate_left
              ·show Act.put _ (some 64) _ = _
               simp only [Act.put,lS0,lS1,lS2,i64_w,i32_w]
               rfl
              refine two_ (i:=5) (j:=15) (Ni:=some 65) (Nj:=some 12) #[true,true,true,true,true,true,true,true,true,true,false,false,false,false,false,false,false,false] #[true,true,true,true,true,false,true,true,true,true,false,false,false,false,false,true,false,false] rfl rfl rfl rfl (two_of HT_.out (by kernel_rfl)) (by decide) (by decide) (fun K hK => ?_) (fun K hK => ?_)
              ·skip
               have hcv92:=own_string (P:=Try.prog) Try.underlying61 Try.underlying5 Try.underlying9 (Kd.own_of_R HO517.out)
               refine value_ (w1:=?_) (v:=?_) (by rfl) rfl ?_ ?_
               rotate_left 2
               ·go_simp
                constructor
                ·rfl
                ·rfl
               clear hcv92
               refine hK.out _ _ trivial (fun hHeld => ?_)
               clear hK K
               refine norm_ (a':=?_) ?_ ?_
               rotate_left
               ·show Act.put _ (some 65) _ = _
                simp only [Act.put,lS0,lS1,lS2,i64_w,i32_w]
                rfl
               refine pure_ (i:=10) (N:=some 70) (v:=?_) (a':=?_) #[true,true,true,true,true,true,true,true,true,true,true,false,false,false,false,false,false,false] rfl rfl (any_of HT_.out (by kernel_rfl)) (fun _ _ _ h => h) (Or.inl ⟨by rfl,?_⟩) ?_ ?_
               rotate_left
               ·intro w'
                go_simp
                with_reducible rfl
               rotate_left
               ·simp only [Act.put,lS0,lS1,lS2,i64_w,i32_w]
                rfl
               refine two_ (i:=11) (j:=15) (Ni:=some 71) (Nj:=some 12) #[true,true,true,true,true,true,true,true,true,true,true,true,false,false,false,false,false,false] #[true,true,true,true,true,true,true,true,true,true,true,false,false,false,false,true,false,false] rfl rfl rfl rfl (two_of HT_.out (by kernel_rfl)) (by decide) (by decide) (fun K hK => ?_) (fun K hK => ?_)
               ·skip
                refine goes_ Try.func55 (by kernel_rfl) rfl #[.string ((strOfNums y515) ++ (x9_5.extract 0 ((ji28) : Int).toNat))] (by rfl) rfl rfl (by (try simp only [List.map_toArray,List.map_cons,List.map_nil]);first|done|(simp only [hji28];rfl)|rfl|(simp only [List.length_drop,List.length_take];rfl)) ?_
                with_reducible refine (bapmsg_Get.calls kj12 ((strOfNums y515) ++ (x9_5.extract 0 ((ji28) : Int).toNat)) t518 t519 t520 t521 t524 _ A32.out).mono ?_
                rintro e w93 ⟨v522,rfl,ho0,hb⟩
                refine ⟨_,rfl,?_⟩
                have n0_:=Aside0.mk (Kd.R_elder' (by (with_reducible repeat (first|apply kR1|apply kR2|apply kR3));exact HO_513003.out) (Kd.R_base ho0) hb)
                have n1_:=Aside0.mk (Kd.R_below (by (with_reducible repeat (first|apply kR1|apply kR2|apply kR3));exact HO517.out) hb)
                have n2_:=Aside0.mk (Kd.R_lower (Kd.R_new' ho0 (Kd.R_lt (by (with_reducible repeat (first|apply kR1|apply kR2|apply kR3));exact HO_513003.out))) (below_size (by repeat (first|(with_reducible first|exact HB.out|apply pB3|apply pB1|apply pB2|refine below_set ?_ GE512.out)|exact HB.out))))
                have n3_:=Aside0.mk (blk_below (g:=gb512) (o:=.cells #[.int .i64 t505,.int .i64 t506,.int .i64 t507,.slice Ao20 t508.length co20] 56 (0,0)) (by (with_reducible repeat (first|refine bD1 ?_ _|refine bD2 ?_|refine bD3 ?_ _));exact BK512.out) hb)
                have n4_:=Aside0.mk (below_step (by repeat (first|(with_reducible first|exact HB.out|apply pB3|apply pB1|apply pB2|refine below_set ?_ GE512.out)|exact HB.out)) hb)
                clear HO_513003
                clear HO517
                clear BK512
                clear HB
                have HO_513003:=n0_
                have HO517:=n1_
                have HO523:=n2_
                have BK512:=n3_
                have HB:=n4_
                clear n0_ n1_ n2_ n3_ n4_
                (try clear hb)
                (try clear hb2)
                (try clear hk)
                (try clear hi)
                (try clear ho0)
                refine hK.out _ _ trivial (fun hHeld => ?_)
                clear hK K
                refine norm_ (a':=?_) ?_ ?_
                rotate_left
                ·show Act.put _ (some 71) _ = _
                 simp only [Act.put,lS0,lS1,lS2,i64_w,i32_w]
                 rfl
                refine pure_ (i:=12) (N:=some 59) (v:=?_) (a':=?_) #[true,true,true,true,true,true,true,true,true,true,true,true,true,false,false,false,false,false] rfl rfl (any_of HT_.out (by kernel_rfl)) (fun _ _ _ h => h) (Or.inl ⟨by rfl,?_⟩) ?_ ?_
                rotate_left
                ·intro w'
                 go_simp
                 with_reducible rfl
                rotate_left
                ·simp only [Act.put,lS0,lS1,lS2,i64_w,i32_w]
                 rfl
                refine pure_ (i:=13) (N:=some 72) (v:=?_) (a':=?_) #[true,true,true,true,true,true,true,true,true,true,true,true,true,true,false,false,false,false] rfl rfl (any_of HT_.out (by kernel_rfl)) (fun _ _ _ h => h) (Or.inl ⟨by rfl,?_⟩) ?_ ?_
                rotate_left
                ·intro w'
                 go_simp
                 with_reducible rfl
                rotate_left
                ·simp only [Act.put,lS0,lS1,lS2,i64_w,i32_w]
                 rfl
                refine pure_ (i:=14) (N:=some 73) (v:=?_) (a':=?_) #[true,true,true,true,true,true,true,true,true,true,true,true,true,true,true,false,false,false] rfl rfl (any_of HT_.out (by kernel_rfl)) (fun _ _ _ h => h) (Or.inl ⟨by rfl,?_⟩) ?_ ?_
                rotate_left
                ·intro w'
                 go_simp
                 with_reducible rfl
                rotate_left
                ·simp only [Act.put,lS0,lS1,lS2,i64_w,i32_w]
                 rfl
                refine one_ (i:=15) (N:=some 12) #[true,true,true,true,true,true,true,true,true,true,true,true,true,true,true,true,false,false] rfl rfl (one_of HT_.out (by kernel_rfl)) (by decide) (fun K hK => ?_)
                refine box_step ?hg (N:=12) ?hd (cs:=#[.int .i64 0,.int .i64 0,.int .i64 0,.slice none 0 0]) (t:=56) ?hr ?_;(case hd => rfl);(case hg => rfl);(case hr => first|(go_simp;done)|(go_simp;rfl))
                intro gb525 hg w94 hbox hb
                have n0_:=Aside0.mk (Kd.R_below (by (with_reducible repeat (first|apply kR1|apply kR2|apply kR3));exact HO_513003.out) hb)
                have n1_:=Aside0.mk (Kd.R_below (by (with_reducible repeat (first|apply kR1|apply kR2|apply kR3));exact HO517.out) hb)
                have n2_:=Aside0.mk (Kd.R_below (by (with_reducible repeat (first|apply kR1|apply kR2|apply kR3));exact HO523.out) hb)
                have n3_:=Aside0.mk (blk_below (g:=gb512) (o:=.cells #[.int .i64 t505,.int .i64 t506,.int .i64 t507,.slice Ao20 t508.length co20] 56 (0,0)) (by (with_reducible repeat (first|refine bD1 ?_ _|refine bD2 ?_|refine bD3 ?_ _));exact BK512.out) hb)
                have n4_:=Aside0.mk (below_step (by repeat (first|(with_reducible first|exact HB.out|apply pB3|apply pB1|apply pB2|refine below_set ?_ GE512.out)|exact HB.out)) hb)
                have n5_:=Aside0.mk (hbox)
                have n6_:=Aside0.mk ((by rw [hg];exact (below_size (by repeat (first|(with_reducible first|exact HB.out|apply pB3|apply pB1|apply pB2|refine below_set ?_ GE512.out)|exact HB.out))) : w.heap.size ≤ gb525))
                have n7_:=Aside0.mk ((by rw [hg];exact (below_size (by repeat (first|(with_reducible first|exact HB.out|apply pB3|apply pB1|apply pB2|refine below_set ?_ GE512.out)|exact HB.out))) : w.heap.size ≤ gb525))
                have n8_:=Aside0.mk ((by rw [hg];exact Nat.ne_of_lt (blk_lt (g:=gb512) (o:=.cells #[.int .i64 t505,.int .i64 t506,.int .i64 t507,.slice Ao20 t508.length co20] 56 (0,0)) (by (with_reducible repeat (first|refine bD1 ?_ _|refine bD2 ?_|refine bD3 ?_ _));exact BK512.out)) : gb512 ≠ gb525))
                have n9_:=Aside0.mk ((by rw [hg];exact Nat.ne_of_gt (blk_lt (g:=gb512) (o:=.cells #[.int .i64 t505,.int .i64 t506,.int .i64 t507,.slice Ao20 t508.length co20] 56 (0,0)) (by (with_reducible repeat (first|refine bD1 ?_ _|refine bD2 ?_|refine bD3 ?_ _));exact BK512.out)) : gb525 ≠ gb512))
                clear HO_513003
                clear HO517
                clear HO523
                clear BK512
                clear HB
                have HO_513003:=n0_
                have HO517:=n1_
                have HO523:=n2_
                have BK512:=n3_
                have HB:=n4_
                have BK525:=n5_
                have GW525:=n6_
                have GE525:=n7_
                have NB512_525:=n8_
                have NB525_512:=n9_
                clear n0_ n1_ n2_ n3_ n4_ n5_ n6_ n7_ n8_ n9_
                clear hb hbox hg
                refine hK.out _ _ trivial (fun hHeld => ?_)
                clear hK K
                refine norm_ (a':=?_) ?_ ?_
                rotate_left
                ·show Act.put _ (some 12) _ = _
                 simp only [Act.put,lS0,lS1,lS2,i64_w,i32_w]
                 rfl
                exact norm_ (by simp only [putAll,Act.put,lS0,lS1,lS2]) (hCont (v516,v522,gb525) _ ⟨(by (with_reducible repeat (first|apply kR1|apply kR2|apply kR3));exact HO517.out),(by (with_reducible repeat (first|apply kR1|apply kR2|apply kR3));exact Kd.R_mono HO523.out (fun _ hk => hk.2)),(by (with_reducible repeat (first|apply kR1|apply kR2|apply kR3));exact Kd.R_mono HO_513003.out (fun _ hk => hk.2)),(by (with_reducible repeat (first|refine bD1 ?_ _|refine bD2 ?_|refine bD3 ?_ _));exact BK512.out),(by (with_reducible repeat (first|refine bD1 ?_ _|refine bD2 ?_|refine bD3 ?_ _));exact BK525.out),GW525.out,GE525.out,NB512_525.out,NB525_512.out,(by repeat (first|(with_reducible first|exact HB.out|apply pB3|apply pB1|apply pB2|refine below_set ?_ GE512.out|refine below_set ?_ GE525.out)|exact HB.out))⟩)
               ·skip
                refine box_step ?hg (N:=12) ?hd (cs:=#[.int .i64 0,.int .i64 0,.int .i64 0,.slice none 0 0]) (t:=56) ?hr ?_;(case hd => rfl);(case hg => rfl);(case hr => first|(go_simp;done)|(go_simp;rfl))
                intro gb525 hg w93 hbox hb
                have n0_:=Aside0.mk (Kd.R_below (by (with_reducible repeat (first|apply kR1|apply kR2|apply kR3));exact HO_513003.out) hb)
                have n1_:=Aside0.mk (Kd.R_below (by (with_reducible repeat (first|apply kR1|apply kR2|apply kR3));exact HO517.out) hb)
                have n2_:=Aside0.mk (blk_below (g:=gb512) (o:=.cells #[.int .i64 t505,.int .i64 t506,.int .i64 t507,.slice Ao20 t508.length co20] 56 (0,0)) (by (with_reducible repeat (first|refine bD1 ?_ _|refine bD2 ?_|refine bD3 ?_ _));exact BK512.out) hb)
                have n3_:=Aside0.mk (below_step (by repeat (first|(with_reducible first|exact HB.out|apply pB3|apply pB1|apply pB2|refine below_set ?_ GE512.out)|exact HB.out)) hb)
                have n4_:=Aside0.mk (hbox)
                have n5_:=Aside0.mk ((by rw [hg];exact (below_size (by repeat (first|(with_reducible first|exact HB.out|apply pB3|apply pB1|apply pB2|refine below_set ?_ GE512.out)|exact HB.out))) : w.heap.size ≤ gb525))
                have n6_:=Aside0.mk ((by rw [hg];exact (below_size (by repeat (first|(with_reducible first|exact HB.out|apply pB3|apply pB1|apply pB2|refine below_set ?_ GE512.out)|exact HB.out))) : w.heap.size ≤ gb525))
                have n7_:=Aside0.mk ((by rw [hg];exact Nat.ne_of_lt (blk_lt (g:=gb512) (o:=.cells #[.int .i64 t505,.int .i64 t506,.int .i64 t507,.slice Ao20 t508.length co20] 56 (0,0)) (by (with_reducible repeat (first|refine bD1 ?_ _|refine bD2 ?_|refine bD3 ?_ _));exact BK512.out)) : gb512 ≠ gb525))
                have n8_:=Aside0.mk ((by rw [hg];exact Nat.ne_of_gt (blk_lt (g:=gb512) (o:=.cells #[.int .i64 t505,.int .i64 t506,.int .i64 t507,.slice Ao20 t508.length co20] 56 (0,0)) (by (with_reducible repeat (first|refine bD1 ?_ _|refine bD2 ?_|refine bD3 ?_ _));exact BK512.out)) : gb525 ≠ gb512))
                clear HO_513003
                clear HO517
                clear BK512
                clear HB
                have HO_513003:=n0_
                have HO517:=n1_
                have BK512:=n2_
                have HB:=n3_
                have BK525:=n4_
                have GW525:=n5_
                have GE525:=n6_
                have NB512_525:=n7_
                have NB525_512:=n8_
                clear n0_ n1_ n2_ n3_ n4_ n5_ n6_ n7_ n8_
                clear hb hbox hg
                refine hK.out _ _ trivial (fun hHeld => ?_)
                clear hK K
                refine norm_ (a':=?_) ?_ ?_
                rotate_left
                ·show Act.put _ (some 12) _ = _
                 simp only [Act.put,lS0,lS1,lS2,i64_w,i32_w]
                 rfl
                refine one_ (i:=11) (N:=some 71) #[true,true,true,true,true,true,true,true,true,true,true,true,false,false,false,true,false,false] rfl rfl (one_of HT_.out (by kernel_rfl)) (by decide) (fun K hK => ?_)
                refine goes_ Try.func55 (by kernel_rfl) rfl #[.string ((strOfNums y515) ++ (x9_5.extract 0 ((ji28) : Int).toNat))] (by rfl) rfl rfl (by (try simp only [List.map_toArray,List.map_cons,List.map_nil]);first|done|(simp only [hji28];rfl)|rfl|(simp only [List.length_drop,List.length_take];rfl)) ?_
                with_reducible refine (bapmsg_Get.calls kj12 ((strOfNums y515) ++ (x9_5.extract 0 ((ji28) : Int).toNat)) t518 t519 t520 t521 t524 _ A32.out).mono ?_
                rintro e w94 ⟨v522,rfl,ho0,hb⟩
                refine ⟨_,rfl,?_⟩
                have n0_:=Aside0.mk (Kd.R_elder' (by (with_reducible repeat (first|apply kR1|apply kR2|apply kR3));exact HO_513003.out) (Kd.R_base ho0) hb)
                have n1_:=Aside0.mk (Kd.R_below (by (with_reducible repeat (first|apply kR1|apply kR2|apply kR3));exact HO517.out) hb)
                have n2_:=Aside0.mk (Kd.R_lower (Kd.R_new' ho0 (Kd.R_lt (by (with_reducible repeat (first|apply kR1|apply kR2|apply kR3));exact HO_513003.out))) (below_size (by repeat (first|(with_reducible first|exact HB.out|apply pB3|apply pB1|apply pB2|refine below_set ?_ GE512.out|refine below_set ?_ GE525.out)|exact HB.out))))
                have n3_:=Aside0.mk (blk_below (g:=gb512) (o:=.cells #[.int .i64 t505,.int .i64 t506,.int .i64 t507,.slice Ao20 t508.length co20] 56 (0,0)) (by (with_reducible repeat (first|refine bD1 ?_ _|refine bD2 ?_|refine bD3 ?_ _));exact BK512.out) hb)
                have n4_:=Aside0.mk (blk_below (g:=gb525) (o:=.cells #[.int .i64 0,.int .i64 0,.int .i64 0,.slice none 0 0] 56 (0,0)) (by (with_reducible repeat (first|refine bD1 ?_ _|refine bD2 ?_|refine bD3 ?_ _));exact BK525.out) hb)
                have n5_:=Aside0.mk (below_step (by repeat (first|(with_reducible first|exact HB.out|apply pB3|apply pB1|apply pB2|refine below_set ?_ GE512.out|refine below_set ?_ GE525.out)|exact HB.out)) hb)
                clear HO_513003
                clear HO517
                clear BK512
                clear BK525
                clear HB
                have HO_513003:=n0_
                have HO517:=n1_
                have HO523:=n2_
                have BK512:=n3_
                have BK525:=n4_
                have HB:=n5_
                clear n0_ n1_ n2_ n3_ n4_ n5_
                (try clear hb)
                (try clear hb2)
                (try clear hk)
                (try clear hi)
                (try clear ho0)
                refine hK.out _ _ trivial (fun hHeld => ?_)
                clear hK K
                refine norm_ (a':=?_) ?_ ?_
                rotate_left
                ·show Act.put _ (some 71) _ = _
                 simp only [Act.put,lS0,lS1,lS2,i64_w,i32_w]
                 rfl
                refine pure_ (i:=12) (N:=some 59) (v:=?_) (a':=?_) #[true,true,true,true,true,true,true,true,true,true,true,true,true,false,false,true,false,false] rfl rfl (any_of HT_.out (by kernel_rfl)) (fun _ _ _ h => h) (Or.inl ⟨by rfl,?_⟩) ?_ ?_
                rotate_left
                ·intro w'
                 go_simp
                 with_reducible rfl
                rotate_left
                ·simp only [Act.put,lS0,lS1,lS2,i64_w,i32_w]
                 rfl
                refine pure_ (i:=13) (N:=some 72) (v:=?_) (a':=?_) #[true,true,true,true,true,true,true,true,true,true,true,true,true,true,false,true,false,false] rfl rfl (any_of HT_.out (by kernel_rfl)) (fun _ _ _ h => h) (Or.inl ⟨by rfl,?_⟩) ?_ ?_
                rotate_left
                ·intro w'
                 go_simp
                 with_reducible rfl
                rotate_left
                ·simp only [Act.put,lS0,lS1,lS2,i64_w,i32_w]
                 rfl
                refine pure_ (i:=14) (N:=some 73) (v:=?_) (a':=?_) #[true,true,true,true,true,true,true,true,true,true,true,true,true,true,true,true,false,false] rfl rfl (any_of HT_.out (by kernel_rfl)) (fun _ _ _ h => h) (Or.inl ⟨by rfl,?_⟩) ?_ ?_
                rotate_left
                ·intro w'
                 go_simp
                 with_reducible rfl
                rotate_left
                ·simp only [Act.put,lS0,lS1,lS2,i64_w,i32_w]
                 rfl
                exact norm_ (by simp only [putAll,Act.put,lS0,lS1,lS2]) (hCont (v516,v522,gb525) _ ⟨(by (with_reducible repeat (first|apply kR1|apply kR2|apply kR3));exact HO517.out),(by (with_reducible repeat (first|apply kR1|apply kR2|apply kR3));exact Kd.R_mono HO523.out (fun _ hk => hk.2)),(by (with_reducible repeat (first|apply kR1|apply kR2|apply kR3));exact Kd.R_mono HO_513003.out (fun _ hk => hk.2)),(by (with_reducible repeat (first|refine bD1 ?_ _|refine bD2 ?_|refine bD3 ?_ _));exact BK512.out),(by (with_reducible repeat (first|refine bD1 ?_ _|refine bD2 ?_|refine bD3 ?_ _));exact BK525.out),GW525.out,GE525.out,NB512_525.out,NB525_512.out,(by repeat (first|(with_reducible first|exact HB.out|apply pB3|apply pB1|apply pB2|refine below_set ?_ GE512.out|refine below_set ?_ GE525.out)|exact HB.out))⟩)
              ·skip
               refine box_step ?hg (N:=12) ?hd (cs:=#[.int .i64 0,.int .i64 0,.int .i64 0,.slice none 0 0]) (t:=56) ?hr ?_;(case hd => rfl);(case hg => rfl);(case hr => first|(go_simp;done)|(go_simp;rfl))
               intro gb525 hg w92 hbox hb
               have n0_:=Aside0.mk (Kd.R_below (by (with_reducible repeat (first|apply kR1|apply kR2|apply kR3));exact HO_513003.out) hb)
               have n1_:=Aside0.mk (Kd.R_below (by (with_reducible repeat (first|apply kR1|apply kR2|apply kR3));exact HO517.out) hb)
               have n2_:=Aside0.mk (blk_below (g:=gb512) (o:=.cells #[.int .i64 t505,.int .i64 t506,.int .i64 t507,.slice Ao20 t508.length co20] 56 (0,0)) (by (with_reducible repeat (first|refine bD1 ?_ _|refine bD2 ?_|refine bD3 ?_ _));exact BK512.out) hb)
               have n3_:=Aside0.mk (below_step (by repeat (first|(with_reducible first|exact HB.out|apply pB3|apply pB1|apply pB2|refine below_set ?_ GE512.out)|exact HB.out)) hb)
               have n4_:=Aside0.mk (hbox)
               have n5_:=Aside0.mk ((by rw [hg];exact (below_size (by repeat (first|(with_reducible first|exact HB.out|apply pB3|apply pB1|apply pB2|refine below_set ?_ GE512.out)|exact HB.out))) : w.heap.size ≤ gb525))
               have n6_:=Aside0.mk ((by rw [hg];exact (below_size (by repeat (first|(with_reducible first|exact HB.out|apply pB3|apply pB1|apply pB2|refine below_set ?_ GE512.out)|exact HB.out))) : w.heap.size ≤ gb525))
               have n7_:=Aside0.mk ((by rw [hg];exact Nat.ne_of_lt (blk_lt (g:=gb512) (o:=.cells #[.int .i64 t505,.int .i64 t506,.int .i64 t507,.slice Ao20 t508.length co20] 56 (0,0)) (by (with_reducible repeat (first|refine bD1 ?_ _|refine bD2 ?_|refine bD3 ?_ _));exact BK512.out)) : gb512 ≠ gb525))
               have n8_:=Aside0.mk ((by rw [hg];exact Nat.ne_of_gt (blk_lt (g:=gb512) (o:=.cells #[.int .i64 t505,.int .i64 t506,.int .i64 t507,.slice Ao20 t508.length co20] 56 (0,0)) (by (with_reducible repeat (first|refine bD1 ?_ _|refine bD2 ?_|refine bD3 ?_ _));exact BK512.out)) : gb525 ≠ gb512))
               clear HO_513003
               clear HO517
               clear BK512
               clear HB
               have HO_513003:=n0_
               have HO517:=n1_
               have BK512:=n2_
               have HB:=n3_
               have BK525:=n4_
               have GW525:=n5_
               have GE525:=n6_
               have NB512_525:=n7_
               have NB525_512:=n8_
               clear n0_ n1_ n2_ n3_ n4_ n5_ n6_ n7_ n8_
               clear hb hbox hg
               refine hK.out _ _ trivial (fun hHeld => ?_)
               clear hK K
               refine norm_ (a':=?_) ?_ ?_
               rotate_left
               ·show Act.put _ (some 12) _ = _
                simp only [Act.put,lS0,lS1,lS2,i64_w,i32_w]
                rfl
               refine one_ (i:=5) (N:=some 65) #[true,true,true,true,true,true,true,true,true,true,false,false,false,false,false,true,false,false] rfl rfl (one_of HT_.out (by kernel_rfl)) (by decide) (fun K hK => ?_)
               have hcv93:=own_string (P:=Try.prog) Try.underlying61 Try.underlying5 Try.underlying9 (Kd.own_of_R HO517.out)
               refine value_ (w1:=?_) (v:=?_) (by rfl) rfl ?_ ?_
               rotate_left 2
               ·go_simp
                constructor
                ·rfl
                ·rfl
               clear hcv93
               refine hK.out _ _ trivial (fun hHeld => ?_)
               clear hK K
               refine norm_ (a':=?_) ?_ ?_
               rotate_left
               ·show Act.put _ (some 65) _ = _
                simp only [Act.put,lS0,lS1,lS2,i64_w,i32_w]
                rfl
               refine pure_ (i:=10) (N:=some 70) (v:=?_) (a':=?_) #[true,true,true,true,true,true,true,true,true,true,true,false,false,false,false,true,false,false] rfl rfl (any_of HT_.out (by kernel_rfl)) (fun _ _ _ h => h) (Or.inl ⟨by rfl,?_⟩) ?_ ?_
               rotate_left
               ·intro w'
                go_simp
                with_reducible rfl
               rotate_left
               ·simp only [Act.put,lS0,lS1,lS2,i64_w,i32_w]
                rfl
               refine one_ (i:=11) (N:=some 71) #[true,true,true,true,true,true,true,true,true,true,true,true,false,false,false,true,false,false] rfl rfl (one_of HT_.out (by kernel_rfl)) (by decide) (fun K hK => ?_)
               refine goes_ Try.func55 (by kernel_rfl) rfl #[.string ((strOfNums y515) ++ (x9_5.extract 0 ((ji28) : Int).toNat))] (by rfl) rfl rfl (by (try simp only [List.map_toArray,List.map_cons,List.map_nil]);first|done|(simp only [hji28];rfl)|rfl|(simp only [List.length_drop,List.length_take];rfl)) ?_
               with_reducible refine (bapmsg_Get.calls kj12 ((strOfNums y515) ++ (x9_5.extract 0 ((ji28) : Int).toNat)) t518 t519 t520 t521 t524 _ A32.out).mono ?_
               rintro e w94 ⟨v522,rfl,ho0,hb⟩
               refine ⟨_,rfl,?_⟩
               have n0_:=Aside0.mk (Kd.R_elder' (by (with_reducible repeat (first|apply kR1|apply kR2|apply kR3));exact HO_513003.out) (Kd.R_base ho0) hb)
               have n1_:=Aside0.mk (Kd.R_below (by (with_reducible repeat (first|apply kR1|apply kR2|apply kR3));exact HO517.out) hb)
               have n2_:=Aside0.mk (Kd.R_lower (Kd.R_new' ho0 (Kd.R_lt (by (with_reducible repeat (first|apply kR1|apply kR2|apply kR3));exact HO_513003.out))) (below_size (by repeat (first|(with_reducible first|exact HB.out|apply pB3|apply pB1|apply pB2|refine below_set ?_ GE512.out|refine below_set ?_ GE525.out)|exact HB.out))))
               have n3_:=Aside0.mk (blk_below (g:=gb512) (o:=.cells #[.int .i64 t505,.int .i64 t506,.int .i64 t507,.slice Ao20 t508.length co20] 56 (0,0)) (by (with_reducible repeat (first|refine bD1 ?_ _|refine bD2 ?_|refine bD3 ?_ _));exact BK512.out) hb)
               have n4_:=Aside0.mk (blk_below (g:=gb525) (o:=.cells #[.int .i64 0,.int .i64 0,.int .i64 0,.slice none 0 0] 56 (0,0)) (by (with_reducible repeat (first|refine bD1 ?_ _|refine bD2 ?_|refine bD3 ?_ _));exact BK525.out) hb)
               have n5_:=Aside0.mk (below_step (by repeat (first|(with_reducible first|exact HB.out|apply pB3|apply pB1|apply pB2|refine below_set ?_ GE512.out|refine below_set ?_ GE525.out)|exact HB.out)) hb)
               clear HO_513003
               clear HO517
               clear BK512
               clear BK525
               clear HB
               have HO_513003:=n0_
               have HO517:=n1_
               have HO523:=n2_
               have BK512:=n3_
               have BK525:=n4_
               have HB:=n5_
               clear n0_ n1_ n2_ n3_ n4_ n5_
               (try clear hb)
               (try clear hb2)
               (try clear hk)
               (try clear hi)
               (try clear ho0)
               refine hK.out _ _ trivial (fun hHeld => ?_)
               clear hK K
               refine norm_ (a':=?_) ?_ ?_
               rotate_left
               ·show Act.put _ (some 71) _ = _
                simp only [Act.put,lS0,lS1,lS2,i64_w,i32_w]
                rfl
               refine pure_ (i:=12) (N:=some 59) (v:=?_) (a':=?_) #[true,true,true,true,true,true,true,true,true,true,true,true,true,false,false,true,false,false] rfl rfl (any_of HT_.out (by kernel_rfl)) (fun _ _ _ h => h) (Or.inl ⟨by rfl,?_⟩) ?_ ?_
               rotate_left
               ·intro w'
                go_simp
                with_reducible rfl
               rotate_left
               ·simp only [Act.put,lS0,lS1,lS2,i64_w,i32_w]
                rfl
               refine pure_ (i:=13) (N:=some 72) (v:=?_) (a':=?_) #[true,true,true,true,true,true,true,true,true,true,true,true,true,true,false,true,false,false] rfl rfl (any_of HT_.out (by kernel_rfl)) (fun _ _ _ h => h) (Or.inl ⟨by rfl,?_⟩) ?_ ?_
               rotate_left
               ·intro w'
                go_simp
                with_reducible rfl
               rotate_left
               ·simp only [Act.put,lS0,lS1,lS2,i64_w,i32_w]
                rfl
               refine pure_ (i:=14) (N:=some 73) (v:=?_) (a':=?_) #[true,true,true,true,true,true,true,true,true,true,true,true,true,true,true,true,false,false] rfl rfl (any_of HT_.out (by kernel_rfl)) (fun _ _ _ h => h) (Or.inl ⟨by rfl,?_⟩) ?_ ?_
               rotate_left
               ·intro w'
                go_simp
                with_reducible rfl
               rotate_left
               ·simp only [Act.put,lS0,lS1,lS2,i64_w,i32_w]
                rfl
               exact norm_ (by simp only [putAll,Act.put,lS0,lS1,lS2]) (hCont (v516,v522,gb525) _ ⟨(by (with_reducible repeat (first|apply kR1|apply kR2|apply kR3));exact HO517.out),(by (with_reducible repeat (first|apply kR1|apply kR2|apply kR3));exact Kd.R_mono HO523.out (fun _ hk => hk.2)),(by (with_reducible repeat (first|apply kR1|apply kR2|apply kR3));exact Kd.R_mono HO_513003.out (fun _ hk => hk.2)),(by (with_reducible repeat (first|refine bD1 ?_ _|refine bD2 ?_|refine bD3 ?_ _));exact BK512.out),(by (with_reducible repeat (first|refine bD1 ?_ _|refine bD2 ?_|refine bD3 ?_ _));exact BK525.out),GW525.out,GE525.out,NB512_525.out,NB525_512.out,(by repeat (first|(with_reducible first|exact HB.out|apply pB3|apply pB1|apply pB2|refine below_set ?_ GE512.out|refine below_set ?_ GE525.out)|exact HB.out))⟩)
             ·skip
              refine box_step ?hg (N:=12) ?hd (cs:=#[.int .i64 0,.int .i64 0,.int .i64 0,.slice none 0 0]) (t:=56) ?hr ?_;(case hd => rfl);(case hg => rfl);(case hr => first|(go_simp;done)|(go_simp;rfl))
              intro gb525 hg w90 hbox hb
              have n0_:=Aside0.mk (Kd.R_below (by (with_reducible repeat (first|apply kR1|apply kR2|apply kR3));exact HO_513003.out) hb)
              have n1_:=Aside0.mk (blk_below (g:=gb512) (o:=.cells #[.int .i64 t505,.int .i64 t506,.int .i64 t507,.slice Ao20 t508.length co20] 56 (0,0)) (by (with_reducible repeat (first|refine bD1 ?_ _|refine bD2 ?_|refine bD3 ?_ _));exact BK512.out) hb)
              have n2_:=Aside0.mk (below_step (by repeat (first|(with_reducible first|exact HB.out|apply pB3|apply pB1|apply pB2|refine below_set ?_ GE512.out)|exact HB.out)) hb)
              have n3_:=Aside0.mk (hbox)
              have n4_:=Aside0.mk ((by rw [hg];exact (below_size (by repeat (first|(with_reducible first|exact HB.out|apply pB3|apply pB1|apply pB2|refine below_set ?_ GE512.out)|exact HB.out))) : w.heap.size ≤ gb525))
              have n5_:=Aside0.mk ((by rw [hg];exact (below_size (by repeat (first|(with_reducible first|exact HB.out|apply pB3|apply pB1|apply pB2|refine below_set ?_ GE512.out)|exact HB.out))) : w.heap.size ≤ gb525))
              have n6_:=Aside0.mk ((by rw [hg];exact Nat.ne_of_lt (blk_lt (g:=gb512) (o:=.cells #[.int .i64 t505,.int .i64 t506,.int .i64 t507,.slice Ao20 t508.length co20] 56 (0,0)) (by (with_reducible repeat (first|refine bD1 ?_ _|refine bD2 ?_|refine bD3 ?_ _));exact BK512.out)) : gb512 ≠ gb525))
              have n7_:=Aside0.mk ((by rw [hg];exact Nat.ne_of_gt (blk_lt (g:=gb512) (o:=.cells #[.int .i64 t505,.int .i64 t506,.int .i64 t507,.slice Ao20 t508.length co20] 56 (0,0)) (by (with_reducible repeat (first|refine bD1 ?_ _|refine bD2 ?_|refine bD3 ?_ _));exact BK512.out)) : gb525 ≠ gb512))
              clear HO_513003
              clear BK512
              clear HB
              have HO_513003:=n0_
              have BK512:=n1_
              have HB:=n2_
              have BK525:=n3_
              have GW525:=n4_
              have GE525:=n5_
              have NB512_525:=n6_
              have NB525_512:=n7_
              clear n0_ n1_ n2_ n3_ n4_ n5_ n6_ n7_
              clear hb hbox hg
              refine hK.out _ _ trivial (fun hHeld => ?_)
              clear hK K
              refine norm_ (a':=?_) ?_ ?_
              rotate_left
              ·show Act.put _ (some 12) _ = _
               simp only [Act.put,lS0,lS1,lS2,i64_w,i32_w]
               rfl
              refine one_ (i:=4) (N:=some 64) #[true,true,true,true,true,false,true,true,true,true,false,false,false,false,false,true,false,false] rfl rfl (one_of HT_.out (by kernel_rfl)) (by decide) (fun K hK => ?_)
              refine Kd.R_lit_step (Kd.int .u8) _ 5 ?hg (N:=64) ?hd (xs:=([((wrap64 (1 + (wrap64 (2 * (wrap64 (Int.tmod (IntKind.u64.wrap (a0)) 4))))))) % 256,3,0,((Go.bits .and .i64 a1 63)) % 256] : List Int)) (inner:=[.int .u8 (((wrap64 (1 + (wrap64 (2 * (wrap64 (Int.tmod (IntKind.u64.wrap (a0)) 4))))))) % 256),.int .u8 3,.int .u8 0,.int .u8 (((Go.bits .and .i64 a1 63)) % 256)]) (ok:=fun _ => True) (okp:=fun _ => True) ?hr ?hp (fun _ hk => hk) trivial (Below.refl _ _) (Nat.le_refl _) (by simp) ?_;(case hd => rfl);(case hg => rfl);(case hr => first|(go_simp;done)|(go_simp;rfl));(case hp => exact (Reps.one (show Kd.M (Kd.int .u8) _ _ _ (((wrap64 (1 + (wrap64 (2 * (wrap64 (Int.tmod (IntKind.u64.wrap (a0)) 4))))))) % 256) [.int .u8 (((wrap64 (1 + (wrap64 (2 * (wrap64 (Int.tmod (IntKind.u64.wrap (a0)) 4))))))) % 256)] from rfl) (Reps.one (show Kd.M (Kd.int .u8) _ _ _ 3 [.int .u8 3] from rfl) (Reps.one (show Kd.M (Kd.int .u8) _ _ _ 0 [.int .u8 0] from rfl) (Reps.one (show Kd.M (Kd.int .u8) _ _ _ (((Go.bits .and .i64 a1 63)) % 256) [.int .u8 (((Go.bits .and .i64 a1 63)) % 256)] from rfl) (Reps.none _ _))))))
              intro v516 w91 ho92 hb hg_ hnew_
              clear hg_ hnew_
              (first|rw [← Ny515.out] at ho92|(simp only [Int.reduceToNat] at ho92;rw [← Ny515.out] at ho92))
              have n0_:=Aside0.mk (Kd.R_below (by (with_reducible repeat (first|apply kR1|apply kR2|apply kR3));exact HO_513003.out) hb)
              have n1_:=Aside0.mk (Kd.R_lower ho92 (below_size (by repeat (first|(with_reducible first|exact HB.out|apply pB3|apply pB1|apply pB2|refine below_set ?_ GE512.out|refine below_set ?_ GE525.out)|exact HB.out))))
              have n2_:=Aside0.mk (blk_below (g:=gb512) (o:=.cells #[.int .i64 t505,.int .i64 t506,.int .i64 t507,.slice Ao20 t508.length co20] 56 (0,0)) (by (with_reducible repeat (first|refine bD1 ?_ _|refine bD2 ?_|refine bD3 ?_ _));exact BK512.out) hb)
              have n3_:=Aside0.mk (blk_below (g:=gb525) (o:=.cells #[.int .i64 0,.int .i64 0,.int .i64 0,.slice none 0 0] 56 (0,0)) (by (with_reducible repeat (first|refine bD1 ?_ _|refine bD2 ?_|refine bD3 ?_ _));exact BK525.out) hb)
              have n4_:=Aside0.mk (below_step (by repeat (first|(with_reducible first|exact HB.out|apply pB3|apply pB1|apply pB2|refine below_set ?_ GE512.out|refine below_set ?_ GE525.out)|exact HB.out)) hb)
              clear HO_513003
              clear BK512
              clear BK525
              clear HB
              have HO_513003:=n0_
              have HO517:=n1_
              have BK512:=n2_
              have BK525:=n3_
              have HB:=n4_
              clear n0_ n1_ n2_ n3_ n4_
              clear hb ho92
              refine hK.out _ _ trivial (fun hHeld => ?_)
              clear hK K
              refine norm_ (a':=?_) ?_ ?_
              rotate_left
              ·show Act.put _ (some 64) _ = _
               simp only [Act.put,lS0,lS1,lS2,i64_w,i32_w]
               rfl
              refine one_ (i:=5) (N:=some 65) #[true,true,true,true,true,true,true,true,true,true,false,false,false,false,false,true,false,false] rfl rfl (one_of HT_.out (by kernel_rfl)) (by decide) (fun K hK => ?_)
              have hcv93:=own_string (P:=Try.prog) Try.underlying61 Try.underlying5 Try.underlying9 (Kd.own_of_R HO517.out)
              refine value_ (w1:=?_) (v:=?_) (by rfl) rfl ?_ ?_
              rotate_left 2
              ·go_simp
               constructor
               ·rfl
               ·rfl
              clear hcv93
              refine hK.out _ _ trivial (fun hHeld => ?_)
              clear hK K
              refine norm_ (a':=?_) ?_ ?_
              rotate_left
              ·show Act.put _ (some 65) _ = _
               simp only [Act.put,lS0,lS1,lS2,i64_w,i32_w]
               rfl
              refine pure_ (i:=10) (N:=some 70) (v:=?_) (a':=?_) #[true,true,true,true,true,true,true,true,true,true,true,false,false,false,false,true,false,false] rfl rfl (any_of HT_.out (by kernel_rfl)) (fun _ _ _ h => h) (Or.inl ⟨by rfl,?_⟩) ?_ ?_
              rotate_left
              ·intro w'
               go_simp
               with_reducible rfl
              rotate_left
              ·simp only [Act.put,lS0,lS1,lS2,i64_w,i32_w]
               rfl
              refine one_ (i:=11) (N:=some 71) #[true,true,true,true,true,true,true,true,true,true,true,true,false,false,false,true,false,false] rfl rfl (one_of HT_.out (by kernel_rfl)) (by decide) (fun K hK => ?_)
              refine goes_ Try.func55 (by kernel_rfl) rfl #[.string ((strOfNums y515) ++ (x9_5.extract 0 ((ji28) : Int).toNat))] (by rfl) rfl rfl (by (try simp only [List.map_toArray,List.map_cons,List.map_nil]);first|done|(simp only [hji28];rfl)|rfl|(simp only [List.length_drop,List.length_take];rfl)) ?_
              with_reducible refine (bapmsg_Get.calls kj12 ((strOfNums y515) ++ (x9_5.extract 0 ((ji28) : Int).toNat)) t518 t519 t520 t521 t524 _ A32.out).mono ?_
              rintro e w94 ⟨v522,rfl,ho0,hb⟩
              refine ⟨_,rfl,?_⟩
              have n0_:=Aside0.mk (Kd.R_elder' (by (with_reducible repeat (first|apply kR1|apply kR2|apply kR3));exact HO_513003.out) (Kd.R_base ho0) hb)
              have n1_:=Aside0.mk (Kd.R_below (by (with_reducible repeat (first|apply kR1|apply kR2|apply kR3));exact HO517.out) hb)
              have n2_:=Aside0.mk (Kd.R_lower (Kd.R_new' ho0 (Kd.R_lt (by (with_reducible repeat (first|apply kR1|apply kR2|apply kR3));exact HO_513003.out))) (below_size (by repeat (first|(with_reducible first|exact HB.out|apply pB3|apply pB1|apply pB2|refine below_set ?_ GE512.out|refine below_set ?_ GE525.out)|exact HB.out))))
              have n3_:=Aside0.mk (blk_below (g:=gb512) (o:=.cells #[.int .i64 t505,.int .i64 t506,.int .i64 t507,.slice Ao20 t508.length co20] 56 (0,0)) (by (with_reducible repeat (first|refine bD1 ?_ _|refine bD2 ?_|refine bD3 ?_ _));exact BK512.out) hb)
              have n4_:=Aside0.mk (blk_below (g:=gb525) (o:=.cells #[.int .i64 0,.int .i64 0,.int .i64 0,.slice none 0 0] 56 (0,0)) (by (with_reducible repeat (first|refine bD1 ?_ _|refine bD2 ?_|refine bD3 ?_ _));exact BK525.out) hb)
              have n5_:=Aside0.mk (below_step (by repeat (first|(with_reducible first|exact HB.out|apply pB3|apply pB1|apply pB2|refine below_set ?_ GE512.out|refine below_set ?_ GE525.out)|exact HB.out)) hb)
              clear HO_513003
              clear HO517
              clear BK512
              clear BK525
              clear HB
              have HO_513003:=n0_
              have HO517:=n1_
              have HO523:=n2_
              have BK512:=n3_
              have BK525:=n4_
              have HB:=n5_
              clear n0_ n1_ n2_ n3_ n4_ n5_
              (try clear hb)
              (try clear hb2)
              (try clear hk)
              (try clear hi)
              (try clear ho0)
              refine hK.out _ _ trivial (fun hHeld => ?_)
              clear hK K
              refine norm_ (a':=?_) ?_ ?_
              rotate_left
              ·show Act.put _ (some 71) _ = _
               simp only [Act.put,lS0,lS1,lS2,i64_w,i32_w]
               rfl
              refine pure_ (i:=12) (N:=some 59) (v:=?_) (a':=?_) #[true,true,true,true,true,true,true,true,true,true,true,true,true,false,false,true,false,false] rfl rfl (any_of HT_.out (by kernel_rfl)) (fun _ _ _ h => h) (Or.inl ⟨by rfl,?_⟩) ?_ ?_
              rotate_left
              ·intro w'
               go_simp
               with_reducible rfl
              rotate_left
              ·simp only [Act.put,lS0,lS1,lS2,i64_w,i32_w]
               rfl
              refine pure_ (i:=13) (N:=some 72) (v:=?_) (a':=?_) #[true,true,true,true,true,true,true,true,true,true,true,true,true,true,false,true,false,false] rfl rfl (any_of HT_.out (by kernel_rfl)) (fun _ _ _ h => h) (Or.inl ⟨by rfl,?_⟩) ?_ ?_
              rotate_left
              ·intro w'
               go_simp
               with_reducible rfl
              rotate_left
              ·simp only [Act.put,lS0,lS1,lS2,i64_w,i32_w]
               rfl
              refine pure_ (i:=14) (N:=some 73) (v:=?_) (a':=?_) #[true,true,true,true,true,true,true,true,true,true,true,true,true,true,true,true,false,false] rfl rfl (any_of HT_.out (by kernel_rfl)) (fun _ _ _ h => h) (Or.inl ⟨by rfl,?_⟩) ?_ ?_
              rotate_left
              ·intro w'
               go_simp
               with_reducible rfl
              rotate_left
              ·simp only [Act.put,lS0,lS1,lS2,i64_w,i32_w]
               rfl
              exact norm_ (by simp only [putAll,Act.put,lS0,lS1,lS2]) (hCont (v516,v522,gb525) _ ⟨(by (with_reducible repeat (first|apply kR1|apply kR2|apply kR3));exact HO517.out),(by (with_reducible repeat (first|apply kR1|apply kR2|apply kR3));exact Kd.R_mono HO523.out (fun _ hk => hk.2)),(by (with_reducible repeat (first|apply kR1|apply kR2|apply kR3));exact Kd.R_mono HO_513003.out (fun _ hk => hk.2)),(by (with_reducible repeat (first|refine bD1 ?_ _|refine bD2 ?_|refine bD3 ?_ _));exact BK512.out),(by (with_reducible repeat (first|refine bD1 ?_ _|refine bD2 ?_|refine bD3 ?_ _));exact BK525.out),GW525.out,GE525.out,NB512_525.out,NB525_512.out,(by repeat (first|(with_reducible first|exact HB.out|apply pB3|apply pB1|apply pB2|refine below_set ?_ GE512.out|refine below_set ?_ GE525.out)|exact HB.out))⟩)
            rintro ⟨v516,v522,gb525⟩ w95 ⟨h0_,h1_,h2_,h3_,h4_,h5_,h6_,h7_,h8_,h9_⟩
            have n0_ : Aside0 (Kd.R (Kd.int .u8) 5 w95 w.heap.size (fun _ => True) v516 y515):=⟨h0_⟩
            have n1_ : Aside0 (Kd.R k46 46 w95 w.heap.size (fun k_ => some k_ ≠ (.slice Ao20 t508.length co20 : Value).ownBlock) v522 t521):=⟨h1_⟩
            have n2_ : Aside0 (Kd.R k46 46 w95 w.heap.size (fun k_ => some k_ ≠ (v522 : Value).ownBlock) (.slice Ao20 t508.length co20) t508):=⟨h2_⟩
            have n3_ : Aside0 (w95.heap[gb512]? = some (.cells #[.int .i64 t505,.int .i64 t506,.int .i64 t507,.slice Ao20 t508.length co20] 56 (0,0))):=⟨h3_⟩
            have n4_ : Aside0 (w95.heap[gb525]? = some (.cells #[.int .i64 0,.int .i64 0,.int .i64 0,.slice none 0 0] 56 (0,0))):=⟨h4_⟩
            have n5_ : Aside0 (w.heap.size ≤ gb525):=⟨h5_⟩
            have n6_ : Aside0 (w.heap.size ≤ gb525):=⟨h6_⟩
            have n7_ : Aside0 (gb512 ≠ gb525):=⟨h7_⟩
            have n8_ : Aside0 (gb525 ≠ gb512):=⟨h8_⟩
            have n9_ : Aside0 (Below w.heap.size w w95):=⟨h9_⟩
            clear HO_513003
            clear BK512
            clear HB
            clear h0_ h1_ h2_ h3_ h4_ h5_ h6_ h7_ h8_ h9_
            have HO517:=n0_
            have HO523:=n1_
            have HO_513003:=n2_
            have BK512:=n3_
            have BK525:=n4_
            have GW525:=n5_
            have GE525:=n6_
            have NB512_525:=n7_
            have NB525_512:=n8_
            have HB:=n9_
            clear n0_ n1_ n2_ n3_ n4_ n5_ n6_ n7_ n8_ n9_
            have hHeld:=trivial
            obtain ⟨Ao99,co99,eo99⟩:=Kd.R_slice HO523.out
            (first|subst eo99|(injection eo99 with f1_ f2_ f3_;have f4_:=f1_.symm;have f5_:=f3_.symm;clear f1_ f2_ f3_;subst f4_;subst f5_))
            refine norm_ (a':=?_) ?_ ?_
            rotate_left
            ·simp only [putAll,Act.put,lS0,lS1,lS2]
             rfl
            refine one_ (i:=16) (N:=none) #[true,true,true,true,true,true,true,true,true,true,true,true,true,true,true,true,true,false] rfl rfl (one_of HT_.out (by kernel_rfl)) (by decide) (fun K hK => ?_)
            have hs96 : w95.cell? ⟨gb525,0,none⟩ = some (.int .i64 0):=(blk_cell BK525.out 0).trans rfl
            have hfs96:=blk_frozen BK525.out 0
            have hns96_0:=NB512_525.out
            have hms96_0:=NB525_512.out
            have hs97 : w95.cell? ⟨gb525,1,none⟩ = some (.int .i64 0):=(blk_cell BK525.out 1).trans rfl
            have hfs97:=blk_frozen BK525.out 1
            have hns97_0:=NB512_525.out
            have hms97_0:=NB525_512.out
            have hs98 : w95.cell? ⟨gb525,2,none⟩ = some (.int .i64 0):=(blk_cell BK525.out 2).trans rfl
            have hfs98:=blk_frozen BK525.out 2
            have hns98_0:=NB512_525.out
            have hms98_0:=NB525_512.out
            have hs100 : w95.cell? ⟨gb525,3,none⟩ = some (.slice none 0 0):=(blk_cell BK525.out 3).trans rfl
            have hfs100:=blk_frozen BK525.out 3
            have hns100_0:=NB512_525.out
            have hms100_0:=NB525_512.out
            refine skip_ (w1:=?_) (by rfl) rfl ?_ ?_
            rotate_left
            ·go_simp
             rfl
            refine hK.out _ _ trivial (fun hHeld => ?_)
            clear hK K
            refine pure_ (i:=17) (N:=some 13) (v:=?_) (a':=?_) #[true,true,true,true,true,true,true,true,true,true,true,true,true,true,true,true,true,true] rfl rfl (any_of HT_.out (by kernel_rfl)) (fun _ _ _ h => h) (Or.inl ⟨by rfl,?_⟩) ?_ ?_
            rotate_left
            ·intro w'
             go_simp
             with_reducible rfl
            rotate_left
            ·simp only [Act.put,lS0,lS1,lS2,i64_w,i32_w]
             rfl
            refine done_ (done_of HT_.out (by kernel_rfl)) ?_
            try go_wp2_with (first|((with_reducible refine gate_callee (f:=29) rfl ?_);refine goesL_ (some 75) rfl rfl Try.func29 (by kernel_rfl) rfl #[.int .i64 t511] rfl (by (try simp only [List.map_toArray,List.map_cons,List.map_nil]);first|done|rfl|(simp only [List.length_drop,List.length_take];rfl)) ?_;(with_reducible refine (withylaw0_Num.calls t511 t526 _ A33.out).mono ?_);rintro e w' ⟨rfl,⟨nd,rfl⟩⟩;refine ⟨_,rfl,?_⟩)|((with_reducible refine gate_callee (f:=29) rfl ?_);refine goesL_ (some 77) rfl rfl Try.func29 (by kernel_rfl) rfl #[.int .i64 t524] rfl (by (try simp only [List.map_toArray,List.map_cons,List.map_nil]);first|done|rfl|(simp only [List.length_drop,List.length_take];rfl)) ?_;(with_reducible refine (withylaw0_Num.calls t524 t527 _ A34.out).mono ?_);rintro e w' ⟨rfl,⟨nd,rfl⟩⟩;refine ⟨_,rfl,?_⟩))
            go_ret
            exact ⟨by first|rfl|(simp [errW_none,errW_some] <;> rfl)|(simp only [← hji28];first|rfl|(simp [errW_none,errW_some] <;> rfl))|(simp [*,errW_none,errW_some] <;> rfl),by repeat (first|(with_reducible first|exact HB.out|apply pB3|apply pB1|apply pB2|refine below_set ?_ GE512.out|refine below_set ?_ GE525.out)|exact HB.out)⟩
          ·rw [if_neg c31] at H
           exact absurd H (by simp)
         ·rw [if_neg c30] at H
          exact absurd H (by simp)
        ·rw [if_neg c29] at H
         exact absurd H (by simp)
    ·rw [if_neg c11] at H
     exact absurd H (by simp)
 ·replace c5:=Bool.eq_false_iff.mpr c5
  subst c5
  have H1 : (some false) = some r:=by rw [if_neg (show ¬ (false = true) by decide)] at H;exact H
  clear H
  have H:=H1
  clear H1
  obtain rfl:=Option.some.inj H
  go_enter Try.func19,Try.ntmps19
  go_wp2_with (first|((with_reducible refine gate_callee (f:=53) rfl ?_);refine goesL_ (some 14) rfl rfl Try.func53 (by kernel_rfl) rfl #[] rfl (by (try simp only [List.map_toArray,List.map_cons,List.map_nil]);first|done|rfl|(simp only [List.length_drop,List.length_take];rfl)) ?_;(with_reducible refine (withylaw9_awake.calls k  false _ A4.out).mono ?_);rintro e w101 ⟨rfl,hb⟩;refine ⟨_,rfl,?_⟩;have n0_:=Aside0.mk (below_step (by repeat (first|(with_reducible first|exact HB.out|apply pB3|apply pB1|apply pB2)|exact HB.out)) hb);clear HB;have HB:=n0_;clear n0_;(try clear hb);(try clear hb2);(try clear hk);(try clear hi)))
  go_ret
  exact ⟨by first|rfl|(simp [errW_none,errW_some] <;> rfl)|(simp [*,errW_none,errW_some] <;> rfl),by repeat (first|(with_reducible first|exact HB.out|apply pB3|apply pB1|apply pB2)|exact HB.out)⟩

/-- THE ONE PURE STATEMENT of withylaw9_BapLengths: yours. -/
def withylaw9_BapLengths.Pure : Prop:=∀ (a0 : Int) (a1 : Int) (a2 : ByteArray),(Lit.int .i64 a0).wf = true → (Lit.int .i64 a1).wf = true → a2.size ≤ 140737488351232 → ∃ k,withylaw9_BapLengths.f k a0 a1 a2 = some true
theorem withylaw9_BapLengths.walk (P : withylaw9_BapLengths.Pure) (a0 : Int) (a1 : Int) (a2 : ByteArray) (w : World) (w0 : (Lit.int .i64 a0).wf = true) (w1 : (Lit.int .i64 a1).wf = true) (w2 : a2.size ≤ 140737488351232) :
  Calls Try.prog 19 #[.int .i64 a0,.int .i64 a1,.string a2] w fun e w' => e = .returned (.bool true) ∧ Below w.heap.size w w':=by
 obtain ⟨k,h⟩:=P a0 a1 a2 w0 w1 w2
 refine (withylaw9_BapLengths.calls k a0 a1 a2 true w h).mono ?_
 rintro e w' ⟨rfl,hd⟩
 exact ⟨rfl,hd⟩

end Go.Proofs.Ytbdlkcgaobkdcaa.P

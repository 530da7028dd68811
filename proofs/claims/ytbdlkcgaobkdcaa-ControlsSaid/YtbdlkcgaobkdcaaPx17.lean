-- Written by wip/mkprint.py over the kit's print.py, out of the translation; Lean checks it.
import Derived.Test.YtbdlkcgaobkdcaaPx0
import Derived.Test.YtbdlkcgaobkdcaaPx11
namespace Go.Proofs.Ytbdlkcgaobkdcaa.P
open Go.RowKit Go.Proofs.YtbdlkcgaobkdcaaW.PrintWords Go.Proofs.YtbdlkcgaobkdcaaW.PrintLast Go.Proofs.YtbdlkcgaobkdcaaW.PrintMore
attribute [local go_sem] max2_int min2_int max_two min_two max_three min_three max_four min_four   -- for this text's walks alone
set_option linter.unusedVariables false
set_option linter.unusedSimpArgs false

/-! ### withyref1_Uncontrol: function 50 -/
mutual
def withyref1_Uncontrol.j0 : Nat → ByteArray → Int → Bool → Option (Int × Int × (List (S46)) × ByteArray × Int)
  | 0, _, _, _ => none
  | k + 1, x0, x4, x27 => if x27 = true then (some (0, 0, ([] : List (S46)), (⟨#[]⟩ : ByteArray), 501)) else (if x4 > 2048 then (some (0, 0, ([] : List (S46)), (⟨#[]⟩ : ByteArray), 503)) else (if 0 < (x0.size : Int) then (if 1 < (x0.size : Int) then (if (wrap64 (bt x0 0)) ≥ 1 then (withyref1_Uncontrol.j1 k x0 x4 (decide ((wrap64 (bt x0 0)) ≤ 4)) (wrap64 (bt x0 0)) (wrap64 (bt x0 1)) (⟨#[]⟩ : ByteArray)) else (withyref1_Uncontrol.j1 k x0 x4 false (wrap64 (bt x0 0)) (wrap64 (bt x0 1)) (⟨#[]⟩ : ByteArray))) else (none)) else (none)))
def withyref1_Uncontrol.j1 : Nat → ByteArray → Int → Bool → Int → Int → ByteArray → Option (Int × Int × (List (S46)) × ByteArray × Int)
  | 0, _, _, _, _, _, _ => none
  | k + 1, x0, x4, x46, x258000, x258001, x258003 => if x46 = true then (if 4 ≤ x4 then (if x4 ≤ (x0.size : Int) then ((withyref1_Unopts.f k (x0.extract 4 (x4 : Int).toNat)).bind fun bt258 => (if bt258.2 = 0 then (some (x258000, x258001, bt258.1, x258003, 0)) else (some (0, 0, ([] : List (S46)), (⟨#[]⟩ : ByteArray), 502)))) else (none)) else (none)) else (if 4 ≤ x4 then (if x4 ≤ (x0.size : Int) then (some (x258000, x258001, ([] : List (S46)), x0.extract 4 (x4 : Int).toNat, 0)) else (none)) else (none))
end
def withyref1_Uncontrol.f (k : Nat) (a0 : ByteArray) : Option (Int × Int × (List (S46)) × ByteArray × Int) := if (a0.size : Int) < 4 then (some (0, 0, ([] : List (S46)), (⟨#[]⟩ : ByteArray), 500)) else (if 2 < (a0.size : Int) then (if 3 < (a0.size : Int) then (if (wrap64 ((wrap64 ((wrap64 (bt a0 2)) * 256)) + (wrap64 (bt a0 3)))) < 4 then (withyref1_Uncontrol.j0 k a0 (wrap64 ((wrap64 ((wrap64 (bt a0 2)) * 256)) + (wrap64 (bt a0 3)))) true) else (withyref1_Uncontrol.j0 k a0 (wrap64 ((wrap64 ((wrap64 (bt a0 2)) * 256)) + (wrap64 (bt a0 3)))) (decide ((wrap64 ((wrap64 ((wrap64 (bt a0 2)) * 256)) + (wrap64 (bt a0 3)))) > (a0.size : Int))))) else (none)) else (none))
theorem withyref1_Uncontrol.mono_l : ∀ k, (∀ y0 y1 y2, LeO (withyref1_Uncontrol.j0 k y0 y1 y2) (withyref1_Uncontrol.j0 (k + 1) y0 y1 y2)) ∧ (∀ y0 y1 y2 y3 y4 y5, LeO (withyref1_Uncontrol.j1 k y0 y1 y2 y3 y4 y5) (withyref1_Uncontrol.j1 (k + 1) y0 y1 y2 y3 y4 y5))
  | 0 => ⟨fun _ _ _ r h => by simp [withyref1_Uncontrol.j0] at h, fun _ _ _ _ _ _ r h => by simp [withyref1_Uncontrol.j1] at h⟩
  | k + 1 => by
    obtain ⟨ih0, ih1⟩ := withyref1_Uncontrol.mono_l k
    refine ⟨?_, ?_⟩
    · intro y0 y1 y2
      unfold withyref1_Uncontrol.j0
      repeat' first
      | (with_reducible exact ih0 _ _ _)
      | (with_reducible exact ih1 _ _ _ _ _ _)
      | (with_reducible exact withyref1_Unopts.mono _ _)
      | (with_reducible exact LeO.refl _)
      | (with_reducible exact LeO.none _)
      | (with_reducible refine LeO.ite ?_ ?_)
      | (with_reducible refine LeO.bind ?_ (fun _ => ?_))
      | exact ih0 _ _ _
      | exact ih1 _ _ _ _ _ _
      | exact withyref1_Unopts.mono _ _
      | exact LeO.none _
      | refine LeO.ite ?_ ?_
      | refine LeO.bind ?_ (fun _ => ?_)
    · intro y0 y1 y2 y3 y4 y5
      unfold withyref1_Uncontrol.j1
      repeat' first
      | (with_reducible exact ih0 _ _ _)
      | (with_reducible exact ih1 _ _ _ _ _ _)
      | (with_reducible exact withyref1_Unopts.mono _ _)
      | (with_reducible exact LeO.refl _)
      | (with_reducible exact LeO.none _)
      | (with_reducible refine LeO.ite ?_ ?_)
      | (with_reducible refine LeO.bind ?_ (fun _ => ?_))
      | exact ih0 _ _ _
      | exact ih1 _ _ _ _ _ _
      | exact withyref1_Unopts.mono _ _
      | exact LeO.none _
      | refine LeO.ite ?_ ?_
      | refine LeO.bind ?_ (fun _ => ?_)
theorem withyref1_Uncontrol.mono : ∀ a0 k, LeO (withyref1_Uncontrol.f k a0) (withyref1_Uncontrol.f (k + 1) a0) := by
  intro a0 k
  obtain ⟨ih0, ih1⟩ := withyref1_Uncontrol.mono_l k
  unfold withyref1_Uncontrol.f
  repeat' first
      | (with_reducible exact ih0 _ _ _)
      | (with_reducible exact ih1 _ _ _ _ _ _)
      | (with_reducible exact withyref1_Unopts.mono _ _)
      | (with_reducible exact LeO.refl _)
      | (with_reducible exact LeO.none _)
      | (with_reducible refine LeO.ite ?_ ?_)
      | (with_reducible refine LeO.bind ?_ (fun _ => ?_))
      | exact ih0 _ _ _
      | exact ih1 _ _ _ _ _ _
      | exact withyref1_Unopts.mono _ _
      | exact LeO.none _
      | refine LeO.ite ?_ ?_
      | refine LeO.bind ?_ (fun _ => ?_)
def withyref1_Uncontrol.T3 : Bool × List (List Nat × List Nat) := (true, [([], []), ([0], [0]), ([1], [1]), ([2], [2]), ([], []), ([4], [4]), ([5], [5]), ([3, 6], [3, 6]), ([7, 0, 1, 2, 3, 4, 5, 6, 7], [7])])
def withyref1_Uncontrol.B3 : List Nat := [0, 1, 3, 7, 0, 16, 48, 127, 255]
theorem withyref1_Uncontrol.tab3 : rtab .any (opsOf Try.f50 3) = withyref1_Uncontrol.T3 := by kernel_rfl
theorem withyref1_Uncontrol.bits3 : waitsOk withyref1_Uncontrol.T3.2 withyref1_Uncontrol.B3 = true := by kernel_rfl
def withyref1_Uncontrol.T8 : Bool × List (List Nat × List Nat) := (true, [([], []), ([0], [0]), ([1], [1]), ([], []), ([3], [3]), ([4], [4]), ([2, 5], [2, 5]), ([], []), ([7, 6, 0, 1, 2, 3, 4, 5, 6, 7], [6, 7])])
def withyref1_Uncontrol.B8 : List Nat := [0, 1, 3, 0, 8, 24, 63, 0, 255]
theorem withyref1_Uncontrol.tab8 : rtab .any (opsOf Try.f50 8) = withyref1_Uncontrol.T8 := by kernel_rfl
theorem withyref1_Uncontrol.bits8 : waitsOk withyref1_Uncontrol.T8.2 withyref1_Uncontrol.B8 = true := by kernel_rfl
set_option maxHeartbeats 8000000 in
set_option maxRecDepth 100000 in
theorem withyref1_Uncontrol.calls (k : Nat) (a0 : ByteArray) (r1 : Int) (r2 : Int) (r3 : List (S46)) (r4 : ByteArray) (r5 : Int) (w : World) (h : withyref1_Uncontrol.f k a0 = some (r1,r2,r3,r4,r5)) :
    Calls Try.prog 50 #[.string a0] w fun e w' => ∃ v2_ : Value,e = .returned (.tuple #[.agg #[.int .i64 r1,.int .i64 r2,v2_,.string r4],.int .i64 r5]) ∧ Kd.R k46 46 w' w.heap.size (fun _ => True) v2_ r3 ∧ Below w.heap.size w w':=by
  have hu69:=Try.underlying69
  have HB:=Aside0.mk (Below.refl w.heap.size w)
  have H : (if (a0.size : Int) < 4 then (some (0,0,([] : List (S46)),(⟨#[]⟩ : ByteArray),500)) else (if 2 < (a0.size : Int) then (if 3 < (a0.size : Int) then (if (wrap64 ((wrap64 ((wrap64 (bt a0 2)) * 256)) + (wrap64 (bt a0 3)))) < 4 then (withyref1_Uncontrol.j0 k a0 (wrap64 ((wrap64 ((wrap64 (bt a0 2)) * 256)) + (wrap64 (bt a0 3)))) true) else (withyref1_Uncontrol.j0 k a0 (wrap64 ((wrap64 ((wrap64 (bt a0 2)) * 256)) + (wrap64 (bt a0 3)))) (decide ((wrap64 ((wrap64 ((wrap64 (bt a0 2)) * 256)) + (wrap64 (bt a0 3)))) > (a0.size : Int))))) else (none)) else (none))) = some (r1,r2,r3,r4,r5):=h
  clear h
  by_cases c2 : (a0.size : Int) < 4
  · rw [if_pos c2] at H
    have c2b0 : decide ((a0.size : Int) < 4) = true:=decide_eq_true c2
    have c2b1 : decide (a0.size < 4) = true:=decide_eq_true (by omega)
    clear c2
    simp only [Option.some.injEq,Prod.mk.injEq] at H
    obtain ⟨rfl,rfl,rfl,rfl,rfl⟩:=H
    go_enter Try.func50,Try.ntmps50
    go_wp2_with (first|((with_reducible refine gate_dst (N:=2) rfl ?_);(try (refine gate_guard (by rfl) ?_;dsimp only));refine box_event ?hg (N:=2) ?hd (cs:=#[.int .i64 0,.int .i64 0,.slice none 0 0,.string (⟨#[]⟩ : ByteArray)]) (t:=69) ?hr ?_;(case hd => rfl);(case hg => rfl);(case hr => first|(go_simp;done)|(go_simp;rfl));intro gb256 hg w3 hbox hb;have n0_:=Aside0.mk (below_step (by repeat (first|(with_reducible first|exact HB.out|apply below_alloc|apply pw_below_drewN|apply below_drew1)|exact HB.out)) hb);have n1_:=Aside0.mk (hbox);have n2_:=Aside0.mk ((by rw [hg];exact (below_size (by repeat (first|(with_reducible first|exact HB.out|apply below_alloc|apply pw_below_drewN|apply below_drew1)|exact HB.out))) : w.heap.size ≤ gb256));have n3_:=Aside0.mk ((by rw [hg];exact (below_size (by repeat (first|(with_reducible first|exact HB.out|apply below_alloc|apply pw_below_drewN|apply below_drew1)|exact HB.out))) : w.heap.size ≤ gb256));clear HB;have HB:=n0_;have BK256:=n1_;have GW256:=n2_;have GE256:=n3_;clear n0_ n1_ n2_ n3_;clear hb hbox hg;have hcz4_0 : w3.cell? ⟨gb256,0,none⟩ = some (.int .i64 0):=(blk_cell BK256.out 0).trans rfl;have hcz4_1 : w3.cell? ⟨gb256,1,none⟩ = some (.int .i64 0):=(blk_cell BK256.out 1).trans rfl;have hcz4_2 : w3.cell? ⟨gb256,2,none⟩ = some (.slice none 0 0):=(blk_cell BK256.out 2).trans rfl;have hcz4_3 : w3.cell? ⟨gb256,3,none⟩ = some (.string (⟨#[]⟩ : ByteArray)):=(blk_cell BK256.out 3).trans rfl;have hfz4_0:=blk_frozen BK256.out 0;have hfz4_1:=blk_frozen BK256.out 1;have hfz4_2:=blk_frozen BK256.out 2;have hfz4_3:=blk_frozen BK256.out 3))
    refine bodyPost_ret (results_ct rfl _ _ gb256 69 #[.int .i64 0,.int .i64 0,.slice none 0 0,.string (⟨#[]⟩ : ByteArray)] (0,0) _ rfl (by (with_reducible repeat (first|refine blk_drewN ?_ _|refine blk_drew ?_|refine blk_alloc ?_ _));refine blk_put (cs:=#[.int .i64 0,.int .i64 0,.slice none 0 0,.string (⟨#[]⟩ : ByteArray)]) ?_ 3 _ rfl;(with_reducible repeat (first|refine blk_drewN ?_ _|refine blk_drew ?_|refine blk_alloc ?_ _));refine blk_put (cs:=#[.int .i64 0,.int .i64 0,.slice none 0 0,.string (⟨#[]⟩ : ByteArray)]) ?_ 2 _ rfl;(with_reducible repeat (first|refine blk_drewN ?_ _|refine blk_drew ?_|refine blk_alloc ?_ _));refine blk_put (cs:=#[.int .i64 0,.int .i64 0,.slice none 0 0,.string (⟨#[]⟩ : ByteArray)]) ?_ 1 _ rfl;(with_reducible repeat (first|refine blk_drewN ?_ _|refine blk_drew ?_|refine blk_alloc ?_ _));refine blk_put (cs:=#[.int .i64 0,.int .i64 0,.slice none 0 0,.string (⟨#[]⟩ : ByteArray)]) ?_ 0 _ rfl;(with_reducible repeat (first|refine blk_drewN ?_ _|refine blk_drew ?_|refine blk_alloc ?_ _));exact BK256.out) Try.underlying69 rfl (by kernel_rfl)) rfl ?_
    exact ⟨_,by first|rfl|(simp [errW_none,errW_some] <;> rfl)|(simp [*,errW_none,errW_some] <;> rfl),by first|exact Kd.R_nil _ _ _ _ _|exact Kd.N_nil _ _ _ _ _|exact Kd.V_nil _ _ _ _ _|exact Kd.Q_nil _ _ _ _ _|exact Kd.S_nil _ _ _ _ _,by repeat (first|(with_reducible first|exact HB.out|apply below_alloc|apply pw_below_drewN|apply below_drew1|refine below_set ?_ GE256.out)|exact HB.out)⟩
  · rw [if_neg c2] at H
    have c2b0 : decide ((a0.size : Int) < 4) = false:=decide_eq_false c2
    have c2b1 : decide (a0.size < 4) = false:=decide_eq_false (by omega)
    clear c2
    by_cases c5 : 2 < (a0.size : Int)
    · rw [if_pos c5] at H
      have c5b0 : decide (2 < (a0.size : Int)) = true:=decide_eq_true c5
      have c5b1 : decide (2 < a0.size) = true:=decide_eq_true (by omega)
      clear c5
      by_cases c7 : 3 < (a0.size : Int)
      · rw [if_pos c7] at H
        have c7b0 : decide (3 < (a0.size : Int)) = true:=decide_eq_true c7
        have c7b1 : decide (3 < a0.size) = true:=decide_eq_true (by omega)
        clear c7
        have HC9:=Aside0.mk H
        clear H
        go_enter Try.func50,Try.ntmps50
        try go_wp2_with (first|((with_reducible refine gate_dst (N:=2) rfl ?_);(try (refine gate_guard (by rfl) ?_;dsimp only));refine box_event ?hg (N:=2) ?hd (cs:=#[.int .i64 0,.int .i64 0,.slice none 0 0,.string (⟨#[]⟩ : ByteArray)]) (t:=69) ?hr ?_;(case hd => rfl);(case hg => rfl);(case hr => first|(go_simp;done)|(go_simp;rfl));intro gb256 hg w10 hbox hb;have n0_:=Aside0.mk (below_step (by repeat (first|(with_reducible first|exact HB.out|apply below_alloc|apply pw_below_drewN|apply below_drew1)|exact HB.out)) hb);have n1_:=Aside0.mk (hbox);have n2_:=Aside0.mk ((by rw [hg];exact (below_size (by repeat (first|(with_reducible first|exact HB.out|apply below_alloc|apply pw_below_drewN|apply below_drew1)|exact HB.out))) : w.heap.size ≤ gb256));have n3_:=Aside0.mk ((by rw [hg];exact (below_size (by repeat (first|(with_reducible first|exact HB.out|apply below_alloc|apply pw_below_drewN|apply below_drew1)|exact HB.out))) : w.heap.size ≤ gb256));clear HB;have HB:=n0_;have BK256:=n1_;have GW256:=n2_;have GE256:=n3_;clear n0_ n1_ n2_ n3_;clear hb hbox hg))
        have n0_:=Aside0.mk (blk_drew BK256.out)
        have n1_:=Aside0.mk (below_drew1 HB.out)
        clear BK256
        clear HB
        have BK256:=n0_
        have HB:=n1_
        clear n0_ n1_
        have p6 : 0 ≤ (2 : Int):=(by omega)
        have q6 : 2 < a0.size:=(by have : (2 : Int) < (a0.size : Int):=of_decide_eq_true (by first|(with_reducible assumption)|assumption);omega)
        have hx6 : ∀ h : 2 < a0.size,((a0[2]'h).toNat : Int) = bt a0 2:=bt_at a0 2
        clear p6
        have qi6 : (2 < (a0.size : Int)) = True:=eq_true (of_decide_eq_true (by first|(with_reducible assumption)|assumption))
        replace q6:=eq_true q6
        have p8 : 0 ≤ (3 : Int):=(by omega)
        have q8 : 3 < a0.size:=(by have : (3 : Int) < (a0.size : Int):=of_decide_eq_true (by first|(with_reducible assumption)|assumption);omega)
        have hx8 : ∀ h : 3 < a0.size,((a0[3]'h).toNat : Int) = bt a0 3:=bt_at a0 3
        clear p8
        have qi8 : (3 < (a0.size : Int)) = True:=eq_true (of_decide_eq_true (by first|(with_reducible assumption)|assumption))
        replace q8:=eq_true q8
        refine start_ (n:=9) (S:=fun w' => True) (ds:=[]) #[false,false,false,false,false,false,false,false,false] (by kernel_rfl) rfl rfl trivial (fun hHeld => ?_);refine with_tabW withyref1_Uncontrol.tab3 withyref1_Uncontrol.bits3 (fun HT_ HW_ => ?_)
        generalize w10.drew = w11 at BK256 HB hHeld ⊢
        refine pure_ (i:=0) (N:=some 12) (v:=?_) (a':=?_) #[true,false,false,false,false,false,false,false,false] rfl rfl (any_of HT_.out (by kernel_rfl)) (fun _ _ _ h => h) (Or.inl ⟨by rfl,?_⟩) ?_ ?_
        rotate_left
        · intro w'
          go_simp
          with_reducible rfl
        rotate_left
        · simp only [Act.put,List.setIfInBounds_toArray,List.set_cons_zero,List.set_cons_succ,i64_w,i32_w]
          rfl
        refine pure_ (i:=4) (N:=some 16) (v:=?_) (a':=?_) #[true,false,false,false,true,false,false,false,false] rfl rfl (any_of HT_.out (by kernel_rfl)) (fun _ _ _ h => h) (Or.inl ⟨by rfl,?_⟩) ?_ ?_
        rotate_left
        · intro w'
          go_simp
          with_reducible rfl
        rotate_left
        · simp only [Act.put,List.setIfInBounds_toArray,List.set_cons_zero,List.set_cons_succ,i64_w,i32_w]
          rfl
        refine take_ (i:=1) (N:=some 13) (v:=?_) (a':=?_) #[true,true,false,false,true,false,false,false,false] rfl rfl (take_ofW HT_.out HW_.out (by kernel_rfl)) (fun _ _ _ h => h) (Or.inl ⟨by rfl,?_⟩) hHeld ?_ ?_
        rotate_left
        · intro w' _
          go_simp
          with_reducible rfl
        rotate_left
        · simp only [Act.put,List.setIfInBounds_toArray,List.set_cons_zero,List.set_cons_succ,i64_w,i32_w]
          rfl
        refine pure_ (i:=2) (N:=some 14) (v:=?_) (a':=?_) #[true,true,true,false,true,false,false,false,false] rfl rfl (any_of HT_.out (by kernel_rfl)) (fun _ _ _ h => h) (Or.inl ⟨by rfl,?_⟩) ?_ ?_
        rotate_left
        · intro w'
          go_simp
          with_reducible rfl
        rotate_left
        · simp only [Act.put,List.setIfInBounds_toArray,List.set_cons_zero,List.set_cons_succ,i64_w,i32_w]
          rfl
        refine pure_ (i:=3) (N:=some 15) (v:=?_) (a':=?_) #[true,true,true,true,true,false,false,false,false] rfl rfl (any_of HT_.out (by kernel_rfl)) (fun _ _ _ h => h) (Or.inl ⟨by rfl,?_⟩) ?_ ?_
        rotate_left
        · intro w'
          go_simp
          with_reducible rfl
        rotate_left
        · simp only [Act.put,List.setIfInBounds_toArray,List.set_cons_zero,List.set_cons_succ,i64_w,i32_w]
          rfl
        refine take_ (i:=5) (N:=some 17) (v:=?_) (a':=?_) #[true,true,true,true,true,true,false,false,false] rfl rfl (take_ofW HT_.out HW_.out (by kernel_rfl)) (fun _ _ _ h => h) (Or.inl ⟨by rfl,?_⟩) hHeld ?_ ?_
        rotate_left
        · intro w' _
          go_simp
          with_reducible rfl
        rotate_left
        · simp only [Act.put,List.setIfInBounds_toArray,List.set_cons_zero,List.set_cons_succ,i64_w,i32_w]
          rfl
        refine pure_ (i:=6) (N:=some 18) (v:=?_) (a':=?_) #[true,true,true,true,true,true,true,false,false] rfl rfl (any_of HT_.out (by kernel_rfl)) (fun _ _ _ h => h) (Or.inl ⟨by rfl,?_⟩) ?_ ?_
        rotate_left
        · intro w'
          go_simp
          with_reducible rfl
        rotate_left
        · simp only [Act.put,List.setIfInBounds_toArray,List.set_cons_zero,List.set_cons_succ,i64_w,i32_w]
          rfl
        refine pure_ (i:=7) (N:=some 19) (v:=?_) (a':=?_) #[true,true,true,true,true,true,true,true,false] rfl rfl (any_of HT_.out (by kernel_rfl)) (fun _ _ _ h => h) (Or.inl ⟨by rfl,?_⟩) ?_ ?_
        rotate_left
        · intro w'
          go_simp
          with_reducible rfl
        rotate_left
        · simp only [Act.put,List.setIfInBounds_toArray,List.set_cons_zero,List.set_cons_succ,i64_w,i32_w]
          rfl
        refine pure_ (i:=8) (N:=some 4) (v:=?_) (a':=?_) #[true,true,true,true,true,true,true,true,true] rfl rfl (any_of HT_.out (by kernel_rfl)) (fun _ _ _ h => h) (Or.inl ⟨by rfl,?_⟩) ?_ ?_
        rotate_left
        · intro w'
          go_simp
          with_reducible rfl
        rotate_left
        · simp only [Act.put,List.setIfInBounds_toArray,List.set_cons_zero,List.set_cons_succ,i64_w,i32_w]
          rfl
        refine done_ (done_of HT_.out (by kernel_rfl)) ?_
        go_upto_region 4 with (fail)
        go_cut [27] (fun v27 wc => ∃ (kq : Nat) (x27_8 : Bool),v27 = .bool x27_8 ∧ Aside0 (withyref1_Uncontrol.j0 kq a0 (wrap64 ((wrap64 ((wrap64 (bt a0 2)) * 256)) + (wrap64 (bt a0 3)))) x27_8 = some (r1,r2,r3,r4,r5)) ∧ Aside0 (kq ≤ k) ∧ Aside0 (wc.heap[gb256]? = some (.cells #[.int .i64 0,.int .i64 0,(.slice none 0 0),.string (⟨#[]⟩ : ByteArray)] 69 (0,0))) ∧ Aside0 (Below w.heap.size w wc))
        case first =>
          have H:=HC9.out
          clear HC9
          by_cases c12 : (wrap64 ((wrap64 ((wrap64 (bt a0 2)) * 256)) + (wrap64 (bt a0 3)))) < 4
          · rw [if_pos c12] at H
            have c12b0 : decide ((wrap64 ((wrap64 ((wrap64 (bt a0 2)) * 256)) + (wrap64 (bt a0 3)))) < 4) = true:=decide_eq_true c12
            clear c12
            (first|rw [c12b0]|(simp only [i64_w,i32_w];rw [c12b0])|skip)
            have H':=Aside0.mk H
            clear H
            go_wp2
            go_meet
            case rel => exact ⟨_,(true),(by first|rfl|(simp;done)|(simp [*];done)),H',⟨by first|omega|exact Nat.le_refl _⟩,⟨by (with_reducible repeat (first|refine blk_drewN ?_ _|refine blk_drew ?_|refine blk_alloc ?_ _));exact BK256.out⟩,⟨by repeat (first|(with_reducible first|exact HB.out|apply below_alloc|apply pw_below_drewN|apply below_drew1|refine below_set ?_ GE256.out)|exact HB.out)⟩⟩
          · rw [if_neg c12] at H
            have c12b0 : decide ((wrap64 ((wrap64 ((wrap64 (bt a0 2)) * 256)) + (wrap64 (bt a0 3)))) < 4) = false:=decide_eq_false c12
            clear c12
            (first|rw [c12b0]|(simp only [i64_w,i32_w];rw [c12b0])|skip)
            have H':=Aside0.mk H
            clear H
            go_wp2
            go_meet
            case rel => exact ⟨_,(decide ((wrap64 ((wrap64 ((wrap64 (bt a0 2)) * 256)) + (wrap64 (bt a0 3)))) > (a0.size : Int))),(by first|rfl|(simp;done)|(simp [*];done)),H',⟨by first|omega|exact Nat.le_refl _⟩,⟨by (with_reducible repeat (first|refine blk_drewN ?_ _|refine blk_drew ?_|refine blk_alloc ?_ _));exact BK256.out⟩,⟨by repeat (first|(with_reducible first|exact HB.out|apply below_alloc|apply pw_below_drewN|apply below_drew1|refine below_set ?_ GE256.out)|exact HB.out)⟩⟩
        case rest =>
          clear HC9
          try clear c1
          try clear c2
          try clear c2b0
          try clear c2b1
          try clear p2
          try clear c5
          try clear c5b0
          try clear c5b1
          try clear p6
          try clear q6
          try clear hx6
          try clear qi6
          try clear c7
          try clear c7b0
          try clear c7b1
          try clear p8
          try clear q8
          try clear hx8
          try clear qi8
          try clear c12
          try clear c12b0
          try clear hcz4_0
          try clear hcz4_1
          try clear hcz4_2
          try clear hcz4_3
          try clear hfz4_0
          try clear hfz4_1
          try clear hfz4_2
          try clear hfz4_3
          try clear p6
          try clear p8
          try clear q6
          try clear q8
          obtain ⟨kq,x27_8,rfl,HA,HJ8,BK256,HB⟩:=hcut
          cases kq with
         |zero => exact absurd HA.out (by simp [withyref1_Uncontrol.j0])
         |succ kj8 =>
            have H:=HA.out
            clear HA
            simp only [withyref1_Uncontrol.j0] at H
            by_cases c13 : x27_8 = true
            · subst c13
              have H1 : (some (0,0,([] : List (S46)),(⟨#[]⟩ : ByteArray),501)) = some (r1,r2,r3,r4,r5):=by rw [if_pos rfl] at H;exact H
              clear H
              have H:=H1
              clear H1
              simp only [Option.some.injEq,Prod.mk.injEq] at H
              obtain ⟨rfl,rfl,rfl,rfl,rfl⟩:=H
              have hcz14_0 : wc.cell? ⟨gb256,0,none⟩ = some (.int .i64 0):=(blk_cell BK256.out 0).trans rfl
              have hcz14_1 : wc.cell? ⟨gb256,1,none⟩ = some (.int .i64 0):=(blk_cell BK256.out 1).trans rfl
              have hcz14_2 : wc.cell? ⟨gb256,2,none⟩ = some (.slice none 0 0):=(blk_cell BK256.out 2).trans rfl
              have hcz14_3 : wc.cell? ⟨gb256,3,none⟩ = some (.string (⟨#[]⟩ : ByteArray)):=(blk_cell BK256.out 3).trans rfl
              have hfz14_0:=blk_frozen BK256.out 0
              have hfz14_1:=blk_frozen BK256.out 1
              have hfz14_2:=blk_frozen BK256.out 2
              have hfz14_3:=blk_frozen BK256.out 3
              go_wp2
              refine bodyPost_ret (results_ct rfl _ _ gb256 69 #[.int .i64 0,.int .i64 0,.slice none 0 0,.string (⟨#[]⟩ : ByteArray)] (0,0) _ rfl (by (with_reducible repeat (first|refine blk_drewN ?_ _|refine blk_drew ?_|refine blk_alloc ?_ _));refine blk_put (cs:=#[.int .i64 0,.int .i64 0,.slice none 0 0,.string (⟨#[]⟩ : ByteArray)]) ?_ 3 _ rfl;(with_reducible repeat (first|refine blk_drewN ?_ _|refine blk_drew ?_|refine blk_alloc ?_ _));refine blk_put (cs:=#[.int .i64 0,.int .i64 0,.slice none 0 0,.string (⟨#[]⟩ : ByteArray)]) ?_ 2 _ rfl;(with_reducible repeat (first|refine blk_drewN ?_ _|refine blk_drew ?_|refine blk_alloc ?_ _));refine blk_put (cs:=#[.int .i64 0,.int .i64 0,.slice none 0 0,.string (⟨#[]⟩ : ByteArray)]) ?_ 1 _ rfl;(with_reducible repeat (first|refine blk_drewN ?_ _|refine blk_drew ?_|refine blk_alloc ?_ _));refine blk_put (cs:=#[.int .i64 0,.int .i64 0,.slice none 0 0,.string (⟨#[]⟩ : ByteArray)]) ?_ 0 _ rfl;(with_reducible repeat (first|refine blk_drewN ?_ _|refine blk_drew ?_|refine blk_alloc ?_ _));exact BK256.out) Try.underlying69 rfl (by kernel_rfl)) rfl ?_
              exact ⟨_,by first|rfl|(simp [errW_none,errW_some] <;> rfl)|(simp [*,errW_none,errW_some] <;> rfl),by first|exact Kd.R_nil _ _ _ _ _|exact Kd.N_nil _ _ _ _ _|exact Kd.V_nil _ _ _ _ _|exact Kd.Q_nil _ _ _ _ _|exact Kd.S_nil _ _ _ _ _,by repeat (first|(with_reducible first|exact HB.out|apply below_alloc|apply pw_below_drewN|apply below_drew1|refine below_set ?_ GE256.out)|exact HB.out)⟩
            · replace c13:=Bool.eq_false_iff.mpr c13
              subst c13
              have H1 : (if (wrap64 ((wrap64 ((wrap64 (bt a0 2)) * 256)) + (wrap64 (bt a0 3)))) > 2048 then (some (0,0,([] : List (S46)),(⟨#[]⟩ : ByteArray),503)) else (if 0 < (a0.size : Int) then (if 1 < (a0.size : Int) then (if (wrap64 (bt a0 0)) ≥ 1 then (withyref1_Uncontrol.j1 kj8 a0 (wrap64 ((wrap64 ((wrap64 (bt a0 2)) * 256)) + (wrap64 (bt a0 3)))) (decide ((wrap64 (bt a0 0)) ≤ 4)) (wrap64 (bt a0 0)) (wrap64 (bt a0 1)) (⟨#[]⟩ : ByteArray)) else (withyref1_Uncontrol.j1 kj8 a0 (wrap64 ((wrap64 ((wrap64 (bt a0 2)) * 256)) + (wrap64 (bt a0 3)))) false (wrap64 (bt a0 0)) (wrap64 (bt a0 1)) (⟨#[]⟩ : ByteArray))) else (none)) else (none))) = some (r1,r2,r3,r4,r5):=by rw [if_neg (show ¬ (false = true) by decide)] at H;exact H
              clear H
              have H:=H1
              clear H1
              by_cases c15 : (wrap64 ((wrap64 ((wrap64 (bt a0 2)) * 256)) + (wrap64 (bt a0 3)))) > 2048
              · rw [if_pos c15] at H
                have c15b0 : decide (2048 < (wrap64 ((wrap64 ((wrap64 (bt a0 2)) * 256)) + (wrap64 (bt a0 3))))) = true:=decide_eq_true c15
                clear c15
                simp only [Option.some.injEq,Prod.mk.injEq] at H
                obtain ⟨rfl,rfl,rfl,rfl,rfl⟩:=H
                have hcz16_0 : wc.cell? ⟨gb256,0,none⟩ = some (.int .i64 0):=(blk_cell BK256.out 0).trans rfl
                have hcz16_1 : wc.cell? ⟨gb256,1,none⟩ = some (.int .i64 0):=(blk_cell BK256.out 1).trans rfl
                have hcz16_2 : wc.cell? ⟨gb256,2,none⟩ = some (.slice none 0 0):=(blk_cell BK256.out 2).trans rfl
                have hcz16_3 : wc.cell? ⟨gb256,3,none⟩ = some (.string (⟨#[]⟩ : ByteArray)):=(blk_cell BK256.out 3).trans rfl
                have hfz16_0:=blk_frozen BK256.out 0
                have hfz16_1:=blk_frozen BK256.out 1
                have hfz16_2:=blk_frozen BK256.out 2
                have hfz16_3:=blk_frozen BK256.out 3
                go_wp2
                refine bodyPost_ret (results_ct rfl _ _ gb256 69 #[.int .i64 0,.int .i64 0,.slice none 0 0,.string (⟨#[]⟩ : ByteArray)] (0,0) _ rfl (by (with_reducible repeat (first|refine blk_drewN ?_ _|refine blk_drew ?_|refine blk_alloc ?_ _));refine blk_put (cs:=#[.int .i64 0,.int .i64 0,.slice none 0 0,.string (⟨#[]⟩ : ByteArray)]) ?_ 3 _ rfl;(with_reducible repeat (first|refine blk_drewN ?_ _|refine blk_drew ?_|refine blk_alloc ?_ _));refine blk_put (cs:=#[.int .i64 0,.int .i64 0,.slice none 0 0,.string (⟨#[]⟩ : ByteArray)]) ?_ 2 _ rfl;(with_reducible repeat (first|refine blk_drewN ?_ _|refine blk_drew ?_|refine blk_alloc ?_ _));refine blk_put (cs:=#[.int .i64 0,.int .i64 0,.slice none 0 0,.string (⟨#[]⟩ : ByteArray)]) ?_ 1 _ rfl;(with_reducible repeat (first|refine blk_drewN ?_ _|refine blk_drew ?_|refine blk_alloc ?_ _));refine blk_put (cs:=#[.int .i64 0,.int .i64 0,.slice none 0 0,.string (⟨#[]⟩ : ByteArray)]) ?_ 0 _ rfl;(with_reducible repeat (first|refine blk_drewN ?_ _|refine blk_drew ?_|refine blk_alloc ?_ _));exact BK256.out) Try.underlying69 rfl (by kernel_rfl)) rfl ?_
                exact ⟨_,by first|rfl|(simp [errW_none,errW_some] <;> rfl)|(simp [*,errW_none,errW_some] <;> rfl),by first|exact Kd.R_nil _ _ _ _ _|exact Kd.N_nil _ _ _ _ _|exact Kd.V_nil _ _ _ _ _|exact Kd.Q_nil _ _ _ _ _|exact Kd.S_nil _ _ _ _ _,by repeat (first|(with_reducible first|exact HB.out|apply below_alloc|apply pw_below_drewN|apply below_drew1|refine below_set ?_ GE256.out)|exact HB.out)⟩
              · rw [if_neg c15] at H
                have c15b0 : decide (2048 < (wrap64 ((wrap64 ((wrap64 (bt a0 2)) * 256)) + (wrap64 (bt a0 3))))) = false:=decide_eq_false c15
                clear c15
                by_cases c17 : 0 < (a0.size : Int)
                · rw [if_pos c17] at H
                  have c17b0 : decide (0 < (a0.size : Int)) = true:=decide_eq_true c17
                  have c17b1 : decide (0 < a0.size) = true:=decide_eq_true (by omega)
                  clear c17
                  by_cases c19 : 1 < (a0.size : Int)
                  · rw [if_pos c19] at H
                    have c19b0 : decide (1 < (a0.size : Int)) = true:=decide_eq_true c19
                    have c19b1 : decide (1 < a0.size) = true:=decide_eq_true (by omega)
                    clear c19
                    have HC21:=Aside0.mk H
                    clear H
                    try go_wp2
                    have n0_:=Aside0.mk (blk_drew BK256.out)
                    have n1_:=Aside0.mk (below_drew1 HB.out)
                    clear BK256
                    clear HB
                    have BK256:=n0_
                    have HB:=n1_
                    clear n0_ n1_
                    have p18 : 0 ≤ (0 : Int):=(by omega)
                    have q18 : 0 < a0.size:=(by have : (0 : Int) < (a0.size : Int):=of_decide_eq_true (by first|(with_reducible assumption)|assumption);omega)
                    have hx18 : ∀ h : 0 < a0.size,((a0[0]'h).toNat : Int) = bt a0 0:=bt_at a0 0
                    clear p18
                    have qi18 : (0 < (a0.size : Int)) = True:=eq_true (of_decide_eq_true (by first|(with_reducible assumption)|assumption))
                    replace q18:=eq_true q18
                    have p20 : 0 ≤ (1 : Int):=(by omega)
                    have q20 : 1 < a0.size:=(by have : (1 : Int) < (a0.size : Int):=of_decide_eq_true (by first|(with_reducible assumption)|assumption);omega)
                    have hx20 : ∀ h : 1 < a0.size,((a0[1]'h).toNat : Int) = bt a0 1:=bt_at a0 1
                    clear p20
                    have qi20 : (1 < (a0.size : Int)) = True:=eq_true (of_decide_eq_true (by first|(with_reducible assumption)|assumption))
                    replace q20:=eq_true q20
                    refine start_ (n:=9) (S:=fun w' => True) (ds:=[]) #[false,false,false,false,false,false,false,false,false] (by kernel_rfl) rfl rfl trivial (fun hHeld => ?_);refine with_tabW withyref1_Uncontrol.tab8 withyref1_Uncontrol.bits8 (fun HT_ HW_ => ?_)
                    generalize wc.drew = w22 at BK256 HB hHeld ⊢
                    refine pure_ (i:=0) (N:=some 32) (v:=?_) (a':=?_) #[true,false,false,false,false,false,false,false,false] rfl rfl (any_of HT_.out (by kernel_rfl)) (fun _ _ _ h => h) (Or.inl ⟨by rfl,?_⟩) ?_ ?_
                    rotate_left
                    · intro w'
                      go_simp
                      with_reducible rfl
                    rotate_left
                    · simp only [Act.put,List.setIfInBounds_toArray,List.set_cons_zero,List.set_cons_succ,i64_w,i32_w]
                      rfl
                    refine pure_ (i:=3) (N:=some 35) (v:=?_) (a':=?_) #[true,false,false,true,false,false,false,false,false] rfl rfl (any_of HT_.out (by kernel_rfl)) (fun _ _ _ h => h) (Or.inl ⟨by rfl,?_⟩) ?_ ?_
                    rotate_left
                    · intro w'
                      go_simp
                      with_reducible rfl
                    rotate_left
                    · simp only [Act.put,List.setIfInBounds_toArray,List.set_cons_zero,List.set_cons_succ,i64_w,i32_w]
                      rfl
                    refine take_ (i:=1) (N:=some 33) (v:=?_) (a':=?_) #[true,true,false,true,false,false,false,false,false] rfl rfl (take_ofW HT_.out HW_.out (by kernel_rfl)) (fun _ _ _ h => h) (Or.inl ⟨by rfl,?_⟩) hHeld ?_ ?_
                    rotate_left
                    · intro w' _
                      go_simp
                      with_reducible rfl
                    rotate_left
                    · simp only [Act.put,List.setIfInBounds_toArray,List.set_cons_zero,List.set_cons_succ,i64_w,i32_w]
                      rfl
                    refine pure_ (i:=2) (N:=some 34) (v:=?_) (a':=?_) #[true,true,true,true,false,false,false,false,false] rfl rfl (any_of HT_.out (by kernel_rfl)) (fun _ _ _ h => h) (Or.inl ⟨by rfl,?_⟩) ?_ ?_
                    rotate_left
                    · intro w'
                      go_simp
                      with_reducible rfl
                    rotate_left
                    · simp only [Act.put,List.setIfInBounds_toArray,List.set_cons_zero,List.set_cons_succ,i64_w,i32_w]
                      rfl
                    refine take_ (i:=4) (N:=some 36) (v:=?_) (a':=?_) #[true,true,true,true,true,false,false,false,false] rfl rfl (take_ofW HT_.out HW_.out (by kernel_rfl)) (fun _ _ _ h => h) (Or.inl ⟨by rfl,?_⟩) hHeld ?_ ?_
                    rotate_left
                    · intro w' _
                      go_simp
                      with_reducible rfl
                    rotate_left
                    · simp only [Act.put,List.setIfInBounds_toArray,List.set_cons_zero,List.set_cons_succ,i64_w,i32_w]
                      rfl
                    refine pure_ (i:=5) (N:=some 37) (v:=?_) (a':=?_) #[true,true,true,true,true,true,false,false,false] rfl rfl (any_of HT_.out (by kernel_rfl)) (fun _ _ _ h => h) (Or.inl ⟨by rfl,?_⟩) ?_ ?_
                    rotate_left
                    · intro w'
                      go_simp
                      with_reducible rfl
                    rotate_left
                    · simp only [Act.put,List.setIfInBounds_toArray,List.set_cons_zero,List.set_cons_succ,i64_w,i32_w]
                      rfl
                    refine pure_ (i:=6) (N:=some 38) (v:=?_) (a':=?_) #[true,true,true,true,true,true,true,false,false] rfl rfl (any_of HT_.out (by kernel_rfl)) (fun _ _ _ h => h) (Or.inl ⟨by rfl,?_⟩) ?_ ?_
                    rotate_left
                    · intro w'
                      go_simp
                      with_reducible rfl
                    rotate_left
                    · simp only [Act.put,List.setIfInBounds_toArray,List.set_cons_zero,List.set_cons_succ,i64_w,i32_w]
                      rfl
                    refine one_ (i:=7) (N:=some 5) #[true,true,true,true,true,true,true,true,false] rfl rfl (one_of HT_.out (by kernel_rfl)) (by decide) (fun K hK => ?_)
                    refine box_step ?hg (N:=5) ?hd (cs:=#[.int .i64 0,.int .i64 0,.slice none 0 0,.string (⟨#[]⟩ : ByteArray)]) (t:=69) ?hr ?_;(case hd => rfl);(case hg => rfl);(case hr => first|(go_simp;done)|(go_simp;rfl))
                    intro gb257 hg w23 hbox hb
                    have n0_:=Aside0.mk (blk_below (g:=gb256) (o:=.cells #[.int .i64 0,.int .i64 0,.slice none 0 0,.string (⟨#[]⟩ : ByteArray)] 69 (0,0)) (by (with_reducible repeat (first|refine blk_drewN ?_ _|refine blk_drew ?_|refine blk_alloc ?_ _));exact BK256.out) hb)
                    have n1_:=Aside0.mk (below_step (by repeat (first|(with_reducible first|exact HB.out|apply below_alloc|apply pw_below_drewN|apply below_drew1|refine below_set ?_ GE256.out)|exact HB.out)) hb)
                    have n2_:=Aside0.mk (hbox)
                    have n3_:=Aside0.mk ((by rw [hg];exact (below_size (by repeat (first|(with_reducible first|exact HB.out|apply below_alloc|apply pw_below_drewN|apply below_drew1|refine below_set ?_ GE256.out)|exact HB.out))) : w.heap.size ≤ gb257))
                    have n4_:=Aside0.mk ((by rw [hg];exact (below_size (by repeat (first|(with_reducible first|exact HB.out|apply below_alloc|apply pw_below_drewN|apply below_drew1|refine below_set ?_ GE256.out)|exact HB.out))) : w.heap.size ≤ gb257))
                    have n5_:=Aside0.mk ((by rw [hg];exact Nat.ne_of_lt (blk_lt (g:=gb256) (o:=.cells #[.int .i64 0,.int .i64 0,.slice none 0 0,.string (⟨#[]⟩ : ByteArray)] 69 (0,0)) (by (with_reducible repeat (first|refine blk_drewN ?_ _|refine blk_drew ?_|refine blk_alloc ?_ _));exact BK256.out)) : gb256 ≠ gb257))
                    have n6_:=Aside0.mk ((by rw [hg];exact Nat.ne_of_gt (blk_lt (g:=gb256) (o:=.cells #[.int .i64 0,.int .i64 0,.slice none 0 0,.string (⟨#[]⟩ : ByteArray)] 69 (0,0)) (by (with_reducible repeat (first|refine blk_drewN ?_ _|refine blk_drew ?_|refine blk_alloc ?_ _));exact BK256.out)) : gb257 ≠ gb256))
                    clear BK256
                    clear HB
                    have BK256:=n0_
                    have HB:=n1_
                    have BK257:=n2_
                    have GW257:=n3_
                    have GE257:=n4_
                    have NB256_257:=n5_
                    have NB257_256:=n6_
                    clear n0_ n1_ n2_ n3_ n4_ n5_ n6_
                    clear hb hbox hg
                    refine hK.out _ _ trivial (fun hHeld => ?_)
                    clear hK K
                    refine norm_ (a':=?_) ?_ ?_
                    rotate_left
                    · show Act.put _ (some 5) _ = _
                      simp only [Act.put,List.setIfInBounds_toArray,List.set_cons_zero,List.set_cons_succ,i64_w,i32_w]
                      rfl
                    refine one_ (i:=8) (N:=none) #[true,true,true,true,true,true,true,true,true] rfl rfl (one_of HT_.out (by kernel_rfl)) (by decide) (fun K hK => ?_)
                    have hs24 : w23.cell? ⟨gb257,0,none⟩ = some (.int .i64 0):=(blk_cell BK257.out 0).trans rfl
                    have hfs24:=blk_frozen BK257.out 0
                    have hns24_0:=NB256_257.out
                    have hms24_0:=NB257_256.out
                    have hs25 : w23.cell? ⟨gb257,1,none⟩ = some (.int .i64 0):=(blk_cell BK257.out 1).trans rfl
                    have hfs25:=blk_frozen BK257.out 1
                    have hns25_0:=NB256_257.out
                    have hms25_0:=NB257_256.out
                    have hs26 : w23.cell? ⟨gb257,2,none⟩ = some (.slice none 0 0):=(blk_cell BK257.out 2).trans rfl
                    have hfs26:=blk_frozen BK257.out 2
                    have hns26_0:=NB256_257.out
                    have hms26_0:=NB257_256.out
                    have hs27 : w23.cell? ⟨gb257,3,none⟩ = some (.string (⟨#[]⟩ : ByteArray)):=(blk_cell BK257.out 3).trans rfl
                    have hfs27:=blk_frozen BK257.out 3
                    have hns27_0:=NB256_257.out
                    have hms27_0:=NB257_256.out
                    refine skip_ (w1:=?_) (by rfl) rfl ?_ ?_
                    rotate_left
                    · go_simp
                      rfl
                    refine hK.out _ _ trivial (fun hHeld => ?_)
                    clear hK K
                    refine done_ (done_of HT_.out (by kernel_rfl)) ?_
                    go_upto_region 9 with (fail)
                    go_cut [46] (fun v46 wc => ∃ (kq : Nat) (x46_20 : Bool),v46 = .bool x46_20 ∧ Aside0 (withyref1_Uncontrol.j1 kq a0 (wrap64 ((wrap64 ((wrap64 (bt a0 2)) * 256)) + (wrap64 (bt a0 3)))) x46_20 (wrap64 (bt a0 0)) (wrap64 (bt a0 1)) (⟨#[]⟩ : ByteArray) = some (r1,r2,r3,r4,r5)) ∧ Aside0 (kq ≤ kj8) ∧ Aside0 (wc.heap[gb256]? = some (.cells #[.int .i64 0,.int .i64 0,(.slice none 0 0),.string (⟨#[]⟩ : ByteArray)] 69 (0,0))) ∧ Aside0 (wc.heap[gb257]? = some (.cells #[.int .i64 (wrap64 (bt a0 0)),.int .i64 (wrap64 (bt a0 1)),(.slice none 0 0),.string (⟨#[]⟩ : ByteArray)] 69 (0,0))) ∧ Aside0 (Below w.heap.size w wc))
                    case first =>
                      have H:=HC21.out
                      clear HC21
                      by_cases c28 : (wrap64 (bt a0 0)) ≥ 1
                      · rw [if_pos c28] at H
                        have c28b0 : decide (1 ≤ (wrap64 (bt a0 0))) = true:=decide_eq_true c28
                        clear c28
                        (first|rw [c28b0]|(simp only [i64_w,i32_w];rw [c28b0])|skip)
                        have H':=Aside0.mk H
                        clear H
                        have hnb29:=NB257_256.out
                        have hnc29:=NB256_257.out
                        have hcz30_0 : w23.cell? ⟨gb257,0,none⟩ = some (.int .i64 0):=(blk_cell BK257.out 0).trans rfl
                        have hcz30_1 : w23.cell? ⟨gb257,1,none⟩ = some (.int .i64 0):=(blk_cell BK257.out 1).trans rfl
                        have hcz30_2 : w23.cell? ⟨gb257,2,none⟩ = some (.slice none 0 0):=(blk_cell BK257.out 2).trans rfl
                        have hcz30_3 : w23.cell? ⟨gb257,3,none⟩ = some (.string (⟨#[]⟩ : ByteArray)):=(blk_cell BK257.out 3).trans rfl
                        have hfz30_0:=blk_frozen BK257.out 0
                        have hfz30_1:=blk_frozen BK257.out 1
                        have hfz30_2:=blk_frozen BK257.out 2
                        have hfz30_3:=blk_frozen BK257.out 3
                        go_wp2
                        go_meet
                        case rel => exact ⟨_,(decide ((wrap64 (bt a0 0)) ≤ 4)),(by first|rfl|(simp;done)|(simp [*];done)),H',⟨by have:=HJ8.out;first|omega|exact Nat.le_refl _⟩,⟨by (with_reducible repeat (first|refine blk_drewN ?_ _|refine blk_drew ?_|refine blk_alloc ?_ _));refine blk_far ?_ NB256_257.out _;(with_reducible repeat (first|refine blk_drewN ?_ _|refine blk_drew ?_|refine blk_alloc ?_ _));refine blk_far ?_ NB256_257.out _;(with_reducible repeat (first|refine blk_drewN ?_ _|refine blk_drew ?_|refine blk_alloc ?_ _));refine blk_far ?_ NB256_257.out _;(with_reducible repeat (first|refine blk_drewN ?_ _|refine blk_drew ?_|refine blk_alloc ?_ _));refine blk_far ?_ NB256_257.out _;(with_reducible repeat (first|refine blk_drewN ?_ _|refine blk_drew ?_|refine blk_alloc ?_ _));exact BK256.out⟩,⟨by (with_reducible repeat (first|refine blk_drewN ?_ _|refine blk_drew ?_|refine blk_alloc ?_ _));refine blk_put (cs:=#[.int .i64 (wrap64 (bt a0 0)),.int .i64 (wrap64 (bt a0 1)),.slice none 0 0,.string (⟨#[]⟩ : ByteArray)]) ?_ 3 _ rfl;(with_reducible repeat (first|refine blk_drewN ?_ _|refine blk_drew ?_|refine blk_alloc ?_ _));refine blk_put (cs:=#[.int .i64 (wrap64 (bt a0 0)),.int .i64 (wrap64 (bt a0 1)),.slice none 0 0,.string (⟨#[]⟩ : ByteArray)]) ?_ 2 _ rfl;(with_reducible repeat (first|refine blk_drewN ?_ _|refine blk_drew ?_|refine blk_alloc ?_ _));refine blk_put (cs:=#[.int .i64 (wrap64 (bt a0 0)),.int .i64 0,.slice none 0 0,.string (⟨#[]⟩ : ByteArray)]) ?_ 1 _ rfl;(with_reducible repeat (first|refine blk_drewN ?_ _|refine blk_drew ?_|refine blk_alloc ?_ _));refine blk_put (cs:=#[.int .i64 0,.int .i64 0,.slice none 0 0,.string (⟨#[]⟩ : ByteArray)]) ?_ 0 _ rfl;(with_reducible repeat (first|refine blk_drewN ?_ _|refine blk_drew ?_|refine blk_alloc ?_ _));exact BK257.out⟩,⟨by repeat (first|(with_reducible first|exact HB.out|apply below_alloc|apply pw_below_drewN|apply below_drew1|refine below_set ?_ GE256.out|refine below_set ?_ GE257.out)|exact HB.out)⟩⟩
                      · rw [if_neg c28] at H
                        have c28b0 : decide (1 ≤ (wrap64 (bt a0 0))) = false:=decide_eq_false c28
                        clear c28
                        (first|rw [c28b0]|(simp only [i64_w,i32_w];rw [c28b0])|skip)
                        have H':=Aside0.mk H
                        clear H
                        have hnb31:=NB257_256.out
                        have hnc31:=NB256_257.out
                        have hcz32_0 : w23.cell? ⟨gb257,0,none⟩ = some (.int .i64 0):=(blk_cell BK257.out 0).trans rfl
                        have hcz32_1 : w23.cell? ⟨gb257,1,none⟩ = some (.int .i64 0):=(blk_cell BK257.out 1).trans rfl
                        have hcz32_2 : w23.cell? ⟨gb257,2,none⟩ = some (.slice none 0 0):=(blk_cell BK257.out 2).trans rfl
                        have hcz32_3 : w23.cell? ⟨gb257,3,none⟩ = some (.string (⟨#[]⟩ : ByteArray)):=(blk_cell BK257.out 3).trans rfl
                        have hfz32_0:=blk_frozen BK257.out 0
                        have hfz32_1:=blk_frozen BK257.out 1
                        have hfz32_2:=blk_frozen BK257.out 2
                        have hfz32_3:=blk_frozen BK257.out 3
                        go_wp2
                        go_meet
                        case rel => exact ⟨_,(false),(by first|rfl|(simp;done)|(simp [*];done)),H',⟨by have:=HJ8.out;first|omega|exact Nat.le_refl _⟩,⟨by (with_reducible repeat (first|refine blk_drewN ?_ _|refine blk_drew ?_|refine blk_alloc ?_ _));refine blk_far ?_ NB256_257.out _;(with_reducible repeat (first|refine blk_drewN ?_ _|refine blk_drew ?_|refine blk_alloc ?_ _));refine blk_far ?_ NB256_257.out _;(with_reducible repeat (first|refine blk_drewN ?_ _|refine blk_drew ?_|refine blk_alloc ?_ _));refine blk_far ?_ NB256_257.out _;(with_reducible repeat (first|refine blk_drewN ?_ _|refine blk_drew ?_|refine blk_alloc ?_ _));refine blk_far ?_ NB256_257.out _;(with_reducible repeat (first|refine blk_drewN ?_ _|refine blk_drew ?_|refine blk_alloc ?_ _));exact BK256.out⟩,⟨by (with_reducible repeat (first|refine blk_drewN ?_ _|refine blk_drew ?_|refine blk_alloc ?_ _));refine blk_put (cs:=#[.int .i64 (wrap64 (bt a0 0)),.int .i64 (wrap64 (bt a0 1)),.slice none 0 0,.string (⟨#[]⟩ : ByteArray)]) ?_ 3 _ rfl;(with_reducible repeat (first|refine blk_drewN ?_ _|refine blk_drew ?_|refine blk_alloc ?_ _));refine blk_put (cs:=#[.int .i64 (wrap64 (bt a0 0)),.int .i64 (wrap64 (bt a0 1)),.slice none 0 0,.string (⟨#[]⟩ : ByteArray)]) ?_ 2 _ rfl;(with_reducible repeat (first|refine blk_drewN ?_ _|refine blk_drew ?_|refine blk_alloc ?_ _));refine blk_put (cs:=#[.int .i64 (wrap64 (bt a0 0)),.int .i64 0,.slice none 0 0,.string (⟨#[]⟩ : ByteArray)]) ?_ 1 _ rfl;(with_reducible repeat (first|refine blk_drewN ?_ _|refine blk_drew ?_|refine blk_alloc ?_ _));refine blk_put (cs:=#[.int .i64 0,.int .i64 0,.slice none 0 0,.string (⟨#[]⟩ : ByteArray)]) ?_ 0 _ rfl;(with_reducible repeat (first|refine blk_drewN ?_ _|refine blk_drew ?_|refine blk_alloc ?_ _));exact BK257.out⟩,⟨by repeat (first|(with_reducible first|exact HB.out|apply below_alloc|apply pw_below_drewN|apply below_drew1|refine below_set ?_ GE256.out|refine below_set ?_ GE257.out)|exact HB.out)⟩⟩
                    case rest =>
                      clear HC21
                      try clear c1
                      try clear p1
                      try clear q1
                      try clear hx1
                      try clear qi1
                      try clear c2
                      try clear c2b0
                      try clear c2b1
                      try clear p2
                      try clear q2
                      try clear hx2
                      try clear qi2
                      try clear c3
                      try clear c5
                      try clear c5b0
                      try clear c5b1
                      try clear p6
                      try clear q6
                      try clear hx6
                      try clear qi6
                      try clear c7
                      try clear c7b0
                      try clear c7b1
                      try clear p8
                      try clear q8
                      try clear hx8
                      try clear qi8
                      try clear c12
                      try clear c12b0
                      try clear c13
                      try clear c15
                      try clear c15b0
                      try clear c17
                      try clear c17b0
                      try clear c17b1
                      try clear p18
                      try clear q18
                      try clear hx18
                      try clear qi18
                      try clear c19
                      try clear c19b0
                      try clear c19b1
                      try clear p20
                      try clear q20
                      try clear hx20
                      try clear qi20
                      try clear c28
                      try clear c28b0
                      try clear c29
                      try clear c31
                      try clear hcz14_0
                      try clear hcz14_1
                      try clear hcz14_2
                      try clear hcz14_3
                      try clear hcz16_0
                      try clear hcz16_1
                      try clear hcz16_2
                      try clear hcz16_3
                      try clear hcz30_0
                      try clear hcz30_1
                      try clear hcz30_2
                      try clear hcz30_3
                      try clear hcz32_0
                      try clear hcz32_1
                      try clear hcz32_2
                      try clear hcz32_3
                      try clear hcz4_0
                      try clear hcz4_1
                      try clear hcz4_2
                      try clear hcz4_3
                      try clear hfz14_0
                      try clear hfz14_1
                      try clear hfz14_2
                      try clear hfz14_3
                      try clear hfz16_0
                      try clear hfz16_1
                      try clear hfz16_2
                      try clear hfz16_3
                      try clear hfz30_0
                      try clear hfz30_1
                      try clear hfz30_2
                      try clear hfz30_3
                      try clear hfz32_0
                      try clear hfz32_1
                      try clear hfz32_2
                      try clear hfz32_3
                      try clear hfz4_0
                      try clear hfz4_1
                      try clear hfz4_2
                      try clear hfz4_3
                      try clear p18
                      try clear p2
                      try clear p20
                      try clear p6
                      try clear p8
                      try clear q18
                      try clear q20
                      try clear q6
                      try clear q8
                      obtain ⟨kq,x46_20,rfl,HA,HJ20,BK256,BK257,HB⟩:=hcut
                      cases kq with
                     |zero => exact absurd HA.out (by simp [withyref1_Uncontrol.j1])
                     |succ kj20 =>
                        have H:=HA.out
                        clear HA
                        simp only [withyref1_Uncontrol.j1] at H
                        by_cases c33 : x46_20 = true
                        · subst c33
                          have H1 : (if 4 ≤ (wrap64 ((wrap64 ((wrap64 (bt a0 2)) * 256)) + (wrap64 (bt a0 3)))) then (if (wrap64 ((wrap64 ((wrap64 (bt a0 2)) * 256)) + (wrap64 (bt a0 3)))) ≤ (a0.size : Int) then ((withyref1_Unopts.f kj20 (a0.extract 4 ((wrap64 ((wrap64 ((wrap64 (bt a0 2)) * 256)) + (wrap64 (bt a0 3)))) : Int).toNat)).bind fun bt258 => (if bt258.2 = 0 then (some ((wrap64 (bt a0 0)),(wrap64 (bt a0 1)),bt258.1,(⟨#[]⟩ : ByteArray),0)) else (some (0,0,([] : List (S46)),(⟨#[]⟩ : ByteArray),502)))) else (none)) else (none)) = some (r1,r2,r3,r4,r5):=by rw [if_pos rfl] at H;exact H
                          clear H
                          have H:=H1
                          clear H1
                          by_cases c34 : 4 ≤ (wrap64 ((wrap64 ((wrap64 (bt a0 2)) * 256)) + (wrap64 (bt a0 3))))
                          · rw [if_pos c34] at H
                            have c34b0:=eq_true c34
                            have c34b1 : decide (4 ≤ (wrap64 ((wrap64 ((wrap64 (bt a0 2)) * 256)) + (wrap64 (bt a0 3))))) = true:=decide_eq_true c34
                            by_cases c35 : (wrap64 ((wrap64 ((wrap64 (bt a0 2)) * 256)) + (wrap64 (bt a0 3)))) ≤ (a0.size : Int)
                            · rw [if_pos c35] at H
                              have c35b0:=eq_true c35
                              have c35b1 : decide ((wrap64 ((wrap64 ((wrap64 (bt a0 2)) * 256)) + (wrap64 (bt a0 3)))) ≤ (a0.size : Int)) = true:=decide_eq_true c35
                              replace H:=Option.bind_eq_some_iff.mp H
                              obtain ⟨⟨t258,t259⟩,A360,H⟩:=H
                              replace H : (if t259 = 0 then (some ((wrap64 (bt a0 0)),(wrap64 (bt a0 1)),t258,(⟨#[]⟩ : ByteArray),0)) else (some (0,0,([] : List (S46)),(⟨#[]⟩ : ByteArray),502))) = some (r1,r2,r3,r4,r5):=H
                              have A36:=Aside0.mk A360
                              clear A360
                              by_cases c37 : t259 = 0
                              · rw [if_pos c37] at H
                                have c37b0 : (t259 == 0) = true:=beq_iff_eq.mpr c37
                                have c37b1 : (t259 != 0) = false:=bne_eq_false_iff_eq.mpr c37
                                clear c37
                                simp only [Option.some.injEq,Prod.mk.injEq] at H
                                obtain ⟨rfl,rfl,rfl,rfl,rfl⟩:=H
                                go_wp2_with (first|((with_reducible refine gate_callee (f:=35) rfl ?_);refine goesL_ (some 51) rfl rfl Try.func35 (by kernel_rfl) rfl #[.string (a0.extract 4 ((wrap64 ((wrap64 ((wrap64 (bt a0 2)) * 256)) + (wrap64 (bt a0 3)))) : Int).toNat)] rfl (by (try simp only [List.map_toArray,List.map_cons,List.map_nil]);first|done|rfl|(simp only [List.length_drop,List.length_take];rfl)) ?_;(with_reducible refine (withyref1_Unopts.calls kj20 (a0.extract 4 ((wrap64 ((wrap64 ((wrap64 (bt a0 2)) * 256)) + (wrap64 (bt a0 3)))) : Int).toNat) t258 t259 _ A36.out).mono ?_);rintro e w38 ⟨v260,rfl,ho0,hb⟩;refine ⟨_,rfl,?_⟩;have n0_:=Aside0.mk (Kd.R_lower ho0 (below_size (by repeat (first|(with_reducible first|exact HB.out|apply below_alloc|apply pw_below_drewN|apply below_drew1|refine below_set ?_ GE256.out|refine below_set ?_ GE257.out)|exact HB.out))));have n1_:=Aside0.mk (blk_below (g:=gb256) (o:=.cells #[.int .i64 0,.int .i64 0,.slice none 0 0,.string (⟨#[]⟩ : ByteArray)] 69 (0,0)) (by (with_reducible repeat (first|refine blk_drewN ?_ _|refine blk_drew ?_|refine blk_alloc ?_ _));exact BK256.out) hb);have n2_:=Aside0.mk (blk_below (g:=gb257) (o:=.cells #[.int .i64 (wrap64 (bt a0 0)),.int .i64 (wrap64 (bt a0 1)),.slice none 0 0,.string (⟨#[]⟩ : ByteArray)] 69 (0,0)) (by (with_reducible repeat (first|refine blk_drewN ?_ _|refine blk_drew ?_|refine blk_alloc ?_ _));exact BK257.out) hb);have n3_:=Aside0.mk (below_step (by repeat (first|(with_reducible first|exact HB.out|apply below_alloc|apply pw_below_drewN|apply below_drew1|refine below_set ?_ GE256.out|refine below_set ?_ GE257.out)|exact HB.out)) hb);clear BK256;clear BK257;clear HB;have HO261:=n0_;have BK256:=n1_;have BK257:=n2_;have HB:=n3_;clear n0_ n1_ n2_ n3_;(try clear hb);(try clear hb2);(try clear hk);(try clear hi);(try clear ho0);obtain ⟨Ao39,co39,eo39⟩:=Kd.R_slice HO261.out;subst eo39;have hnb40:=NB257_256.out;have hnc40:=NB256_257.out;have hcz41_0 : w38.cell? ⟨gb257,0,none⟩ = some (.int .i64 (wrap64 (bt a0 0))):=(blk_cell BK257.out 0).trans rfl;have hcz41_1 : w38.cell? ⟨gb257,1,none⟩ = some (.int .i64 (wrap64 (bt a0 1))):=(blk_cell BK257.out 1).trans rfl;have hcz41_2 : w38.cell? ⟨gb257,2,none⟩ = some (.slice none 0 0):=(blk_cell BK257.out 2).trans rfl;have hcz41_3 : w38.cell? ⟨gb257,3,none⟩ = some (.string (⟨#[]⟩ : ByteArray)):=(blk_cell BK257.out 3).trans rfl;have hfz41_0:=blk_frozen BK257.out 0;have hfz41_1:=blk_frozen BK257.out 1;have hfz41_2:=blk_frozen BK257.out 2;have hfz41_3:=blk_frozen BK257.out 3;have hcz42_0 : w38.cell? ⟨gb256,0,none⟩ = some (.int .i64 0):=(blk_cell BK256.out 0).trans rfl;have hcz42_1 : w38.cell? ⟨gb256,1,none⟩ = some (.int .i64 0):=(blk_cell BK256.out 1).trans rfl;have hcz42_2 : w38.cell? ⟨gb256,2,none⟩ = some (.slice none 0 0):=(blk_cell BK256.out 2).trans rfl;have hcz42_3 : w38.cell? ⟨gb256,3,none⟩ = some (.string (⟨#[]⟩ : ByteArray)):=(blk_cell BK256.out 3).trans rfl;have hfz42_0:=blk_frozen BK256.out 0;have hfz42_1:=blk_frozen BK256.out 1;have hfz42_2:=blk_frozen BK256.out 2;have hfz42_3:=blk_frozen BK256.out 3))
                                refine bodyPost_ret (results_ct rfl _ _ gb256 69 #[.int .i64 (wrap64 (bt a0 0)),.int .i64 (wrap64 (bt a0 1)),.slice Ao39 t258.length co39,.string (⟨#[]⟩ : ByteArray)] (0,0) _ rfl (by (with_reducible repeat (first|refine blk_drewN ?_ _|refine blk_drew ?_|refine blk_alloc ?_ _));refine blk_put (cs:=#[.int .i64 (wrap64 (bt a0 0)),.int .i64 (wrap64 (bt a0 1)),.slice Ao39 t258.length co39,.string (⟨#[]⟩ : ByteArray)]) ?_ 3 _ rfl;(with_reducible repeat (first|refine blk_drewN ?_ _|refine blk_drew ?_|refine blk_alloc ?_ _));refine blk_put (cs:=#[.int .i64 (wrap64 (bt a0 0)),.int .i64 (wrap64 (bt a0 1)),.slice none 0 0,.string (⟨#[]⟩ : ByteArray)]) ?_ 2 _ rfl;(with_reducible repeat (first|refine blk_drewN ?_ _|refine blk_drew ?_|refine blk_alloc ?_ _));refine blk_put (cs:=#[.int .i64 (wrap64 (bt a0 0)),.int .i64 0,.slice none 0 0,.string (⟨#[]⟩ : ByteArray)]) ?_ 1 _ rfl;(with_reducible repeat (first|refine blk_drewN ?_ _|refine blk_drew ?_|refine blk_alloc ?_ _));refine blk_put (cs:=#[.int .i64 0,.int .i64 0,.slice none 0 0,.string (⟨#[]⟩ : ByteArray)]) ?_ 0 _ rfl;(with_reducible repeat (first|refine blk_drewN ?_ _|refine blk_drew ?_|refine blk_alloc ?_ _));refine blk_far ?_ NB256_257.out _;(with_reducible repeat (first|refine blk_drewN ?_ _|refine blk_drew ?_|refine blk_alloc ?_ _));exact BK256.out) Try.underlying69 rfl (by kernel_rfl)) rfl ?_
                                exact ⟨_,by first|rfl|(simp [errW_none,errW_some] <;> rfl)|(simp [*,errW_none,errW_some] <;> rfl),by (with_reducible repeat (first|apply Kd.R_alloc|apply Kd.R_drewN|apply Kd.R_drew));exact Kd.R_mono (Kd.R_far (p:=⟨gb256,3,none⟩) (Kd.R_far (p:=⟨gb256,2,none⟩) (Kd.R_far (p:=⟨gb256,1,none⟩) (Kd.R_far (p:=⟨gb256,0,none⟩) (Kd.R_far (p:=⟨gb257,2,none⟩) (Kd.R_types (Kd.R_types HO261.out BK257.out (by decide)) BK256.out (by decide)) (fun _ hk => hk.1.2) (.slice Ao39 t258.length co39)) (fun _ hk => hk.2) (.int .i64 (wrap64 (bt a0 0)))) (fun _ hk => hk.2) (.int .i64 (wrap64 (bt a0 1)))) (fun _ hk => hk.2) (.slice Ao39 t258.length co39)) (fun _ hk => hk.2) (.string (⟨#[]⟩ : ByteArray))) (fun _ hk => trivial),by repeat (first|(with_reducible first|exact HB.out|apply below_alloc|apply pw_below_drewN|apply below_drew1|refine below_set ?_ GE256.out|refine below_set ?_ GE257.out)|exact HB.out)⟩
                              · rw [if_neg c37] at H
                                have c37b0 : (t259 == 0) = false:=beq_eq_false_iff_ne.mpr c37
                                have c37b1 : (t259 != 0) = true:=bne_iff_ne.mpr c37
                                simp only [Option.some.injEq,Prod.mk.injEq] at H
                                obtain ⟨rfl,rfl,rfl,rfl,rfl⟩:=H
                                go_wp2_with (first|((with_reducible refine gate_callee (f:=35) rfl ?_);refine goesL_ (some 51) rfl rfl Try.func35 (by kernel_rfl) rfl #[.string (a0.extract 4 ((wrap64 ((wrap64 ((wrap64 (bt a0 2)) * 256)) + (wrap64 (bt a0 3)))) : Int).toNat)] rfl (by (try simp only [List.map_toArray,List.map_cons,List.map_nil]);first|done|rfl|(simp only [List.length_drop,List.length_take];rfl)) ?_;(with_reducible refine (withyref1_Unopts.calls kj20 (a0.extract 4 ((wrap64 ((wrap64 ((wrap64 (bt a0 2)) * 256)) + (wrap64 (bt a0 3)))) : Int).toNat) t258 t259 _ A36.out).mono ?_);rintro e w43 ⟨v260,rfl,ho0,hb⟩;refine ⟨_,rfl,?_⟩;have n0_:=Aside0.mk (Kd.R_lower ho0 (below_size (by repeat (first|(with_reducible first|exact HB.out|apply below_alloc|apply pw_below_drewN|apply below_drew1|refine below_set ?_ GE256.out|refine below_set ?_ GE257.out)|exact HB.out))));have n1_:=Aside0.mk (blk_below (g:=gb256) (o:=.cells #[.int .i64 0,.int .i64 0,.slice none 0 0,.string (⟨#[]⟩ : ByteArray)] 69 (0,0)) (by (with_reducible repeat (first|refine blk_drewN ?_ _|refine blk_drew ?_|refine blk_alloc ?_ _));exact BK256.out) hb);have n2_:=Aside0.mk (blk_below (g:=gb257) (o:=.cells #[.int .i64 (wrap64 (bt a0 0)),.int .i64 (wrap64 (bt a0 1)),.slice none 0 0,.string (⟨#[]⟩ : ByteArray)] 69 (0,0)) (by (with_reducible repeat (first|refine blk_drewN ?_ _|refine blk_drew ?_|refine blk_alloc ?_ _));exact BK257.out) hb);have n3_:=Aside0.mk (below_step (by repeat (first|(with_reducible first|exact HB.out|apply below_alloc|apply pw_below_drewN|apply below_drew1|refine below_set ?_ GE256.out|refine below_set ?_ GE257.out)|exact HB.out)) hb);clear BK256;clear BK257;clear HB;have HO261:=n0_;have BK256:=n1_;have BK257:=n2_;have HB:=n3_;clear n0_ n1_ n2_ n3_;(try clear hb);(try clear hb2);(try clear hk);(try clear hi);(try clear ho0);have hnb44:=NB256_257.out;have hnc44:=NB257_256.out;have hcz45_0 : w43.cell? ⟨gb256,0,none⟩ = some (.int .i64 0):=(blk_cell BK256.out 0).trans rfl;have hcz45_1 : w43.cell? ⟨gb256,1,none⟩ = some (.int .i64 0):=(blk_cell BK256.out 1).trans rfl;have hcz45_2 : w43.cell? ⟨gb256,2,none⟩ = some (.slice none 0 0):=(blk_cell BK256.out 2).trans rfl;have hcz45_3 : w43.cell? ⟨gb256,3,none⟩ = some (.string (⟨#[]⟩ : ByteArray)):=(blk_cell BK256.out 3).trans rfl;have hfz45_0:=blk_frozen BK256.out 0;have hfz45_1:=blk_frozen BK256.out 1;have hfz45_2:=blk_frozen BK256.out 2;have hfz45_3:=blk_frozen BK256.out 3))
                                refine bodyPost_ret (results_ct rfl _ _ gb256 69 #[.int .i64 0,.int .i64 0,.slice none 0 0,.string (⟨#[]⟩ : ByteArray)] (0,0) _ rfl (by (with_reducible repeat (first|refine blk_drewN ?_ _|refine blk_drew ?_|refine blk_alloc ?_ _));refine blk_put (cs:=#[.int .i64 0,.int .i64 0,.slice none 0 0,.string (⟨#[]⟩ : ByteArray)]) ?_ 3 _ rfl;(with_reducible repeat (first|refine blk_drewN ?_ _|refine blk_drew ?_|refine blk_alloc ?_ _));refine blk_put (cs:=#[.int .i64 0,.int .i64 0,.slice none 0 0,.string (⟨#[]⟩ : ByteArray)]) ?_ 2 _ rfl;(with_reducible repeat (first|refine blk_drewN ?_ _|refine blk_drew ?_|refine blk_alloc ?_ _));refine blk_put (cs:=#[.int .i64 0,.int .i64 0,.slice none 0 0,.string (⟨#[]⟩ : ByteArray)]) ?_ 1 _ rfl;(with_reducible repeat (first|refine blk_drewN ?_ _|refine blk_drew ?_|refine blk_alloc ?_ _));refine blk_put (cs:=#[.int .i64 0,.int .i64 0,.slice none 0 0,.string (⟨#[]⟩ : ByteArray)]) ?_ 0 _ rfl;(with_reducible repeat (first|refine blk_drewN ?_ _|refine blk_drew ?_|refine blk_alloc ?_ _));exact BK256.out) Try.underlying69 rfl (by kernel_rfl)) rfl ?_
                                exact ⟨_,by first|rfl|(simp [errW_none,errW_some] <;> rfl)|(simp [*,errW_none,errW_some] <;> rfl),by first|exact Kd.R_nil _ _ _ _ _|exact Kd.N_nil _ _ _ _ _|exact Kd.V_nil _ _ _ _ _|exact Kd.Q_nil _ _ _ _ _|exact Kd.S_nil _ _ _ _ _,by repeat (first|(with_reducible first|exact HB.out|apply below_alloc|apply pw_below_drewN|apply below_drew1|refine below_set ?_ GE256.out|refine below_set ?_ GE257.out)|exact HB.out)⟩
                            · rw [if_neg c35] at H
                              exact absurd H (by simp)
                          · rw [if_neg c34] at H
                            exact absurd H (by simp)
                        · replace c33:=Bool.eq_false_iff.mpr c33
                          subst c33
                          have H1 : (if 4 ≤ (wrap64 ((wrap64 ((wrap64 (bt a0 2)) * 256)) + (wrap64 (bt a0 3)))) then (if (wrap64 ((wrap64 ((wrap64 (bt a0 2)) * 256)) + (wrap64 (bt a0 3)))) ≤ (a0.size : Int) then (some ((wrap64 (bt a0 0)),(wrap64 (bt a0 1)),([] : List (S46)),a0.extract 4 ((wrap64 ((wrap64 ((wrap64 (bt a0 2)) * 256)) + (wrap64 (bt a0 3)))) : Int).toNat,0)) else (none)) else (none)) = some (r1,r2,r3,r4,r5):=by rw [if_neg (show ¬ (false = true) by decide)] at H;exact H
                          clear H
                          have H:=H1
                          clear H1
                          by_cases c46 : 4 ≤ (wrap64 ((wrap64 ((wrap64 (bt a0 2)) * 256)) + (wrap64 (bt a0 3))))
                          · rw [if_pos c46] at H
                            have c46b0:=eq_true c46
                            have c46b1 : decide (4 ≤ (wrap64 ((wrap64 ((wrap64 (bt a0 2)) * 256)) + (wrap64 (bt a0 3))))) = true:=decide_eq_true c46
                            by_cases c47 : (wrap64 ((wrap64 ((wrap64 (bt a0 2)) * 256)) + (wrap64 (bt a0 3)))) ≤ (a0.size : Int)
                            · rw [if_pos c47] at H
                              have c47b0:=eq_true c47
                              have c47b1 : decide ((wrap64 ((wrap64 ((wrap64 (bt a0 2)) * 256)) + (wrap64 (bt a0 3)))) ≤ (a0.size : Int)) = true:=decide_eq_true c47
                              simp only [Option.some.injEq,Prod.mk.injEq] at H
                              obtain ⟨rfl,rfl,rfl,rfl,rfl⟩:=H
                              have hnb48:=NB257_256.out
                              have hnc48:=NB256_257.out
                              have hcz49_0 : wc.cell? ⟨gb257,0,none⟩ = some (.int .i64 (wrap64 (bt a0 0))):=(blk_cell BK257.out 0).trans rfl
                              have hcz49_1 : wc.cell? ⟨gb257,1,none⟩ = some (.int .i64 (wrap64 (bt a0 1))):=(blk_cell BK257.out 1).trans rfl
                              have hcz49_2 : wc.cell? ⟨gb257,2,none⟩ = some (.slice none 0 0):=(blk_cell BK257.out 2).trans rfl
                              have hcz49_3 : wc.cell? ⟨gb257,3,none⟩ = some (.string (⟨#[]⟩ : ByteArray)):=(blk_cell BK257.out 3).trans rfl
                              have hfz49_0:=blk_frozen BK257.out 0
                              have hfz49_1:=blk_frozen BK257.out 1
                              have hfz49_2:=blk_frozen BK257.out 2
                              have hfz49_3:=blk_frozen BK257.out 3
                              have hcz50_0 : wc.cell? ⟨gb256,0,none⟩ = some (.int .i64 0):=(blk_cell BK256.out 0).trans rfl
                              have hcz50_1 : wc.cell? ⟨gb256,1,none⟩ = some (.int .i64 0):=(blk_cell BK256.out 1).trans rfl
                              have hcz50_2 : wc.cell? ⟨gb256,2,none⟩ = some (.slice none 0 0):=(blk_cell BK256.out 2).trans rfl
                              have hcz50_3 : wc.cell? ⟨gb256,3,none⟩ = some (.string (⟨#[]⟩ : ByteArray)):=(blk_cell BK256.out 3).trans rfl
                              have hfz50_0:=blk_frozen BK256.out 0
                              have hfz50_1:=blk_frozen BK256.out 1
                              have hfz50_2:=blk_frozen BK256.out 2
                              have hfz50_3:=blk_frozen BK256.out 3
                              go_wp2
                              refine bodyPost_ret (results_ct rfl _ _ gb256 69 #[.int .i64 (wrap64 (bt a0 0)),.int .i64 (wrap64 (bt a0 1)),.slice none 0 0,.string (a0.extract 4 ((wrap64 ((wrap64 ((wrap64 (bt a0 2)) * 256)) + (wrap64 (bt a0 3)))) : Int).toNat)] (0,0) _ rfl (by (with_reducible repeat (first|refine blk_drewN ?_ _|refine blk_drew ?_|refine blk_alloc ?_ _));refine blk_put (cs:=#[.int .i64 (wrap64 (bt a0 0)),.int .i64 (wrap64 (bt a0 1)),.slice none 0 0,.string (⟨#[]⟩ : ByteArray)]) ?_ 3 _ rfl;(with_reducible repeat (first|refine blk_drewN ?_ _|refine blk_drew ?_|refine blk_alloc ?_ _));refine blk_put (cs:=#[.int .i64 (wrap64 (bt a0 0)),.int .i64 (wrap64 (bt a0 1)),.slice none 0 0,.string (⟨#[]⟩ : ByteArray)]) ?_ 2 _ rfl;(with_reducible repeat (first|refine blk_drewN ?_ _|refine blk_drew ?_|refine blk_alloc ?_ _));refine blk_put (cs:=#[.int .i64 (wrap64 (bt a0 0)),.int .i64 0,.slice none 0 0,.string (⟨#[]⟩ : ByteArray)]) ?_ 1 _ rfl;(with_reducible repeat (first|refine blk_drewN ?_ _|refine blk_drew ?_|refine blk_alloc ?_ _));refine blk_put (cs:=#[.int .i64 0,.int .i64 0,.slice none 0 0,.string (⟨#[]⟩ : ByteArray)]) ?_ 0 _ rfl;(with_reducible repeat (first|refine blk_drewN ?_ _|refine blk_drew ?_|refine blk_alloc ?_ _));refine blk_far ?_ NB256_257.out _;(with_reducible repeat (first|refine blk_drewN ?_ _|refine blk_drew ?_|refine blk_alloc ?_ _));exact BK256.out) Try.underlying69 rfl (by kernel_rfl)) rfl ?_
                              exact ⟨_,by first|rfl|(simp [errW_none,errW_some] <;> rfl)|(simp [*,errW_none,errW_some] <;> rfl),by first|exact Kd.R_nil _ _ _ _ _|exact Kd.N_nil _ _ _ _ _|exact Kd.V_nil _ _ _ _ _|exact Kd.Q_nil _ _ _ _ _|exact Kd.S_nil _ _ _ _ _,by repeat (first|(with_reducible first|exact HB.out|apply below_alloc|apply pw_below_drewN|apply below_drew1|refine below_set ?_ GE256.out|refine below_set ?_ GE257.out)|exact HB.out)⟩
                            · rw [if_neg c47] at H
                              exact absurd H (by simp)
                          · rw [if_neg c46] at H
                            exact absurd H (by simp)
                  · rw [if_neg c19] at H
                    exact absurd H (by simp)
                · rw [if_neg c17] at H
                  exact absurd H (by simp)
      · rw [if_neg c7] at H
        exact absurd H (by simp)
    · rw [if_neg c5] at H
      exact absurd H (by simp)

end Go.Proofs.Ytbdlkcgaobkdcaa.P

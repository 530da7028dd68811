/- TalkOthers, two ways: no option, one of a negative kind; conditions as in the walk. -/
import Derived.Test.YtbdlkcgaobkdcaaTalkOthA
set_option linter.unusedVariables false
set_option linter.unusedSimpArgs false
namespace Go.Proofs.Ytbdlkcgaobkdcaa.P
open Go.RowKit Go.Proofs.YtbdlkcgaobkdcaaW.PrintWords Go.Proofs.YtbdlkcgaobkdcaaW.PrintLast Go.Proofs.YtbdlkcgaobkdcaaW.PrintMore
attribute [local go_sem] max2_int min2_int max_two min_two max_three min_three max_four min_four

set_option maxHeartbeats 8000000 in
set_option maxRecDepth 100000 in
theorem talkOthers_none (code id answer : Int) (w : World) (A0 : Option Addr) (c0 : Nat) : Calls Try.prog 23 #[.int .i64 code, .int .i64 id, .int .i64 answer, .slice A0 0 c0] w fun e w' => e = .returned (.bool true) ∧ Below w.heap.size w w' := by
  have hu56 := Try.underlying56
  have hu46 := Try.underlying46
  obtain ⟨j, hj⟩ : ∃ j, Int.tmod (IntKind.u64.wrap code) 4 = j := ⟨_, rfl⟩
  have j0 : 0 ≤ j := by have := tmod4 code; omega
  have j4 : j < 4 := by have := tmod4 code; omega
  obtain ⟨k, hk_⟩ : ∃ k, Int.tmod (IntKind.u64.wrap (IntKind.u64.wrap code + 1)) 4 = k := ⟨_, rfl⟩
  have hkj : k = (j + 1) % 4 := by rw [← hk_, ← hj]; exact next4 code
  have k0 : 0 ≤ k := by omega
  have k4 : k < 4 := by omega
  have KJ := Aside0.mk (show k ≠ j by omega)
  clear hkj
  obtain ⟨r, hr⟩ : ∃ r, Int.tmod (IntKind.u64.wrap id) 255 = r := ⟨_, rfl⟩
  have r0 : 0 ≤ r := by have := tmod255 id; omega
  have r9 : r < 255 := by have := tmod255 id; omega
  obtain ⟨i, hi⟩ : ∃ i, i = (2 + r) % 256 := ⟨_, rfl⟩
  have hand : bits .and .i64 (2 + r) 255 = i := by rw [mask255, hi]
  have i0 : 0 ≤ i := by omega
  have i9 : i ≤ 255 := by omega
  have I1 := Aside0.mk (show i ≠ 1 by omega)
  clear hi
  obtain ⟨an, han⟩ : ∃ an, an = answer % 4 := ⟨_, rfl⟩
  have hand3 : bits .and .i64 answer 3 = an := by rw [mask3, han]
  have an0 : 0 ≤ an := by omega
  have an3 : an ≤ 3 := by omega
  clear han
  have CX := Aside0.mk (code4_ask j0 j4)
  have cj1 : 1 ≤ code3 j := CX.out.2.1
  have cj7 : code3 j ≤ 7 := CX.out.2.2
  have ck1 : 1 ≤ code3 k := (code4_ask k0 k4).2.1
  have ck7 : code3 k ≤ 7 := (code4_ask k0 k4).2.2
  have E0 := Aside0.mk (ot_ask j j0 j4)
  have E1 := Aside0.mk (ot_take1 j i j0 j4 i0 i9 I1.out)
  have E2 := Aside0.mk (ot_take2 j k j0 j4 k0 k4 KJ.out)
  have E3 := Aside0.mk (ot_take3 j an [] j0 j4 an0 (by omega) rfl (by decide))
  have E4 := Aside0.mk (ot_ask2 j an [] j0 j4)
  have S1 : Aside0 True := ⟨trivial⟩
  go_enter Try.func23, Try.ntmps23
  go_wp2_with (first
    | (go_at_call 41; refine (awake22 _).mono ?_; rintro e w0 ⟨rfl, hb⟩; have B0 := Aside0.mk hb; have zj : ∀ w : World, (w.alloc (.cells #[.int .i64 1, .int .i64 3, .int .i64 5, .int .i64 7] 3)).cell? ⟨w.heap.size, j.toNat, none⟩ = some (.int .i64 (code3 j)) := fun w => code4_cell j j0 j4 w; clear hb)
    | (go_at_call 42; ((with_reducible refine (new_in true 5 _ (by decide) (by decide)).mono ?_); rintro e w1 ⟨g, rfl, hg, hl, hT, hb⟩)
       have T0 := Aside0.mk (hT (fun k => k = g) rfl (fun k hk => by rw [hk]; exact hl))
       have HG := Aside0.mk (show w.heap.size ≤ g by have := B0.out.size; simp at hg; omega)
       have CG := Aside0.mk (show w0.heap.size ≠ g by simp at hg; omega)
       have CD := Aside0.mk (show w1.heap[w0.heap.size]? = some (.cells #[.int .i64 1, .int .i64 3, .int .i64 5, .int .i64 7] 3 (0, 0)) from blk_below (heap_alloc_new _ _) hb)
       have B1 := Aside0.mk (below_step (by repeat (first | exact B0.out | apply below_alloc | apply pw_below_drewN | apply below_drew1)) hb)
       clear hg hl hT hb B0 zj)
    | (go_at_call 43; clear S1; ((with_reducible refine (ask_inN (code := code3 j) (os := []) (X := fun k => k = g) (m := newS true 5) ?p1 (Kd.C_nil _ _) (by decide) E0.out (n := 0) rfl).mono ?_); (case p1 => repeat (first | exact T0.out | apply TkIn.alloc | apply TkIn.drewN | apply TkIn.drew)); rintro e w2 ⟨A1, c1, rfl, hs, hT, hU⟩)
       have T1 := Aside0.mk hT
       have CD2 := Aside0.mk (hU.blk CD.out CG.out)
       have B2 := Aside0.mk (below_upd (by repeat (first | exact B1.out | apply below_alloc | apply pw_below_drewN | apply below_drew1)) hU HG.out)
       clear hs hT hU T0 B1 CD)
    | (go_at_call 46; ((with_reducible refine (take_inN (c := code3 j + 1) (i := i) (a := 0) (os := []) (X := fun k => k = g) (m := ot_m (code3 j)) ?p2 (Sees.nil _ _ _) (by decide) E1.out (n := 0) rfl).mono ?_); (case p2 => repeat (first | exact T1.out | apply TkIn.alloc | apply TkIn.drewN | apply TkIn.drew)); rintro e w3 ⟨A2, c2, rfl, hs, hT, hU⟩)
       obtain ⟨gb, hgb⟩ : ∃ gb, gb = w2.heap.size := ⟨_, rfl⟩
       have GB := Aside0.mk (show w3.heap[gb]? = some (.cells #[.int .i64 (code3 j), .int .i64 1, .int .i64 0, .slice A1 0 c1] 56 (0, 0)) by rw [hgb]; exact hU.blk (heap_alloc_new _ _) (Nat.ne_of_gt T1.out.lt))
       have GN := Aside0.mk (show gb ≠ g by rw [hgb]; exact Nat.ne_of_gt T1.out.lt)
       rw [← hgb]
       have T2 := Aside0.mk hT
       have zk := code4_at k k0 k4 (hU.blk (blk_alloc CD2.out _) CG.out)
       have B3 := Aside0.mk (below_upd (by repeat (first | exact B2.out | apply below_alloc | apply pw_below_drewN | apply below_drew1)) hU HG.out)
       clear hgb hs hT hU T1 B2 CD2
       obtain ⟨z0, z1, z2, z3, _, _, _, _⟩ := four GB.out)
    | (go_at_call 46; ((with_reducible refine (take_inN (c := code3 k + 1) (i := 1) (a := 0) (os := []) (X := fun k => k = g) (m := ot_m (code3 j)) ?p3 (Sees.nil _ _ _) (by decide) E2.out (n := 0) rfl).mono ?_); (case p3 => repeat (first | exact T2.out | apply TkIn.alloc | apply TkIn.drewN | apply TkIn.drew)); rintro e w4 ⟨A3, c3, rfl, hs, hT, hU⟩)
       have n0 := hU.blk GB.out GN.out
       have T3 := Aside0.mk hT
       have B4 := Aside0.mk (below_upd (by repeat (first | exact B3.out | apply below_alloc | apply pw_below_drewN | apply below_drew1)) hU HG.out)
       clear hs hT hU T2 B3 GB z0 z1 z2 z3 zk
       obtain ⟨z0, z1, z2, z3, _, _, _, _⟩ := four n0
       clear n0)
    | (go_at_call 45; ((with_reducible refine (pending_in (X := fun k => k = g) (q := true) (m := ot_m (code3 j)) ?p4 rfl).mono ?_); (case p4 => repeat (first | exact T3.out | apply TkIn.alloc | apply TkIn.drewN | apply TkIn.drew)); rintro e w' ⟨rfl, rfl⟩))
    | (go_at_call 46; ((with_reducible refine (take_inN (c := code3 j + 1) (i := 1) (a := an) (os := []) (X := fun k => k = g) (m := ot_m (code3 j)) ?p5 ?p51 (by exact Nat.lt_of_le_of_lt (Nat.le_of_ble_eq_true rfl : [].length ≤ 1) (by decide)) E3.out (n := 0) rfl).mono ?_); (case p5 => repeat (first | exact T3.out | apply TkIn.alloc | apply TkIn.drewN | apply TkIn.drew)); (case p51 => exact Sees.nil _ _ _); rintro e w5 ⟨A4, c4, rfl, hs, hT, hU⟩)
       obtain ⟨gr, hgr⟩ : ∃ gr, gr = w4.heap.size := ⟨_, rfl⟩
       have GR := Aside0.mk (show w5.heap[gr]? = some (.cells #[.int .i64 (code3 j + 1), .int .i64 1, .int .i64 an, .slice none 0 0] 56 (0, 0)) by rw [hgr]; exact hU.blk (heap_alloc_new _ _) (Nat.ne_of_gt T3.out.lt))
       have GM := Aside0.mk (show gr ≠ g by rw [hgr]; exact Nat.ne_of_gt T3.out.lt)
       rw [← hgr]
       have T4 := Aside0.mk hT
       have B5 := Aside0.mk (below_upd (by repeat (first | exact B4.out | apply below_alloc | apply pw_below_drewN | apply below_drew1)) hU HG.out)
       clear hgr hs hT hU T3 B4 z0 z1 z2 z3)
    | (go_at_call 43; ((with_reducible refine (ask_inN (code := code3 j) (os := []) (X := fun k => k = g) ?p6 (Kd.C_nil _ _) (by decide) E4.out (n := 0) rfl).mono ?_); (case p6 => repeat (first | exact T4.out | apply TkIn.alloc | apply TkIn.drewN | apply TkIn.drew)); rintro e w6 ⟨A5, c5, rfl, hs, hT, hU⟩)
       have T5 := Aside0.mk hT
       have GR6 := Aside0.mk (hU.blk GR.out GM.out)
       have B6 := Aside0.mk (below_upd (by repeat (first | exact B5.out | apply below_alloc | apply pw_below_drewN | apply below_drew1)) hU HG.out)
       clear hs hT hU T4 B5 GR)
    | (go_at_call 29; ((with_reducible refine (withylaw0_Num.calls _ _ _ rfl).mono ?_); rintro e w' ⟨rfl, ⟨nd, rfl⟩⟩)))
  obtain ⟨z0, z1, z2, z3, _, _, _, _⟩ := four GR6.out
  obtain ⟨W7, hW7⟩ : ∃ W7, W7 = w6.alloc (.cells #[.int .i64 (code3 j), .int .i64 2, .int .i64 0, .slice A5 0 c5] 56) := ⟨_, rfl⟩
  have GR7 := Aside0.mk (show W7.heap[gr]? = some (.cells #[.int .i64 (code3 j + 1), .int .i64 1, .int .i64 an, .slice none 0 0] 56 (0, 0)) by rw [hW7]; exact blk_alloc GR6.out _)
  have T6 := Aside0.mk (show TkIn (fun k => k = g) W7 g (ot_f (code3 j) an []) by rw [hW7]; exact T5.out.alloc _)
  have B7 := Aside0.mk (show Below w.heap.size w W7 by rw [hW7]; exact below_alloc B6.out _)
  rw [← hW7]
  clear hW7 T5 B6 GR6 z0 z1 z2 z3
  obtain ⟨z0, z1, z2, z3, _, _, _, _⟩ := four GR7.out
  clear j0 j4 k0 k4 r0 r9 i0 i9 an0 an3 ck1 ck7 cj1 cj7 hand hand3 hj hk_ hr hu46
  go_region_held3 (fun w' => w'.cell? ⟨gr, 0, none⟩ = some (.int .i64 (code3 j + 1)) ∧ w'.cell? ⟨gr, 1, none⟩ = some (.int .i64 1) ∧ w'.cell? ⟨gr, 2, none⟩ = some (.int .i64 an) ∧ w'.cell? ⟨gr, 3, none⟩ = some (.slice none 0 0)) (first | exact ⟨z0, z1, z2, z3⟩ | exact ⟨h0_, h1_, h2_, h3_⟩ | exact ⟨k0_, k1_, k2_, k3_⟩ | go_keep)
    (first
      | (go_at_call 29; ((with_reducible refine (withylaw0_Num.calls _ _ _ rfl).mono ?_); rintro e w' ⟨rfl, ⟨nd, rfl⟩⟩))
      | (go_at_call 63; ((with_reducible refine (last_in (X := fun k => k = g) (m := ot_f (code3 j) an []) ?p7).mono ?_); (case p7 => repeat (first | exact T6.out | apply TkIn.alloc | apply TkIn.drewN | apply TkIn.drew)); rintro e w8 ⟨A6, c6, rfl, hc6, hC6, hb⟩)
         have Q1 := Aside0.mk hc6
         have Q2 := Aside0.mk hC6
         have T8 := Aside0.mk (TkIn.below (show TkIn (fun k => k = g) _ g (ot_f (code3 j) an []) by repeat (first | exact T6.out | apply TkIn.alloc | apply TkIn.drewN | apply TkIn.drew)) hb)
         have B8 := Aside0.mk (below_step (by repeat (first | exact B7.out | apply below_alloc | apply pw_below_drewN | apply below_drew1)) hb)
         have n0 := blk_below (show (World.heap _)[gr]? = some (.cells #[.int .i64 (code3 j + 1), .int .i64 1, .int .i64 an, .slice none 0 0] 56 (0, 0)) by repeat (first | exact GR7.out | apply blk_alloc | apply blk_drewN)) hb
         have h0_ := (blk_cell n0 0).trans rfl
         have h1_ := (blk_cell n0 1).trans rfl
         have h2_ := (blk_cell n0 2).trans rfl
         have h3_ := (blk_cell n0 3).trans rfl
         have GR8 := Aside0.mk n0
         clear hc6 hC6 hb n0)
      | (go_at_call 56; ((with_reducible refine (sameBap_last (m := ot_f (code3 j) an []) (c := code3 j + 1) (a := an) (n := 0) (os := []) ?p80 Q2.out Q1.out ?p8 ?p81 ?p82 ?p83).mono ?_); (case p80 => rfl); (case p81 => exact (Nat.le_refl _)); (case p82 => rfl); (case p83 => exact Nat.le_of_ble_eq_true rfl); (case p8 => exact Kd.C_nil _ _); rintro e w9 ⟨rfl, hb⟩)
         have T9 := Aside0.mk (TkIn.below (show TkIn (fun k => k = g) _ g (ot_f (code3 j) an []) by repeat (first | exact T8.out | apply TkIn.drewN)) hb)
         have B9 := Aside0.mk (below_step (by repeat (first | exact B8.out | apply pw_below_drewN | apply below_drew1)) hb)
         have n0 := blk_below (show (World.heap _)[gr]? = some (.cells #[.int .i64 (code3 j + 1), .int .i64 1, .int .i64 an, .slice none 0 0] 56 (0, 0)) by repeat (first | exact GR8.out | apply blk_drewN)) hb
         have k0_ := (blk_cell n0 0).trans rfl
         have k1_ := (blk_cell n0 1).trans rfl
         have k2_ := (blk_cell n0 2).trans rfl
         have k3_ := (blk_cell n0 3).trans rfl
         clear hb n0)
      | (go_at_call 45; ((with_reducible refine (pending_in (X := fun k => k = g) (q := true) (m := ot_f (code3 j) an []) ?p9 rfl).mono ?_); (case p9 => repeat (first | exact T9.out | apply TkIn.drewN)); rintro e w' ⟨rfl, rfl⟩)))
  all_goals go_wp2
  go_ret
  exact ⟨rfl, by repeat (first | exact B9.out | apply pw_below_drewN | apply below_drew1)⟩
set_option maxHeartbeats 8000000 in
set_option maxRecDepth 100000 in
theorem talkOthers_neg (code id answer : Int) (w : World) (ad : Addr) (c0 : Nat) (o : S46) (l0 : List S46) (hr0 : Kd.C k46 w (some ad) (l0.length + 1) (o :: l0)) (hc0 : l0.length + 1 ≤ c0) (hk : o.f0 < 0) : Calls Try.prog 23 #[.int .i64 code, .int .i64 id, .int .i64 answer, .slice (some ad) (l0.length + 1) c0] w fun e w' => e = .returned (.bool true) ∧ Below w.heap.size w w' := by
  have hu56 := Try.underlying56
  have hu46 := Try.underlying46
  obtain ⟨j, hj⟩ : ∃ j, Int.tmod (IntKind.u64.wrap code) 4 = j := ⟨_, rfl⟩
  have j0 : 0 ≤ j := by have := tmod4 code; omega
  have j4 : j < 4 := by have := tmod4 code; omega
  obtain ⟨k, hk_⟩ : ∃ k, Int.tmod (IntKind.u64.wrap (IntKind.u64.wrap code + 1)) 4 = k := ⟨_, rfl⟩
  have hkj : k = (j + 1) % 4 := by rw [← hk_, ← hj]; exact next4 code
  have k0 : 0 ≤ k := by omega
  have k4 : k < 4 := by omega
  have KJ := Aside0.mk (show k ≠ j by omega)
  clear hkj
  obtain ⟨r, hr⟩ : ∃ r, Int.tmod (IntKind.u64.wrap id) 255 = r := ⟨_, rfl⟩
  have r0 : 0 ≤ r := by have := tmod255 id; omega
  have r9 : r < 255 := by have := tmod255 id; omega
  obtain ⟨i, hi⟩ : ∃ i, i = (2 + r) % 256 := ⟨_, rfl⟩
  have hand : bits .and .i64 (2 + r) 255 = i := by rw [mask255, hi]
  have i0 : 0 ≤ i := by omega
  have i9 : i ≤ 255 := by omega
  have I1 := Aside0.mk (show i ≠ 1 by omega)
  clear hi
  obtain ⟨an, han⟩ : ∃ an, an = answer % 4 := ⟨_, rfl⟩
  have hand3 : bits .and .i64 answer 3 = an := by rw [mask3, han]
  have an0 : 0 ≤ an := by omega
  have an3 : an ≤ 3 := by omega
  clear han
  have CX := Aside0.mk (code4_ask j0 j4)
  have cj1 : 1 ≤ code3 j := CX.out.2.1
  have cj7 : code3 j ≤ 7 := CX.out.2.2
  have ck1 : 1 ≤ code3 k := (code4_ask k0 k4).2.1
  have ck7 : code3 k ≤ 7 := (code4_ask k0 k4).2.2
  have SO := Aside0.mk (show Sees w (fun k => k < w.heap.size) (some ad) c0 (o :: l0) from sees_came hr0 hc0)
  obtain ⟨ok_, ok1⟩ : ∃ q, q = o.f0 := ⟨_, rfl⟩
  obtain ⟨os_, os1⟩ : ∃ q, q = o.f1 := ⟨_, rfl⟩
  have hn0 : (0 : Int) < ((l0.length : Int) + 1) := by omega
  have hn1 : decide ((0 : Int) < ((l0.length : Int) + 1)) = true := decide_eq_true hn0
  have hn2 : 0 < l0.length + 1 := by omega
  obtain ⟨i46, hi46, _, _, _⟩ := info_parts info46
  have hcut := cut_at (P := Try.prog) 35 46 Try.underlying35 hi46 (some ad) (l0.length + 1) c0 1 1 rfl (by omega)
  rw [← ok1] at hk
  have t1 : decide (0 ≤ ok_) = false := decide_eq_false (by omega)
  clear hk
  have OK1 := Aside0.mk ok1
  have OS1 := Aside0.mk os1
  clear ok1 os1 hr0
  have E0 := Aside0.mk (ot_ask j j0 j4)
  have E1 := Aside0.mk (ot_take1 j i j0 j4 i0 i9 I1.out)
  have E2 := Aside0.mk (ot_take2 j k j0 j4 k0 k4 KJ.out)
  have E3 := Aside0.mk (ot_take3 j an [] j0 j4 an0 (by omega) rfl (by decide))
  have E4 := Aside0.mk (ot_ask2 j an [] j0 j4)
  have S1 : Aside0 True := ⟨trivial⟩
  go_enter Try.func23, Try.ntmps23
  go_wp2_with (first
    | (go_at_call 41; refine (awake22 _).mono ?_; rintro e w0 ⟨rfl, hb⟩; have B0 := Aside0.mk hb; have zj : ∀ w : World, (w.alloc (.cells #[.int .i64 1, .int .i64 3, .int .i64 5, .int .i64 7] 3)).cell? ⟨w.heap.size, j.toNat, none⟩ = some (.int .i64 (code3 j)) := fun w => code4_cell j j0 j4 w; clear hb)
    | (go_at_call 42; ((with_reducible refine (new_in true 5 _ (by decide) (by decide)).mono ?_); rintro e w1 ⟨g, rfl, hg, hl, hT, hb⟩)
       have T0 := Aside0.mk (hT (fun k => k = g) rfl (fun k hk => by rw [hk]; exact hl))
       have HG := Aside0.mk (show w.heap.size ≤ g by have := B0.out.size; simp at hg; omega)
       have CG := Aside0.mk (show w0.heap.size ≠ g by simp at hg; omega)
       have CD := Aside0.mk (show w1.heap[w0.heap.size]? = some (.cells #[.int .i64 1, .int .i64 3, .int .i64 5, .int .i64 7] 3 (0, 0)) from blk_below (heap_alloc_new _ _) hb)
       have B1 := Aside0.mk (below_step (by repeat (first | exact B0.out | apply below_alloc | apply pw_below_drewN | apply below_drew1)) hb)
       clear hg hl hT hb B0 zj)
    | (go_at_call 43; clear S1; ((with_reducible refine (ask_inN (code := code3 j) (os := []) (X := fun k => k = g) (m := newS true 5) ?p1 (Kd.C_nil _ _) (by decide) E0.out (n := 0) rfl).mono ?_); (case p1 => repeat (first | exact T0.out | apply TkIn.alloc | apply TkIn.drewN | apply TkIn.drew)); rintro e w2 ⟨A1, c1, rfl, hs, hT, hU⟩)
       have T1 := Aside0.mk hT
       have CD2 := Aside0.mk (hU.blk CD.out CG.out)
       have B2 := Aside0.mk (below_upd (by repeat (first | exact B1.out | apply below_alloc | apply pw_below_drewN | apply below_drew1)) hU HG.out)
       clear hs hT hU T0 B1 CD)
    | (go_at_call 46; ((with_reducible refine (take_inN (c := code3 j + 1) (i := i) (a := 0) (os := []) (X := fun k => k = g) (m := ot_m (code3 j)) ?p2 (Sees.nil _ _ _) (by decide) E1.out (n := 0) rfl).mono ?_); (case p2 => repeat (first | exact T1.out | apply TkIn.alloc | apply TkIn.drewN | apply TkIn.drew)); rintro e w3 ⟨A2, c2, rfl, hs, hT, hU⟩)
       obtain ⟨gb, hgb⟩ : ∃ gb, gb = w2.heap.size := ⟨_, rfl⟩
       have GB := Aside0.mk (show w3.heap[gb]? = some (.cells #[.int .i64 (code3 j), .int .i64 1, .int .i64 0, .slice A1 0 c1] 56 (0, 0)) by rw [hgb]; exact hU.blk (heap_alloc_new _ _) (Nat.ne_of_gt T1.out.lt))
       have GN := Aside0.mk (show gb ≠ g by rw [hgb]; exact Nat.ne_of_gt T1.out.lt)
       rw [← hgb]
       have T2 := Aside0.mk hT
       have zk := code4_at k k0 k4 (hU.blk (blk_alloc CD2.out _) CG.out)
       have B3 := Aside0.mk (below_upd (by repeat (first | exact B2.out | apply below_alloc | apply pw_below_drewN | apply below_drew1)) hU HG.out)
       clear hgb hs hT hU T1 B2 CD2
       obtain ⟨z0, z1, z2, z3, _, _, _, _⟩ := four GB.out)
    | (go_at_call 46; ((with_reducible refine (take_inN (c := code3 k + 1) (i := 1) (a := 0) (os := []) (X := fun k => k = g) (m := ot_m (code3 j)) ?p3 (Sees.nil _ _ _) (by decide) E2.out (n := 0) rfl).mono ?_); (case p3 => repeat (first | exact T2.out | apply TkIn.alloc | apply TkIn.drewN | apply TkIn.drew)); rintro e w4 ⟨A3, c3, rfl, hs, hT, hU⟩)
       have n0 := hU.blk GB.out GN.out
       have T3 := Aside0.mk hT
       have B4 := Aside0.mk (below_upd (by repeat (first | exact B3.out | apply below_alloc | apply pw_below_drewN | apply below_drew1)) hU HG.out)
       clear hs hT hU T2 B3 GB z0 z1 z2 z3 zk
       obtain ⟨z0, z1, z2, z3, _, _, _, _⟩ := four n0
       clear n0
       have OW := Aside0.mk (B4.out)
       have o0 : ∀ o_, (w4.alloc o_).cell? ad = some (.int .i64 ok_) := fun o_ => by rw [OK1.out]; exact (opt_cells (Kd.C_alloc (Kd.C_below SO.out.C B4.out) o_)).1
       have o1 : ∀ o_, (w4.alloc o_).cell? ⟨ad.block, ad.off + 1, none⟩ = some (.string os_) := fun o_ => by rw [OS1.out]; exact (opt_cells (Kd.C_alloc (Kd.C_below SO.out.C B4.out) o_)).2
       clear OW)
    | (go_at_call 45; ((with_reducible refine (pending_in (X := fun k => k = g) (q := true) (m := ot_m (code3 j)) ?p4 rfl).mono ?_); (case p4 => repeat (first | exact T3.out | apply TkIn.alloc | apply TkIn.drewN | apply TkIn.drew)); rintro e w' ⟨rfl, rfl⟩))
    | (go_at_call 46; ((with_reducible refine (take_inN (c := code3 j + 1) (i := 1) (a := an) (os := []) (X := fun k => k = g) (m := ot_m (code3 j)) ?p5 ?p51 (by exact Nat.lt_of_le_of_lt (Nat.le_of_ble_eq_true rfl : [].length ≤ 1) (by decide)) E3.out (n := 0) rfl).mono ?_); (case p5 => repeat (first | exact T3.out | apply TkIn.alloc | apply TkIn.drewN | apply TkIn.drew)); (case p51 => exact Sees.nil _ _ _); rintro e w5 ⟨A4, c4, rfl, hs, hT, hU⟩)
       obtain ⟨gr, hgr⟩ : ∃ gr, gr = w4.heap.size := ⟨_, rfl⟩
       have GR := Aside0.mk (show w5.heap[gr]? = some (.cells #[.int .i64 (code3 j + 1), .int .i64 1, .int .i64 an, .slice none 0 0] 56 (0, 0)) by rw [hgr]; exact hU.blk (heap_alloc_new _ _) (Nat.ne_of_gt T3.out.lt))
       have GM := Aside0.mk (show gr ≠ g by rw [hgr]; exact Nat.ne_of_gt T3.out.lt)
       rw [← hgr]
       have T4 := Aside0.mk hT
       have B5 := Aside0.mk (below_upd (by repeat (first | exact B4.out | apply below_alloc | apply pw_below_drewN | apply below_drew1)) hU HG.out)
       clear hgr hs hT hU T3 B4 z0 z1 z2 z3 o0 o1)
    | (go_at_call 43; ((with_reducible refine (ask_inN (code := code3 j) (os := []) (X := fun k => k = g) ?p6 (Kd.C_nil _ _) (by decide) E4.out (n := 0) rfl).mono ?_); (case p6 => repeat (first | exact T4.out | apply TkIn.alloc | apply TkIn.drewN | apply TkIn.drew)); rintro e w6 ⟨A5, c5, rfl, hs, hT, hU⟩)
       have T5 := Aside0.mk hT
       have GR6 := Aside0.mk (hU.blk GR.out GM.out)
       have B6 := Aside0.mk (below_upd (by repeat (first | exact B5.out | apply below_alloc | apply pw_below_drewN | apply below_drew1)) hU HG.out)
       clear hs hT hU T4 B5 GR)
    | (go_at_call 29; ((with_reducible refine (withylaw0_Num.calls _ _ _ rfl).mono ?_); rintro e w' ⟨rfl, ⟨nd, rfl⟩⟩)))
  obtain ⟨z0, z1, z2, z3, _, _, _, _⟩ := four GR6.out
  obtain ⟨W7, hW7⟩ : ∃ W7, W7 = w6.alloc (.cells #[.int .i64 (code3 j), .int .i64 2, .int .i64 0, .slice A5 0 c5] 56) := ⟨_, rfl⟩
  have GR7 := Aside0.mk (show W7.heap[gr]? = some (.cells #[.int .i64 (code3 j + 1), .int .i64 1, .int .i64 an, .slice none 0 0] 56 (0, 0)) by rw [hW7]; exact blk_alloc GR6.out _)
  have T6 := Aside0.mk (show TkIn (fun k => k = g) W7 g (ot_f (code3 j) an []) by rw [hW7]; exact T5.out.alloc _)
  have B7 := Aside0.mk (show Below w.heap.size w W7 by rw [hW7]; exact below_alloc B6.out _)
  rw [← hW7]
  clear hW7 T5 B6 GR6 z0 z1 z2 z3
  obtain ⟨z0, z1, z2, z3, _, _, _, _⟩ := four GR7.out
  clear j0 j4 k0 k4 r0 r9 i0 i9 an0 an3 ck1 ck7 cj1 cj7 hand hand3 hj hk_ hr hu46
  go_region_held3 (fun w' => w'.cell? ⟨gr, 0, none⟩ = some (.int .i64 (code3 j + 1)) ∧ w'.cell? ⟨gr, 1, none⟩ = some (.int .i64 1) ∧ w'.cell? ⟨gr, 2, none⟩ = some (.int .i64 an) ∧ w'.cell? ⟨gr, 3, none⟩ = some (.slice none 0 0)) (first | exact ⟨z0, z1, z2, z3⟩ | exact ⟨h0_, h1_, h2_, h3_⟩ | exact ⟨k0_, k1_, k2_, k3_⟩ | go_keep)
    (first
      | (go_at_call 29; ((with_reducible refine (withylaw0_Num.calls _ _ _ rfl).mono ?_); rintro e w' ⟨rfl, ⟨nd, rfl⟩⟩))
      | (go_at_call 63; ((with_reducible refine (last_in (X := fun k => k = g) (m := ot_f (code3 j) an []) ?p7).mono ?_); (case p7 => repeat (first | exact T6.out | apply TkIn.alloc | apply TkIn.drewN | apply TkIn.drew)); rintro e w8 ⟨A6, c6, rfl, hc6, hC6, hb⟩)
         have Q1 := Aside0.mk hc6
         have Q2 := Aside0.mk hC6
         have T8 := Aside0.mk (TkIn.below (show TkIn (fun k => k = g) _ g (ot_f (code3 j) an []) by repeat (first | exact T6.out | apply TkIn.alloc | apply TkIn.drewN | apply TkIn.drew)) hb)
         have B8 := Aside0.mk (below_step (by repeat (first | exact B7.out | apply below_alloc | apply pw_below_drewN | apply below_drew1)) hb)
         have n0 := blk_below (show (World.heap _)[gr]? = some (.cells #[.int .i64 (code3 j + 1), .int .i64 1, .int .i64 an, .slice none 0 0] 56 (0, 0)) by repeat (first | exact GR7.out | apply blk_alloc | apply blk_drewN)) hb
         have h0_ := (blk_cell n0 0).trans rfl
         have h1_ := (blk_cell n0 1).trans rfl
         have h2_ := (blk_cell n0 2).trans rfl
         have h3_ := (blk_cell n0 3).trans rfl
         have GR8 := Aside0.mk n0
         clear hc6 hC6 hb n0)
      | (go_at_call 56; ((with_reducible refine (sameBap_last (m := ot_f (code3 j) an []) (c := code3 j + 1) (a := an) (n := 0) (os := []) ?p80 Q2.out Q1.out ?p8 ?p81 ?p82 ?p83).mono ?_); (case p80 => rfl); (case p81 => exact (Nat.le_refl _)); (case p82 => rfl); (case p83 => exact Nat.le_of_ble_eq_true rfl); (case p8 => exact Kd.C_nil _ _); rintro e w9 ⟨rfl, hb⟩)
         have T9 := Aside0.mk (TkIn.below (show TkIn (fun k => k = g) _ g (ot_f (code3 j) an []) by repeat (first | exact T8.out | apply TkIn.drewN)) hb)
         have B9 := Aside0.mk (below_step (by repeat (first | exact B8.out | apply pw_below_drewN | apply below_drew1)) hb)
         have n0 := blk_below (show (World.heap _)[gr]? = some (.cells #[.int .i64 (code3 j + 1), .int .i64 1, .int .i64 an, .slice none 0 0] 56 (0, 0)) by repeat (first | exact GR8.out | apply blk_drewN)) hb
         have k0_ := (blk_cell n0 0).trans rfl
         have k1_ := (blk_cell n0 1).trans rfl
         have k2_ := (blk_cell n0 2).trans rfl
         have k3_ := (blk_cell n0 3).trans rfl
         clear hb n0)
      | (go_at_call 45; ((with_reducible refine (pending_in (X := fun k => k = g) (q := true) (m := ot_f (code3 j) an []) ?p9 rfl).mono ?_); (case p9 => repeat (first | exact T9.out | apply TkIn.drewN)); rintro e w' ⟨rfl, rfl⟩)))
  all_goals go_wp2
  go_ret
  exact ⟨rfl, by repeat (first | exact B9.out | apply pw_below_drewN | apply below_drew1)⟩
end Go.Proofs.Ytbdlkcgaobkdcaa.P

/- The walk of the law TalkAnswers: a request is answered by what it was asked with; no condition. -/
import Derived.Test.YtbdlkcgaobkdcaaTalkQ
set_option linter.unusedVariables false
set_option linter.unusedSimpArgs false
namespace Go.Proofs.Ytbdlkcgaobkdcaa.P
open Go.RowKit Go.Proofs.YtbdlkcgaobkdcaaW.PrintWords Go.Proofs.YtbdlkcgaobkdcaaW.PrintLast Go.Proofs.YtbdlkcgaobkdcaaW.PrintMore
attribute [local go_sem] max2_int min2_int max_two min_two max_three min_three max_four min_four

/-- One option in a block of its own, read whatever is written elsewhere. -/
theorem opt_oneF {w : World} {ok : Nat → Prop} {g : Nat} {a : Int} {s : ByteArray} (h : w.heap[g]? = some (.cells #[.int .i64 a, .string s] 46 (0, 0))) (hg : ok g) : Sees w ok (some ⟨g, 0, none⟩) 1 [(⟨a, s⟩ : S46)] :=
  ⟨Nat.le_refl _, fun W' hW => opt_one ((hW g hg (blk_lt h)).trans h)⟩
def an_o : S46 := ⟨23, ⟨#[0, 5]⟩⟩
def an_m : Tk := newS false 5
theorem an_fit : (putS [an_o]).2 = 0 ∧ (putS [an_o]).1.size ≤ 2043 := by decide +kernel
theorem an_bap (c i : Int) (h1 : 1 ≤ c) (h8 : c ≤ 8) (h0 : 0 ≤ i) (h9 : i ≤ 255) : (bapS c i 0 [an_o]).2 = 0 := bap_fine (may_of h1 h8 h0 h9) (Int.le_refl _) (by omega) (fun _ => rfl) an_fit.1 an_fit.2
theorem an_take1 (yes : Bool) (c i : Int) (hc : reqB c = true) (h1 : 1 ≤ c) (h8 : c ≤ 8) (h0 : 0 ≤ i) (h9 : i ≤ 255) : takeS an_m ⟨c, i, 0, [an_o]⟩ yes = (an_m, [⟨c + 1, i, ansB yes, [an_o]⟩], 0) := by
  rw [take_req (an_bap c i h1 h8 h0 h9) hc]
  rfl
theorem an_take2 (yes : Bool) (i : Int) (h0 : 0 ≤ i) (h9 : i ≤ 255) : takeS an_m ⟨7, i, 0, [an_o]⟩ yes = (an_m, [⟨8, i, 0, []⟩], 0) := take_stat (an_bap 7 i (by omega) (by omega) h0 h9) rfl
theorem sameBap_zero {w : World} {A : Option Addr} {c : Nat} {m : Tk} (hm : m.last = bp0) (h : Kd.C k46 w A m.last.f3.length m.last.f3) (hc : m.last.f3.length ≤ c) :
    Calls Try.prog 56 #[.agg #[.int .i64 m.last.f0, .int .i64 m.last.f1, .int .i64 m.last.f2, .slice A m.last.f3.length c], .agg #[.int .i64 0, .int .i64 0, .int .i64 0, .slice none 0 0]] w fun e w' => e = .returned (.bool true) ∧ Below w.heap.size w w' := by
  rw [hm] at h hc ⊢
  exact withylaw0_SameBap.calls 5 0 0 0 A c [] 0 0 0 none 0 [] true w h hc (Kd.C_nil _ _) (Nat.le_refl _) (sameBap_same 5 0 0 0 [] (by decide) (by decide))
set_option maxHeartbeats 8000000 in
set_option maxRecDepth 100000 in
theorem talkAnswers_true (code : Int) (id : Int) (w : World) : Calls Try.prog 24 #[.int .i64 code, .int .i64 id, .bool true] w fun e w' => e = .returned (.bool true) ∧ Below w.heap.size w w' := by
  have hu56 := Try.underlying56
  have hu46 := Try.underlying46
  obtain ⟨i, hi⟩ : ∃ i, i = id % 256 := ⟨_, rfl⟩
  have hand : bits .and .i64 id 255 = i := by rw [mask255, hi]
  have i0 : 0 ≤ i := by omega
  have i9 : i ≤ 255 := by omega
  clear hi
  obtain ⟨j, hj⟩ : ∃ j, Int.tmod (IntKind.u64.wrap code) 3 = j := ⟨_, rfl⟩
  have j0 : 0 ≤ j := by have := tmod3 code; omega
  have j3 : j < 3 := by have := tmod3 code; omega
  obtain ⟨c, hc⟩ : ∃ c, c = code3 j := ⟨_, rfl⟩
  have hcell : ∀ w : World, (w.alloc (.cells #[.int .i64 1, .int .i64 3, .int .i64 5] 3)).cell? ⟨w.heap.size, j.toNat, none⟩ = some (.int .i64 c) := fun w => by rw [hc]; exact code3_cell j j0 j3 w
  have CR := Aside0.mk (show reqB c = true by rw [hc]; exact (code3_req j0 j3).1)
  have c1 : 1 ≤ c := by rw [hc]; exact (code3_req j0 j3).2.1
  have c5 : c ≤ 5 := by rw [hc]; exact (code3_req j0 j3).2.2
  have E1 := Aside0.mk (show takeS an_m ⟨c, i, 0, [an_o]⟩ true = (an_m, [⟨c + 1, i, 0, [an_o]⟩], 0) from an_take1 true c i CR.out c1 (by omega) i0 i9)
  have E2 := Aside0.mk (an_take2 true i i0 i9)
  clear hc
  go_enter Try.func24, Try.ntmps24
  go_wp2_with (first
    | (go_at_call 41; refine (awake22 _).mono ?_; rintro e w0 ⟨rfl, hb⟩; have B0 := Aside0.mk hb; clear hb)
    | (go_at_call 42; ((with_reducible refine (new_in false 5 _ (by decide) (by decide)).mono ?_); rintro e w1 ⟨g, rfl, hg, hl, hT, hb⟩)
       have T0 := Aside0.mk (show TkIn (fun k => k = g) w1 g an_m from hT (fun k => k = g) rfl (fun k hk => by rw [hk]; exact hl))
       have HG := Aside0.mk (show w.heap.size ≤ g by have := B0.out.size; simp at hg; omega)
       have B1 := Aside0.mk (below_step (by repeat (first | exact B0.out | apply below_alloc | apply pw_below_drewN | apply below_drew1)) hb)
       clear hg hl hT hb B0)
    | (go_at_call 29; ((with_reducible refine (withylaw0_Num.calls _ _ _ rfl).mono ?_); rintro e w' ⟨rfl, ⟨nd, rfl⟩⟩))
    | (go_at_call 46; ((with_reducible refine (take_one (c := c) (i := i) (a := 0) (os := [an_o]) (X := fun k => k = g) ?p1 ?p11 (by decide) E1.out (n := 1) rfl).mono ?_); (case p1 => repeat (first | exact T0.out | apply TkIn.alloc | apply TkIn.drewN | apply TkIn.drew)); (case p11 => exact opt_oneF (heap_alloc_new _ _) (Nat.ne_of_gt T0.out.lt)); rintro e w2 ⟨gs, A2, k2, rfl, hgs, hx, hs, hT, hU⟩)
       obtain ⟨go, hgo⟩ : ∃ go, go = w1.heap.size := ⟨_, rfl⟩
       have GN := Aside0.mk (show go ≠ g by rw [hgo]; exact Nat.ne_of_gt T0.out.lt)
       have GO := Aside0.mk (show w2.heap[go]? = some (.cells #[.int .i64 23, .string ⟨#[0, 5]⟩] 46 (0, 0)) by rw [hgo]; exact hU.blk (heap_alloc_new _ _) (Nat.ne_of_gt T0.out.lt))
       have S1 := Aside0.mk (row_oneF (b := ⟨c + 1, i, 0, [an_o]⟩) hgs hx hs)
       have T1 := Aside0.mk hT
       have B2 := Aside0.mk (below_upd (by repeat (first | exact B1.out | apply below_alloc | apply pw_below_drewN | apply below_drew1)) hU HG.out)
       rw [← hgo]
       clear hgo hgs hx hs hT hU T0 B1)
    | (go_at_call 46; ((with_reducible refine (take_one (c := 7) (i := i) (a := 0) (os := [an_o]) (X := fun k => k = g) ?p2 ?p21 (by decide) E2.out (n := 1) rfl).mono ?_); (case p2 => repeat (first | exact T1.out | apply TkIn.alloc | apply TkIn.drewN | apply TkIn.drew)); (case p21 => exact opt_oneF GO.out GN.out); rintro e w3 ⟨gs', A3, k3, rfl, hgs, hx, hs, hT, hU⟩)
       have S2 := Aside0.mk (row_oneF (b := ⟨8, i, 0, []⟩) hgs hx hs)
       have n0 := Aside0.mk (seesB_upd S1.out hU rfl)
       have n1 := Aside0.mk (hU.blk GO.out GN.out)
       have T2 := Aside0.mk hT
       have B3 := Aside0.mk (below_upd (by repeat (first | exact B2.out | apply below_alloc | apply pw_below_drewN | apply below_drew1)) hU HG.out)
       clear hgs hx hs hT hU T1 B2 S1 GO
       have S1 := n0
       have GO := n1
       clear n0 n1)
    | (go_at_call 61; ((with_reducible refine (sameBaps_in (b := ⟨c + 1, i, 0, [an_o]⟩) ?p3 ?p31 ?p32 (Nat.le_refl _) (by exact Nat.le_of_ble_eq_true rfl)).mono ?_); (case p31 => exact S1.out.cap); (case p3 => exact SeesB.C (by repeat (first | exact S1.out | apply seesB_alloc | apply seesB_drewN))); (case p32 => exact row_one (b := ⟨c + 1, i, 0, [an_o]⟩) (alloc_at (by simp)) (Nat.le_refl 1) (opt_one (by repeat (first | exact GO.out | apply blk_alloc | apply blk_drewN)))); rintro e w4 ⟨rfl, hb⟩)
       have T3 := Aside0.mk (TkIn.below (show TkIn (fun k => k = g) _ g an_m by repeat (first | exact T2.out | apply TkIn.alloc | apply TkIn.drewN | apply TkIn.drew)) hb)
       have B4 := Aside0.mk (below_step (by repeat (first | exact B3.out | apply below_alloc | apply pw_below_drewN | apply below_drew1)) hb)
       have n0 := Aside0.mk (seesB_below (show SeesB _ (fun k => ¬ k = g) (some ⟨gs', 0, none⟩) 1 [⟨8, i, 0, []⟩] by repeat (first | exact S2.out | apply seesB_alloc | apply seesB_drewN)) hb)
       clear hb T2 B3 S1 S2 GO
       have S2 := n0
       clear n0)
    | (go_at_call 61; ((with_reducible refine (sameBaps_in (b := ⟨8, i, 0, []⟩) ?p4 ?p41 ?p42 (Nat.le_refl _) (Nat.zero_le _)).mono ?_); (case p41 => exact S2.out.cap); (case p4 => exact SeesB.C (by repeat (first | exact S2.out | apply seesB_alloc | apply seesB_drewN))); (case p42 => exact row_one (b := ⟨8, i, 0, []⟩) (alloc_at (by simp)) (Nat.le_refl 0) (Kd.C_nil _ _)); rintro e w5 ⟨rfl, hb⟩)
       have T4 := Aside0.mk (TkIn.below (show TkIn (fun k => k = g) _ g an_m by repeat (first | exact T3.out | apply TkIn.alloc | apply TkIn.drewN | apply TkIn.drew)) hb)
       have B5 := Aside0.mk (below_step (by repeat (first | exact B4.out | apply below_alloc | apply pw_below_drewN | apply below_drew1)) hb)
       clear hb T3 B4 S2)
    | (go_at_call 45; ((with_reducible refine (pending_in (X := fun k => k = g) (q := false) (m := an_m) ?p5 rfl).mono ?_); (case p5 => repeat (first | exact T4.out | apply TkIn.alloc | apply TkIn.drewN | apply TkIn.drew)); rintro e w' ⟨rfl, rfl⟩))
    | (go_at_call 63; ((with_reducible refine (last_in (X := fun k => k = g) (m := an_m) ?p6).mono ?_); (case p6 => repeat (first | exact T4.out | apply TkIn.alloc | apply TkIn.drewN | apply TkIn.drew)); rintro e w6 ⟨A6, k6, rfl, hc6, hC6, hb⟩)
       have B6 := Aside0.mk (below_step (by repeat (first | exact B5.out | apply below_alloc | apply pw_below_drewN | apply below_drew1)) hb)
       have Q1 := Aside0.mk hc6
       have Q2 := Aside0.mk hC6
       clear hb B5 hc6 hC6)
    | (go_at_call 56; ((with_reducible refine (sameBap_zero (m := an_m) rfl Q2.out Q1.out).mono ?_); rintro e w7 ⟨rfl, hb⟩)
       have B7 := Aside0.mk (below_step (by repeat (first | exact B6.out | apply below_alloc | apply pw_below_drewN | apply below_drew1)) hb)
       clear hb B6))
  go_ret
  exact ⟨rfl, B7.out⟩
set_option maxHeartbeats 8000000 in
set_option maxRecDepth 100000 in
theorem talkAnswers_false (code : Int) (id : Int) (w : World) : Calls Try.prog 24 #[.int .i64 code, .int .i64 id, .bool false] w fun e w' => e = .returned (.bool true) ∧ Below w.heap.size w w' := by
  have hu56 := Try.underlying56
  have hu46 := Try.underlying46
  obtain ⟨i, hi⟩ : ∃ i, i = id % 256 := ⟨_, rfl⟩
  have hand : bits .and .i64 id 255 = i := by rw [mask255, hi]
  have i0 : 0 ≤ i := by omega
  have i9 : i ≤ 255 := by omega
  clear hi
  obtain ⟨j, hj⟩ : ∃ j, Int.tmod (IntKind.u64.wrap code) 3 = j := ⟨_, rfl⟩
  have j0 : 0 ≤ j := by have := tmod3 code; omega
  have j3 : j < 3 := by have := tmod3 code; omega
  obtain ⟨c, hc⟩ : ∃ c, c = code3 j := ⟨_, rfl⟩
  have hcell : ∀ w : World, (w.alloc (.cells #[.int .i64 1, .int .i64 3, .int .i64 5] 3)).cell? ⟨w.heap.size, j.toNat, none⟩ = some (.int .i64 c) := fun w => by rw [hc]; exact code3_cell j j0 j3 w
  have CR := Aside0.mk (show reqB c = true by rw [hc]; exact (code3_req j0 j3).1)
  have c1 : 1 ≤ c := by rw [hc]; exact (code3_req j0 j3).2.1
  have c5 : c ≤ 5 := by rw [hc]; exact (code3_req j0 j3).2.2
  have E1 := Aside0.mk (show takeS an_m ⟨c, i, 0, [an_o]⟩ false = (an_m, [⟨c + 1, i, 1, [an_o]⟩], 0) from an_take1 false c i CR.out c1 (by omega) i0 i9)
  have E2 := Aside0.mk (an_take2 false i i0 i9)
  clear hc
  go_enter Try.func24, Try.ntmps24
  go_wp2_with (first
    | (go_at_call 41; refine (awake22 _).mono ?_; rintro e w0 ⟨rfl, hb⟩; have B0 := Aside0.mk hb; clear hb)
    | (go_at_call 42; ((with_reducible refine (new_in false 5 _ (by decide) (by decide)).mono ?_); rintro e w1 ⟨g, rfl, hg, hl, hT, hb⟩)
       have T0 := Aside0.mk (show TkIn (fun k => k = g) w1 g an_m from hT (fun k => k = g) rfl (fun k hk => by rw [hk]; exact hl))
       have HG := Aside0.mk (show w.heap.size ≤ g by have := B0.out.size; simp at hg; omega)
       have B1 := Aside0.mk (below_step (by repeat (first | exact B0.out | apply below_alloc | apply pw_below_drewN | apply below_drew1)) hb)
       clear hg hl hT hb B0)
    | (go_at_call 29; ((with_reducible refine (withylaw0_Num.calls _ _ _ rfl).mono ?_); rintro e w' ⟨rfl, ⟨nd, rfl⟩⟩))
    | (go_at_call 46; ((with_reducible refine (take_one (c := c) (i := i) (a := 0) (os := [an_o]) (X := fun k => k = g) ?p1 ?p11 (by decide) E1.out (n := 1) rfl).mono ?_); (case p1 => repeat (first | exact T0.out | apply TkIn.alloc | apply TkIn.drewN | apply TkIn.drew)); (case p11 => exact opt_oneF (heap_alloc_new _ _) (Nat.ne_of_gt T0.out.lt)); rintro e w2 ⟨gs, A2, k2, rfl, hgs, hx, hs, hT, hU⟩)
       obtain ⟨go, hgo⟩ : ∃ go, go = w1.heap.size := ⟨_, rfl⟩
       have GN := Aside0.mk (show go ≠ g by rw [hgo]; exact Nat.ne_of_gt T0.out.lt)
       have GO := Aside0.mk (show w2.heap[go]? = some (.cells #[.int .i64 23, .string ⟨#[0, 5]⟩] 46 (0, 0)) by rw [hgo]; exact hU.blk (heap_alloc_new _ _) (Nat.ne_of_gt T0.out.lt))
       have S1 := Aside0.mk (row_oneF (b := ⟨c + 1, i, 1, [an_o]⟩) hgs hx hs)
       have T1 := Aside0.mk hT
       have B2 := Aside0.mk (below_upd (by repeat (first | exact B1.out | apply below_alloc | apply pw_below_drewN | apply below_drew1)) hU HG.out)
       rw [← hgo]
       clear hgo hgs hx hs hT hU T0 B1)
    | (go_at_call 46; ((with_reducible refine (take_one (c := 7) (i := i) (a := 0) (os := [an_o]) (X := fun k => k = g) ?p2 ?p21 (by decide) E2.out (n := 1) rfl).mono ?_); (case p2 => repeat (first | exact T1.out | apply TkIn.alloc | apply TkIn.drewN | apply TkIn.drew)); (case p21 => exact opt_oneF GO.out GN.out); rintro e w3 ⟨gs', A3, k3, rfl, hgs, hx, hs, hT, hU⟩)
       have S2 := Aside0.mk (row_oneF (b := ⟨8, i, 0, []⟩) hgs hx hs)
       have n0 := Aside0.mk (seesB_upd S1.out hU rfl)
       have n1 := Aside0.mk (hU.blk GO.out GN.out)
       have T2 := Aside0.mk hT
       have B3 := Aside0.mk (below_upd (by repeat (first | exact B2.out | apply below_alloc | apply pw_below_drewN | apply below_drew1)) hU HG.out)
       clear hgs hx hs hT hU T1 B2 S1 GO
       have S1 := n0
       have GO := n1
       clear n0 n1)
    | (go_at_call 61; ((with_reducible refine (sameBaps_in (b := ⟨c + 1, i, 1, [an_o]⟩) ?p3 ?p31 ?p32 (Nat.le_refl _) (by exact Nat.le_of_ble_eq_true rfl)).mono ?_); (case p31 => exact S1.out.cap); (case p3 => exact SeesB.C (by repeat (first | exact S1.out | apply seesB_alloc | apply seesB_drewN))); (case p32 => exact row_one (b := ⟨c + 1, i, 1, [an_o]⟩) (alloc_at (by simp)) (Nat.le_refl 1) (opt_one (by repeat (first | exact GO.out | apply blk_alloc | apply blk_drewN)))); rintro e w4 ⟨rfl, hb⟩)
       have T3 := Aside0.mk (TkIn.below (show TkIn (fun k => k = g) _ g an_m by repeat (first | exact T2.out | apply TkIn.alloc | apply TkIn.drewN | apply TkIn.drew)) hb)
       have B4 := Aside0.mk (below_step (by repeat (first | exact B3.out | apply below_alloc | apply pw_below_drewN | apply below_drew1)) hb)
       have n0 := Aside0.mk (seesB_below (show SeesB _ (fun k => ¬ k = g) (some ⟨gs', 0, none⟩) 1 [⟨8, i, 0, []⟩] by repeat (first | exact S2.out | apply seesB_alloc | apply seesB_drewN)) hb)
       clear hb T2 B3 S1 S2 GO
       have S2 := n0
       clear n0)
    | (go_at_call 61; ((with_reducible refine (sameBaps_in (b := ⟨8, i, 0, []⟩) ?p4 ?p41 ?p42 (Nat.le_refl _) (Nat.zero_le _)).mono ?_); (case p41 => exact S2.out.cap); (case p4 => exact SeesB.C (by repeat (first | exact S2.out | apply seesB_alloc | apply seesB_drewN))); (case p42 => exact row_one (b := ⟨8, i, 0, []⟩) (alloc_at (by simp)) (Nat.le_refl 0) (Kd.C_nil _ _)); rintro e w5 ⟨rfl, hb⟩)
       have T4 := Aside0.mk (TkIn.below (show TkIn (fun k => k = g) _ g an_m by repeat (first | exact T3.out | apply TkIn.alloc | apply TkIn.drewN | apply TkIn.drew)) hb)
       have B5 := Aside0.mk (below_step (by repeat (first | exact B4.out | apply below_alloc | apply pw_below_drewN | apply below_drew1)) hb)
       clear hb T3 B4 S2)
    | (go_at_call 45; ((with_reducible refine (pending_in (X := fun k => k = g) (q := false) (m := an_m) ?p5 rfl).mono ?_); (case p5 => repeat (first | exact T4.out | apply TkIn.alloc | apply TkIn.drewN | apply TkIn.drew)); rintro e w' ⟨rfl, rfl⟩))
    | (go_at_call 63; ((with_reducible refine (last_in (X := fun k => k = g) (m := an_m) ?p6).mono ?_); (case p6 => repeat (first | exact T4.out | apply TkIn.alloc | apply TkIn.drewN | apply TkIn.drew)); rintro e w6 ⟨A6, k6, rfl, hc6, hC6, hb⟩)
       have B6 := Aside0.mk (below_step (by repeat (first | exact B5.out | apply below_alloc | apply pw_below_drewN | apply below_drew1)) hb)
       have Q1 := Aside0.mk hc6
       have Q2 := Aside0.mk hC6
       clear hb B5 hc6 hC6)
    | (go_at_call 56; ((with_reducible refine (sameBap_zero (m := an_m) rfl Q2.out Q1.out).mono ?_); rintro e w7 ⟨rfl, hb⟩)
       have B7 := Aside0.mk (below_step (by repeat (first | exact B6.out | apply below_alloc | apply pw_below_drewN | apply below_drew1)) hb)
       clear hb B6))
  go_ret
  exact ⟨rfl, B7.out⟩
theorem talkAnswers_calls (code : Int) (id : Int) (yes : Bool) (w : World) : Calls Try.prog 24 #[.int .i64 code, .int .i64 id, .bool yes] w fun e w' => e = .returned (.bool true) ∧ Below w.heap.size w w' := by
  cases yes with
  | true => exact talkAnswers_true code id w
  | false => exact talkAnswers_false code id w
#print axioms talkAnswers_calls
end Go.Proofs.Ytbdlkcgaobkdcaa.P

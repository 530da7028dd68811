/- The walk of the law TalkStatus: a status stays pending while requests are answered; no condition. -/
import Derived.Test.YtbdlkcgaobkdcaaTalkQ
set_option linter.unusedVariables false
set_option linter.unusedSimpArgs false
namespace Go.Proofs.Ytbdlkcgaobkdcaa.P
open Go.RowKit Go.Proofs.YtbdlkcgaobkdcaaW.PrintWords Go.Proofs.YtbdlkcgaobkdcaaW.PrintLast Go.Proofs.YtbdlkcgaobkdcaaW.PrintMore
attribute [local go_sem] max2_int min2_int max_two min_two max_three min_three max_four min_four

def st1 (f : Bool) : Tk := { newS f 4 with id := 1, ask := ⟨7, 1, 0, []⟩, left := 4 }
def st2 (f : Bool) : Tk := { st1 f with left := 0, last := ⟨8, 1, 0, []⟩ }
theorem st_ask (f : Bool) : askS (newS f 4) 7 [] = (st1 f, ⟨7, 1, 0, []⟩, 0) := ask_plain (j := 1) (new_Ok f 4 (by decide) (by decide)) (.inr rfl) (by decide) (by decide) rfl rfl
theorem st_take1 (f yes : Bool) (c i : Int) (hc : reqB c = true) (h1 : 1 ≤ c) (h8 : c ≤ 8) (h0 : 0 ≤ i) (h9 : i ≤ 255) : takeS (st1 f) ⟨c, i, 0, []⟩ yes = (st1 f, [⟨c + 1, i, ansB yes, []⟩], 0) := by
  rw [take_req (bap_plain h1 h8 h0 h9 (Int.le_refl _) (by omega) (fun _ => rfl)) hc]
  rfl
theorem st_take2 (f : Bool) : takeS (st1 f) ⟨8, 1, 0, []⟩ false = (st2 f, [], 0) := take_mine (bap_plain (by decide) (by decide) (by decide) (by decide) (by decide) (by decide) (fun _ => rfl)) rfl (by decide) (by decide : (0:Int) < 4) rfl rfl
set_option maxHeartbeats 8000000 in
set_option maxRecDepth 100000 in
theorem talkStatus_true (f : Bool) (code : Int) (id : Int) (w : World) : Calls Try.prog 10 #[.bool f, .int .i64 code, .bool true, .int .i64 id] w fun e w' => e = .returned (.bool true) ∧ Below w.heap.size w w' := by
  have hu56 := Try.underlying56
  obtain ⟨i, hi⟩ : ∃ i, i = id % 256 := ⟨_, rfl⟩
  have hand : bits .and .i64 id 255 = i := by rw [mask255, hi]
  have i0 : 0 ≤ i := by omega
  have i9 : i ≤ 255 := by omega
  clear hi
  obtain ⟨j, hj⟩ : ∃ j, Int.tmod (IntKind.u64.wrap code) 3 = j := ⟨_, rfl⟩
  have j0 : 0 ≤ j := by have := tmod3 code; omega
  have j3 : j < 3 := by have := tmod3 code; omega
  obtain ⟨c, hc⟩ : ∃ c, c = code3 j := ⟨_, rfl⟩
  have hcell : ∀ w : World, (w.alloc (.cells #[.int .i64 1, .int .i64 3, .int .i64 5] 3)).cell? ⟨w.heap.size, j.toNat, none⟩ = some (.int .i64 c) := fun w => by rw [hc]; exact code3_cell j j0 j3 w
  have CR := Aside0.mk (show reqB c = true ∧ 1 ≤ c ∧ c ≤ 5 by rw [hc]; exact code3_req j0 j3)
  have E1 := Aside0.mk (show takeS (st1 f) ⟨c, i, 0, []⟩ true = (st1 f, [⟨c + 1, i, 0, []⟩], 0) from st_take1 f true c i CR.out.1 CR.out.2.1 (by have := CR.out.2.2; omega) i0 i9)
  clear hc
  go_enter Try.func10, Try.ntmps10
  go_wp2_with (first
    | (go_at_call 41; refine (awake22 _).mono ?_; rintro e w0 ⟨rfl, hb⟩; have B0 := Aside0.mk hb; clear hb)
    | (go_at_call 42; ((with_reducible refine (new_in f 4 _ (by decide) (by decide)).mono ?_); rintro e w1 ⟨g, rfl, hg, hl, hT, hb⟩)
       have T0 := Aside0.mk (hT (fun k => k = g) rfl (fun k hk => by rw [hk]; exact hl))
       have HG := Aside0.mk (show w.heap.size ≤ g by have := B0.out.size; simp at hg; omega)
       have B1 := Aside0.mk (below_step (by repeat (first | exact B0.out | apply below_alloc | apply pw_below_drewN | apply below_drew1)) hb)
       clear hg hl hT hb B0)
    | (go_at_call 29; ((with_reducible refine (withylaw0_Num.calls _ _ _ rfl).mono ?_); rintro e w' ⟨rfl, ⟨nd, rfl⟩⟩))
    | (go_at_call 43; ((with_reducible refine (ask_inN (code := 7) (os := []) (X := fun k => k = g) ?p1 (Kd.C_nil _ _) (by decide) (st_ask f) (n := 0) rfl).mono ?_); (case p1 => repeat (first | exact T0.out | apply TkIn.alloc | apply TkIn.drewN | apply TkIn.drew)); rintro e w2 ⟨A1, c1, rfl, hs, hT, hU⟩)
       have T1 := Aside0.mk hT
       have B2 := Aside0.mk (below_upd (by repeat (first | exact B1.out | apply below_alloc | apply pw_below_drewN | apply below_drew1)) hU HG.out)
       clear hT hU hs T0 B1)
    | (go_at_call 46; ((with_reducible refine (take_one (c := c) (i := i) (a := 0) (os := []) (X := fun k => k = g) ?p2 (Sees.nil _ _ _) (by decide) E1.out (n := 0) rfl).mono ?_); (case p2 => repeat (first | exact T1.out | apply TkIn.alloc | apply TkIn.drewN | apply TkIn.drew)); rintro e w3 ⟨gs, A2, c2, rfl, hgs, hx, hs, hT, hU⟩)
       obtain ⟨gb, hgb⟩ : ∃ gb, gb = w2.heap.size := ⟨_, rfl⟩
       have GB := Aside0.mk (show w3.heap[gb]? = some (.cells #[.int .i64 7, .int .i64 1, .int .i64 0, .slice A1 0 c1] 56 (0, 0)) by rw [hgb]; exact hU.blk (heap_alloc_new _ _) (Nat.ne_of_gt T1.out.lt))
       have GS := Aside0.mk (show w3.heap[gs]? = some (.cells #[.int .i64 (c + 1), .int .i64 i, .int .i64 0, .slice A2 0 c2] 56 (0, 0)) from hgs)
       have GN := Aside0.mk hx
       have T2 := Aside0.mk hT
       have B3 := Aside0.mk (below_upd (by repeat (first | exact B2.out | apply below_alloc | apply pw_below_drewN | apply below_drew1)) hU HG.out)
       rw [← hgb]
       clear hgb hgs hx hs hT hU T1 B2
       obtain ⟨z0, z1, z2, z3, _, _, _, _⟩ := four GB.out)
    | (go_at_call 45; ((with_reducible refine (pending_in (X := fun k => k = g) (q := true) (m := st1 f) ?p3 rfl).mono ?_); (case p3 => repeat (first | exact T2.out | apply TkIn.alloc | apply TkIn.drewN | apply TkIn.drew)); rintro e w' ⟨rfl, rfl⟩))
    | (go_at_call 46; ((with_reducible refine (take_inN (c := 8) (i := 1) (a := 0) (os := []) (X := fun k => k = g) ?p4 (Sees.nil _ _ _) (by decide) (st_take2 f) (n := 0) rfl).mono ?_); (case p4 => repeat (first | exact T2.out | apply TkIn.alloc | apply TkIn.drewN | apply TkIn.drew)); rintro e w4 ⟨A4, c4, rfl, hs, hT, hU⟩)
       have T3 := Aside0.mk hT
       have B4 := Aside0.mk (below_upd (by repeat (first | exact B3.out | apply below_alloc | apply pw_below_drewN | apply below_drew1)) hU HG.out)
       have n0 := hU.blk GS.out GN.out
       clear hs hT hU T2 B3 GS GB z0 z1 z2 z3
       obtain ⟨z0, z1, z2, z3, _, _, _, _⟩ := four n0
       clear n0)
    | (go_at_call 45; ((with_reducible refine (pending_in (X := fun k => k = g) (q := false) (m := st2 f) ?p5 rfl).mono ?_); (case p5 => repeat (first | exact T3.out | apply TkIn.alloc | apply TkIn.drewN | apply TkIn.drew)); rintro e w' ⟨rfl, rfl⟩)))
  go_ret
  exact ⟨rfl, by repeat (first | exact B4.out | apply below_alloc | apply pw_below_drewN | apply below_drew1)⟩
set_option maxHeartbeats 8000000 in
set_option maxRecDepth 100000 in
theorem talkStatus_false (f : Bool) (code : Int) (id : Int) (w : World) : Calls Try.prog 10 #[.bool f, .int .i64 code, .bool false, .int .i64 id] w fun e w' => e = .returned (.bool true) ∧ Below w.heap.size w w' := by
  have hu56 := Try.underlying56
  obtain ⟨i, hi⟩ : ∃ i, i = id % 256 := ⟨_, rfl⟩
  have hand : bits .and .i64 id 255 = i := by rw [mask255, hi]
  have i0 : 0 ≤ i := by omega
  have i9 : i ≤ 255 := by omega
  clear hi
  obtain ⟨j, hj⟩ : ∃ j, Int.tmod (IntKind.u64.wrap code) 3 = j := ⟨_, rfl⟩
  have j0 : 0 ≤ j := by have := tmod3 code; omega
  have j3 : j < 3 := by have := tmod3 code; omega
  obtain ⟨c, hc⟩ : ∃ c, c = code3 j := ⟨_, rfl⟩
  have hcell : ∀ w : World, (w.alloc (.cells #[.int .i64 1, .int .i64 3, .int .i64 5] 3)).cell? ⟨w.heap.size, j.toNat, none⟩ = some (.int .i64 c) := fun w => by rw [hc]; exact code3_cell j j0 j3 w
  have CR := Aside0.mk (show reqB c = true ∧ 1 ≤ c ∧ c ≤ 5 by rw [hc]; exact code3_req j0 j3)
  have E1 := Aside0.mk (show takeS (st1 f) ⟨c, i, 0, []⟩ false = (st1 f, [⟨c + 1, i, 1, []⟩], 0) from st_take1 f false c i CR.out.1 CR.out.2.1 (by have := CR.out.2.2; omega) i0 i9)
  clear hc
  go_enter Try.func10, Try.ntmps10
  go_wp2_with (first
    | (go_at_call 41; refine (awake22 _).mono ?_; rintro e w0 ⟨rfl, hb⟩; have B0 := Aside0.mk hb; clear hb)
    | (go_at_call 42; ((with_reducible refine (new_in f 4 _ (by decide) (by decide)).mono ?_); rintro e w1 ⟨g, rfl, hg, hl, hT, hb⟩)
       have T0 := Aside0.mk (hT (fun k => k = g) rfl (fun k hk => by rw [hk]; exact hl))
       have HG := Aside0.mk (show w.heap.size ≤ g by have := B0.out.size; simp at hg; omega)
       have B1 := Aside0.mk (below_step (by repeat (first | exact B0.out | apply below_alloc | apply pw_below_drewN | apply below_drew1)) hb)
       clear hg hl hT hb B0)
    | (go_at_call 29; ((with_reducible refine (withylaw0_Num.calls _ _ _ rfl).mono ?_); rintro e w' ⟨rfl, ⟨nd, rfl⟩⟩))
    | (go_at_call 43; ((with_reducible refine (ask_inN (code := 7) (os := []) (X := fun k => k = g) ?p1 (Kd.C_nil _ _) (by decide) (st_ask f) (n := 0) rfl).mono ?_); (case p1 => repeat (first | exact T0.out | apply TkIn.alloc | apply TkIn.drewN | apply TkIn.drew)); rintro e w2 ⟨A1, c1, rfl, hs, hT, hU⟩)
       have T1 := Aside0.mk hT
       have B2 := Aside0.mk (below_upd (by repeat (first | exact B1.out | apply below_alloc | apply pw_below_drewN | apply below_drew1)) hU HG.out)
       clear hT hU hs T0 B1)
    | (go_at_call 46; ((with_reducible refine (take_one (c := c) (i := i) (a := 0) (os := []) (X := fun k => k = g) ?p2 (Sees.nil _ _ _) (by decide) E1.out (n := 0) rfl).mono ?_); (case p2 => repeat (first | exact T1.out | apply TkIn.alloc | apply TkIn.drewN | apply TkIn.drew)); rintro e w3 ⟨gs, A2, c2, rfl, hgs, hx, hs, hT, hU⟩)
       obtain ⟨gb, hgb⟩ : ∃ gb, gb = w2.heap.size := ⟨_, rfl⟩
       have GB := Aside0.mk (show w3.heap[gb]? = some (.cells #[.int .i64 7, .int .i64 1, .int .i64 0, .slice A1 0 c1] 56 (0, 0)) by rw [hgb]; exact hU.blk (heap_alloc_new _ _) (Nat.ne_of_gt T1.out.lt))
       have GS := Aside0.mk (show w3.heap[gs]? = some (.cells #[.int .i64 (c + 1), .int .i64 i, .int .i64 1, .slice A2 0 c2] 56 (0, 0)) from hgs)
       have GN := Aside0.mk hx
       have T2 := Aside0.mk hT
       have B3 := Aside0.mk (below_upd (by repeat (first | exact B2.out | apply below_alloc | apply pw_below_drewN | apply below_drew1)) hU HG.out)
       rw [← hgb]
       clear hgb hgs hx hs hT hU T1 B2
       obtain ⟨z0, z1, z2, z3, _, _, _, _⟩ := four GB.out)
    | (go_at_call 45; ((with_reducible refine (pending_in (X := fun k => k = g) (q := true) (m := st1 f) ?p3 rfl).mono ?_); (case p3 => repeat (first | exact T2.out | apply TkIn.alloc | apply TkIn.drewN | apply TkIn.drew)); rintro e w' ⟨rfl, rfl⟩))
    | (go_at_call 46; ((with_reducible refine (take_inN (c := 8) (i := 1) (a := 0) (os := []) (X := fun k => k = g) ?p4 (Sees.nil _ _ _) (by decide) (st_take2 f) (n := 0) rfl).mono ?_); (case p4 => repeat (first | exact T2.out | apply TkIn.alloc | apply TkIn.drewN | apply TkIn.drew)); rintro e w4 ⟨A4, c4, rfl, hs, hT, hU⟩)
       have T3 := Aside0.mk hT
       have B4 := Aside0.mk (below_upd (by repeat (first | exact B3.out | apply below_alloc | apply pw_below_drewN | apply below_drew1)) hU HG.out)
       have n0 := hU.blk GS.out GN.out
       clear hs hT hU T2 B3 GS GB z0 z1 z2 z3
       obtain ⟨z0, z1, z2, z3, _, _, _, _⟩ := four n0
       clear n0)
    | (go_at_call 45; ((with_reducible refine (pending_in (X := fun k => k = g) (q := false) (m := st2 f) ?p5 rfl).mono ?_); (case p5 => repeat (first | exact T3.out | apply TkIn.alloc | apply TkIn.drewN | apply TkIn.drew)); rintro e w' ⟨rfl, rfl⟩)))
  go_ret
  exact ⟨rfl, by repeat (first | exact B4.out | apply below_alloc | apply pw_below_drewN | apply below_drew1)⟩
theorem talkStatus_calls (f : Bool) (code : Int) (yes : Bool) (id : Int) (w : World) : Calls Try.prog 10 #[.bool f, .int .i64 code, .bool yes, .int .i64 id] w fun e w' => e = .returned (.bool true) ∧ Below w.heap.size w w' := by
  cases yes with
  | true => exact talkStatus_true f code id w
  | false => exact talkStatus_false f code id w
#print axioms talkStatus_calls
end Go.Proofs.Ytbdlkcgaobkdcaa.P

/- The walk of the law TalkTries: a request that nobody answers is sent as often as it may; no condition. -/
import Derived.Test.YtbdlkcgaobkdcaaTalkQ
import Derived.Deep.LoopGhost
set_option linter.unusedVariables false
set_option linter.unusedSimpArgs false
namespace Go.Proofs.Ytbdlkcgaobkdcaa.P
open Go.RowKit Go.Proofs.YtbdlkcgaobkdcaaW.PrintWords Go.Proofs.YtbdlkcgaobkdcaaW.PrintLast Go.Proofs.YtbdlkcgaobkdcaaW.PrintMore
attribute [local go_sem] max2_int min2_int max_two min_two max_three min_three max_four min_four

def tr_m (k c l : Int) : Tk := { newS false k with id := 1, ask := ⟨c, 1, 0, []⟩, left := l }
theorem tr_ask (k c : Int) (h1 : 1 ≤ k) (h2 : k ≤ 10) (hc : reqB c = true ∨ c = 7) (c1 : 1 ≤ c) (c8 : c ≤ 8) : askS (newS false k) c [] = (tr_m k c k, ⟨c, 1, 0, []⟩, 0) := ask_plain (j := 1) (new_Ok false k h1 h2) hc c1 c8 rfl rfl
theorem tr_more (k c l : Int) (h : 2 ≤ l) : againS (tr_m k c l) = (tr_m k c (l - 1), ⟨c, 1, 0, []⟩, 0) := by
  unfold againS
  rw [if_neg (by show ¬ l = 0; omega), if_neg (by show ¬ l = 1; omega)]
  rfl
theorem tr_last (k c : Int) : againS (tr_m k c 1) = (tr_m k c 0, bp0, 2202) := rfl
theorem tmod10 (n : Int) : 0 ≤ Int.tmod (IntKind.u64.wrap n) 10 ∧ Int.tmod (IntKind.u64.wrap n) 10 < 10 := by
  rw [IntKind.wrap_u64, Int.tmod_eq_emod_of_nonneg (by omega)]
  omega
theorem sameBap_nil {w : World} {A A' : Option Addr} {k k' : Nat} (c : Int) (h : Kd.C k46 w A 0 []) (h' : Kd.C k46 w A' 0 []) :
    Calls Try.prog 56 #[.agg #[.int .i64 c, .int .i64 1, .int .i64 0, .slice A 0 k], .agg #[.int .i64 c, .int .i64 1, .int .i64 0, .slice A' 0 k']] w fun e w' => e = .returned (.bool true) ∧ Below w.heap.size w w' :=
  withylaw0_SameBap.calls 5 c 1 0 A k [] c 1 0 A' k' [] true w h (Nat.zero_le _) h' (Nat.zero_le _) (sameBap_same 5 c 1 0 [] (by decide) (by decide))
theorem C_zero (w : World) (A : Option Addr) : Kd.C k46 w A 0 [] := ⟨rfl, by omega, fun h => absurd h (Nat.lt_irrefl 0)⟩
set_option maxHeartbeats 8000000 in
set_option maxRecDepth 100000 in
theorem talkTries_calls (tries code : Int) (w : World) : Calls Try.prog 22 #[.int .i64 tries, .int .i64 code] w fun e w' => e = .returned (.bool true) ∧ Below w.heap.size w w' := by
  have hu56 := Try.underlying56
  obtain ⟨q, hq⟩ : ∃ q, Int.tmod (IntKind.u64.wrap tries) 10 = q := ⟨_, rfl⟩
  have q0 : 0 ≤ q := by have := tmod10 tries; omega
  have q9 : q < 10 := by have := tmod10 tries; omega
  obtain ⟨j, hj⟩ : ∃ j, Int.tmod (IntKind.u64.wrap code) 4 = j := ⟨_, rfl⟩
  have j0 : 0 ≤ j := by have := tmod4 code; omega
  have j3 : j < 4 := by have := tmod4 code; omega
  obtain ⟨c, hc⟩ : ∃ c, c = code3 j := ⟨_, rfl⟩
  have hcell : ∀ w : World, (w.alloc (.cells #[.int .i64 1, .int .i64 3, .int .i64 5, .int .i64 7] 3)).cell? ⟨w.heap.size, j.toNat, none⟩ = some (.int .i64 c) := fun w => by rw [hc]; exact code4_cell j j0 j3 w
  have CR := Aside0.mk (show (reqB c = true ∨ c = 7) ∧ 1 ≤ c ∧ c ≤ 7 by rw [hc]; exact code4_ask j0 j3)
  have E1 := Aside0.mk (tr_ask (1 + q) c (by omega) (by omega) CR.out.1 CR.out.2.1 (by have := CR.out.2.2; omega))
  clear hc
  go_enter Try.func22, Try.ntmps22
  go_wp2_with (first
    | (go_at_call 41; refine (awake22 _).mono ?_; rintro e w0 ⟨rfl, hb⟩; have B0 := Aside0.mk hb; clear hb)
    | (go_at_call 42; ((with_reducible refine (new_in false (1 + q) _ (by omega) (by omega)).mono ?_); rintro e w1 ⟨g, rfl, hg, hl, hT, hb⟩)
       have T0 := Aside0.mk (hT (fun k => k = g) rfl (fun k hk => by rw [hk]; exact hl))
       have HG := Aside0.mk (show w.heap.size ≤ g by have := B0.out.size; omega)
       have B1 := Aside0.mk (below_step B0.out hb)
       clear hg hl hT hb B0)
    | (go_at_call 43; ((with_reducible refine (ask_inN (code := c) (os := []) (X := fun k => k = g) ?p1 (Kd.C_nil _ _) (by decide) E1.out (n := 0) rfl).mono ?_); (case p1 => repeat (first | exact T0.out | apply TkIn.alloc | apply TkIn.drewN | apply TkIn.drew)); rintro e w2 ⟨A1, c1, rfl, hs, hT, hU⟩)
       have T1 := Aside0.mk hT
       have B2 := Aside0.mk (below_upd (by repeat (first | exact B1.out | apply below_alloc | apply pw_below_drewN | apply below_drew1)) hU HG.out)
       clear hT hU hs T0 B1))
  obtain ⟨gb, hgb⟩ : ∃ gb, gb = w2.heap.size := ⟨_, rfl⟩
  rw [← hgb]
  have GB0 := Aside0.mk (show ∀ o, (w2.alloc (.cells #[.int .i64 c, .int .i64 1, .int .i64 0, .slice A1 0 c1] o)).heap[gb]? = some (.cells #[.int .i64 c, .int .i64 1, .int .i64 0, .slice A1 0 c1] o (0, 0)) from fun o => by rw [hgb]; exact heap_alloc_new _ _)
  have GN := Aside0.mk (show gb ≠ g by rw [hgb]; exact Nat.ne_of_gt T1.out.lt)
  clear hgb
  go_loopg [11, 12] 20 (fun gg s11 s12 wr => ∃ (i mny : Int), 0 ≤ i ∧ i ≤ 1 + q ∧ 20 - i ≤ gg ∧ s12 = .int .i64 i ∧ s11 = .int .i64 mny ∧ Aside0 ((i < 1 + q → mny = 1 + i) ∧ (i = 1 + q → mny = 1 + q)) ∧ Aside0 (TkIn (fun k => k = g) wr g (tr_m (1 + q) c (1 + q - i))) ∧ Aside0 (wr.heap[gb]? = some (.cells #[.int .i64 c, .int .i64 1, .int .i64 0, .slice A1 0 c1] 56 (0, 0))) ∧ Aside0 (Below w.heap.size w wr))
  case atStart => exact ⟨0, 1, by omega, by omega, by omega, rfl, rfl, ⟨fun _ => rfl, fun h => by omega⟩, ⟨by rw [Int.sub_zero]; repeat (first | exact T1.out | apply TkIn.alloc | apply TkIn.drewN | apply TkIn.drew)⟩, ⟨GB0.out 56⟩, ⟨by repeat (first | exact B2.out | apply below_alloc | apply pw_below_drewN | apply below_drew1)⟩⟩
  case round =>
    clear T1 B2 GB0
    obtain ⟨i, mny, i0, i9, hgg, rfl, rfl, M, T, GB, B⟩ := hrel
    have c20 : decide (i < 20) = true := decide_eq_true (by omega)
    by_cases hlt : i < 1 + q
    · obtain rfl : mny = 1 + i := M.out.1 hlt
      clear M
      have PQ := Aside0.mk (show decide (0 < (tr_m (1 + q) c (1 + q - i)).left) = true from decide_eq_true (by show 0 < 1 + q - i; omega))
      by_cases hl : i + 1 < 1 + q
      · have EA := Aside0.mk (tr_more (1 + q) c (1 + q - i) (by omega))
        go_wp2_with (first
          | (go_at_call 29; ((with_reducible refine (withylaw0_Num.calls _ _ _ rfl).mono ?_); rintro e w' ⟨rfl, ⟨nd, rfl⟩⟩))
          | (go_at_call 45; ((with_reducible refine (pending_in (X := fun k => k = g) ?p2 PQ.out).mono ?_); (case p2 => repeat (first | exact T.out | apply TkIn.alloc | apply TkIn.drewN | apply TkIn.drew)); rintro e w' ⟨rfl, rfl⟩))
          | (go_at_call 44; ((with_reducible refine (again_in (X := fun k => k = g) ?p3 EA.out).mono ?_); (case p3 => repeat (first | exact T.out | apply TkIn.alloc | apply TkIn.drewN | apply TkIn.drew)); rintro e w3 ⟨A2, c2, rfl, hs, hT, hU⟩)
             have T3 := Aside0.mk hT
             have B3 := Aside0.mk (below_upd (by repeat (first | exact B.out | apply below_alloc | apply pw_below_drewN | apply below_drew1)) hU HG.out)
             have GB3 := Aside0.mk (hU.blk GB.out GN.out)
             have z0 : ∀ o, (w3.alloc o).cell? ⟨gb, 0, none⟩ = some (.int .i64 c) := fun o => (blk_cell (blk_alloc GB3.out o) 0).trans rfl
             have z1 : ∀ o, (w3.alloc o).cell? ⟨gb, 1, none⟩ = some (.int .i64 1) := fun o => (blk_cell (blk_alloc GB3.out o) 1).trans rfl
             have z2 : ∀ o, (w3.alloc o).cell? ⟨gb, 2, none⟩ = some (.int .i64 0) := fun o => (blk_cell (blk_alloc GB3.out o) 2).trans rfl
             have z3 : ∀ o, (w3.alloc o).cell? ⟨gb, 3, none⟩ = some (.slice A1 0 c1) := fun o => (blk_cell (blk_alloc GB3.out o) 3).trans rfl
             clear hT hU hs T B GB)
          | (go_at_call 56; ((with_reducible refine (sameBap_nil c (C_zero _ _) (C_zero _ _)).mono ?_); rintro e w4 ⟨rfl, hb⟩)
             have T4 := Aside0.mk (TkIn.below (show TkIn (fun k => k = g) _ g (tr_m (1 + q) c (1 + q - i - 1)) by repeat (first | exact T3.out | apply TkIn.alloc | apply TkIn.drewN | apply TkIn.drew)) hb)
             have B4 := Aside0.mk (below_step (by repeat (first | exact B3.out | apply below_alloc | apply pw_below_drewN | apply below_drew1)) hb)
             have GB4 := Aside0.mk (blk_below (show (World.heap _)[gb]? = some (.cells #[.int .i64 c, .int .i64 1, .int .i64 0, .slice A1 0 c1] 56 (0, 0)) by repeat (first | exact GB3.out | apply blk_alloc | apply blk_drewN)) hb)
             clear hb T3 B3 GB3 z0 z1 z2 z3))
        go_roundg (20 - (i + 1)).toNat
        case measure => omega
        case rel => exact ⟨i + 1, 1 + i + 1, by omega, by omega, by omega, by go_num, by go_num, ⟨fun _ => by omega, fun h => by omega⟩, ⟨by rw [show 1 + q - (i + 1) = 1 + q - i - 1 by omega]; exact T4.out⟩, ⟨GB4.out⟩, ⟨B4.out⟩⟩
      · obtain rfl : q = i := by omega
        have EA := Aside0.mk (show againS (tr_m (1 + q) c (1 + q - q)) = (tr_m (1 + q) c 0, bp0, 2202) by rw [show 1 + q - q = 1 by omega]; exact tr_last (1 + q) c)
        go_wp2_with (first
          | (go_at_call 29; ((with_reducible refine (withylaw0_Num.calls _ _ _ rfl).mono ?_); rintro e w' ⟨rfl, ⟨nd, rfl⟩⟩))
          | (go_at_call 45; ((with_reducible refine (pending_in (X := fun k => k = g) ?p4 PQ.out).mono ?_); (case p4 => repeat (first | exact T.out | apply TkIn.alloc | apply TkIn.drewN | apply TkIn.drew)); rintro e w' ⟨rfl, rfl⟩))
          | (go_at_call 44; ((with_reducible refine (again_in (X := fun k => k = g) ?p5 EA.out).mono ?_); (case p5 => repeat (first | exact T.out | apply TkIn.alloc | apply TkIn.drewN | apply TkIn.drew)); rintro e w3 ⟨A2, c2, rfl, hs, hT, hU⟩)
             have T3 := Aside0.mk hT
             have B3 := Aside0.mk (below_upd (by repeat (first | exact B.out | apply below_alloc | apply pw_below_drewN | apply below_drew1)) hU HG.out)
             have GB3 := Aside0.mk (hU.blk GB.out GN.out)
             clear hT hU hs T B GB))
        go_roundg (20 - (q + 1)).toNat
        case measure => omega
        case rel => exact ⟨q + 1, 1 + q, by omega, by omega, by omega, by go_num, rfl, ⟨fun h => by omega, fun _ => rfl⟩, ⟨by rw [show 1 + q - (q + 1) = 0 by omega]; repeat (first | exact T3.out | apply TkIn.alloc | apply TkIn.drewN | apply TkIn.drew)⟩, ⟨by repeat (first | exact GB3.out | apply blk_alloc | apply blk_drewN)⟩, ⟨(by repeat (first | exact B3.out | apply below_alloc | apply pw_below_drewN | apply below_drew1))⟩⟩
    · obtain rfl : i = 1 + q := by omega
      obtain rfl : mny = 1 + q := M.out.2 rfl
      have PQ := Aside0.mk (show decide (0 < (tr_m (1 + q) c (1 + q - (1 + q))).left) = false from decide_eq_false (by show ¬ 0 < 1 + q - (1 + q); omega))
      go_wp2_with (first
        | (go_at_call 29; ((with_reducible refine (withylaw0_Num.calls _ _ _ rfl).mono ?_); rintro e w' ⟨rfl, ⟨nd, rfl⟩⟩))
        | (go_at_call 45; ((with_reducible refine (pending_in (X := fun k => k = g) ?p6 PQ.out).mono ?_); (case p6 => repeat (first | exact T.out | apply TkIn.alloc | apply TkIn.drewN | apply TkIn.drew)); rintro e w' ⟨rfl, rfl⟩))
        | (go_at_call 45; ((with_reducible refine (pending_in (X := fun k => k = g) ?p7 PQ.out).mono ?_); (case p7 => repeat (first | exact T.out | apply TkIn.alloc | apply TkIn.drewN | apply TkIn.drew)); rintro e w' ⟨rfl, rfl⟩)))
      go_ret
      exact ⟨rfl, (by repeat (first | exact B.out | apply below_alloc | apply pw_below_drewN | apply below_drew1))⟩
#print axioms talkTries_calls
end Go.Proofs.Ytbdlkcgaobkdcaa.P

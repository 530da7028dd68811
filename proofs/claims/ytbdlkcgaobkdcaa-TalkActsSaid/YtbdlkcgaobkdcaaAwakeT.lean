/- The law's own first step, awake: it answers true, whatever memory it is called in; no condition. -/
import Derived.Test.YtbdlkcgaobkdcaaTalkFive
import Derived.Test.YtbdlkcgaobkdcaaPx2
import Derived.Test.YtbdlkcgaobkdcaaPx43
import Derived.Test.YtbdlkcgaobkdcaaSpec
set_option linter.unusedVariables false
set_option linter.unusedSimpArgs false
namespace Go.Proofs.Ytbdlkcgaobkdcaa.P
open Go.RowKit Go.Proofs.YtbdlkcgaobkdcaaW.PrintWords Go.Proofs.YtbdlkcgaobkdcaaW.PrintLast Go.Proofs.YtbdlkcgaobkdcaaW.PrintMore
attribute [local go_sem] max2_int min2_int max_two min_two max_three min_three max_four min_four

theorem alloc_at {w : World} {o : Obj} {k : Nat} (h : k = w.heap.size) : (w.alloc o).heap[k]? = some o := by
  subst h
  exact heap_alloc_new _ _
theorem below_upd {w W w' : World} {g : Nat} (h : Below w.heap.size w W) (hU : Upd W w' g) (hg : w.heap.size ≤ g) : Below w.heap.size w w' := h.trans (hU.below hg h.size)
/-- One option in a block of its own. -/
theorem opt_one {w : World} {g : Nat} {a : Int} {s : ByteArray} (h : w.heap[g]? = some (.cells #[.int .i64 a, .string s] 46 (0, 0))) : Kd.C k46 w (some ⟨g, 0, none⟩) 1 [(⟨a, s⟩ : S46)] := by
  refine ⟨rfl, by omega, fun _ => ⟨_, rfl, fun j p hj => ?_⟩⟩
  have hj0 : j = 0 := by
    have := (List.getElem?_eq_some_iff.1 hj).1
    simp at this
    omega
  subst hj0
  obtain rfl : (⟨a, s⟩ : S46) = p := by simpa using hj
  refine ⟨_, rfl, k46_mk w ⟨a, s⟩, fun i u hu => ?_⟩
  have := blk_cell h i
  rw [show (⟨g, 0, none⟩ : Addr).add (0 * k46.sz + i) = ⟨g, i, none⟩ by simp [Addr.add]; intro hi; exact hi.symm]
  rw [this]
  simpa using hu
theorem sameBap_same (k : Nat) (c i a : Int) (os : List S46) (hm : os.length ≤ 9223372036854775806) (hk : os.length < k) : withylaw0_SameBap.f k c i a os c i a os = some true := by
  unfold withylaw0_SameBap.f
  rw [if_pos rfl, if_pos rfl, if_pos rfl, same_eq os os k hm hk, sameL_refl]
  rfl
/-- A datagram without options: what a struct's copy in a new block says. -/
theorem sameBaps_one (k : Nat) (hk : 1 < k) (b : S56) (hb : b.f3.length + 1 < k) (hm : b.f3.length ≤ 9223372036854775806) : withylaw0_SameBaps.f k [b] [b] = some true := by
  obtain ⟨k, rfl⟩ : ∃ m, k = m + 2 := ⟨k - 2, by omega⟩
  unfold withylaw0_SameBaps.f
  rw [if_pos rfl]
  simp only [withylaw0_SameBaps.l0, List.length_cons, List.length_nil]
  rw [if_pos (by decide), if_pos (by decide), if_pos (by decide)]
  rw [show rd_T56 [b] 0 = b from rfl, sameBap_same _ _ _ _ _ hm (by omega), Option.bind_some, if_pos rfl, if_neg (by unfold wrap64; omega)]
theorem sameBaps_in {w : World} {A A' : Option Addr} {c c' : Nat} {b : S56} (h : Kd.C k56 w A 1 [b]) (hc : 1 ≤ c) (h' : Kd.C k56 w A' 1 [b]) (hc' : 1 ≤ c') (hb : b.f3.length ≤ 2048) : Calls Try.prog 61 #[.slice A 1 c, .slice A' 1 c'] w fun e w' => e = .returned (.bool true) ∧ Below w.heap.size w w' :=
  withylaw0_SameBaps.calls 3000 A c [b] A' c' [b] true w h hc h' hc' (sameBaps_one 3000 (by decide) b (by omega) (by omega))
def xopt : S46 := ⟨1, ⟨#[120]⟩⟩
def aw1 : Tk := { newS true 3 with id := 1, ask := ⟨1, 1, 0, [xopt]⟩, left := 3 }
def aw2 : Tk := { aw1 with left := 0, last := ⟨2, 1, 0, []⟩ }
theorem aw_ask1 : askS (newS true 3) 1 [xopt] = (aw1, ⟨1, 1, 0, [xopt]⟩, 0) := ask_go (.inl rfl) (by decide +kernel) rfl
theorem aw_ask2 : askS aw1 5 [] = (aw1, bp0, 2201) := ask_wait (.inl rfl) (by decide +kernel) (by decide)
theorem aw_take1 : takeS aw1 ⟨1, 9, 0, []⟩ true = (aw1, [⟨2, 9, 1, []⟩], 0) := (take_req (by decide +kernel) rfl).trans rfl
theorem aw_take2 : takeS aw1 ⟨2, 1, 0, []⟩ false = (aw2, [], 0) := take_mine (by decide +kernel) rfl (by decide) (by decide) rfl rfl
theorem aw_again : againS aw2 = (aw2, bp0, 2202) := rfl
set_option maxHeartbeats 8000000 in
set_option maxRecDepth 100000 in
theorem awake22 (w : World) : Calls Try.prog 41 #[] w fun e w' => e = .returned (.bool true) ∧ Below w.heap.size w w' := by
  have hu56 := Try.underlying56
  have hu46 := Try.underlying46
  have hfd : ∀ (W : World) (A : Option Addr) (c : Nat), (Instr.field 56 (.agg #[.int .i64 aw2.last.f0, .int .i64 aw2.last.f1, .int .i64 aw2.last.f2, .slice A aw2.last.f3.length c]) 0).run Try.prog W = .ok (.int .i64 2) W := fun _ _ _ => by kernel_rfl
  go_enter Try.func41, Try.ntmps41
  go_wp2_with (first
    | (go_at_call 42; ((with_reducible refine (new_in true 3 _ (by decide) (by decide)).mono ?_); rintro e w1 ⟨g, rfl, hg, hl, hT, hb⟩)
       have T0 := Aside0.mk (hT (fun k => k = g) rfl (fun k hk => by rw [hk]; exact hl))
       have B0 := Aside0.mk hb
       have HG := Aside0.mk hg
       clear hg hl hT hb)
    | (go_at_call 29; ((with_reducible refine (withylaw0_Num.calls _ _ _ rfl).mono ?_); rintro e w' ⟨rfl, ⟨nd, rfl⟩⟩))
    | (go_at_call 43; ((with_reducible refine (ask_inN (code := 1) (os := [xopt]) (X := fun k => k = g) ?p1 ?p2 (by decide) aw_ask1 (n := 1) rfl).mono ?_); (case p1 => repeat (first | exact T0.out | apply TkIn.alloc | apply TkIn.drewN | apply TkIn.drew)); (case p2 => exact opt_one (heap_alloc_new _ _)); rintro e w2 ⟨A1, c1, rfl, hs, hT, hU⟩)
       have T1 := Aside0.mk hT
       have B1 := Aside0.mk (below_upd (by repeat (first | exact B0.out | apply below_alloc | apply pw_below_drewN | apply below_drew1)) hU HG.out)
       have S1 := Aside0.mk hs
       clear hT hU hs T0 B0)
    | (go_at_call 43; ((with_reducible refine (ask_inN (code := 5) (os := []) (X := fun k => k = g) ?p3 (Kd.C_nil _ _) (by decide) aw_ask2 (n := 0) rfl).mono ?_); (case p3 => repeat (first | exact T1.out | apply TkIn.alloc | apply TkIn.drewN | apply TkIn.drew)); rintro e w3 ⟨A2, c2, rfl, hs, hT, hU⟩)
       have T2 := Aside0.mk hT
       have B2 := Aside0.mk (below_upd (by repeat (first | exact B1.out | apply below_alloc | apply pw_below_drewN | apply below_drew1)) hU HG.out)
       obtain ⟨gb, hgb⟩ : ∃ gb, gb = w2.heap.size := ⟨_, rfl⟩
       have GB := Aside0.mk (show w3.heap[gb]? = some (.cells #[.int .i64 1, .int .i64 1, .int .i64 0, .slice A1 1 c1] 56 (0, 0)) by rw [hgb]; exact hU.blk (heap_alloc_new _ _) (Nat.ne_of_gt T1.out.lt))
       have GN := Aside0.mk (show gb ≠ g by rw [hgb]; exact Nat.ne_of_gt T1.out.lt)
       rw [← hgb]
       clear hT hU hs T1 B1 hgb)
    | (go_at_call 46; ((with_reducible refine (take_inN (c := 1) (i := 9) (a := 0) (os := []) (X := fun k => k = g) ?p4 (Sees.nil _ _ _) (by decide) aw_take1 (n := 0) rfl).mono ?_); (case p4 => repeat (first | exact T2.out | apply TkIn.alloc | apply TkIn.drewN | apply TkIn.drew)); rintro e w4 ⟨A3, c3, rfl, hs, hT, hU⟩)
       have T3 := Aside0.mk hT
       have B3 := Aside0.mk (below_upd (by repeat (first | exact B2.out | apply below_alloc | apply pw_below_drewN | apply below_drew1)) hU HG.out)
       have n0 := Aside0.mk (hU.blk (blk_alloc GB.out _) GN.out)
       have S3 := Aside0.mk hs
       clear hT hU hs T2 B2 GB
       have GB := n0
       clear n0)
    | (go_at_call 46; ((with_reducible refine (take_inN (c := 2) (i := 1) (a := 0) (os := []) (X := fun k => k = g) ?p5 (Sees.nil _ _ _) (by decide) aw_take2 (n := 0) rfl).mono ?_); (case p5 => repeat (first | exact T3.out | apply TkIn.alloc | apply TkIn.drewN | apply TkIn.drew)); rintro e w5 ⟨A4, c4, rfl, hs, hT, hU⟩)
       have T4 := Aside0.mk hT
       have B4 := Aside0.mk (below_upd (by repeat (first | exact B3.out | apply below_alloc | apply pw_below_drewN | apply below_drew1)) hU HG.out)
       have n0 := Aside0.mk (hU.blk GB.out GN.out)
       have S4 := Aside0.mk (seesB_upd S3.out hU rfl)
       clear hT hU hs T3 B3 GB S3
       have GB := n0
       clear n0)
    | (go_at_call 44; ((with_reducible refine (again_in (X := fun k => k = g) ?p6 aw_again).mono ?_); (case p6 => repeat (first | exact T4.out | apply TkIn.alloc | apply TkIn.drewN | apply TkIn.drew)); rintro e w6 ⟨A5, c5, rfl, hs, hT, hU⟩)
       have T5 := Aside0.mk hT
       have B5 := Aside0.mk (below_upd (by repeat (first | exact B4.out | apply below_alloc | apply pw_below_drewN | apply below_drew1)) hU HG.out)
       have n0 := Aside0.mk (hU.blk GB.out GN.out)
       have S5 := Aside0.mk (seesB_upd S4.out hU rfl)
       clear hT hU hs T4 B4 GB S4
       have GB := n0
       clear n0
       have z0 : ∀ o, (w6.alloc o).cell? ⟨gb, 0, none⟩ = some (.int .i64 1) := fun o => (blk_cell (blk_alloc GB.out o) 0).trans rfl
       have z1 : ∀ o, (w6.alloc o).cell? ⟨gb, 1, none⟩ = some (.int .i64 1) := fun o => (blk_cell (blk_alloc GB.out o) 1).trans rfl
       have z3 : ∀ o, (w6.alloc o).cell? ⟨gb, 3, none⟩ = some (.slice A1 1 c1) := fun o => (blk_cell (blk_alloc GB.out o) 3).trans rfl)
    | (go_at_call 61; ((with_reducible refine (sameBaps_in (b := ⟨2, 9, 1, []⟩) ?p7 ?p71 ?p8 (Nat.le_refl _) (Nat.zero_le _)).mono ?_); (case p71 => exact S5.out.cap); (case p7 => exact SeesB.C (by repeat (first | exact S5.out | apply seesB_alloc | apply seesB_drewN))); (case p8 => exact row_one (b := ⟨2, 9, 1, []⟩) (alloc_at (by simp)) (Nat.le_refl 0) (Kd.C_nil _ _)); rintro e w7 ⟨rfl, hb⟩)
       have T6 := Aside0.mk (TkIn.below (show TkIn (fun k => k = g) _ g aw2 by repeat (first | exact T5.out | apply TkIn.alloc | apply TkIn.drewN | apply TkIn.drew)) hb)
       have B6 := Aside0.mk (below_step (by repeat (first | exact B5.out | apply below_alloc | apply pw_below_drewN | apply below_drew1)) hb)
       clear hb T5 B5 S5 GB z0 z1 z3)
    | (go_at_call 45; ((with_reducible refine (pending_in (X := fun k => k = g) (q := false) (m := aw2) ?p9 rfl).mono ?_); (case p9 => repeat (first | exact T6.out | apply TkIn.alloc | apply TkIn.drewN | apply TkIn.drew)); rintro e w' ⟨rfl, rfl⟩))
    | (go_at_call 63; ((with_reducible refine (last_in (X := fun k => k = g) (m := aw2) ?p10).mono ?_); (case p10 => repeat (first | exact T6.out | apply TkIn.alloc | apply TkIn.drewN | apply TkIn.drew)); rintro e w8 ⟨A6, c6, rfl, _, _, hb⟩)
       have B7 := Aside0.mk (below_step (by repeat (first | exact B6.out | apply below_alloc | apply pw_below_drewN | apply below_drew1)) hb)
       clear hb B6))
  go_ret
  exact ⟨rfl, by repeat (first | exact B7.out | apply below_alloc | apply pw_below_drewN | apply below_drew1)⟩
#print axioms awake22
end Go.Proofs.Ytbdlkcgaobkdcaa.P

/- Ask's ways that fail; conditions as in the contract. -/
import Derived.Test.YtbdlkcgaobkdcaaTalkF
import Derived.RegionTactic
import Derived.BigRegion
set_option linter.unusedVariables false
set_option linter.unusedSimpArgs false
section
namespace Go.Proofs.Ytbdlkcgaobkdcaa.P
open Go.RowKit Go.Proofs.YtbdlkcgaobkdcaaW.PrintWords Go.Proofs.YtbdlkcgaobkdcaaW.PrintLast Go.Proofs.YtbdlkcgaobkdcaaW.PrintMore
attribute [local go_sem] max2_int min2_int max_two min_two max_three min_three max_four min_four

set_option maxHeartbeats 8000000 in
set_option maxRecDepth 100000 in
theorem ask_code (g : Nat) (ok : Nat → Prop) (m : Tk) (code : Int) (B : Option Addr) (d : Nat) (os : List S46) (s : ByteArray) (er : Int) (w : World) (h : TkAt w g ok m) (hok : ∀ k, ok k → k ≠ g) (hi0 : 0 ≤ m.id) (hi9 : m.id ≤ 255) (ho : Kd.C k46 w B os.length os) (hn : os.length < 5864062014805)
    (hp : bapS code (nextId m.id) 0 os = (s, er)) (hq : reqB code = false) (h7 : code ≠ 7) :
    Calls Try.prog 43 #[.pointer (some ⟨g, 0, none⟩), .int .i64 code, .slice B os.length d] w (MadeBap w g ok m bp0 2200) := by
  obtain ⟨A, c, A', c', h1, hs, hs'⟩ := h
  have H1 := Aside0.mk h1
  have HS := Aside0.mk hs
  have HS' := Aside0.mk hs'
  have HK := Aside0.mk hok
  have HO := Aside0.mk ho
  have HN := Aside0.mk hn
  obtain ⟨i1, hi1⟩ : ∃ i1, i1 = m.id + 1 := ⟨_, rfl⟩
  obtain ⟨i2, hi2⟩ : ∃ i2, i2 = nextId m.id := ⟨_, rfl⟩
  have e1 : IntKind.i64.wrap (m.id + 1) = i1 := by rw [IntKind.wrap_i64]; omega
  have e2 : i1.tmod 256 = i2 := by rw [hi1, hi2, Int.tmod_eq_emod_of_nonneg (by omega)]; rfl
  have e3 : (0 : Int) ≤ i1 := by omega
  have RQ := Aside0.mk hq
  clear hq
  have e7 : (code != 7) = true := by simpa using h7
  clear h7
  rw [← hi2] at hp
  have HP := Aside0.mk (show bapmsg_Put.f code i2 0 os = some (s, er) by unfold bapmsg_Put.f; rw [hp])
  have HI2 := Aside0.mk hi2
  clear h1 hs hs' hok ho hn hp hi1 hi2
  have hu122 := Try.underlying122
  have hu120 := Try.underlying120
  have hu56 := Try.underlying56
  go_enter Try.func43, Try.ntmps43
  go_wp2_with (first
    | ((with_reducible refine gate_dst (N := 6) rfl ?_); refine box_event ?hg (N := 6) ?hd (cs := #[.int .i64 0, .int .i64 0, .int .i64 0, .slice none 0 0]) (t := 56) ?hr ?_; (case hd => rfl); (case hg => rfl); (case hr => first | (go_simp; done) | (go_simp; rfl)); intro gr hg w1 hbox hb
       have GR := Aside0.mk (show w.heap.size ≤ gr by rw [hg]; exact Nat.le_refl _)
       have GL := Aside0.mk (show gr < w1.heap.size from blk_lt hbox)
       have GX := Aside0.mk hbox
       have G1 := Aside0.mk (blk_below H1.out hb)
       have k7 := (tk_cells G1.out).2.2.2.2.2.2.2.1
       have gl1 := blk_lt G1.out
       have ne1 : w1.heap.size ≠ g := Nat.ne_of_gt gl1
       have ne2 : w1.heap.size ≠ gr := Nat.ne_of_gt (blk_lt hbox)
       have HU := Aside0.mk (Upd.of_below hb g)
       have NE := Aside0.mk (show g ≠ gr by have := blk_lt H1.out; omega)
       have HO1 := Aside0.mk (Kd.C_below HO.out hb)
       have SZ := Aside0.mk (below_size hb)
       clear hg hbox hb))
  have HCA := Aside0.mk (clone_A B d os w1 g m.id HO1.out HN.out k7 gl1)
  have HCB := Aside0.mk (clone_B B d os w1 g m.id HO1.out HN.out k7 gl1)
  go_region_held3 (fun w' => w'.cell? ⟨g, 7, none⟩ = some (.int .i64 m.id)) (go_keep)
    (first
      | (go_at_call 79; ((with_reducible refine HCA.out.mono ?_); rintro e w2 ⟨A2, c2, rfl, z7, ⟨y0, y1, y2, y3, x0, x1, x2, x3⟩, RA, RB, RC⟩))
      | (go_at_call 79; ((with_reducible refine HCB.out.mono ?_); rintro e w2 ⟨A2, c2, rfl, z7, nz, RA, RB⟩)))
  · obtain ⟨w3, hw3⟩ : ∃ w3, w3 = w2.alloc (.cells #[.int .i64 code, .int .i64 i2, .int .i64 0, .slice A2 os.length c2] 56) := ⟨_, rfl⟩
    obtain ⟨gb, hgb⟩ : ∃ gb, gb = w2.heap.size := ⟨_, rfl⟩
    have MID := Aside0.mk (show AskMid w1 w3 gb code i2 A2 c2 os by rw [hw3, hgb]; exact mid_B RA.out RB.out)
    rw [← hw3, ← hgb]
    clear hw3 hgb z7 nz RA RB HCA HCB
    have HB3 := Aside0.mk MID.out.below
    obtain ⟨b0, b1, b2, b3, p0, p1, p2, p3⟩ := four MID.out.blk
    have G3 := Aside0.mk (blk_below G1.out HB3.out)
    have GX3 := Aside0.mk (blk_below GX.out HB3.out)
    clear ne1 ne2 k7 gl1
    go_wp2_with (first
      | (go_at_call 54; ((with_reducible refine (bapmsg_Put.calls code i2 0 A2 c2 os s er _ (Kd.R_reads' MID.out.row).2.2 (Kd.R_reads' MID.out.row).2.1 HP.out).mono ?_); rintro e w4 ⟨rfl, hb⟩)
         have n0 := Aside0.mk (below_step HB3.out hb)
         have n1 := Aside0.mk (Kd.R_below MID.out.row hb)
         have n2 := Aside0.mk (blk_below MID.out.blk hb)
         have n3 := Aside0.mk (blk_below G3.out hb)
         have n4 := Aside0.mk (blk_below GX3.out hb)
         have NB := Aside0.mk MID.out.new
         clear HB3 G3 GX3 MID hb b0 b1 b2 b3 p0 p1 p2 p3
         have HB4 := n0; have ROW := n1; have GB := n2; have G4 := n3; have GX4 := n4
         clear n0 n1 n2 n3 n4
         obtain ⟨b0, b1, b2, b3, p0, p1, p2, p3⟩ := four GB.out
         obtain ⟨j0, j1, j2, j3, q0, q1, q2, q3⟩ := four GX4.out
         obtain ⟨k0, k1, k2, k3, k4, k5, k6, k7, k8, k9, k10, k11⟩ := tk_cells G4.out
         have s7 := tk_free G4.out 7
         clear k0 k1 k2 k3 k5 k6 k8 k9 k10 k11)
      | (go_at_call 67; ((with_reducible refine (elect_Request.calls code false _ (by rw [request_eq, RQ.out])).mono ?_); rintro e w' ⟨rfl, ⟨nd, rfl⟩⟩)))
    have hgr := GR.out
    have hU0 : Upd w (w4.drewN nd) g := (HU.out.then_below HB4.out).drewN nd
    refine bodyPost_ret (v := .tuple #[.agg #[.int .i64 0, .int .i64 0, .int .i64 0, .slice none 0 0], .int .i64 2200]) (by simp [results, Try.results43, go_sem, *]) rfl ?_
    have hU : Upd w (((((w4.setCell ⟨gr, 0, none⟩ (.int .i64 0)).setCell ⟨gr, 1, none⟩ (.int .i64 0)).setCell ⟨gr, 2, none⟩ (.int .i64 0)).setCell ⟨gr, 3, none⟩ (.slice none 0 0)).drewN nd) g :=
      ((((((HU.out.then_below HB4.out).set gr 0 (.inr hgr) _).set gr 1 (.inr hgr) _).set gr 2 (.inr hgr) _).set gr 3 (.inr hgr) _)).drewN nd
    refine MadeBap.none ?_ hU
    exact TkAt.turn (blk_drewN (blk_far (blk_far (blk_far (blk_far G4.out NE.out _) NE.out _) NE.out _) NE.out _) nd) HS.out HS'.out hU HK.out
  · obtain ⟨w3, hw3⟩ : ∃ w3, w3 = ((((w2.setCell ⟨w1.heap.size, 0, none⟩ (.int .i64 code)).setCell ⟨w1.heap.size, 1, none⟩ (.int .i64 i2)).setCell ⟨w1.heap.size, 2, none⟩ (.int .i64 0)).setCell ⟨w1.heap.size, 3, none⟩ (.slice A2 os.length c2)) := ⟨_, rfl⟩
    obtain ⟨gb, hgb⟩ : ∃ gb, gb = w1.heap.size := ⟨_, rfl⟩
    have MID := Aside0.mk (show AskMid w1 w3 gb code i2 A2 c2 os by rw [hw3, hgb]; exact mid_A RA.out RB.out RC.out)
    rw [← hw3, ← hgb]
    clear hw3 hgb z7 y0 y1 y2 y3 x0 x1 x2 x3 RA RB RC HCA HCB
    have HB3 := Aside0.mk MID.out.below
    obtain ⟨b0, b1, b2, b3, p0, p1, p2, p3⟩ := four MID.out.blk
    have G3 := Aside0.mk (blk_below G1.out HB3.out)
    have GX3 := Aside0.mk (blk_below GX.out HB3.out)
    clear ne1 ne2 k7 gl1
    go_wp2_with (first
      | (go_at_call 54; ((with_reducible refine (bapmsg_Put.calls code i2 0 A2 c2 os s er _ (Kd.R_reads' MID.out.row).2.2 (Kd.R_reads' MID.out.row).2.1 HP.out).mono ?_); rintro e w4 ⟨rfl, hb⟩)
         have n0 := Aside0.mk (below_step HB3.out hb)
         have n1 := Aside0.mk (Kd.R_below MID.out.row hb)
         have n2 := Aside0.mk (blk_below MID.out.blk hb)
         have n3 := Aside0.mk (blk_below G3.out hb)
         have n4 := Aside0.mk (blk_below GX3.out hb)
         have NB := Aside0.mk MID.out.new
         clear HB3 G3 GX3 MID hb b0 b1 b2 b3 p0 p1 p2 p3
         have HB4 := n0; have ROW := n1; have GB := n2; have G4 := n3; have GX4 := n4
         clear n0 n1 n2 n3 n4
         obtain ⟨b0, b1, b2, b3, p0, p1, p2, p3⟩ := four GB.out
         obtain ⟨j0, j1, j2, j3, q0, q1, q2, q3⟩ := four GX4.out
         obtain ⟨k0, k1, k2, k3, k4, k5, k6, k7, k8, k9, k10, k11⟩ := tk_cells G4.out
         have s7 := tk_free G4.out 7
         clear k0 k1 k2 k3 k5 k6 k8 k9 k10 k11)
      | (go_at_call 67; ((with_reducible refine (elect_Request.calls code false _ (by rw [request_eq, RQ.out])).mono ?_); rintro e w' ⟨rfl, ⟨nd, rfl⟩⟩)))
    have hgr := GR.out
    have hU0 : Upd w (w4.drewN nd) g := (HU.out.then_below HB4.out).drewN nd
    refine bodyPost_ret (v := .tuple #[.agg #[.int .i64 0, .int .i64 0, .int .i64 0, .slice none 0 0], .int .i64 2200]) (by simp [results, Try.results43, go_sem, *]) rfl ?_
    have hU : Upd w (((((w4.setCell ⟨gr, 0, none⟩ (.int .i64 0)).setCell ⟨gr, 1, none⟩ (.int .i64 0)).setCell ⟨gr, 2, none⟩ (.int .i64 0)).setCell ⟨gr, 3, none⟩ (.slice none 0 0)).drewN nd) g :=
      ((((((HU.out.then_below HB4.out).set gr 0 (.inr hgr) _).set gr 1 (.inr hgr) _).set gr 2 (.inr hgr) _).set gr 3 (.inr hgr) _)).drewN nd
    refine MadeBap.none ?_ hU
    exact TkAt.turn (blk_drewN (blk_far (blk_far (blk_far (blk_far G4.out NE.out _) NE.out _) NE.out _) NE.out _) nd) HS.out HS'.out hU HK.out
set_option maxHeartbeats 8000000 in
set_option maxRecDepth 100000 in
theorem ask_put1 (g : Nat) (ok : Nat → Prop) (m : Tk) (code : Int) (B : Option Addr) (d : Nat) (os : List S46) (s : ByteArray) (er : Int) (w : World) (h : TkAt w g ok m) (hok : ∀ k, ok k → k ≠ g) (hi0 : 0 ≤ m.id) (hi9 : m.id ≤ 255) (ho : Kd.C k46 w B os.length os) (hn : os.length < 5864062014805)
    (hp : bapS code (nextId m.id) 0 os = (s, er)) (hq : reqB code = true) (he : er ≠ 0) :
    Calls Try.prog 43 #[.pointer (some ⟨g, 0, none⟩), .int .i64 code, .slice B os.length d] w (MadeBap w g ok m bp0 2200) := by
  obtain ⟨A, c, A', c', h1, hs, hs'⟩ := h
  have H1 := Aside0.mk h1
  have HS := Aside0.mk hs
  have HS' := Aside0.mk hs'
  have HK := Aside0.mk hok
  have HO := Aside0.mk ho
  have HN := Aside0.mk hn
  obtain ⟨i1, hi1⟩ : ∃ i1, i1 = m.id + 1 := ⟨_, rfl⟩
  obtain ⟨i2, hi2⟩ : ∃ i2, i2 = nextId m.id := ⟨_, rfl⟩
  have e1 : IntKind.i64.wrap (m.id + 1) = i1 := by rw [IntKind.wrap_i64]; omega
  have e2 : i1.tmod 256 = i2 := by rw [hi1, hi2, Int.tmod_eq_emod_of_nonneg (by omega)]; rfl
  have e3 : (0 : Int) ≤ i1 := by omega
  have RQ := Aside0.mk hq
  clear hq
  have e0 : (er != 0) = true := by simpa using he
  clear he
  rw [← hi2] at hp
  have HP := Aside0.mk (show bapmsg_Put.f code i2 0 os = some (s, er) by unfold bapmsg_Put.f; rw [hp])
  have HI2 := Aside0.mk hi2
  clear h1 hs hs' hok ho hn hp hi1 hi2
  have hu122 := Try.underlying122
  have hu120 := Try.underlying120
  have hu56 := Try.underlying56
  go_enter Try.func43, Try.ntmps43
  go_wp2_with (first
    | ((with_reducible refine gate_dst (N := 6) rfl ?_); refine box_event ?hg (N := 6) ?hd (cs := #[.int .i64 0, .int .i64 0, .int .i64 0, .slice none 0 0]) (t := 56) ?hr ?_; (case hd => rfl); (case hg => rfl); (case hr => first | (go_simp; done) | (go_simp; rfl)); intro gr hg w1 hbox hb
       have GR := Aside0.mk (show w.heap.size ≤ gr by rw [hg]; exact Nat.le_refl _)
       have GL := Aside0.mk (show gr < w1.heap.size from blk_lt hbox)
       have GX := Aside0.mk hbox
       have G1 := Aside0.mk (blk_below H1.out hb)
       have k7 := (tk_cells G1.out).2.2.2.2.2.2.2.1
       have gl1 := blk_lt G1.out
       have ne1 : w1.heap.size ≠ g := Nat.ne_of_gt gl1
       have ne2 : w1.heap.size ≠ gr := Nat.ne_of_gt (blk_lt hbox)
       have HU := Aside0.mk (Upd.of_below hb g)
       have NE := Aside0.mk (show g ≠ gr by have := blk_lt H1.out; omega)
       have HO1 := Aside0.mk (Kd.C_below HO.out hb)
       have SZ := Aside0.mk (below_size hb)
       clear hg hbox hb))
  have HCA := Aside0.mk (clone_A B d os w1 g m.id HO1.out HN.out k7 gl1)
  have HCB := Aside0.mk (clone_B B d os w1 g m.id HO1.out HN.out k7 gl1)
  go_region_held3 (fun w' => w'.cell? ⟨g, 7, none⟩ = some (.int .i64 m.id)) (go_keep)
    (first
      | (go_at_call 79; ((with_reducible refine HCA.out.mono ?_); rintro e w2 ⟨A2, c2, rfl, z7, ⟨y0, y1, y2, y3, x0, x1, x2, x3⟩, RA, RB, RC⟩))
      | (go_at_call 79; ((with_reducible refine HCB.out.mono ?_); rintro e w2 ⟨A2, c2, rfl, z7, nz, RA, RB⟩)))
  · obtain ⟨w3, hw3⟩ : ∃ w3, w3 = w2.alloc (.cells #[.int .i64 code, .int .i64 i2, .int .i64 0, .slice A2 os.length c2] 56) := ⟨_, rfl⟩
    obtain ⟨gb, hgb⟩ : ∃ gb, gb = w2.heap.size := ⟨_, rfl⟩
    have MID := Aside0.mk (show AskMid w1 w3 gb code i2 A2 c2 os by rw [hw3, hgb]; exact mid_B RA.out RB.out)
    rw [← hw3, ← hgb]
    clear hw3 hgb z7 nz RA RB HCA HCB
    have HB3 := Aside0.mk MID.out.below
    obtain ⟨b0, b1, b2, b3, p0, p1, p2, p3⟩ := four MID.out.blk
    have G3 := Aside0.mk (blk_below G1.out HB3.out)
    have GX3 := Aside0.mk (blk_below GX.out HB3.out)
    clear ne1 ne2 k7 gl1
    go_wp2_with (first
      | (go_at_call 54; ((with_reducible refine (bapmsg_Put.calls code i2 0 A2 c2 os s er _ (Kd.R_reads' MID.out.row).2.2 (Kd.R_reads' MID.out.row).2.1 HP.out).mono ?_); rintro e w4 ⟨rfl, hb⟩)
         have n0 := Aside0.mk (below_step HB3.out hb)
         have n1 := Aside0.mk (Kd.R_below MID.out.row hb)
         have n2 := Aside0.mk (blk_below MID.out.blk hb)
         have n3 := Aside0.mk (blk_below G3.out hb)
         have n4 := Aside0.mk (blk_below GX3.out hb)
         have NB := Aside0.mk MID.out.new
         clear HB3 G3 GX3 MID hb b0 b1 b2 b3 p0 p1 p2 p3
         have HB4 := n0; have ROW := n1; have GB := n2; have G4 := n3; have GX4 := n4
         clear n0 n1 n2 n3 n4
         obtain ⟨b0, b1, b2, b3, p0, p1, p2, p3⟩ := four GB.out
         obtain ⟨j0, j1, j2, j3, q0, q1, q2, q3⟩ := four GX4.out
         obtain ⟨k0, k1, k2, k3, k4, k5, k6, k7, k8, k9, k10, k11⟩ := tk_cells G4.out
         have s7 := tk_free G4.out 7
         clear k0 k1 k2 k3 k5 k6 k8 k9 k10 k11)
      | (go_at_call 67; ((with_reducible refine (elect_Request.calls code true _ (by rw [request_eq, RQ.out])).mono ?_); rintro e w' ⟨rfl, ⟨nd, rfl⟩⟩)))
    have hgr := GR.out
    have hU0 : Upd w (w4.drewN nd) g := (HU.out.then_below HB4.out).drewN nd
    refine bodyPost_ret (v := .tuple #[.agg #[.int .i64 0, .int .i64 0, .int .i64 0, .slice none 0 0], .int .i64 2200]) (by simp [results, Try.results43, go_sem, *]) rfl ?_
    have hU : Upd w (((((w4.setCell ⟨gr, 0, none⟩ (.int .i64 0)).setCell ⟨gr, 1, none⟩ (.int .i64 0)).setCell ⟨gr, 2, none⟩ (.int .i64 0)).setCell ⟨gr, 3, none⟩ (.slice none 0 0)).drewN nd) g :=
      ((((((HU.out.then_below HB4.out).set gr 0 (.inr hgr) _).set gr 1 (.inr hgr) _).set gr 2 (.inr hgr) _).set gr 3 (.inr hgr) _)).drewN nd
    refine MadeBap.none ?_ hU
    exact TkAt.turn (blk_drewN (blk_far (blk_far (blk_far (blk_far G4.out NE.out _) NE.out _) NE.out _) NE.out _) nd) HS.out HS'.out hU HK.out
  · obtain ⟨w3, hw3⟩ : ∃ w3, w3 = ((((w2.setCell ⟨w1.heap.size, 0, none⟩ (.int .i64 code)).setCell ⟨w1.heap.size, 1, none⟩ (.int .i64 i2)).setCell ⟨w1.heap.size, 2, none⟩ (.int .i64 0)).setCell ⟨w1.heap.size, 3, none⟩ (.slice A2 os.length c2)) := ⟨_, rfl⟩
    obtain ⟨gb, hgb⟩ : ∃ gb, gb = w1.heap.size := ⟨_, rfl⟩
    have MID := Aside0.mk (show AskMid w1 w3 gb code i2 A2 c2 os by rw [hw3, hgb]; exact mid_A RA.out RB.out RC.out)
    rw [← hw3, ← hgb]
    clear hw3 hgb z7 y0 y1 y2 y3 x0 x1 x2 x3 RA RB RC HCA HCB
    have HB3 := Aside0.mk MID.out.below
    obtain ⟨b0, b1, b2, b3, p0, p1, p2, p3⟩ := four MID.out.blk
    have G3 := Aside0.mk (blk_below G1.out HB3.out)
    have GX3 := Aside0.mk (blk_below GX.out HB3.out)
    clear ne1 ne2 k7 gl1
    go_wp2_with (first
      | (go_at_call 54; ((with_reducible refine (bapmsg_Put.calls code i2 0 A2 c2 os s er _ (Kd.R_reads' MID.out.row).2.2 (Kd.R_reads' MID.out.row).2.1 HP.out).mono ?_); rintro e w4 ⟨rfl, hb⟩)
         have n0 := Aside0.mk (below_step HB3.out hb)
         have n1 := Aside0.mk (Kd.R_below MID.out.row hb)
         have n2 := Aside0.mk (blk_below MID.out.blk hb)
         have n3 := Aside0.mk (blk_below G3.out hb)
         have n4 := Aside0.mk (blk_below GX3.out hb)
         have NB := Aside0.mk MID.out.new
         clear HB3 G3 GX3 MID hb b0 b1 b2 b3 p0 p1 p2 p3
         have HB4 := n0; have ROW := n1; have GB := n2; have G4 := n3; have GX4 := n4
         clear n0 n1 n2 n3 n4
         obtain ⟨b0, b1, b2, b3, p0, p1, p2, p3⟩ := four GB.out
         obtain ⟨j0, j1, j2, j3, q0, q1, q2, q3⟩ := four GX4.out
         obtain ⟨k0, k1, k2, k3, k4, k5, k6, k7, k8, k9, k10, k11⟩ := tk_cells G4.out
         have s7 := tk_free G4.out 7
         clear k0 k1 k2 k3 k5 k6 k8 k9 k10 k11)
      | (go_at_call 67; ((with_reducible refine (elect_Request.calls code true _ (by rw [request_eq, RQ.out])).mono ?_); rintro e w' ⟨rfl, ⟨nd, rfl⟩⟩)))
    have hgr := GR.out
    have hU0 : Upd w (w4.drewN nd) g := (HU.out.then_below HB4.out).drewN nd
    refine bodyPost_ret (v := .tuple #[.agg #[.int .i64 0, .int .i64 0, .int .i64 0, .slice none 0 0], .int .i64 2200]) (by simp [results, Try.results43, go_sem, *]) rfl ?_
    have hU : Upd w (((((w4.setCell ⟨gr, 0, none⟩ (.int .i64 0)).setCell ⟨gr, 1, none⟩ (.int .i64 0)).setCell ⟨gr, 2, none⟩ (.int .i64 0)).setCell ⟨gr, 3, none⟩ (.slice none 0 0)).drewN nd) g :=
      ((((((HU.out.then_below HB4.out).set gr 0 (.inr hgr) _).set gr 1 (.inr hgr) _).set gr 2 (.inr hgr) _).set gr 3 (.inr hgr) _)).drewN nd
    refine MadeBap.none ?_ hU
    exact TkAt.turn (blk_drewN (blk_far (blk_far (blk_far (blk_far G4.out NE.out _) NE.out _) NE.out _) NE.out _) nd) HS.out HS'.out hU HK.out
end Go.Proofs.Ytbdlkcgaobkdcaa.P
end
section
namespace Go.Proofs.Ytbdlkcgaobkdcaa.P
open Go.RowKit Go.Proofs.YtbdlkcgaobkdcaaW.PrintWords Go.Proofs.YtbdlkcgaobkdcaaW.PrintLast Go.Proofs.YtbdlkcgaobkdcaaW.PrintMore
attribute [local go_sem] max2_int min2_int max_two min_two max_three min_three max_four min_four

set_option maxHeartbeats 8000000 in
set_option maxRecDepth 100000 in
theorem ask_put7 (g : Nat) (ok : Nat → Prop) (m : Tk) (code : Int) (B : Option Addr) (d : Nat) (os : List S46) (s : ByteArray) (er : Int) (w : World) (h : TkAt w g ok m) (hok : ∀ k, ok k → k ≠ g) (hi0 : 0 ≤ m.id) (hi9 : m.id ≤ 255) (ho : Kd.C k46 w B os.length os) (hn : os.length < 5864062014805)
    (hp : bapS code (nextId m.id) 0 os = (s, er)) (h7 : code = 7) (he : er ≠ 0) :
    Calls Try.prog 43 #[.pointer (some ⟨g, 0, none⟩), .int .i64 code, .slice B os.length d] w (MadeBap w g ok m bp0 2200) := by
  obtain ⟨A, c, A', c', h1, hs, hs'⟩ := h
  have H1 := Aside0.mk h1
  have HS := Aside0.mk hs
  have HS' := Aside0.mk hs'
  have HK := Aside0.mk hok
  have HO := Aside0.mk ho
  have HN := Aside0.mk hn
  obtain ⟨i1, hi1⟩ : ∃ i1, i1 = m.id + 1 := ⟨_, rfl⟩
  obtain ⟨i2, hi2⟩ : ∃ i2, i2 = nextId m.id := ⟨_, rfl⟩
  have e1 : IntKind.i64.wrap (m.id + 1) = i1 := by rw [IntKind.wrap_i64]; omega
  have e2 : i1.tmod 256 = i2 := by rw [hi1, hi2, Int.tmod_eq_emod_of_nonneg (by omega)]; rfl
  have e3 : (0 : Int) ≤ i1 := by omega
  have RQ := Aside0.mk (show reqB code = false by rw [h7]; rfl)
  have e7 : (code != 7) = false := by rw [h7]; rfl
  clear h7
  have e0 : (er != 0) = true := by simpa using he
  clear he
  rw [← hi2] at hp
  have HP := Aside0.mk (show bapmsg_Put.f code i2 0 os = some (s, er) by unfold bapmsg_Put.f; rw [hp])
  have HI2 := Aside0.mk hi2
  clear h1 hs hs' hok ho hn hp hi1 hi2
  have hu122 := Try.underlying122
  have hu120 := Try.underlying120
  have hu56 := Try.underlying56
  go_enter Try.func43, Try.ntmps43
  go_wp2_with (first
    | ((with_reducible refine gate_dst (N := 6) rfl ?_); refine box_event ?hg (N := 6) ?hd (cs := #[.int .i64 0, .int .i64 0, .int .i64 0, .slice none 0 0]) (t := 56) ?hr ?_; (case hd => rfl); (case hg => rfl); (case hr => first | (go_simp; done) | (go_simp; rfl)); intro gr hg w1 hbox hb
       have GR := Aside0.mk (show w.heap.size ≤ gr by rw [hg]; exact Nat.le_refl _)
       have GL := Aside0.mk (show gr < w1.heap.size from blk_lt hbox)
       have GX := Aside0.mk hbox
       have G1 := Aside0.mk (blk_below H1.out hb)
       have k7 := (tk_cells G1.out).2.2.2.2.2.2.2.1
       have gl1 := blk_lt G1.out
       have ne1 : w1.heap.size ≠ g := Nat.ne_of_gt gl1
       have ne2 : w1.heap.size ≠ gr := Nat.ne_of_gt (blk_lt hbox)
       have HU := Aside0.mk (Upd.of_below hb g)
       have NE := Aside0.mk (show g ≠ gr by have := blk_lt H1.out; omega)
       have HO1 := Aside0.mk (Kd.C_below HO.out hb)
       have SZ := Aside0.mk (below_size hb)
       clear hg hbox hb))
  have HCA := Aside0.mk (clone_A B d os w1 g m.id HO1.out HN.out k7 gl1)
  have HCB := Aside0.mk (clone_B B d os w1 g m.id HO1.out HN.out k7 gl1)
  go_region_held3 (fun w' => w'.cell? ⟨g, 7, none⟩ = some (.int .i64 m.id)) (go_keep)
    (first
      | (go_at_call 79; ((with_reducible refine HCA.out.mono ?_); rintro e w2 ⟨A2, c2, rfl, z7, ⟨y0, y1, y2, y3, x0, x1, x2, x3⟩, RA, RB, RC⟩))
      | (go_at_call 79; ((with_reducible refine HCB.out.mono ?_); rintro e w2 ⟨A2, c2, rfl, z7, nz, RA, RB⟩)))
  · obtain ⟨w3, hw3⟩ : ∃ w3, w3 = w2.alloc (.cells #[.int .i64 code, .int .i64 i2, .int .i64 0, .slice A2 os.length c2] 56) := ⟨_, rfl⟩
    obtain ⟨gb, hgb⟩ : ∃ gb, gb = w2.heap.size := ⟨_, rfl⟩
    have MID := Aside0.mk (show AskMid w1 w3 gb code i2 A2 c2 os by rw [hw3, hgb]; exact mid_B RA.out RB.out)
    rw [← hw3, ← hgb]
    clear hw3 hgb z7 nz RA RB HCA HCB
    have HB3 := Aside0.mk MID.out.below
    obtain ⟨b0, b1, b2, b3, p0, p1, p2, p3⟩ := four MID.out.blk
    have G3 := Aside0.mk (blk_below G1.out HB3.out)
    have GX3 := Aside0.mk (blk_below GX.out HB3.out)
    clear ne1 ne2 k7 gl1
    go_wp2_with (first
      | (go_at_call 54; ((with_reducible refine (bapmsg_Put.calls code i2 0 A2 c2 os s er _ (Kd.R_reads' MID.out.row).2.2 (Kd.R_reads' MID.out.row).2.1 HP.out).mono ?_); rintro e w4 ⟨rfl, hb⟩)
         have n0 := Aside0.mk (below_step HB3.out hb)
         have n1 := Aside0.mk (Kd.R_below MID.out.row hb)
         have n2 := Aside0.mk (blk_below MID.out.blk hb)
         have n3 := Aside0.mk (blk_below G3.out hb)
         have n4 := Aside0.mk (blk_below GX3.out hb)
         have NB := Aside0.mk MID.out.new
         clear HB3 G3 GX3 MID hb b0 b1 b2 b3 p0 p1 p2 p3
         have HB4 := n0; have ROW := n1; have GB := n2; have G4 := n3; have GX4 := n4
         clear n0 n1 n2 n3 n4
         obtain ⟨b0, b1, b2, b3, p0, p1, p2, p3⟩ := four GB.out
         obtain ⟨j0, j1, j2, j3, q0, q1, q2, q3⟩ := four GX4.out
         obtain ⟨k0, k1, k2, k3, k4, k5, k6, k7, k8, k9, k10, k11⟩ := tk_cells G4.out
         have s7 := tk_free G4.out 7
         clear k0 k1 k2 k3 k5 k6 k8 k9 k10 k11)
      | (go_at_call 67; ((with_reducible refine (elect_Request.calls code false _ (by rw [request_eq, RQ.out])).mono ?_); rintro e w' ⟨rfl, ⟨nd, rfl⟩⟩)))
    have hgr := GR.out
    have hU0 : Upd w (w4.drewN nd) g := (HU.out.then_below HB4.out).drewN nd
    refine bodyPost_ret (v := .tuple #[.agg #[.int .i64 0, .int .i64 0, .int .i64 0, .slice none 0 0], .int .i64 2200]) (by simp [results, Try.results43, go_sem, *]) rfl ?_
    have hU : Upd w (((((w4.setCell ⟨gr, 0, none⟩ (.int .i64 0)).setCell ⟨gr, 1, none⟩ (.int .i64 0)).setCell ⟨gr, 2, none⟩ (.int .i64 0)).setCell ⟨gr, 3, none⟩ (.slice none 0 0)).drewN nd) g :=
      ((((((HU.out.then_below HB4.out).set gr 0 (.inr hgr) _).set gr 1 (.inr hgr) _).set gr 2 (.inr hgr) _).set gr 3 (.inr hgr) _)).drewN nd
    refine MadeBap.none ?_ hU
    exact TkAt.turn (blk_drewN (blk_far (blk_far (blk_far (blk_far G4.out NE.out _) NE.out _) NE.out _) NE.out _) nd) HS.out HS'.out hU HK.out
  · obtain ⟨w3, hw3⟩ : ∃ w3, w3 = ((((w2.setCell ⟨w1.heap.size, 0, none⟩ (.int .i64 code)).setCell ⟨w1.heap.size, 1, none⟩ (.int .i64 i2)).setCell ⟨w1.heap.size, 2, none⟩ (.int .i64 0)).setCell ⟨w1.heap.size, 3, none⟩ (.slice A2 os.length c2)) := ⟨_, rfl⟩
    obtain ⟨gb, hgb⟩ : ∃ gb, gb = w1.heap.size := ⟨_, rfl⟩
    have MID := Aside0.mk (show AskMid w1 w3 gb code i2 A2 c2 os by rw [hw3, hgb]; exact mid_A RA.out RB.out RC.out)
    rw [← hw3, ← hgb]
    clear hw3 hgb z7 y0 y1 y2 y3 x0 x1 x2 x3 RA RB RC HCA HCB
    have HB3 := Aside0.mk MID.out.below
    obtain ⟨b0, b1, b2, b3, p0, p1, p2, p3⟩ := four MID.out.blk
    have G3 := Aside0.mk (blk_below G1.out HB3.out)
    have GX3 := Aside0.mk (blk_below GX.out HB3.out)
    clear ne1 ne2 k7 gl1
    go_wp2_with (first
      | (go_at_call 54; ((with_reducible refine (bapmsg_Put.calls code i2 0 A2 c2 os s er _ (Kd.R_reads' MID.out.row).2.2 (Kd.R_reads' MID.out.row).2.1 HP.out).mono ?_); rintro e w4 ⟨rfl, hb⟩)
         have n0 := Aside0.mk (below_step HB3.out hb)
         have n1 := Aside0.mk (Kd.R_below MID.out.row hb)
         have n2 := Aside0.mk (blk_below MID.out.blk hb)
         have n3 := Aside0.mk (blk_below G3.out hb)
         have n4 := Aside0.mk (blk_below GX3.out hb)
         have NB := Aside0.mk MID.out.new
         clear HB3 G3 GX3 MID hb b0 b1 b2 b3 p0 p1 p2 p3
         have HB4 := n0; have ROW := n1; have GB := n2; have G4 := n3; have GX4 := n4
         clear n0 n1 n2 n3 n4
         obtain ⟨b0, b1, b2, b3, p0, p1, p2, p3⟩ := four GB.out
         obtain ⟨j0, j1, j2, j3, q0, q1, q2, q3⟩ := four GX4.out
         obtain ⟨k0, k1, k2, k3, k4, k5, k6, k7, k8, k9, k10, k11⟩ := tk_cells G4.out
         have s7 := tk_free G4.out 7
         clear k0 k1 k2 k3 k5 k6 k8 k9 k10 k11)
      | (go_at_call 67; ((with_reducible refine (elect_Request.calls code false _ (by rw [request_eq, RQ.out])).mono ?_); rintro e w' ⟨rfl, ⟨nd, rfl⟩⟩)))
    have hgr := GR.out
    have hU0 : Upd w (w4.drewN nd) g := (HU.out.then_below HB4.out).drewN nd
    refine bodyPost_ret (v := .tuple #[.agg #[.int .i64 0, .int .i64 0, .int .i64 0, .slice none 0 0], .int .i64 2200]) (by simp [results, Try.results43, go_sem, *]) rfl ?_
    have hU : Upd w (((((w4.setCell ⟨gr, 0, none⟩ (.int .i64 0)).setCell ⟨gr, 1, none⟩ (.int .i64 0)).setCell ⟨gr, 2, none⟩ (.int .i64 0)).setCell ⟨gr, 3, none⟩ (.slice none 0 0)).drewN nd) g :=
      ((((((HU.out.then_below HB4.out).set gr 0 (.inr hgr) _).set gr 1 (.inr hgr) _).set gr 2 (.inr hgr) _).set gr 3 (.inr hgr) _)).drewN nd
    refine MadeBap.none ?_ hU
    exact TkAt.turn (blk_drewN (blk_far (blk_far (blk_far (blk_far G4.out NE.out _) NE.out _) NE.out _) NE.out _) nd) HS.out HS'.out hU HK.out
set_option maxHeartbeats 8000000 in
set_option maxRecDepth 100000 in
theorem ask_busy1 (g : Nat) (ok : Nat → Prop) (m : Tk) (code : Int) (B : Option Addr) (d : Nat) (os : List S46) (s : ByteArray) (er : Int) (w : World) (h : TkAt w g ok m) (hok : ∀ k, ok k → k ≠ g) (hi0 : 0 ≤ m.id) (hi9 : m.id ≤ 255) (ho : Kd.C k46 w B os.length os) (hn : os.length < 5864062014805)
    (hp : bapS code (nextId m.id) 0 os = (s, er)) (hq : reqB code = true) (he : er = 0) (hl : 0 < m.left) :
    Calls Try.prog 43 #[.pointer (some ⟨g, 0, none⟩), .int .i64 code, .slice B os.length d] w (MadeBap w g ok m bp0 2201) := by
  obtain ⟨A, c, A', c', h1, hs, hs'⟩ := h
  have H1 := Aside0.mk h1
  have HS := Aside0.mk hs
  have HS' := Aside0.mk hs'
  have HK := Aside0.mk hok
  have HO := Aside0.mk ho
  have HN := Aside0.mk hn
  obtain ⟨i1, hi1⟩ : ∃ i1, i1 = m.id + 1 := ⟨_, rfl⟩
  obtain ⟨i2, hi2⟩ : ∃ i2, i2 = nextId m.id := ⟨_, rfl⟩
  have e1 : IntKind.i64.wrap (m.id + 1) = i1 := by rw [IntKind.wrap_i64]; omega
  have e2 : i1.tmod 256 = i2 := by rw [hi1, hi2, Int.tmod_eq_emod_of_nonneg (by omega)]; rfl
  have e3 : (0 : Int) ≤ i1 := by omega
  have RQ := Aside0.mk hq
  clear hq
  have e0 : (er != 0) = false := by simpa using he
  clear he
  have el : decide (0 < m.left) = true := decide_eq_true hl
  clear hl
  rw [← hi2] at hp
  have HP := Aside0.mk (show bapmsg_Put.f code i2 0 os = some (s, er) by unfold bapmsg_Put.f; rw [hp])
  have HI2 := Aside0.mk hi2
  clear h1 hs hs' hok ho hn hp hi1 hi2
  have hu122 := Try.underlying122
  have hu120 := Try.underlying120
  have hu56 := Try.underlying56
  go_enter Try.func43, Try.ntmps43
  go_wp2_with (first
    | ((with_reducible refine gate_dst (N := 6) rfl ?_); refine box_event ?hg (N := 6) ?hd (cs := #[.int .i64 0, .int .i64 0, .int .i64 0, .slice none 0 0]) (t := 56) ?hr ?_; (case hd => rfl); (case hg => rfl); (case hr => first | (go_simp; done) | (go_simp; rfl)); intro gr hg w1 hbox hb
       have GR := Aside0.mk (show w.heap.size ≤ gr by rw [hg]; exact Nat.le_refl _)
       have GL := Aside0.mk (show gr < w1.heap.size from blk_lt hbox)
       have GX := Aside0.mk hbox
       have G1 := Aside0.mk (blk_below H1.out hb)
       have k7 := (tk_cells G1.out).2.2.2.2.2.2.2.1
       have gl1 := blk_lt G1.out
       have ne1 : w1.heap.size ≠ g := Nat.ne_of_gt gl1
       have ne2 : w1.heap.size ≠ gr := Nat.ne_of_gt (blk_lt hbox)
       have HU := Aside0.mk (Upd.of_below hb g)
       have NE := Aside0.mk (show g ≠ gr by have := blk_lt H1.out; omega)
       have HO1 := Aside0.mk (Kd.C_below HO.out hb)
       have SZ := Aside0.mk (below_size hb)
       clear hg hbox hb))
  have HCA := Aside0.mk (clone_A B d os w1 g m.id HO1.out HN.out k7 gl1)
  have HCB := Aside0.mk (clone_B B d os w1 g m.id HO1.out HN.out k7 gl1)
  go_region_held3 (fun w' => w'.cell? ⟨g, 7, none⟩ = some (.int .i64 m.id)) (go_keep)
    (first
      | (go_at_call 79; ((with_reducible refine HCA.out.mono ?_); rintro e w2 ⟨A2, c2, rfl, z7, ⟨y0, y1, y2, y3, x0, x1, x2, x3⟩, RA, RB, RC⟩))
      | (go_at_call 79; ((with_reducible refine HCB.out.mono ?_); rintro e w2 ⟨A2, c2, rfl, z7, nz, RA, RB⟩)))
  · obtain ⟨w3, hw3⟩ : ∃ w3, w3 = w2.alloc (.cells #[.int .i64 code, .int .i64 i2, .int .i64 0, .slice A2 os.length c2] 56) := ⟨_, rfl⟩
    obtain ⟨gb, hgb⟩ : ∃ gb, gb = w2.heap.size := ⟨_, rfl⟩
    have MID := Aside0.mk (show AskMid w1 w3 gb code i2 A2 c2 os by rw [hw3, hgb]; exact mid_B RA.out RB.out)
    rw [← hw3, ← hgb]
    clear hw3 hgb z7 nz RA RB HCA HCB
    have HB3 := Aside0.mk MID.out.below
    obtain ⟨b0, b1, b2, b3, p0, p1, p2, p3⟩ := four MID.out.blk
    have G3 := Aside0.mk (blk_below G1.out HB3.out)
    have GX3 := Aside0.mk (blk_below GX.out HB3.out)
    clear ne1 ne2 k7 gl1
    go_wp2_with (first
      | (go_at_call 54; ((with_reducible refine (bapmsg_Put.calls code i2 0 A2 c2 os s er _ (Kd.R_reads' MID.out.row).2.2 (Kd.R_reads' MID.out.row).2.1 HP.out).mono ?_); rintro e w4 ⟨rfl, hb⟩)
         have n0 := Aside0.mk (below_step HB3.out hb)
         have n1 := Aside0.mk (Kd.R_below MID.out.row hb)
         have n2 := Aside0.mk (blk_below MID.out.blk hb)
         have n3 := Aside0.mk (blk_below G3.out hb)
         have n4 := Aside0.mk (blk_below GX3.out hb)
         have NB := Aside0.mk MID.out.new
         clear HB3 G3 GX3 MID hb b0 b1 b2 b3 p0 p1 p2 p3
         have HB4 := n0; have ROW := n1; have GB := n2; have G4 := n3; have GX4 := n4
         clear n0 n1 n2 n3 n4
         obtain ⟨b0, b1, b2, b3, p0, p1, p2, p3⟩ := four GB.out
         obtain ⟨j0, j1, j2, j3, q0, q1, q2, q3⟩ := four GX4.out
         obtain ⟨k0, k1, k2, k3, k4, k5, k6, k7, k8, k9, k10, k11⟩ := tk_cells G4.out
         have s7 := tk_free G4.out 7
         clear k0 k1 k2 k3 k5 k6 k8 k9 k10 k11)
      | (go_at_call 67; ((with_reducible refine (elect_Request.calls code true _ (by rw [request_eq, RQ.out])).mono ?_); rintro e w' ⟨rfl, ⟨nd, rfl⟩⟩)))
    have hgr := GR.out
    have hU0 : Upd w (w4.drewN nd) g := (HU.out.then_below HB4.out).drewN nd
    refine bodyPost_ret (v := .tuple #[.agg #[.int .i64 0, .int .i64 0, .int .i64 0, .slice none 0 0], .int .i64 2201]) (by simp [results, Try.results43, go_sem, *]) rfl ?_
    have hU : Upd w (((((w4.setCell ⟨gr, 0, none⟩ (.int .i64 0)).setCell ⟨gr, 1, none⟩ (.int .i64 0)).setCell ⟨gr, 2, none⟩ (.int .i64 0)).setCell ⟨gr, 3, none⟩ (.slice none 0 0)).drewN nd) g :=
      ((((((HU.out.then_below HB4.out).set gr 0 (.inr hgr) _).set gr 1 (.inr hgr) _).set gr 2 (.inr hgr) _).set gr 3 (.inr hgr) _)).drewN nd
    refine MadeBap.none ?_ hU
    exact TkAt.turn (blk_drewN (blk_far (blk_far (blk_far (blk_far G4.out NE.out _) NE.out _) NE.out _) NE.out _) nd) HS.out HS'.out hU HK.out
  · obtain ⟨w3, hw3⟩ : ∃ w3, w3 = ((((w2.setCell ⟨w1.heap.size, 0, none⟩ (.int .i64 code)).setCell ⟨w1.heap.size, 1, none⟩ (.int .i64 i2)).setCell ⟨w1.heap.size, 2, none⟩ (.int .i64 0)).setCell ⟨w1.heap.size, 3, none⟩ (.slice A2 os.length c2)) := ⟨_, rfl⟩
    obtain ⟨gb, hgb⟩ : ∃ gb, gb = w1.heap.size := ⟨_, rfl⟩
    have MID := Aside0.mk (show AskMid w1 w3 gb code i2 A2 c2 os by rw [hw3, hgb]; exact mid_A RA.out RB.out RC.out)
    rw [← hw3, ← hgb]
    clear hw3 hgb z7 y0 y1 y2 y3 x0 x1 x2 x3 RA RB RC HCA HCB
    have HB3 := Aside0.mk MID.out.below
    obtain ⟨b0, b1, b2, b3, p0, p1, p2, p3⟩ := four MID.out.blk
    have G3 := Aside0.mk (blk_below G1.out HB3.out)
    have GX3 := Aside0.mk (blk_below GX.out HB3.out)
    clear ne1 ne2 k7 gl1
    go_wp2_with (first
      | (go_at_call 54; ((with_reducible refine (bapmsg_Put.calls code i2 0 A2 c2 os s er _ (Kd.R_reads' MID.out.row).2.2 (Kd.R_reads' MID.out.row).2.1 HP.out).mono ?_); rintro e w4 ⟨rfl, hb⟩)
         have n0 := Aside0.mk (below_step HB3.out hb)
         have n1 := Aside0.mk (Kd.R_below MID.out.row hb)
         have n2 := Aside0.mk (blk_below MID.out.blk hb)
         have n3 := Aside0.mk (blk_below G3.out hb)
         have n4 := Aside0.mk (blk_below GX3.out hb)
         have NB := Aside0.mk MID.out.new
         clear HB3 G3 GX3 MID hb b0 b1 b2 b3 p0 p1 p2 p3
         have HB4 := n0; have ROW := n1; have GB := n2; have G4 := n3; have GX4 := n4
         clear n0 n1 n2 n3 n4
         obtain ⟨b0, b1, b2, b3, p0, p1, p2, p3⟩ := four GB.out
         obtain ⟨j0, j1, j2, j3, q0, q1, q2, q3⟩ := four GX4.out
         obtain ⟨k0, k1, k2, k3, k4, k5, k6, k7, k8, k9, k10, k11⟩ := tk_cells G4.out
         have s7 := tk_free G4.out 7
         clear k0 k1 k2 k3 k5 k6 k8 k9 k10 k11)
      | (go_at_call 67; ((with_reducible refine (elect_Request.calls code true _ (by rw [request_eq, RQ.out])).mono ?_); rintro e w' ⟨rfl, ⟨nd, rfl⟩⟩)))
    have hgr := GR.out
    have hU0 : Upd w (w4.drewN nd) g := (HU.out.then_below HB4.out).drewN nd
    refine bodyPost_ret (v := .tuple #[.agg #[.int .i64 0, .int .i64 0, .int .i64 0, .slice none 0 0], .int .i64 2201]) (by simp [results, Try.results43, go_sem, *]) rfl ?_
    have hU : Upd w (((((w4.setCell ⟨gr, 0, none⟩ (.int .i64 0)).setCell ⟨gr, 1, none⟩ (.int .i64 0)).setCell ⟨gr, 2, none⟩ (.int .i64 0)).setCell ⟨gr, 3, none⟩ (.slice none 0 0)).drewN nd) g :=
      ((((((HU.out.then_below HB4.out).set gr 0 (.inr hgr) _).set gr 1 (.inr hgr) _).set gr 2 (.inr hgr) _).set gr 3 (.inr hgr) _)).drewN nd
    refine MadeBap.none ?_ hU
    exact TkAt.turn (blk_drewN (blk_far (blk_far (blk_far (blk_far G4.out NE.out _) NE.out _) NE.out _) NE.out _) nd) HS.out HS'.out hU HK.out
end Go.Proofs.Ytbdlkcgaobkdcaa.P
end
section
namespace Go.Proofs.Ytbdlkcgaobkdcaa.P
open Go.RowKit Go.Proofs.YtbdlkcgaobkdcaaW.PrintWords Go.Proofs.YtbdlkcgaobkdcaaW.PrintLast Go.Proofs.YtbdlkcgaobkdcaaW.PrintMore
attribute [local go_sem] max2_int min2_int max_two min_two max_three min_three max_four min_four

set_option maxHeartbeats 8000000 in
set_option maxRecDepth 100000 in
theorem ask_busy7 (g : Nat) (ok : Nat → Prop) (m : Tk) (code : Int) (B : Option Addr) (d : Nat) (os : List S46) (s : ByteArray) (er : Int) (w : World) (h : TkAt w g ok m) (hok : ∀ k, ok k → k ≠ g) (hi0 : 0 ≤ m.id) (hi9 : m.id ≤ 255) (ho : Kd.C k46 w B os.length os) (hn : os.length < 5864062014805)
    (hp : bapS code (nextId m.id) 0 os = (s, er)) (h7 : code = 7) (he : er = 0) (hl : 0 < m.left) :
    Calls Try.prog 43 #[.pointer (some ⟨g, 0, none⟩), .int .i64 code, .slice B os.length d] w (MadeBap w g ok m bp0 2201) := by
  obtain ⟨A, c, A', c', h1, hs, hs'⟩ := h
  have H1 := Aside0.mk h1
  have HS := Aside0.mk hs
  have HS' := Aside0.mk hs'
  have HK := Aside0.mk hok
  have HO := Aside0.mk ho
  have HN := Aside0.mk hn
  obtain ⟨i1, hi1⟩ : ∃ i1, i1 = m.id + 1 := ⟨_, rfl⟩
  obtain ⟨i2, hi2⟩ : ∃ i2, i2 = nextId m.id := ⟨_, rfl⟩
  have e1 : IntKind.i64.wrap (m.id + 1) = i1 := by rw [IntKind.wrap_i64]; omega
  have e2 : i1.tmod 256 = i2 := by rw [hi1, hi2, Int.tmod_eq_emod_of_nonneg (by omega)]; rfl
  have e3 : (0 : Int) ≤ i1 := by omega
  have RQ := Aside0.mk (show reqB code = false by rw [h7]; rfl)
  have e7 : (code != 7) = false := by rw [h7]; rfl
  clear h7
  have e0 : (er != 0) = false := by simpa using he
  clear he
  have el : decide (0 < m.left) = true := decide_eq_true hl
  clear hl
  rw [← hi2] at hp
  have HP := Aside0.mk (show bapmsg_Put.f code i2 0 os = some (s, er) by unfold bapmsg_Put.f; rw [hp])
  have HI2 := Aside0.mk hi2
  clear h1 hs hs' hok ho hn hp hi1 hi2
  have hu122 := Try.underlying122
  have hu120 := Try.underlying120
  have hu56 := Try.underlying56
  go_enter Try.func43, Try.ntmps43
  go_wp2_with (first
    | ((with_reducible refine gate_dst (N := 6) rfl ?_); refine box_event ?hg (N := 6) ?hd (cs := #[.int .i64 0, .int .i64 0, .int .i64 0, .slice none 0 0]) (t := 56) ?hr ?_; (case hd => rfl); (case hg => rfl); (case hr => first | (go_simp; done) | (go_simp; rfl)); intro gr hg w1 hbox hb
       have GR := Aside0.mk (show w.heap.size ≤ gr by rw [hg]; exact Nat.le_refl _)
       have GL := Aside0.mk (show gr < w1.heap.size from blk_lt hbox)
       have GX := Aside0.mk hbox
       have G1 := Aside0.mk (blk_below H1.out hb)
       have k7 := (tk_cells G1.out).2.2.2.2.2.2.2.1
       have gl1 := blk_lt G1.out
       have ne1 : w1.heap.size ≠ g := Nat.ne_of_gt gl1
       have ne2 : w1.heap.size ≠ gr := Nat.ne_of_gt (blk_lt hbox)
       have HU := Aside0.mk (Upd.of_below hb g)
       have NE := Aside0.mk (show g ≠ gr by have := blk_lt H1.out; omega)
       have HO1 := Aside0.mk (Kd.C_below HO.out hb)
       have SZ := Aside0.mk (below_size hb)
       clear hg hbox hb))
  have HCA := Aside0.mk (clone_A B d os w1 g m.id HO1.out HN.out k7 gl1)
  have HCB := Aside0.mk (clone_B B d os w1 g m.id HO1.out HN.out k7 gl1)
  go_region_held3 (fun w' => w'.cell? ⟨g, 7, none⟩ = some (.int .i64 m.id)) (go_keep)
    (first
      | (go_at_call 79; ((with_reducible refine HCA.out.mono ?_); rintro e w2 ⟨A2, c2, rfl, z7, ⟨y0, y1, y2, y3, x0, x1, x2, x3⟩, RA, RB, RC⟩))
      | (go_at_call 79; ((with_reducible refine HCB.out.mono ?_); rintro e w2 ⟨A2, c2, rfl, z7, nz, RA, RB⟩)))
  · obtain ⟨w3, hw3⟩ : ∃ w3, w3 = w2.alloc (.cells #[.int .i64 code, .int .i64 i2, .int .i64 0, .slice A2 os.length c2] 56) := ⟨_, rfl⟩
    obtain ⟨gb, hgb⟩ : ∃ gb, gb = w2.heap.size := ⟨_, rfl⟩
    have MID := Aside0.mk (show AskMid w1 w3 gb code i2 A2 c2 os by rw [hw3, hgb]; exact mid_B RA.out RB.out)
    rw [← hw3, ← hgb]
    clear hw3 hgb z7 nz RA RB HCA HCB
    have HB3 := Aside0.mk MID.out.below
    obtain ⟨b0, b1, b2, b3, p0, p1, p2, p3⟩ := four MID.out.blk
    have G3 := Aside0.mk (blk_below G1.out HB3.out)
    have GX3 := Aside0.mk (blk_below GX.out HB3.out)
    clear ne1 ne2 k7 gl1
    go_wp2_with (first
      | (go_at_call 54; ((with_reducible refine (bapmsg_Put.calls code i2 0 A2 c2 os s er _ (Kd.R_reads' MID.out.row).2.2 (Kd.R_reads' MID.out.row).2.1 HP.out).mono ?_); rintro e w4 ⟨rfl, hb⟩)
         have n0 := Aside0.mk (below_step HB3.out hb)
         have n1 := Aside0.mk (Kd.R_below MID.out.row hb)
         have n2 := Aside0.mk (blk_below MID.out.blk hb)
         have n3 := Aside0.mk (blk_below G3.out hb)
         have n4 := Aside0.mk (blk_below GX3.out hb)
         have NB := Aside0.mk MID.out.new
         clear HB3 G3 GX3 MID hb b0 b1 b2 b3 p0 p1 p2 p3
         have HB4 := n0; have ROW := n1; have GB := n2; have G4 := n3; have GX4 := n4
         clear n0 n1 n2 n3 n4
         obtain ⟨b0, b1, b2, b3, p0, p1, p2, p3⟩ := four GB.out
         obtain ⟨j0, j1, j2, j3, q0, q1, q2, q3⟩ := four GX4.out
         obtain ⟨k0, k1, k2, k3, k4, k5, k6, k7, k8, k9, k10, k11⟩ := tk_cells G4.out
         have s7 := tk_free G4.out 7
         clear k0 k1 k2 k3 k5 k6 k8 k9 k10 k11)
      | (go_at_call 67; ((with_reducible refine (elect_Request.calls code false _ (by rw [request_eq, RQ.out])).mono ?_); rintro e w' ⟨rfl, ⟨nd, rfl⟩⟩)))
    have hgr := GR.out
    have hU0 : Upd w (w4.drewN nd) g := (HU.out.then_below HB4.out).drewN nd
    refine bodyPost_ret (v := .tuple #[.agg #[.int .i64 0, .int .i64 0, .int .i64 0, .slice none 0 0], .int .i64 2201]) (by simp [results, Try.results43, go_sem, *]) rfl ?_
    have hU : Upd w (((((w4.setCell ⟨gr, 0, none⟩ (.int .i64 0)).setCell ⟨gr, 1, none⟩ (.int .i64 0)).setCell ⟨gr, 2, none⟩ (.int .i64 0)).setCell ⟨gr, 3, none⟩ (.slice none 0 0)).drewN nd) g :=
      ((((((HU.out.then_below HB4.out).set gr 0 (.inr hgr) _).set gr 1 (.inr hgr) _).set gr 2 (.inr hgr) _).set gr 3 (.inr hgr) _)).drewN nd
    refine MadeBap.none ?_ hU
    exact TkAt.turn (blk_drewN (blk_far (blk_far (blk_far (blk_far G4.out NE.out _) NE.out _) NE.out _) NE.out _) nd) HS.out HS'.out hU HK.out
  · obtain ⟨w3, hw3⟩ : ∃ w3, w3 = ((((w2.setCell ⟨w1.heap.size, 0, none⟩ (.int .i64 code)).setCell ⟨w1.heap.size, 1, none⟩ (.int .i64 i2)).setCell ⟨w1.heap.size, 2, none⟩ (.int .i64 0)).setCell ⟨w1.heap.size, 3, none⟩ (.slice A2 os.length c2)) := ⟨_, rfl⟩
    obtain ⟨gb, hgb⟩ : ∃ gb, gb = w1.heap.size := ⟨_, rfl⟩
    have MID := Aside0.mk (show AskMid w1 w3 gb code i2 A2 c2 os by rw [hw3, hgb]; exact mid_A RA.out RB.out RC.out)
    rw [← hw3, ← hgb]
    clear hw3 hgb z7 y0 y1 y2 y3 x0 x1 x2 x3 RA RB RC HCA HCB
    have HB3 := Aside0.mk MID.out.below
    obtain ⟨b0, b1, b2, b3, p0, p1, p2, p3⟩ := four MID.out.blk
    have G3 := Aside0.mk (blk_below G1.out HB3.out)
    have GX3 := Aside0.mk (blk_below GX.out HB3.out)
    clear ne1 ne2 k7 gl1
    go_wp2_with (first
      | (go_at_call 54; ((with_reducible refine (bapmsg_Put.calls code i2 0 A2 c2 os s er _ (Kd.R_reads' MID.out.row).2.2 (Kd.R_reads' MID.out.row).2.1 HP.out).mono ?_); rintro e w4 ⟨rfl, hb⟩)
         have n0 := Aside0.mk (below_step HB3.out hb)
         have n1 := Aside0.mk (Kd.R_below MID.out.row hb)
         have n2 := Aside0.mk (blk_below MID.out.blk hb)
         have n3 := Aside0.mk (blk_below G3.out hb)
         have n4 := Aside0.mk (blk_below GX3.out hb)
         have NB := Aside0.mk MID.out.new
         clear HB3 G3 GX3 MID hb b0 b1 b2 b3 p0 p1 p2 p3
         have HB4 := n0; have ROW := n1; have GB := n2; have G4 := n3; have GX4 := n4
         clear n0 n1 n2 n3 n4
         obtain ⟨b0, b1, b2, b3, p0, p1, p2, p3⟩ := four GB.out
         obtain ⟨j0, j1, j2, j3, q0, q1, q2, q3⟩ := four GX4.out
         obtain ⟨k0, k1, k2, k3, k4, k5, k6, k7, k8, k9, k10, k11⟩ := tk_cells G4.out
         have s7 := tk_free G4.out 7
         clear k0 k1 k2 k3 k5 k6 k8 k9 k10 k11)
      | (go_at_call 67; ((with_reducible refine (elect_Request.calls code false _ (by rw [request_eq, RQ.out])).mono ?_); rintro e w' ⟨rfl, ⟨nd, rfl⟩⟩)))
    have hgr := GR.out
    have hU0 : Upd w (w4.drewN nd) g := (HU.out.then_below HB4.out).drewN nd
    refine bodyPost_ret (v := .tuple #[.agg #[.int .i64 0, .int .i64 0, .int .i64 0, .slice none 0 0], .int .i64 2201]) (by simp [results, Try.results43, go_sem, *]) rfl ?_
    have hU : Upd w (((((w4.setCell ⟨gr, 0, none⟩ (.int .i64 0)).setCell ⟨gr, 1, none⟩ (.int .i64 0)).setCell ⟨gr, 2, none⟩ (.int .i64 0)).setCell ⟨gr, 3, none⟩ (.slice none 0 0)).drewN nd) g :=
      ((((((HU.out.then_below HB4.out).set gr 0 (.inr hgr) _).set gr 1 (.inr hgr) _).set gr 2 (.inr hgr) _).set gr 3 (.inr hgr) _)).drewN nd
    refine MadeBap.none ?_ hU
    exact TkAt.turn (blk_drewN (blk_far (blk_far (blk_far (blk_far G4.out NE.out _) NE.out _) NE.out _) NE.out _) nd) HS.out HS'.out hU HK.out
end Go.Proofs.Ytbdlkcgaobkdcaa.P
end

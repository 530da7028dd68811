/- Ask's ways that begin an exchange; conditions as in the contract. -/
import Derived.Test.YtbdlkcgaobkdcaaTalkF
import Derived.RegionTactic
import Derived.BigRegion
set_option linter.unusedVariables false
set_option linter.unusedSimpArgs false
section
namespace Go.Proofs.Ytbdlkcgaobkdcaa.P
open Go.RowKit Go.Proofs.YtbdlkcgaobkdcaaW.PrintWords Go.Proofs.YtbdlkcgaobkdcaaW.PrintLast Go.Proofs.YtbdlkcgaobkdcaaW.PrintMore
attribute [local go_sem] max2_int min2_int max_two min_two max_three min_three max_four min_four

set_option maxHeartbeats 8000000 in
set_option maxRecDepth 100000 in
theorem ask_ok1 (g : Nat) (ok : Nat → Prop) (m : Tk) (code : Int) (B : Option Addr) (d : Nat) (os : List S46) (s : ByteArray) (er : Int) (w : World) (h : TkAt w g ok m) (hok : ∀ k, ok k → k ≠ g) (hi0 : 0 ≤ m.id) (hi9 : m.id ≤ 255) (ho : Kd.C k46 w B os.length os) (hn : os.length < 5864062014805)
    (hp : bapS code (nextId m.id) 0 os = (s, er)) (hq : reqB code = true) (he : er = 0) (hl : m.left = 0) :
    Calls Try.prog 43 #[.pointer (some ⟨g, 0, none⟩), .int .i64 code, .slice B os.length d] w (MadeBap w g ok { m with id := nextId m.id, ask := ⟨code, nextId m.id, 0, os⟩, left := m.tries } ⟨code, nextId m.id, 0, os⟩ 0) := by
  obtain ⟨A, c, A', c', h1, hs, hs'⟩ := h
  have H1 := Aside0.mk h1
  have HS := Aside0.mk hs
  have HS' := Aside0.mk hs'
  have HK := Aside0.mk hok
  have HO := Aside0.mk ho
  have HN := Aside0.mk hn
  obtain ⟨i1, hi1⟩ : ∃ i1, i1 = m.id + 1 := ⟨_, rfl⟩
  obtain ⟨i2, hi2⟩ : ∃ i2, i2 = nextId m.id := ⟨_, rfl⟩
  have e1 : IntKind.i64.wrap (m.id + 1) = i1 := by rw [IntKind.wrap_i64]; omega
  have e2 : i1.tmod 256 = i2 := by rw [hi1, hi2, Int.tmod_eq_emod_of_nonneg (by omega)]; rfl
  have e3 : (0 : Int) ≤ i1 := by omega
  have RQ := Aside0.mk hq
  clear hq
  have e0 : (er != 0) = false := by simpa using he
  clear he
  have el : decide (0 < m.left) = false := decide_eq_false (by omega)
  clear hl
  rw [← hi2] at hp
  have HP := Aside0.mk (show bapmsg_Put.f code i2 0 os = some (s, er) by unfold bapmsg_Put.f; rw [hp])
  have HI2 := Aside0.mk hi2
  clear h1 hs hs' hok ho hn hp hi1 hi2
  have hu122 := Try.underlying122
  have hu120 := Try.underlying120
  have hu56 := Try.underlying56
  go_enter Try.func43, Try.ntmps43
  go_wp2_with (first
    | ((with_reducible refine gate_dst (N := 6) rfl ?_); refine box_event ?hg (N := 6) ?hd (cs := #[.int .i64 0, .int .i64 0, .int .i64 0, .slice none 0 0]) (t := 56) ?hr ?_; (case hd => rfl); (case hg => rfl); (case hr => first | (go_simp; done) | (go_simp; rfl)); intro gr hg w1 hbox hb
       have GR := Aside0.mk (show w.heap.size ≤ gr by rw [hg]; exact Nat.le_refl _)
       have GL := Aside0.mk (show gr < w1.heap.size from blk_lt hbox)
       have GX := Aside0.mk hbox
       have G1 := Aside0.mk (blk_below H1.out hb)
       have k7 := (tk_cells G1.out).2.2.2.2.2.2.2.1
       have gl1 := blk_lt G1.out
       have ne1 : w1.heap.size ≠ g := Nat.ne_of_gt gl1
       have ne2 : w1.heap.size ≠ gr := Nat.ne_of_gt (blk_lt hbox)
       have HU := Aside0.mk (Upd.of_below hb g)
       have NE := Aside0.mk (show g ≠ gr by have := blk_lt H1.out; omega)
       have HO1 := Aside0.mk (Kd.C_below HO.out hb)
       have SZ := Aside0.mk (below_size hb)
       clear hg hbox hb))
  have HCA := Aside0.mk (clone_A B d os w1 g m.id HO1.out HN.out k7 gl1)
  have HCB := Aside0.mk (clone_B B d os w1 g m.id HO1.out HN.out k7 gl1)
  go_region_held3 (fun w' => w'.cell? ⟨g, 7, none⟩ = some (.int .i64 m.id)) (go_keep)
    (first
      | (go_at_call 79; ((with_reducible refine HCA.out.mono ?_); rintro e w2 ⟨A2, c2, rfl, z7, ⟨y0, y1, y2, y3, x0, x1, x2, x3⟩, RA, RB, RC⟩))
      | (go_at_call 79; ((with_reducible refine HCB.out.mono ?_); rintro e w2 ⟨A2, c2, rfl, z7, nz, RA, RB⟩)))
  · obtain ⟨w3, hw3⟩ : ∃ w3, w3 = w2.alloc (.cells #[.int .i64 code, .int .i64 i2, .int .i64 0, .slice A2 os.length c2] 56) := ⟨_, rfl⟩
    obtain ⟨gb, hgb⟩ : ∃ gb, gb = w2.heap.size := ⟨_, rfl⟩
    have MID := Aside0.mk (show AskMid w1 w3 gb code i2 A2 c2 os by rw [hw3, hgb]; exact mid_B RA.out RB.out)
    rw [← hw3, ← hgb]
    clear hw3 hgb z7 nz RA RB HCA HCB
    have HB3 := Aside0.mk MID.out.below
    obtain ⟨b0, b1, b2, b3, p0, p1, p2, p3⟩ := four MID.out.blk
    have G3 := Aside0.mk (blk_below G1.out HB3.out)
    have GX3 := Aside0.mk (blk_below GX.out HB3.out)
    clear ne1 ne2 k7 gl1
    go_wp2_with (first
      | (go_at_call 54; ((with_reducible refine (bapmsg_Put.calls code i2 0 A2 c2 os s er _ (Kd.R_reads' MID.out.row).2.2 (Kd.R_reads' MID.out.row).2.1 HP.out).mono ?_); rintro e w4 ⟨rfl, hb⟩)
         have n0 := Aside0.mk (below_step HB3.out hb)
         have n1 := Aside0.mk (Kd.R_below MID.out.row hb)
         have n2 := Aside0.mk (blk_below MID.out.blk hb)
         have n3 := Aside0.mk (blk_below G3.out hb)
         have n4 := Aside0.mk (blk_below GX3.out hb)
         have NB := Aside0.mk MID.out.new
         clear HB3 G3 GX3 MID hb b0 b1 b2 b3 p0 p1 p2 p3
         have HB4 := n0; have ROW := n1; have GB := n2; have G4 := n3; have GX4 := n4
         clear n0 n1 n2 n3 n4
         obtain ⟨b0, b1, b2, b3, p0, p1, p2, p3⟩ := four GB.out
         obtain ⟨j0, j1, j2, j3, q0, q1, q2, q3⟩ := four GX4.out
         obtain ⟨k0, k1, k2, k3, k4, k5, k6, k7, k8, k9, k10, k11⟩ := tk_cells G4.out
         have s7 := tk_free G4.out 7
         clear k0 k1 k2 k3 k5 k6 k8 k9 k10 k11)
      | (go_at_call 67; ((with_reducible refine (elect_Request.calls code true _ (by rw [request_eq, RQ.out])).mono ?_); rintro e w' ⟨rfl, ⟨nd, rfl⟩⟩)))
    have hne : gb ≠ g := by have := NB.out; have := SZ.out; have := blk_lt H1.out; omega
    have hlg : g < w1.heap.size := blk_lt G1.out
    obtain ⟨w5, hw5⟩ : ∃ w5, w5 = (w4.drewN nd).setCell ⟨g, 7, none⟩ (.int .i64 i2) := ⟨_, rfl⟩
    have G5 := Aside0.mk (show w5.heap[g]? = some (.cells (tkCells { m with id := i2 } (.slice A m.ask.f3.length c) (.slice A' m.last.f3.length c')) 122 (0, 0)) by rw [hw5]; exact blk_put (blk_drewN G4.out nd) 7 _ rfl)
    have GB5 := Aside0.mk (show w5.heap[gb]? = some (.cells #[.int .i64 code, .int .i64 i2, .int .i64 0, .slice A2 os.length c2] 56 (0, 0)) by rw [hw5]; exact blk_far (blk_drewN GB.out nd) hne _)
    have GX5 := Aside0.mk (show w5.heap[gr]? = some (.cells #[.int .i64 0, .int .i64 0, .int .i64 0, .slice none 0 0] 56 (0, 0)) by rw [hw5]; exact blk_far (blk_drewN GX4.out nd) NE.out.symm _)
    have ROW5 := Aside0.mk (show Kd.R k46 46 w5 w1.heap.size (fun k => w1.heap.size ≤ k ∧ k ≠ gb) (.slice A2 os.length c2) os by rw [hw5]; exact Kd.R_far (Kd.R_drewN ROW.out nd) (fun k hk => by simp only; omega) _)
    have HU5 := Aside0.mk (show Upd w w5 g by rw [hw5]; exact ((HU.out.then_below HB4.out).drewN nd).set g 7 (.inl rfl) _)
    have SZ5 := Aside0.mk (show w1.heap.size ≤ w5.heap.size by rw [hw5]; have := below_size HB4.out; simpa [World.setCell] using this)
    rw [← hw5]
    clear hw5 G4 GB GX4 ROW HU HB4 b0 b1 b2 b3 p0 p1 p2 p3 j0 j1 j2 j3 q0 q1 q2 q3 k4 k7 s7 G1 GX HO1
    obtain ⟨b0, b1, b2, b3, p0, p1, p2, p3⟩ := four GB5.out
    have k6 : w5.cell? ⟨g, 6, none⟩ = some (.int .i64 m.tries) := (blk_cell G5.out 6).trans rfl
    have k0 : w5.cell? ⟨g, 0, none⟩ = some (.int .i64 m.ask.f0) := (blk_cell G5.out 0).trans rfl
    have k1 : w5.cell? ⟨g, 1, none⟩ = some (.int .i64 m.ask.f1) := (blk_cell G5.out 1).trans rfl
    have k2 : w5.cell? ⟨g, 2, none⟩ = some (.int .i64 m.ask.f2) := (blk_cell G5.out 2).trans rfl
    have k3 : w5.cell? ⟨g, 3, none⟩ = some (.slice A m.ask.f3.length c) := (blk_cell G5.out 3).trans rfl
    have k4 : w5.cell? ⟨g, 4, none⟩ = some (.int .i64 m.left) := (blk_cell G5.out 4).trans rfl
    have s0 := blk_frozen G5.out 0
    have s1 := blk_frozen G5.out 1
    have s2 := blk_frozen G5.out 2
    have s3 := blk_frozen G5.out 3
    have s4 := blk_frozen G5.out 4
    have hne' : g ≠ gb := hne.symm
    go_region_held3 (fun w' => w'.cell? ⟨gb, 0, none⟩ = some (.int .i64 code) ∧ w'.cell? ⟨gb, 1, none⟩ = some (.int .i64 i2) ∧ w'.cell? ⟨gb, 2, none⟩ = some (.int .i64 0) ∧ w'.cell? ⟨gb, 3, none⟩ = some (.slice A2 os.length c2) ∧ w'.cell? ⟨g, 6, none⟩ = some (.int .i64 m.tries)) (simp [*, World.cell?_alloc_some, World.cell?_setCell_far, World.cell?_setCell_other]) (fail)
    have hgr := GR.out
    have hgl := GL.out
    obtain ⟨w6, hw6⟩ : ∃ w6, w6 = (((((w5.setCell ⟨g, 0, none⟩ (.int .i64 code)).setCell ⟨g, 1, none⟩ (.int .i64 i2)).setCell ⟨g, 2, none⟩ (.int .i64 0)).setCell ⟨g, 3, none⟩ (.slice A2 os.length c2)).setCell ⟨g, 4, none⟩ (.int .i64 m.tries)).drew := ⟨_, rfl⟩
    have G6 := Aside0.mk (show w6.heap[g]? = some (.cells (tkCells { m with id := i2, ask := ⟨code, i2, 0, os⟩, left := m.tries } (.slice A2 os.length c2) (.slice A' m.last.f3.length c')) 122 (0, 0)) by rw [hw6]; exact blk_drew (blk_put (blk_put (blk_put (blk_put (blk_put G5.out 0 _ rfl) 1 _ rfl) 2 _ rfl) 3 _ rfl) 4 _ rfl))
    have GB6 := Aside0.mk (show w6.heap[gb]? = some (.cells #[.int .i64 code, .int .i64 i2, .int .i64 0, .slice A2 os.length c2] 56 (0, 0)) by rw [hw6]; exact blk_drew (blk_far (blk_far (blk_far (blk_far (blk_far GB5.out hne _) hne _) hne _) hne _) hne _))
    have GX6 := Aside0.mk (show w6.heap[gr]? = some (.cells #[.int .i64 0, .int .i64 0, .int .i64 0, .slice none 0 0] 56 (0, 0)) by rw [hw6]; exact blk_drew (blk_far (blk_far (blk_far (blk_far (blk_far GX5.out NE.out.symm _) NE.out.symm _) NE.out.symm _) NE.out.symm _) NE.out.symm _))
    have ROW6 := Aside0.mk (show Kd.R k46 46 w6 w1.heap.size (fun k => w1.heap.size ≤ k ∧ k < w6.heap.size) (.slice A2 os.length c2) os from Kd.R_mono (Kd.R_bound (show Kd.R k46 46 w6 w1.heap.size (fun k => w1.heap.size ≤ k ∧ k ≠ gb) (.slice A2 os.length c2) os by
      rw [hw6]
      refine Kd.R_drew ?_
      repeat (refine Kd.R_far ?_ (fun k hk => by simp only; omega) _)
      exact ROW5.out)) (fun k hk => ⟨hk.1.1, hk.2.2.1⟩))
    have HU6 := Aside0.mk (show Upd w w6 g by rw [hw6]; exact (((((HU5.out.set g 0 (.inl rfl) _).set g 1 (.inl rfl) _).set g 2 (.inl rfl) _).set g 3 (.inl rfl) _).set g 4 (.inl rfl) _).drew)
    have SZ6 := Aside0.mk (show w1.heap.size ≤ w6.heap.size by rw [hw6]; simpa [World.setCell] using SZ5.out)
    rw [← hw6]
    clear hw6 G5 GB5 GX5 ROW5 HU5 SZ5 b0 b1 b2 b3 p0 p1 p2 p3 k0 k1 k2 k3 k4 k6 s0 s1 s2 s3 s4 hne hne'
    obtain ⟨b0, b1, b2, b3, p0, p1, p2, p3⟩ := four GB6.out
    go_wp2_with (first
      | (go_at_call 80; ((with_reducible refine (bclone_calls code i2 0 A2 c2 os _ (Kd.R_reads' ROW6.out).2.2 (Kd.R_reads' ROW6.out).2.1 HN.out).mono ?_); rintro e w7 ⟨A3, c3, rfl, hR, hb⟩)
         have GX7 := Aside0.mk (blk_below GX6.out hb)
         have G7 := Aside0.mk (blk_below G6.out hb)
         have ROW7 := Aside0.mk (Kd.R_below ROW6.out hb)
         have HU7 := Aside0.mk (HU6.out.then_below hb)
         have HRR := Aside0.mk (Kd.R_lower hR (show w.heap.size ≤ w6.heap.size from HU6.out.size))
         clear hR hb b0 b1 b2 b3 p0 p1 p2 p3 G6 GX6 GB6 ROW6 HU6
         obtain ⟨j0, j1, j2, j3, q0, q1, q2, q3⟩ := four GX7.out))
    refine bodyPost_ret (v := .tuple #[.agg #[.int .i64 code, .int .i64 i2, .int .i64 0, .slice A3 os.length c3], .int .i64 0]) (by simp [results, Try.results43, go_sem, *]) rfl ?_
    have hU : Upd w ((((w7.setCell ⟨gr, 0, none⟩ (.int .i64 code)).setCell ⟨gr, 1, none⟩ (.int .i64 i2)).setCell ⟨gr, 2, none⟩ (.int .i64 0)).setCell ⟨gr, 3, none⟩ (.slice A3 os.length c3)) g :=
      (((HU7.out.set gr 0 (.inr hgr) _).set gr 1 (.inr hgr) _).set gr 2 (.inr hgr) _).set gr 3 (.inr hgr) _
    have hsz := SZ6.out
    have hsz0 := SZ.out
    rw [← HI2.out]
    refine ⟨A3, c3, w6.heap.size, rfl, by omega, ?_, ?_, hU⟩
    · repeat (refine Kd.R_far ?_ (fun k hk => by simp only; omega) _)
      exact HRR.out
    · refine ⟨A2, c2, A', c', blk_far (blk_far (blk_far (blk_far G7.out NE.out _) NE.out _) NE.out _) NE.out _, ?_, ?_⟩
      · refine Sees.mono (ok := fun k => w1.heap.size ≤ k ∧ k < w6.heap.size) (Sees.of_R (B := w1.heap.size) (n := os.length) ?_) (fun k hk => .inr ⟨by omega, hk.2⟩)
        repeat (refine Kd.R_far ?_ (fun k hk => by simp only; omega) _)
        exact ROW7.out
      · exact (HS'.out.step (fun k ho hk => hU.block k hk (HK.out k ho))).mono (fun k hk => .inl hk)
  · obtain ⟨w3, hw3⟩ : ∃ w3, w3 = ((((w2.setCell ⟨w1.heap.size, 0, none⟩ (.int .i64 code)).setCell ⟨w1.heap.size, 1, none⟩ (.int .i64 i2)).setCell ⟨w1.heap.size, 2, none⟩ (.int .i64 0)).setCell ⟨w1.heap.size, 3, none⟩ (.slice A2 os.length c2)) := ⟨_, rfl⟩
    obtain ⟨gb, hgb⟩ : ∃ gb, gb = w1.heap.size := ⟨_, rfl⟩
    have MID := Aside0.mk (show AskMid w1 w3 gb code i2 A2 c2 os by rw [hw3, hgb]; exact mid_A RA.out RB.out RC.out)
    rw [← hw3, ← hgb]
    clear hw3 hgb z7 y0 y1 y2 y3 x0 x1 x2 x3 RA RB RC HCA HCB
    have HB3 := Aside0.mk MID.out.below
    obtain ⟨b0, b1, b2, b3, p0, p1, p2, p3⟩ := four MID.out.blk
    have G3 := Aside0.mk (blk_below G1.out HB3.out)
    have GX3 := Aside0.mk (blk_below GX.out HB3.out)
    clear ne1 ne2 k7 gl1
    go_wp2_with (first
      | (go_at_call 54; ((with_reducible refine (bapmsg_Put.calls code i2 0 A2 c2 os s er _ (Kd.R_reads' MID.out.row).2.2 (Kd.R_reads' MID.out.row).2.1 HP.out).mono ?_); rintro e w4 ⟨rfl, hb⟩)
         have n0 := Aside0.mk (below_step HB3.out hb)
         have n1 := Aside0.mk (Kd.R_below MID.out.row hb)
         have n2 := Aside0.mk (blk_below MID.out.blk hb)
         have n3 := Aside0.mk (blk_below G3.out hb)
         have n4 := Aside0.mk (blk_below GX3.out hb)
         have NB := Aside0.mk MID.out.new
         clear HB3 G3 GX3 MID hb b0 b1 b2 b3 p0 p1 p2 p3
         have HB4 := n0; have ROW := n1; have GB := n2; have G4 := n3; have GX4 := n4
         clear n0 n1 n2 n3 n4
         obtain ⟨b0, b1, b2, b3, p0, p1, p2, p3⟩ := four GB.out
         obtain ⟨j0, j1, j2, j3, q0, q1, q2, q3⟩ := four GX4.out
         obtain ⟨k0, k1, k2, k3, k4, k5, k6, k7, k8, k9, k10, k11⟩ := tk_cells G4.out
         have s7 := tk_free G4.out 7
         clear k0 k1 k2 k3 k5 k6 k8 k9 k10 k11)
      | (go_at_call 67; ((with_reducible refine (elect_Request.calls code true _ (by rw [request_eq, RQ.out])).mono ?_); rintro e w' ⟨rfl, ⟨nd, rfl⟩⟩)))
    have hne : gb ≠ g := by have := NB.out; have := SZ.out; have := blk_lt H1.out; omega
    have hlg : g < w1.heap.size := blk_lt G1.out
    obtain ⟨w5, hw5⟩ : ∃ w5, w5 = (w4.drewN nd).setCell ⟨g, 7, none⟩ (.int .i64 i2) := ⟨_, rfl⟩
    have G5 := Aside0.mk (show w5.heap[g]? = some (.cells (tkCells { m with id := i2 } (.slice A m.ask.f3.length c) (.slice A' m.last.f3.length c')) 122 (0, 0)) by rw [hw5]; exact blk_put (blk_drewN G4.out nd) 7 _ rfl)
    have GB5 := Aside0.mk (show w5.heap[gb]? = some (.cells #[.int .i64 code, .int .i64 i2, .int .i64 0, .slice A2 os.length c2] 56 (0, 0)) by rw [hw5]; exact blk_far (blk_drewN GB.out nd) hne _)
    have GX5 := Aside0.mk (show w5.heap[gr]? = some (.cells #[.int .i64 0, .int .i64 0, .int .i64 0, .slice none 0 0] 56 (0, 0)) by rw [hw5]; exact blk_far (blk_drewN GX4.out nd) NE.out.symm _)
    have ROW5 := Aside0.mk (show Kd.R k46 46 w5 w1.heap.size (fun k => w1.heap.size ≤ k ∧ k ≠ gb) (.slice A2 os.length c2) os by rw [hw5]; exact Kd.R_far (Kd.R_drewN ROW.out nd) (fun k hk => by simp only; omega) _)
    have HU5 := Aside0.mk (show Upd w w5 g by rw [hw5]; exact ((HU.out.then_below HB4.out).drewN nd).set g 7 (.inl rfl) _)
    have SZ5 := Aside0.mk (show w1.heap.size ≤ w5.heap.size by rw [hw5]; have := below_size HB4.out; simpa [World.setCell] using this)
    rw [← hw5]
    clear hw5 G4 GB GX4 ROW HU HB4 b0 b1 b2 b3 p0 p1 p2 p3 j0 j1 j2 j3 q0 q1 q2 q3 k4 k7 s7 G1 GX HO1
    obtain ⟨b0, b1, b2, b3, p0, p1, p2, p3⟩ := four GB5.out
    have k6 : w5.cell? ⟨g, 6, none⟩ = some (.int .i64 m.tries) := (blk_cell G5.out 6).trans rfl
    have k0 : w5.cell? ⟨g, 0, none⟩ = some (.int .i64 m.ask.f0) := (blk_cell G5.out 0).trans rfl
    have k1 : w5.cell? ⟨g, 1, none⟩ = some (.int .i64 m.ask.f1) := (blk_cell G5.out 1).trans rfl
    have k2 : w5.cell? ⟨g, 2, none⟩ = some (.int .i64 m.ask.f2) := (blk_cell G5.out 2).trans rfl
    have k3 : w5.cell? ⟨g, 3, none⟩ = some (.slice A m.ask.f3.length c) := (blk_cell G5.out 3).trans rfl
    have k4 : w5.cell? ⟨g, 4, none⟩ = some (.int .i64 m.left) := (blk_cell G5.out 4).trans rfl
    have s0 := blk_frozen G5.out 0
    have s1 := blk_frozen G5.out 1
    have s2 := blk_frozen G5.out 2
    have s3 := blk_frozen G5.out 3
    have s4 := blk_frozen G5.out 4
    have hne' : g ≠ gb := hne.symm
    go_region_held3 (fun w' => w'.cell? ⟨gb, 0, none⟩ = some (.int .i64 code) ∧ w'.cell? ⟨gb, 1, none⟩ = some (.int .i64 i2) ∧ w'.cell? ⟨gb, 2, none⟩ = some (.int .i64 0) ∧ w'.cell? ⟨gb, 3, none⟩ = some (.slice A2 os.length c2) ∧ w'.cell? ⟨g, 6, none⟩ = some (.int .i64 m.tries)) (simp [*, World.cell?_alloc_some, World.cell?_setCell_far, World.cell?_setCell_other]) (fail)
    have hgr := GR.out
    have hgl := GL.out
    obtain ⟨w6, hw6⟩ : ∃ w6, w6 = (((((w5.setCell ⟨g, 0, none⟩ (.int .i64 code)).setCell ⟨g, 1, none⟩ (.int .i64 i2)).setCell ⟨g, 2, none⟩ (.int .i64 0)).setCell ⟨g, 3, none⟩ (.slice A2 os.length c2)).setCell ⟨g, 4, none⟩ (.int .i64 m.tries)).drew := ⟨_, rfl⟩
    have G6 := Aside0.mk (show w6.heap[g]? = some (.cells (tkCells { m with id := i2, ask := ⟨code, i2, 0, os⟩, left := m.tries } (.slice A2 os.length c2) (.slice A' m.last.f3.length c')) 122 (0, 0)) by rw [hw6]; exact blk_drew (blk_put (blk_put (blk_put (blk_put (blk_put G5.out 0 _ rfl) 1 _ rfl) 2 _ rfl) 3 _ rfl) 4 _ rfl))
    have GB6 := Aside0.mk (show w6.heap[gb]? = some (.cells #[.int .i64 code, .int .i64 i2, .int .i64 0, .slice A2 os.length c2] 56 (0, 0)) by rw [hw6]; exact blk_drew (blk_far (blk_far (blk_far (blk_far (blk_far GB5.out hne _) hne _) hne _) hne _) hne _))
    have GX6 := Aside0.mk (show w6.heap[gr]? = some (.cells #[.int .i64 0, .int .i64 0, .int .i64 0, .slice none 0 0] 56 (0, 0)) by rw [hw6]; exact blk_drew (blk_far (blk_far (blk_far (blk_far (blk_far GX5.out NE.out.symm _) NE.out.symm _) NE.out.symm _) NE.out.symm _) NE.out.symm _))
    have ROW6 := Aside0.mk (show Kd.R k46 46 w6 w1.heap.size (fun k => w1.heap.size ≤ k ∧ k < w6.heap.size) (.slice A2 os.length c2) os from Kd.R_mono (Kd.R_bound (show Kd.R k46 46 w6 w1.heap.size (fun k => w1.heap.size ≤ k ∧ k ≠ gb) (.slice A2 os.length c2) os by
      rw [hw6]
      refine Kd.R_drew ?_
      repeat (refine Kd.R_far ?_ (fun k hk => by simp only; omega) _)
      exact ROW5.out)) (fun k hk => ⟨hk.1.1, hk.2.2.1⟩))
    have HU6 := Aside0.mk (show Upd w w6 g by rw [hw6]; exact (((((HU5.out.set g 0 (.inl rfl) _).set g 1 (.inl rfl) _).set g 2 (.inl rfl) _).set g 3 (.inl rfl) _).set g 4 (.inl rfl) _).drew)
    have SZ6 := Aside0.mk (show w1.heap.size ≤ w6.heap.size by rw [hw6]; simpa [World.setCell] using SZ5.out)
    rw [← hw6]
    clear hw6 G5 GB5 GX5 ROW5 HU5 SZ5 b0 b1 b2 b3 p0 p1 p2 p3 k0 k1 k2 k3 k4 k6 s0 s1 s2 s3 s4 hne hne'
    obtain ⟨b0, b1, b2, b3, p0, p1, p2, p3⟩ := four GB6.out
    go_wp2_with (first
      | (go_at_call 80; ((with_reducible refine (bclone_calls code i2 0 A2 c2 os _ (Kd.R_reads' ROW6.out).2.2 (Kd.R_reads' ROW6.out).2.1 HN.out).mono ?_); rintro e w7 ⟨A3, c3, rfl, hR, hb⟩)
         have GX7 := Aside0.mk (blk_below GX6.out hb)
         have G7 := Aside0.mk (blk_below G6.out hb)
         have ROW7 := Aside0.mk (Kd.R_below ROW6.out hb)
         have HU7 := Aside0.mk (HU6.out.then_below hb)
         have HRR := Aside0.mk (Kd.R_lower hR (show w.heap.size ≤ w6.heap.size from HU6.out.size))
         clear hR hb b0 b1 b2 b3 p0 p1 p2 p3 G6 GX6 GB6 ROW6 HU6
         obtain ⟨j0, j1, j2, j3, q0, q1, q2, q3⟩ := four GX7.out))
    refine bodyPost_ret (v := .tuple #[.agg #[.int .i64 code, .int .i64 i2, .int .i64 0, .slice A3 os.length c3], .int .i64 0]) (by simp [results, Try.results43, go_sem, *]) rfl ?_
    have hU : Upd w ((((w7.setCell ⟨gr, 0, none⟩ (.int .i64 code)).setCell ⟨gr, 1, none⟩ (.int .i64 i2)).setCell ⟨gr, 2, none⟩ (.int .i64 0)).setCell ⟨gr, 3, none⟩ (.slice A3 os.length c3)) g :=
      (((HU7.out.set gr 0 (.inr hgr) _).set gr 1 (.inr hgr) _).set gr 2 (.inr hgr) _).set gr 3 (.inr hgr) _
    have hsz := SZ6.out
    have hsz0 := SZ.out
    rw [← HI2.out]
    refine ⟨A3, c3, w6.heap.size, rfl, by omega, ?_, ?_, hU⟩
    · repeat (refine Kd.R_far ?_ (fun k hk => by simp only; omega) _)
      exact HRR.out
    · refine ⟨A2, c2, A', c', blk_far (blk_far (blk_far (blk_far G7.out NE.out _) NE.out _) NE.out _) NE.out _, ?_, ?_⟩
      · refine Sees.mono (ok := fun k => w1.heap.size ≤ k ∧ k < w6.heap.size) (Sees.of_R (B := w1.heap.size) (n := os.length) ?_) (fun k hk => .inr ⟨by omega, hk.2⟩)
        repeat (refine Kd.R_far ?_ (fun k hk => by simp only; omega) _)
        exact ROW7.out
      · exact (HS'.out.step (fun k ho hk => hU.block k hk (HK.out k ho))).mono (fun k hk => .inl hk)
end Go.Proofs.Ytbdlkcgaobkdcaa.P
end
section
namespace Go.Proofs.Ytbdlkcgaobkdcaa.P
open Go.RowKit Go.Proofs.YtbdlkcgaobkdcaaW.PrintWords Go.Proofs.YtbdlkcgaobkdcaaW.PrintLast Go.Proofs.YtbdlkcgaobkdcaaW.PrintMore
attribute [local go_sem] max2_int min2_int max_two min_two max_three min_three max_four min_four

set_option maxHeartbeats 8000000 in
set_option maxRecDepth 100000 in
theorem ask_ok7 (g : Nat) (ok : Nat → Prop) (m : Tk) (code : Int) (B : Option Addr) (d : Nat) (os : List S46) (s : ByteArray) (er : Int) (w : World) (h : TkAt w g ok m) (hok : ∀ k, ok k → k ≠ g) (hi0 : 0 ≤ m.id) (hi9 : m.id ≤ 255) (ho : Kd.C k46 w B os.length os) (hn : os.length < 5864062014805)
    (hp : bapS code (nextId m.id) 0 os = (s, er)) (h7 : code = 7) (he : er = 0) (hl : m.left = 0) :
    Calls Try.prog 43 #[.pointer (some ⟨g, 0, none⟩), .int .i64 code, .slice B os.length d] w (MadeBap w g ok { m with id := nextId m.id, ask := ⟨code, nextId m.id, 0, os⟩, left := m.tries } ⟨code, nextId m.id, 0, os⟩ 0) := by
  obtain ⟨A, c, A', c', h1, hs, hs'⟩ := h
  have H1 := Aside0.mk h1
  have HS := Aside0.mk hs
  have HS' := Aside0.mk hs'
  have HK := Aside0.mk hok
  have HO := Aside0.mk ho
  have HN := Aside0.mk hn
  obtain ⟨i1, hi1⟩ : ∃ i1, i1 = m.id + 1 := ⟨_, rfl⟩
  obtain ⟨i2, hi2⟩ : ∃ i2, i2 = nextId m.id := ⟨_, rfl⟩
  have e1 : IntKind.i64.wrap (m.id + 1) = i1 := by rw [IntKind.wrap_i64]; omega
  have e2 : i1.tmod 256 = i2 := by rw [hi1, hi2, Int.tmod_eq_emod_of_nonneg (by omega)]; rfl
  have e3 : (0 : Int) ≤ i1 := by omega
  have RQ := Aside0.mk (show reqB code = false by rw [h7]; rfl)
  have e7 : (code != 7) = false := by rw [h7]; rfl
  clear h7
  have e0 : (er != 0) = false := by simpa using he
  clear he
  have el : decide (0 < m.left) = false := decide_eq_false (by omega)
  clear hl
  rw [← hi2] at hp
  have HP := Aside0.mk (show bapmsg_Put.f code i2 0 os = some (s, er) by unfold bapmsg_Put.f; rw [hp])
  have HI2 := Aside0.mk hi2
  clear h1 hs hs' hok ho hn hp hi1 hi2
  have hu122 := Try.underlying122
  have hu120 := Try.underlying120
  have hu56 := Try.underlying56
  go_enter Try.func43, Try.ntmps43
  go_wp2_with (first
    | ((with_reducible refine gate_dst (N := 6) rfl ?_); refine box_event ?hg (N := 6) ?hd (cs := #[.int .i64 0, .int .i64 0, .int .i64 0, .slice none 0 0]) (t := 56) ?hr ?_; (case hd => rfl); (case hg => rfl); (case hr => first | (go_simp; done) | (go_simp; rfl)); intro gr hg w1 hbox hb
       have GR := Aside0.mk (show w.heap.size ≤ gr by rw [hg]; exact Nat.le_refl _)
       have GL := Aside0.mk (show gr < w1.heap.size from blk_lt hbox)
       have GX := Aside0.mk hbox
       have G1 := Aside0.mk (blk_below H1.out hb)
       have k7 := (tk_cells G1.out).2.2.2.2.2.2.2.1
       have gl1 := blk_lt G1.out
       have ne1 : w1.heap.size ≠ g := Nat.ne_of_gt gl1
       have ne2 : w1.heap.size ≠ gr := Nat.ne_of_gt (blk_lt hbox)
       have HU := Aside0.mk (Upd.of_below hb g)
       have NE := Aside0.mk (show g ≠ gr by have := blk_lt H1.out; omega)
       have HO1 := Aside0.mk (Kd.C_below HO.out hb)
       have SZ := Aside0.mk (below_size hb)
       clear hg hbox hb))
  have HCA := Aside0.mk (clone_A B d os w1 g m.id HO1.out HN.out k7 gl1)
  have HCB := Aside0.mk (clone_B B d os w1 g m.id HO1.out HN.out k7 gl1)
  go_region_held3 (fun w' => w'.cell? ⟨g, 7, none⟩ = some (.int .i64 m.id)) (go_keep)
    (first
      | (go_at_call 79; ((with_reducible refine HCA.out.mono ?_); rintro e w2 ⟨A2, c2, rfl, z7, ⟨y0, y1, y2, y3, x0, x1, x2, x3⟩, RA, RB, RC⟩))
      | (go_at_call 79; ((with_reducible refine HCB.out.mono ?_); rintro e w2 ⟨A2, c2, rfl, z7, nz, RA, RB⟩)))
  · obtain ⟨w3, hw3⟩ : ∃ w3, w3 = w2.alloc (.cells #[.int .i64 code, .int .i64 i2, .int .i64 0, .slice A2 os.length c2] 56) := ⟨_, rfl⟩
    obtain ⟨gb, hgb⟩ : ∃ gb, gb = w2.heap.size := ⟨_, rfl⟩
    have MID := Aside0.mk (show AskMid w1 w3 gb code i2 A2 c2 os by rw [hw3, hgb]; exact mid_B RA.out RB.out)
    rw [← hw3, ← hgb]
    clear hw3 hgb z7 nz RA RB HCA HCB
    have HB3 := Aside0.mk MID.out.below
    obtain ⟨b0, b1, b2, b3, p0, p1, p2, p3⟩ := four MID.out.blk
    have G3 := Aside0.mk (blk_below G1.out HB3.out)
    have GX3 := Aside0.mk (blk_below GX.out HB3.out)
    clear ne1 ne2 k7 gl1
    go_wp2_with (first
      | (go_at_call 54; ((with_reducible refine (bapmsg_Put.calls code i2 0 A2 c2 os s er _ (Kd.R_reads' MID.out.row).2.2 (Kd.R_reads' MID.out.row).2.1 HP.out).mono ?_); rintro e w4 ⟨rfl, hb⟩)
         have n0 := Aside0.mk (below_step HB3.out hb)
         have n1 := Aside0.mk (Kd.R_below MID.out.row hb)
         have n2 := Aside0.mk (blk_below MID.out.blk hb)
         have n3 := Aside0.mk (blk_below G3.out hb)
         have n4 := Aside0.mk (blk_below GX3.out hb)
         have NB := Aside0.mk MID.out.new
         clear HB3 G3 GX3 MID hb b0 b1 b2 b3 p0 p1 p2 p3
         have HB4 := n0; have ROW := n1; have GB := n2; have G4 := n3; have GX4 := n4
         clear n0 n1 n2 n3 n4
         obtain ⟨b0, b1, b2, b3, p0, p1, p2, p3⟩ := four GB.out
         obtain ⟨j0, j1, j2, j3, q0, q1, q2, q3⟩ := four GX4.out
         obtain ⟨k0, k1, k2, k3, k4, k5, k6, k7, k8, k9, k10, k11⟩ := tk_cells G4.out
         have s7 := tk_free G4.out 7
         clear k0 k1 k2 k3 k5 k6 k8 k9 k10 k11)
      | (go_at_call 67; ((with_reducible refine (elect_Request.calls code false _ (by rw [request_eq, RQ.out])).mono ?_); rintro e w' ⟨rfl, ⟨nd, rfl⟩⟩)))
    have hne : gb ≠ g := by have := NB.out; have := SZ.out; have := blk_lt H1.out; omega
    have hlg : g < w1.heap.size := blk_lt G1.out
    obtain ⟨w5, hw5⟩ : ∃ w5, w5 = (w4.drewN nd).setCell ⟨g, 7, none⟩ (.int .i64 i2) := ⟨_, rfl⟩
    have G5 := Aside0.mk (show w5.heap[g]? = some (.cells (tkCells { m with id := i2 } (.slice A m.ask.f3.length c) (.slice A' m.last.f3.length c')) 122 (0, 0)) by rw [hw5]; exact blk_put (blk_drewN G4.out nd) 7 _ rfl)
    have GB5 := Aside0.mk (show w5.heap[gb]? = some (.cells #[.int .i64 code, .int .i64 i2, .int .i64 0, .slice A2 os.length c2] 56 (0, 0)) by rw [hw5]; exact blk_far (blk_drewN GB.out nd) hne _)
    have GX5 := Aside0.mk (show w5.heap[gr]? = some (.cells #[.int .i64 0, .int .i64 0, .int .i64 0, .slice none 0 0] 56 (0, 0)) by rw [hw5]; exact blk_far (blk_drewN GX4.out nd) NE.out.symm _)
    have ROW5 := Aside0.mk (show Kd.R k46 46 w5 w1.heap.size (fun k => w1.heap.size ≤ k ∧ k ≠ gb) (.slice A2 os.length c2) os by rw [hw5]; exact Kd.R_far (Kd.R_drewN ROW.out nd) (fun k hk => by simp only; omega) _)
    have HU5 := Aside0.mk (show Upd w w5 g by rw [hw5]; exact ((HU.out.then_below HB4.out).drewN nd).set g 7 (.inl rfl) _)
    have SZ5 := Aside0.mk (show w1.heap.size ≤ w5.heap.size by rw [hw5]; have := below_size HB4.out; simpa [World.setCell] using this)
    rw [← hw5]
    clear hw5 G4 GB GX4 ROW HU HB4 b0 b1 b2 b3 p0 p1 p2 p3 j0 j1 j2 j3 q0 q1 q2 q3 k4 k7 s7 G1 GX HO1
    obtain ⟨b0, b1, b2, b3, p0, p1, p2, p3⟩ := four GB5.out
    have k6 : w5.cell? ⟨g, 6, none⟩ = some (.int .i64 m.tries) := (blk_cell G5.out 6).trans rfl
    have k0 : w5.cell? ⟨g, 0, none⟩ = some (.int .i64 m.ask.f0) := (blk_cell G5.out 0).trans rfl
    have k1 : w5.cell? ⟨g, 1, none⟩ = some (.int .i64 m.ask.f1) := (blk_cell G5.out 1).trans rfl
    have k2 : w5.cell? ⟨g, 2, none⟩ = some (.int .i64 m.ask.f2) := (blk_cell G5.out 2).trans rfl
    have k3 : w5.cell? ⟨g, 3, none⟩ = some (.slice A m.ask.f3.length c) := (blk_cell G5.out 3).trans rfl
    have k4 : w5.cell? ⟨g, 4, none⟩ = some (.int .i64 m.left) := (blk_cell G5.out 4).trans rfl
    have s0 := blk_frozen G5.out 0
    have s1 := blk_frozen G5.out 1
    have s2 := blk_frozen G5.out 2
    have s3 := blk_frozen G5.out 3
    have s4 := blk_frozen G5.out 4
    have hne' : g ≠ gb := hne.symm
    go_region_held3 (fun w' => w'.cell? ⟨gb, 0, none⟩ = some (.int .i64 code) ∧ w'.cell? ⟨gb, 1, none⟩ = some (.int .i64 i2) ∧ w'.cell? ⟨gb, 2, none⟩ = some (.int .i64 0) ∧ w'.cell? ⟨gb, 3, none⟩ = some (.slice A2 os.length c2) ∧ w'.cell? ⟨g, 6, none⟩ = some (.int .i64 m.tries)) (simp [*, World.cell?_alloc_some, World.cell?_setCell_far, World.cell?_setCell_other]) (fail)
    have hgr := GR.out
    have hgl := GL.out
    obtain ⟨w6, hw6⟩ : ∃ w6, w6 = (((((w5.setCell ⟨g, 0, none⟩ (.int .i64 code)).setCell ⟨g, 1, none⟩ (.int .i64 i2)).setCell ⟨g, 2, none⟩ (.int .i64 0)).setCell ⟨g, 3, none⟩ (.slice A2 os.length c2)).setCell ⟨g, 4, none⟩ (.int .i64 m.tries)).drew := ⟨_, rfl⟩
    have G6 := Aside0.mk (show w6.heap[g]? = some (.cells (tkCells { m with id := i2, ask := ⟨code, i2, 0, os⟩, left := m.tries } (.slice A2 os.length c2) (.slice A' m.last.f3.length c')) 122 (0, 0)) by rw [hw6]; exact blk_drew (blk_put (blk_put (blk_put (blk_put (blk_put G5.out 0 _ rfl) 1 _ rfl) 2 _ rfl) 3 _ rfl) 4 _ rfl))
    have GB6 := Aside0.mk (show w6.heap[gb]? = some (.cells #[.int .i64 code, .int .i64 i2, .int .i64 0, .slice A2 os.length c2] 56 (0, 0)) by rw [hw6]; exact blk_drew (blk_far (blk_far (blk_far (blk_far (blk_far GB5.out hne _) hne _) hne _) hne _) hne _))
    have GX6 := Aside0.mk (show w6.heap[gr]? = some (.cells #[.int .i64 0, .int .i64 0, .int .i64 0, .slice none 0 0] 56 (0, 0)) by rw [hw6]; exact blk_drew (blk_far (blk_far (blk_far (blk_far (blk_far GX5.out NE.out.symm _) NE.out.symm _) NE.out.symm _) NE.out.symm _) NE.out.symm _))
    have ROW6 := Aside0.mk (show Kd.R k46 46 w6 w1.heap.size (fun k => w1.heap.size ≤ k ∧ k < w6.heap.size) (.slice A2 os.length c2) os from Kd.R_mono (Kd.R_bound (show Kd.R k46 46 w6 w1.heap.size (fun k => w1.heap.size ≤ k ∧ k ≠ gb) (.slice A2 os.length c2) os by
      rw [hw6]
      refine Kd.R_drew ?_
      repeat (refine Kd.R_far ?_ (fun k hk => by simp only; omega) _)
      exact ROW5.out)) (fun k hk => ⟨hk.1.1, hk.2.2.1⟩))
    have HU6 := Aside0.mk (show Upd w w6 g by rw [hw6]; exact (((((HU5.out.set g 0 (.inl rfl) _).set g 1 (.inl rfl) _).set g 2 (.inl rfl) _).set g 3 (.inl rfl) _).set g 4 (.inl rfl) _).drew)
    have SZ6 := Aside0.mk (show w1.heap.size ≤ w6.heap.size by rw [hw6]; simpa [World.setCell] using SZ5.out)
    rw [← hw6]
    clear hw6 G5 GB5 GX5 ROW5 HU5 SZ5 b0 b1 b2 b3 p0 p1 p2 p3 k0 k1 k2 k3 k4 k6 s0 s1 s2 s3 s4 hne hne'
    obtain ⟨b0, b1, b2, b3, p0, p1, p2, p3⟩ := four GB6.out
    go_wp2_with (first
      | (go_at_call 80; ((with_reducible refine (bclone_calls code i2 0 A2 c2 os _ (Kd.R_reads' ROW6.out).2.2 (Kd.R_reads' ROW6.out).2.1 HN.out).mono ?_); rintro e w7 ⟨A3, c3, rfl, hR, hb⟩)
         have GX7 := Aside0.mk (blk_below GX6.out hb)
         have G7 := Aside0.mk (blk_below G6.out hb)
         have ROW7 := Aside0.mk (Kd.R_below ROW6.out hb)
         have HU7 := Aside0.mk (HU6.out.then_below hb)
         have HRR := Aside0.mk (Kd.R_lower hR (show w.heap.size ≤ w6.heap.size from HU6.out.size))
         clear hR hb b0 b1 b2 b3 p0 p1 p2 p3 G6 GX6 GB6 ROW6 HU6
         obtain ⟨j0, j1, j2, j3, q0, q1, q2, q3⟩ := four GX7.out))
    refine bodyPost_ret (v := .tuple #[.agg #[.int .i64 code, .int .i64 i2, .int .i64 0, .slice A3 os.length c3], .int .i64 0]) (by simp [results, Try.results43, go_sem, *]) rfl ?_
    have hU : Upd w ((((w7.setCell ⟨gr, 0, none⟩ (.int .i64 code)).setCell ⟨gr, 1, none⟩ (.int .i64 i2)).setCell ⟨gr, 2, none⟩ (.int .i64 0)).setCell ⟨gr, 3, none⟩ (.slice A3 os.length c3)) g :=
      (((HU7.out.set gr 0 (.inr hgr) _).set gr 1 (.inr hgr) _).set gr 2 (.inr hgr) _).set gr 3 (.inr hgr) _
    have hsz := SZ6.out
    have hsz0 := SZ.out
    rw [← HI2.out]
    refine ⟨A3, c3, w6.heap.size, rfl, by omega, ?_, ?_, hU⟩
    · repeat (refine Kd.R_far ?_ (fun k hk => by simp only; omega) _)
      exact HRR.out
    · refine ⟨A2, c2, A', c', blk_far (blk_far (blk_far (blk_far G7.out NE.out _) NE.out _) NE.out _) NE.out _, ?_, ?_⟩
      · refine Sees.mono (ok := fun k => w1.heap.size ≤ k ∧ k < w6.heap.size) (Sees.of_R (B := w1.heap.size) (n := os.length) ?_) (fun k hk => .inr ⟨by omega, hk.2⟩)
        repeat (refine Kd.R_far ?_ (fun k hk => by simp only; omega) _)
        exact ROW7.out
      · exact (HS'.out.step (fun k ho hk => hU.block k hk (HK.out k ho))).mono (fun k hk => .inl hk)
  · obtain ⟨w3, hw3⟩ : ∃ w3, w3 = ((((w2.setCell ⟨w1.heap.size, 0, none⟩ (.int .i64 code)).setCell ⟨w1.heap.size, 1, none⟩ (.int .i64 i2)).setCell ⟨w1.heap.size, 2, none⟩ (.int .i64 0)).setCell ⟨w1.heap.size, 3, none⟩ (.slice A2 os.length c2)) := ⟨_, rfl⟩
    obtain ⟨gb, hgb⟩ : ∃ gb, gb = w1.heap.size := ⟨_, rfl⟩
    have MID := Aside0.mk (show AskMid w1 w3 gb code i2 A2 c2 os by rw [hw3, hgb]; exact mid_A RA.out RB.out RC.out)
    rw [← hw3, ← hgb]
    clear hw3 hgb z7 y0 y1 y2 y3 x0 x1 x2 x3 RA RB RC HCA HCB
    have HB3 := Aside0.mk MID.out.below
    obtain ⟨b0, b1, b2, b3, p0, p1, p2, p3⟩ := four MID.out.blk
    have G3 := Aside0.mk (blk_below G1.out HB3.out)
    have GX3 := Aside0.mk (blk_below GX.out HB3.out)
    clear ne1 ne2 k7 gl1
    go_wp2_with (first
      | (go_at_call 54; ((with_reducible refine (bapmsg_Put.calls code i2 0 A2 c2 os s er _ (Kd.R_reads' MID.out.row).2.2 (Kd.R_reads' MID.out.row).2.1 HP.out).mono ?_); rintro e w4 ⟨rfl, hb⟩)
         have n0 := Aside0.mk (below_step HB3.out hb)
         have n1 := Aside0.mk (Kd.R_below MID.out.row hb)
         have n2 := Aside0.mk (blk_below MID.out.blk hb)
         have n3 := Aside0.mk (blk_below G3.out hb)
         have n4 := Aside0.mk (blk_below GX3.out hb)
         have NB := Aside0.mk MID.out.new
         clear HB3 G3 GX3 MID hb b0 b1 b2 b3 p0 p1 p2 p3
         have HB4 := n0; have ROW := n1; have GB := n2; have G4 := n3; have GX4 := n4
         clear n0 n1 n2 n3 n4
         obtain ⟨b0, b1, b2, b3, p0, p1, p2, p3⟩ := four GB.out
         obtain ⟨j0, j1, j2, j3, q0, q1, q2, q3⟩ := four GX4.out
         obtain ⟨k0, k1, k2, k3, k4, k5, k6, k7, k8, k9, k10, k11⟩ := tk_cells G4.out
         have s7 := tk_free G4.out 7
         clear k0 k1 k2 k3 k5 k6 k8 k9 k10 k11)
      | (go_at_call 67; ((with_reducible refine (elect_Request.calls code false _ (by rw [request_eq, RQ.out])).mono ?_); rintro e w' ⟨rfl, ⟨nd, rfl⟩⟩)))
    have hne : gb ≠ g := by have := NB.out; have := SZ.out; have := blk_lt H1.out; omega
    have hlg : g < w1.heap.size := blk_lt G1.out
    obtain ⟨w5, hw5⟩ : ∃ w5, w5 = (w4.drewN nd).setCell ⟨g, 7, none⟩ (.int .i64 i2) := ⟨_, rfl⟩
    have G5 := Aside0.mk (show w5.heap[g]? = some (.cells (tkCells { m with id := i2 } (.slice A m.ask.f3.length c) (.slice A' m.last.f3.length c')) 122 (0, 0)) by rw [hw5]; exact blk_put (blk_drewN G4.out nd) 7 _ rfl)
    have GB5 := Aside0.mk (show w5.heap[gb]? = some (.cells #[.int .i64 code, .int .i64 i2, .int .i64 0, .slice A2 os.length c2] 56 (0, 0)) by rw [hw5]; exact blk_far (blk_drewN GB.out nd) hne _)
    have GX5 := Aside0.mk (show w5.heap[gr]? = some (.cells #[.int .i64 0, .int .i64 0, .int .i64 0, .slice none 0 0] 56 (0, 0)) by rw [hw5]; exact blk_far (blk_drewN GX4.out nd) NE.out.symm _)
    have ROW5 := Aside0.mk (show Kd.R k46 46 w5 w1.heap.size (fun k => w1.heap.size ≤ k ∧ k ≠ gb) (.slice A2 os.length c2) os by rw [hw5]; exact Kd.R_far (Kd.R_drewN ROW.out nd) (fun k hk => by simp only; omega) _)
    have HU5 := Aside0.mk (show Upd w w5 g by rw [hw5]; exact ((HU.out.then_below HB4.out).drewN nd).set g 7 (.inl rfl) _)
    have SZ5 := Aside0.mk (show w1.heap.size ≤ w5.heap.size by rw [hw5]; have := below_size HB4.out; simpa [World.setCell] using this)
    rw [← hw5]
    clear hw5 G4 GB GX4 ROW HU HB4 b0 b1 b2 b3 p0 p1 p2 p3 j0 j1 j2 j3 q0 q1 q2 q3 k4 k7 s7 G1 GX HO1
    obtain ⟨b0, b1, b2, b3, p0, p1, p2, p3⟩ := four GB5.out
    have k6 : w5.cell? ⟨g, 6, none⟩ = some (.int .i64 m.tries) := (blk_cell G5.out 6).trans rfl
    have k0 : w5.cell? ⟨g, 0, none⟩ = some (.int .i64 m.ask.f0) := (blk_cell G5.out 0).trans rfl
    have k1 : w5.cell? ⟨g, 1, none⟩ = some (.int .i64 m.ask.f1) := (blk_cell G5.out 1).trans rfl
    have k2 : w5.cell? ⟨g, 2, none⟩ = some (.int .i64 m.ask.f2) := (blk_cell G5.out 2).trans rfl
    have k3 : w5.cell? ⟨g, 3, none⟩ = some (.slice A m.ask.f3.length c) := (blk_cell G5.out 3).trans rfl
    have k4 : w5.cell? ⟨g, 4, none⟩ = some (.int .i64 m.left) := (blk_cell G5.out 4).trans rfl
    have s0 := blk_frozen G5.out 0
    have s1 := blk_frozen G5.out 1
    have s2 := blk_frozen G5.out 2
    have s3 := blk_frozen G5.out 3
    have s4 := blk_frozen G5.out 4
    have hne' : g ≠ gb := hne.symm
    go_region_held3 (fun w' => w'.cell? ⟨gb, 0, none⟩ = some (.int .i64 code) ∧ w'.cell? ⟨gb, 1, none⟩ = some (.int .i64 i2) ∧ w'.cell? ⟨gb, 2, none⟩ = some (.int .i64 0) ∧ w'.cell? ⟨gb, 3, none⟩ = some (.slice A2 os.length c2) ∧ w'.cell? ⟨g, 6, none⟩ = some (.int .i64 m.tries)) (simp [*, World.cell?_alloc_some, World.cell?_setCell_far, World.cell?_setCell_other]) (fail)
    have hgr := GR.out
    have hgl := GL.out
    obtain ⟨w6, hw6⟩ : ∃ w6, w6 = (((((w5.setCell ⟨g, 0, none⟩ (.int .i64 code)).setCell ⟨g, 1, none⟩ (.int .i64 i2)).setCell ⟨g, 2, none⟩ (.int .i64 0)).setCell ⟨g, 3, none⟩ (.slice A2 os.length c2)).setCell ⟨g, 4, none⟩ (.int .i64 m.tries)).drew := ⟨_, rfl⟩
    have G6 := Aside0.mk (show w6.heap[g]? = some (.cells (tkCells { m with id := i2, ask := ⟨code, i2, 0, os⟩, left := m.tries } (.slice A2 os.length c2) (.slice A' m.last.f3.length c')) 122 (0, 0)) by rw [hw6]; exact blk_drew (blk_put (blk_put (blk_put (blk_put (blk_put G5.out 0 _ rfl) 1 _ rfl) 2 _ rfl) 3 _ rfl) 4 _ rfl))
    have GB6 := Aside0.mk (show w6.heap[gb]? = some (.cells #[.int .i64 code, .int .i64 i2, .int .i64 0, .slice A2 os.length c2] 56 (0, 0)) by rw [hw6]; exact blk_drew (blk_far (blk_far (blk_far (blk_far (blk_far GB5.out hne _) hne _) hne _) hne _) hne _))
    have GX6 := Aside0.mk (show w6.heap[gr]? = some (.cells #[.int .i64 0, .int .i64 0, .int .i64 0, .slice none 0 0] 56 (0, 0)) by rw [hw6]; exact blk_drew (blk_far (blk_far (blk_far (blk_far (blk_far GX5.out NE.out.symm _) NE.out.symm _) NE.out.symm _) NE.out.symm _) NE.out.symm _))
    have ROW6 := Aside0.mk (show Kd.R k46 46 w6 w1.heap.size (fun k => w1.heap.size ≤ k ∧ k < w6.heap.size) (.slice A2 os.length c2) os from Kd.R_mono (Kd.R_bound (show Kd.R k46 46 w6 w1.heap.size (fun k => w1.heap.size ≤ k ∧ k ≠ gb) (.slice A2 os.length c2) os by
      rw [hw6]
      refine Kd.R_drew ?_
      repeat (refine Kd.R_far ?_ (fun k hk => by simp only; omega) _)
      exact ROW5.out)) (fun k hk => ⟨hk.1.1, hk.2.2.1⟩))
    have HU6 := Aside0.mk (show Upd w w6 g by rw [hw6]; exact (((((HU5.out.set g 0 (.inl rfl) _).set g 1 (.inl rfl) _).set g 2 (.inl rfl) _).set g 3 (.inl rfl) _).set g 4 (.inl rfl) _).drew)
    have SZ6 := Aside0.mk (show w1.heap.size ≤ w6.heap.size by rw [hw6]; simpa [World.setCell] using SZ5.out)
    rw [← hw6]
    clear hw6 G5 GB5 GX5 ROW5 HU5 SZ5 b0 b1 b2 b3 p0 p1 p2 p3 k0 k1 k2 k3 k4 k6 s0 s1 s2 s3 s4 hne hne'
    obtain ⟨b0, b1, b2, b3, p0, p1, p2, p3⟩ := four GB6.out
    go_wp2_with (first
      | (go_at_call 80; ((with_reducible refine (bclone_calls code i2 0 A2 c2 os _ (Kd.R_reads' ROW6.out).2.2 (Kd.R_reads' ROW6.out).2.1 HN.out).mono ?_); rintro e w7 ⟨A3, c3, rfl, hR, hb⟩)
         have GX7 := Aside0.mk (blk_below GX6.out hb)
         have G7 := Aside0.mk (blk_below G6.out hb)
         have ROW7 := Aside0.mk (Kd.R_below ROW6.out hb)
         have HU7 := Aside0.mk (HU6.out.then_below hb)
         have HRR := Aside0.mk (Kd.R_lower hR (show w.heap.size ≤ w6.heap.size from HU6.out.size))
         clear hR hb b0 b1 b2 b3 p0 p1 p2 p3 G6 GX6 GB6 ROW6 HU6
         obtain ⟨j0, j1, j2, j3, q0, q1, q2, q3⟩ := four GX7.out))
    refine bodyPost_ret (v := .tuple #[.agg #[.int .i64 code, .int .i64 i2, .int .i64 0, .slice A3 os.length c3], .int .i64 0]) (by simp [results, Try.results43, go_sem, *]) rfl ?_
    have hU : Upd w ((((w7.setCell ⟨gr, 0, none⟩ (.int .i64 code)).setCell ⟨gr, 1, none⟩ (.int .i64 i2)).setCell ⟨gr, 2, none⟩ (.int .i64 0)).setCell ⟨gr, 3, none⟩ (.slice A3 os.length c3)) g :=
      (((HU7.out.set gr 0 (.inr hgr) _).set gr 1 (.inr hgr) _).set gr 2 (.inr hgr) _).set gr 3 (.inr hgr) _
    have hsz := SZ6.out
    have hsz0 := SZ.out
    rw [← HI2.out]
    refine ⟨A3, c3, w6.heap.size, rfl, by omega, ?_, ?_, hU⟩
    · repeat (refine Kd.R_far ?_ (fun k hk => by simp only; omega) _)
      exact HRR.out
    · refine ⟨A2, c2, A', c', blk_far (blk_far (blk_far (blk_far G7.out NE.out _) NE.out _) NE.out _) NE.out _, ?_, ?_⟩
      · refine Sees.mono (ok := fun k => w1.heap.size ≤ k ∧ k < w6.heap.size) (Sees.of_R (B := w1.heap.size) (n := os.length) ?_) (fun k hk => .inr ⟨by omega, hk.2⟩)
        repeat (refine Kd.R_far ?_ (fun k hk => by simp only; omega) _)
        exact ROW7.out
      · exact (HS'.out.step (fun k ho hk => hU.block k hk (HK.out k ho))).mono (fun k hk => .inl hk)
end Go.Proofs.Ytbdlkcgaobkdcaa.P
end

/- The contracts of package bap's request and Take; conditions: a side's state lies in one block of twelve cells, its options and the datagram's are fewer than memory holds. -/
import Derived.Test.YtbdlkcgaobkdcaaTalkF
import Derived.Test.YtbdlkcgaobkdcaaPx40
import Derived.RegionTactic
import Derived.BigQuiet
import Derived.Deep.QuietTactic
set_option linter.unusedVariables false
set_option linter.unusedSimpArgs false
section
namespace Go.Proofs.Ytbdlkcgaobkdcaa.P
open Go.RowKit Go.Proofs.YtbdlkcgaobkdcaaW.PrintWords Go.Proofs.YtbdlkcgaobkdcaaW.PrintLast Go.Proofs.YtbdlkcgaobkdcaaW.PrintMore
attribute [local go_sem] max2_int min2_int max_two min_two max_three min_three max_four min_four

/-- What request leaves: one datagram in a row of its own. -/
def Answered (w : World) (g : Nat) (ok : Nat → Prop) (m : Tk) (b : S56) (e : Ending) (w' : World) : Prop := ∃ (gs : Nat) (A : Option Addr) (c : Nat),
  e = .returned (.slice (some ⟨gs, 0, none⟩) 1 1) ∧ w'.heap[gs]? = some (.cells #[.int .i64 b.f0, .int .i64 b.f1, .int .i64 b.f2, .slice A b.f3.length c] 56 (0, 0)) ∧ w.heap.size ≤ gs ∧
  Kd.R k46 46 w' w.heap.size (fun k => w.heap.size ≤ k ∧ k ≠ gs) (.slice A b.f3.length c) b.f3 ∧ TkAt w' g ok m ∧ Upd w w' g
theorem cross_eq (f : Bool) (x y : Int) : elect_Crossed.f f x y = some (crossB f x y) := by
  unfold elect_Crossed.f crossB
  cases hxy : ((x == 5) == (y == 5)) with
  | true => simp [bne, hxy]
  | false => simp [bne, hxy]
/-- The call among reads, where draws stand already. -/
theorem crossed_quiet (f : Bool) (x y : Int) (r : Bool) (w : World) (a n : Nat) (h : crossB f x y = r) : Calls Try.prog 68 #[.bool f, .int .i64 x, .int .i64 y] (w.drewN (a + n)) fun e w' => e = .returned (.bool r) ∧ ∃ k, w' = w.drewN (a + k) := by
  refine (elect_Crossed.calls f x y r _ (by rw [cross_eq, h])).mono fun e w' ⟨h1, h2⟩ => ?_
  obtain ⟨k, hk⟩ := h2.out
  exact ⟨h1, n + k, by rw [hk, World.drewN_drewN, Nat.add_assoc]⟩
set_option maxHeartbeats 8000000 in
set_option maxRecDepth 100000 in
theorem req_idle_true (g : Nat) (ok oko : Nat → Prop) (m : Tk) (c i a : Int) (B : Option Addr) (d : Nat) (os : List S46) (w : World) (h : TkAt w g ok m) (hok : ∀ k, ok k → k ≠ g) (ho : Sees w oko B d os) (hoko : ∀ k, oko k → k ≠ g) (hn : os.length < 5864062014805) (hc0 : 0 ≤ c) (hc9 : c ≤ 255) (hl : m.left = 0) :
    Calls Try.prog 81 #[.pointer (some ⟨g, 0, none⟩), .agg #[.int .i64 c, .int .i64 i, .int .i64 a, .slice B os.length d], .bool true] w (Answered w g ok m ⟨c + 1, i, 0, os⟩) := by
  obtain ⟨A, cc, A', cc', h1, hs, hs'⟩ := h
  have H1 := Aside0.mk h1
  have HS := Aside0.mk hs
  have HS' := Aside0.mk hs'
  have HK := Aside0.mk hok
  have HO := Aside0.mk ho
  have HKO := Aside0.mk hoko
  have HN := Aside0.mk hn
  obtain ⟨c1, hc1⟩ : ∃ c1, c1 = c + 1 := ⟨_, rfl⟩
  have ec : IntKind.i64.wrap (c + 1) = c1 := by rw [IntKind.wrap_i64]; omega
  have HC1 := Aside0.mk hc1
  clear hc1
  have el : decide (0 < m.left) = false := decide_eq_false (by omega)
  clear hl
  have RQ : Aside0 (reqB m.ask.f0 = reqB m.ask.f0) := ⟨rfl⟩
  clear h1 hs hs' hok ho hoko hn
  have hu122 := Try.underlying122
  have hu120 := Try.underlying120
  have hu56 := Try.underlying56
  go_enter Try.func81, Try.ntmps81
  go_wp2_with (first
    | ((with_reducible refine gate_dst (N := 4) rfl ?_); refine box_event ?hg (N := 4) ?hd (cs := #[.int .i64 c, .int .i64 i, .int .i64 a, .slice B os.length d]) (t := 56) ?hr ?_; (case hd => rfl); (case hg => rfl); (case hr => first | (go_simp; done) | (go_simp; rfl)); intro gx hg w1 hbox hb
       have GR := Aside0.mk (show w.heap.size ≤ gx by rw [hg]; exact Nat.le_refl _)
       have GX := Aside0.mk hbox
       have G1 := Aside0.mk (blk_below H1.out hb)
       obtain ⟨j0, j1, j2, j3, q0, q1, q2, q3⟩ := four hbox
       obtain ⟨k0, k1, k2, k3, k4, k5, k6, k7, k8, k9, k10, k11⟩ := tk_cells G1.out
       have s4 := tk_free G1.out 4
       have gl1 := blk_lt G1.out
       have ne1 : w1.heap.size ≠ g := Nat.ne_of_gt gl1
       have ne2 : w1.heap.size ≠ gx := Nat.ne_of_gt (blk_lt hbox)
       have HU := Aside0.mk (Upd.of_below hb g)
       have NE := Aside0.mk (show g ≠ gx by have := blk_lt H1.out; omega)
       have nx : g ≠ gx := NE.out
       have nx' : gx ≠ g := NE.out.symm
       clear hg hbox hb)
    | (go_at_call 67; ((with_reducible refine (elect_Request.calls m.ask.f0 _ _ (by rw [request_eq, RQ.out])).mono ?_); rintro e w' ⟨rfl, ⟨nd, rfl⟩⟩)))
  go_region_held3 (fun w' => w'.cell? ⟨gx, 0, none⟩ = some (.int .i64 c) ∧ w'.cell? ⟨gx, 1, none⟩ = some (.int .i64 i) ∧ w'.cell? ⟨gx, 3, none⟩ = some (.slice B os.length d)) (go_keep)
    (first
      | (go_at_call 79; ((refine (clone_calls B d os _ ((HO.out.step (fun k ho hk => (HU.out.drew).block k hk (HKO.out k ho))).C) HN.out).mono ?_); rintro e w2 ⟨A2, c2, rfl, hR, hb⟩)
         have GX2 := Aside0.mk (blk_below (blk_drew GX.out) hb)
         obtain ⟨z0, z1, z2, z3, x0, x1, x2, x3⟩ := four GX2.out
         have zn : w2.heap.size ≠ gx := Nat.ne_of_gt (blk_lt GX2.out)
         clear z2 x0 x1 x2 x3
         have G2 := Aside0.mk (blk_below (blk_drew G1.out) hb)
         have HU2 := Aside0.mk ((HU.out.drew).then_below hb)
         have HRR := Aside0.mk (R_sizes (B' := w.heap.size) hR (HU.out.drew).size)
         clear hR hb))
  go_wp2
  go_ret
  have hU : Upd w (w2.alloc (.cells #[.int .i64 c1, .int .i64 i, .int .i64 0, .slice A2 os.length c2] 56)) g := HU2.out.alloc _
  rw [← HC1.out]
  refine ⟨w2.heap.size, A2, c2, rfl, heap_alloc_new _ _, HU2.out.size, ?_, ?_, hU⟩
  · exact Kd.R_alloc (Kd.R_mono (Kd.R_bound HRR.out) (fun k hk => ⟨hk.2.1, Nat.ne_of_lt hk.2.2.1⟩)) _
  · exact TkAt.turn (m := m) (blk_alloc G2.out _) HS.out HS'.out hU HK.out
set_option maxHeartbeats 8000000 in
set_option maxRecDepth 100000 in
theorem req_status_true (g : Nat) (ok oko : Nat → Prop) (m : Tk) (c i a : Int) (B : Option Addr) (d : Nat) (os : List S46) (w : World) (h : TkAt w g ok m) (hok : ∀ k, ok k → k ≠ g) (ho : Sees w oko B d os) (hoko : ∀ k, oko k → k ≠ g) (hn : os.length < 5864062014805) (hc0 : 0 ≤ c) (hc9 : c ≤ 255) (hl : 0 < m.left) (hq : reqB m.ask.f0 = false) :
    Calls Try.prog 81 #[.pointer (some ⟨g, 0, none⟩), .agg #[.int .i64 c, .int .i64 i, .int .i64 a, .slice B os.length d], .bool true] w (Answered w g ok m ⟨c + 1, i, 0, os⟩) := by
  obtain ⟨A, cc, A', cc', h1, hs, hs'⟩ := h
  have H1 := Aside0.mk h1
  have HS := Aside0.mk hs
  have HS' := Aside0.mk hs'
  have HK := Aside0.mk hok
  have HO := Aside0.mk ho
  have HKO := Aside0.mk hoko
  have HN := Aside0.mk hn
  obtain ⟨c1, hc1⟩ : ∃ c1, c1 = c + 1 := ⟨_, rfl⟩
  have ec : IntKind.i64.wrap (c + 1) = c1 := by rw [IntKind.wrap_i64]; omega
  have HC1 := Aside0.mk hc1
  clear hc1
  have el : decide (0 < m.left) = true := decide_eq_true hl
  clear hl
  have RQ := Aside0.mk hq
  clear hq
  clear h1 hs hs' hok ho hoko hn
  have hu122 := Try.underlying122
  have hu120 := Try.underlying120
  have hu56 := Try.underlying56
  go_enter Try.func81, Try.ntmps81
  go_wp2_with (first
    | ((with_reducible refine gate_dst (N := 4) rfl ?_); refine box_event ?hg (N := 4) ?hd (cs := #[.int .i64 c, .int .i64 i, .int .i64 a, .slice B os.length d]) (t := 56) ?hr ?_; (case hd => rfl); (case hg => rfl); (case hr => first | (go_simp; done) | (go_simp; rfl)); intro gx hg w1 hbox hb
       have GR := Aside0.mk (show w.heap.size ≤ gx by rw [hg]; exact Nat.le_refl _)
       have GX := Aside0.mk hbox
       have G1 := Aside0.mk (blk_below H1.out hb)
       obtain ⟨j0, j1, j2, j3, q0, q1, q2, q3⟩ := four hbox
       obtain ⟨k0, k1, k2, k3, k4, k5, k6, k7, k8, k9, k10, k11⟩ := tk_cells G1.out
       have s4 := tk_free G1.out 4
       have gl1 := blk_lt G1.out
       have ne1 : w1.heap.size ≠ g := Nat.ne_of_gt gl1
       have ne2 : w1.heap.size ≠ gx := Nat.ne_of_gt (blk_lt hbox)
       have HU := Aside0.mk (Upd.of_below hb g)
       have NE := Aside0.mk (show g ≠ gx by have := blk_lt H1.out; omega)
       have nx : g ≠ gx := NE.out
       have nx' : gx ≠ g := NE.out.symm
       clear hg hbox hb)
    | (go_at_call 67; ((with_reducible refine (elect_Request.calls m.ask.f0 _ _ (by rw [request_eq, RQ.out])).mono ?_); rintro e w' ⟨rfl, ⟨nd, rfl⟩⟩)))
  go_region_held3 (fun w' => w'.cell? ⟨gx, 0, none⟩ = some (.int .i64 c) ∧ w'.cell? ⟨gx, 1, none⟩ = some (.int .i64 i) ∧ w'.cell? ⟨gx, 3, none⟩ = some (.slice B os.length d)) (go_keep)
    (first
      | (go_at_call 79; ((refine (clone_calls B d os _ ((HO.out.step (fun k ho hk => ((HU.out.drewN _).drew).block k hk (HKO.out k ho))).C) HN.out).mono ?_); rintro e w2 ⟨A2, c2, rfl, hR, hb⟩)
         have GX2 := Aside0.mk (blk_below (blk_drew (blk_drewN GX.out _)) hb)
         obtain ⟨z0, z1, z2, z3, x0, x1, x2, x3⟩ := four GX2.out
         have zn : w2.heap.size ≠ gx := Nat.ne_of_gt (blk_lt GX2.out)
         clear z2 x0 x1 x2 x3
         have G2 := Aside0.mk (blk_below (blk_drew (blk_drewN G1.out _)) hb)
         have HU2 := Aside0.mk (((HU.out.drewN _).drew).then_below hb)
         have HRR := Aside0.mk (R_sizes (B' := w.heap.size) hR ((HU.out.drewN _).drew).size)
         clear hR hb))
  go_wp2
  go_ret
  have hU : Upd w (w2.alloc (.cells #[.int .i64 c1, .int .i64 i, .int .i64 0, .slice A2 os.length c2] 56)) g := HU2.out.alloc _
  rw [← HC1.out]
  refine ⟨w2.heap.size, A2, c2, rfl, heap_alloc_new _ _, HU2.out.size, ?_, ?_, hU⟩
  · exact Kd.R_alloc (Kd.R_mono (Kd.R_bound HRR.out) (fun k hk => ⟨hk.2.1, Nat.ne_of_lt hk.2.2.1⟩)) _
  · exact TkAt.turn (m := m) (blk_alloc G2.out _) HS.out HS'.out hU HK.out
set_option maxHeartbeats 8000000 in
set_option maxRecDepth 100000 in
theorem req_wins_true (g : Nat) (ok oko : Nat → Prop) (m : Tk) (c i a : Int) (B : Option Addr) (d : Nat) (os : List S46) (w : World) (h : TkAt w g ok m) (hok : ∀ k, ok k → k ≠ g) (ho : Sees w oko B d os) (hoko : ∀ k, oko k → k ≠ g) (hn : os.length < 5864062014805) (hc0 : 0 ≤ c) (hc9 : c ≤ 255) (hl : 0 < m.left) (hq : reqB m.ask.f0 = true) (hx : crossB m.fav m.ask.f0 c = true) :
    Calls Try.prog 81 #[.pointer (some ⟨g, 0, none⟩), .agg #[.int .i64 c, .int .i64 i, .int .i64 a, .slice B os.length d], .bool true] w (Answered w g ok m ⟨c + 1, i, 1, os⟩) := by
  obtain ⟨A, cc, A', cc', h1, hs, hs'⟩ := h
  have H1 := Aside0.mk h1
  have HS := Aside0.mk hs
  have HS' := Aside0.mk hs'
  have HK := Aside0.mk hok
  have HO := Aside0.mk ho
  have HKO := Aside0.mk hoko
  have HN := Aside0.mk hn
  obtain ⟨c1, hc1⟩ : ∃ c1, c1 = c + 1 := ⟨_, rfl⟩
  have ec : IntKind.i64.wrap (c + 1) = c1 := by rw [IntKind.wrap_i64]; omega
  have HC1 := Aside0.mk hc1
  clear hc1
  have el : decide (0 < m.left) = true := decide_eq_true hl
  clear hl
  have RQ := Aside0.mk hq
  clear hq
  have RC := Aside0.mk hx
  clear hx
  clear h1 hs hs' hok ho hoko hn
  have hu122 := Try.underlying122
  have hu120 := Try.underlying120
  have hu56 := Try.underlying56
  go_enter Try.func81, Try.ntmps81
  go_wp2_with (first
    | ((with_reducible refine gate_dst (N := 4) rfl ?_); refine box_event ?hg (N := 4) ?hd (cs := #[.int .i64 c, .int .i64 i, .int .i64 a, .slice B os.length d]) (t := 56) ?hr ?_; (case hd => rfl); (case hg => rfl); (case hr => first | (go_simp; done) | (go_simp; rfl)); intro gx hg w1 hbox hb
       have GR := Aside0.mk (show w.heap.size ≤ gx by rw [hg]; exact Nat.le_refl _)
       have GX := Aside0.mk hbox
       have G1 := Aside0.mk (blk_below H1.out hb)
       obtain ⟨j0, j1, j2, j3, q0, q1, q2, q3⟩ := four hbox
       obtain ⟨k0, k1, k2, k3, k4, k5, k6, k7, k8, k9, k10, k11⟩ := tk_cells G1.out
       have s4 := tk_free G1.out 4
       have gl1 := blk_lt G1.out
       have ne1 : w1.heap.size ≠ g := Nat.ne_of_gt gl1
       have ne2 : w1.heap.size ≠ gx := Nat.ne_of_gt (blk_lt hbox)
       have HU := Aside0.mk (Upd.of_below hb g)
       have NE := Aside0.mk (show g ≠ gx by have := blk_lt H1.out; omega)
       have nx : g ≠ gx := NE.out
       have nx' : gx ≠ g := NE.out.symm
       clear hg hbox hb)
    | (go_at_call 67; ((with_reducible refine (elect_Request.calls m.ask.f0 _ _ (by rw [request_eq, RQ.out])).mono ?_); rintro e w' ⟨rfl, ⟨nd, rfl⟩⟩)))
  go_quiet ((go_at_call 68; exact crossed_quiet m.fav m.ask.f0 c _ _ _ _ RC.out))
  go_wp2
  go_region_held3 (fun w' => w'.cell? ⟨gx, 0, none⟩ = some (.int .i64 c) ∧ w'.cell? ⟨gx, 1, none⟩ = some (.int .i64 i) ∧ w'.cell? ⟨gx, 3, none⟩ = some (.slice B os.length d)) (go_keep)
    (first
      | (go_at_call 79; ((refine (clone_calls B d os _ ((HO.out.step (fun k ho hk => ((HU.out.drewN _).drew).block k hk (HKO.out k ho))).C) HN.out).mono ?_); rintro e w2 ⟨A2, c2, rfl, hR, hb⟩)
         have GX2 := Aside0.mk (blk_below (blk_drew (blk_drewN GX.out _)) hb)
         obtain ⟨z0, z1, z2, z3, x0, x1, x2, x3⟩ := four GX2.out
         have zn : w2.heap.size ≠ gx := Nat.ne_of_gt (blk_lt GX2.out)
         clear z2 x0 x1 x2 x3
         have G2 := Aside0.mk (blk_below (blk_drew (blk_drewN G1.out _)) hb)
         have HU2 := Aside0.mk (((HU.out.drewN _).drew).then_below hb)
         have HRR := Aside0.mk (R_sizes (B' := w.heap.size) hR ((HU.out.drewN _).drew).size)
         clear hR hb))
  go_wp2
  go_ret
  have hU : Upd w (w2.alloc (.cells #[.int .i64 c1, .int .i64 i, .int .i64 1, .slice A2 os.length c2] 56)) g := HU2.out.alloc _
  rw [← HC1.out]
  refine ⟨w2.heap.size, A2, c2, rfl, heap_alloc_new _ _, HU2.out.size, ?_, ?_, hU⟩
  · exact Kd.R_alloc (Kd.R_mono (Kd.R_bound HRR.out) (fun k hk => ⟨hk.2.1, Nat.ne_of_lt hk.2.2.1⟩)) _
  · exact TkAt.turn (m := m) (blk_alloc G2.out _) HS.out HS'.out hU HK.out
set_option maxHeartbeats 8000000 in
set_option maxRecDepth 100000 in
theorem req_gives_true (g : Nat) (ok oko : Nat → Prop) (m : Tk) (c i a : Int) (B : Option Addr) (d : Nat) (os : List S46) (w : World) (h : TkAt w g ok m) (hok : ∀ k, ok k → k ≠ g) (ho : Sees w oko B d os) (hoko : ∀ k, oko k → k ≠ g) (hn : os.length < 5864062014805) (hc0 : 0 ≤ c) (hc9 : c ≤ 255) (hl : 0 < m.left) (hq : reqB m.ask.f0 = true) (hx : crossB m.fav m.ask.f0 c = false) :
    Calls Try.prog 81 #[.pointer (some ⟨g, 0, none⟩), .agg #[.int .i64 c, .int .i64 i, .int .i64 a, .slice B os.length d], .bool true] w (Answered w g ok { m with left := 0 } ⟨c + 1, i, 0, os⟩) := by
  obtain ⟨A, cc, A', cc', h1, hs, hs'⟩ := h
  have H1 := Aside0.mk h1
  have HS := Aside0.mk hs
  have HS' := Aside0.mk hs'
  have HK := Aside0.mk hok
  have HO := Aside0.mk ho
  have HKO := Aside0.mk hoko
  have HN := Aside0.mk hn
  obtain ⟨c1, hc1⟩ : ∃ c1, c1 = c + 1 := ⟨_, rfl⟩
  have ec : IntKind.i64.wrap (c + 1) = c1 := by rw [IntKind.wrap_i64]; omega
  have HC1 := Aside0.mk hc1
  clear hc1
  have el : decide (0 < m.left) = true := decide_eq_true hl
  clear hl
  have RQ := Aside0.mk hq
  clear hq
  have RC := Aside0.mk hx
  clear hx
  clear h1 hs hs' hok ho hoko hn
  have hu122 := Try.underlying122
  have hu120 := Try.underlying120
  have hu56 := Try.underlying56
  go_enter Try.func81, Try.ntmps81
  go_wp2_with (first
    | ((with_reducible refine gate_dst (N := 4) rfl ?_); refine box_event ?hg (N := 4) ?hd (cs := #[.int .i64 c, .int .i64 i, .int .i64 a, .slice B os.length d]) (t := 56) ?hr ?_; (case hd => rfl); (case hg => rfl); (case hr => first | (go_simp; done) | (go_simp; rfl)); intro gx hg w1 hbox hb
       have GR := Aside0.mk (show w.heap.size ≤ gx by rw [hg]; exact Nat.le_refl _)
       have GX := Aside0.mk hbox
       have G1 := Aside0.mk (blk_below H1.out hb)
       obtain ⟨j0, j1, j2, j3, q0, q1, q2, q3⟩ := four hbox
       obtain ⟨k0, k1, k2, k3, k4, k5, k6, k7, k8, k9, k10, k11⟩ := tk_cells G1.out
       have s4 := tk_free G1.out 4
       have gl1 := blk_lt G1.out
       have ne1 : w1.heap.size ≠ g := Nat.ne_of_gt gl1
       have ne2 : w1.heap.size ≠ gx := Nat.ne_of_gt (blk_lt hbox)
       have HU := Aside0.mk (Upd.of_below hb g)
       have NE := Aside0.mk (show g ≠ gx by have := blk_lt H1.out; omega)
       have nx : g ≠ gx := NE.out
       have nx' : gx ≠ g := NE.out.symm
       clear hg hbox hb)
    | (go_at_call 67; ((with_reducible refine (elect_Request.calls m.ask.f0 _ _ (by rw [request_eq, RQ.out])).mono ?_); rintro e w' ⟨rfl, ⟨nd, rfl⟩⟩)))
  go_quiet ((go_at_call 68; exact crossed_quiet m.fav m.ask.f0 c _ _ _ _ RC.out))
  go_wp2
  go_region_held3 (fun w' => w'.cell? ⟨gx, 0, none⟩ = some (.int .i64 c) ∧ w'.cell? ⟨gx, 1, none⟩ = some (.int .i64 i) ∧ w'.cell? ⟨gx, 3, none⟩ = some (.slice B os.length d)) (go_keep)
    (first
      | (go_at_call 79; ((refine (clone_calls B d os _ ((HO.out.step (fun k ho hk => (((HU.out.drewN _).set g 4 (.inl rfl) _).drew).block k hk (HKO.out k ho))).C) HN.out).mono ?_); rintro e w2 ⟨A2, c2, rfl, hR, hb⟩)
         have GX2 := Aside0.mk (blk_below (blk_drew (blk_far (blk_drewN GX.out _) NE.out.symm _)) hb)
         obtain ⟨z0, z1, z2, z3, x0, x1, x2, x3⟩ := four GX2.out
         have zn : w2.heap.size ≠ gx := Nat.ne_of_gt (blk_lt GX2.out)
         clear z2 x0 x1 x2 x3
         have G2 := Aside0.mk (blk_below (blk_drew (blk_put (blk_drewN G1.out _) 4 _ rfl)) hb)
         have HU2 := Aside0.mk ((((HU.out.drewN _).set g 4 (.inl rfl) _).drew).then_below hb)
         have HRR := Aside0.mk (R_sizes (B' := w.heap.size) hR (((HU.out.drewN _).set g 4 (.inl rfl) _).drew).size)
         clear hR hb))
  go_wp2
  go_ret
  have hU : Upd w (w2.alloc (.cells #[.int .i64 c1, .int .i64 i, .int .i64 0, .slice A2 os.length c2] 56)) g := HU2.out.alloc _
  rw [← HC1.out]
  refine ⟨w2.heap.size, A2, c2, rfl, heap_alloc_new _ _, HU2.out.size, ?_, ?_, hU⟩
  · exact Kd.R_alloc (Kd.R_mono (Kd.R_bound HRR.out) (fun k hk => ⟨hk.2.1, Nat.ne_of_lt hk.2.2.1⟩)) _
  · exact TkAt.turn (m := { m with left := 0 }) (blk_alloc G2.out _) HS.out HS'.out hU HK.out
set_option maxHeartbeats 8000000 in
set_option maxRecDepth 100000 in
theorem req_idle_false (g : Nat) (ok oko : Nat → Prop) (m : Tk) (c i a : Int) (B : Option Addr) (d : Nat) (os : List S46) (w : World) (h : TkAt w g ok m) (hok : ∀ k, ok k → k ≠ g) (ho : Sees w oko B d os) (hoko : ∀ k, oko k → k ≠ g) (hn : os.length < 5864062014805) (hc0 : 0 ≤ c) (hc9 : c ≤ 255) (hl : m.left = 0) :
    Calls Try.prog 81 #[.pointer (some ⟨g, 0, none⟩), .agg #[.int .i64 c, .int .i64 i, .int .i64 a, .slice B os.length d], .bool false] w (Answered w g ok m ⟨c + 1, i, 1, os⟩) := by
  obtain ⟨A, cc, A', cc', h1, hs, hs'⟩ := h
  have H1 := Aside0.mk h1
  have HS := Aside0.mk hs
  have HS' := Aside0.mk hs'
  have HK := Aside0.mk hok
  have HO := Aside0.mk ho
  have HKO := Aside0.mk hoko
  have HN := Aside0.mk hn
  obtain ⟨c1, hc1⟩ : ∃ c1, c1 = c + 1 := ⟨_, rfl⟩
  have ec : IntKind.i64.wrap (c + 1) = c1 := by rw [IntKind.wrap_i64]; omega
  have HC1 := Aside0.mk hc1
  clear hc1
  have el : decide (0 < m.left) = false := decide_eq_false (by omega)
  clear hl
  have RQ : Aside0 (reqB m.ask.f0 = reqB m.ask.f0) := ⟨rfl⟩
  clear h1 hs hs' hok ho hoko hn
  have hu122 := Try.underlying122
  have hu120 := Try.underlying120
  have hu56 := Try.underlying56
  go_enter Try.func81, Try.ntmps81
  go_wp2_with (first
    | ((with_reducible refine gate_dst (N := 4) rfl ?_); refine box_event ?hg (N := 4) ?hd (cs := #[.int .i64 c, .int .i64 i, .int .i64 a, .slice B os.length d]) (t := 56) ?hr ?_; (case hd => rfl); (case hg => rfl); (case hr => first | (go_simp; done) | (go_simp; rfl)); intro gx hg w1 hbox hb
       have GR := Aside0.mk (show w.heap.size ≤ gx by rw [hg]; exact Nat.le_refl _)
       have GX := Aside0.mk hbox
       have G1 := Aside0.mk (blk_below H1.out hb)
       obtain ⟨j0, j1, j2, j3, q0, q1, q2, q3⟩ := four hbox
       obtain ⟨k0, k1, k2, k3, k4, k5, k6, k7, k8, k9, k10, k11⟩ := tk_cells G1.out
       have s4 := tk_free G1.out 4
       have gl1 := blk_lt G1.out
       have ne1 : w1.heap.size ≠ g := Nat.ne_of_gt gl1
       have ne2 : w1.heap.size ≠ gx := Nat.ne_of_gt (blk_lt hbox)
       have HU := Aside0.mk (Upd.of_below hb g)
       have NE := Aside0.mk (show g ≠ gx by have := blk_lt H1.out; omega)
       have nx : g ≠ gx := NE.out
       have nx' : gx ≠ g := NE.out.symm
       clear hg hbox hb)
    | (go_at_call 67; ((with_reducible refine (elect_Request.calls m.ask.f0 _ _ (by rw [request_eq, RQ.out])).mono ?_); rintro e w' ⟨rfl, ⟨nd, rfl⟩⟩)))
  go_region_held3 (fun w' => w'.cell? ⟨gx, 0, none⟩ = some (.int .i64 c) ∧ w'.cell? ⟨gx, 1, none⟩ = some (.int .i64 i) ∧ w'.cell? ⟨gx, 3, none⟩ = some (.slice B os.length d)) (go_keep)
    (first
      | (go_at_call 79; ((refine (clone_calls B d os _ ((HO.out.step (fun k ho hk => (HU.out.drew).block k hk (HKO.out k ho))).C) HN.out).mono ?_); rintro e w2 ⟨A2, c2, rfl, hR, hb⟩)
         have GX2 := Aside0.mk (blk_below (blk_drew GX.out) hb)
         obtain ⟨z0, z1, z2, z3, x0, x1, x2, x3⟩ := four GX2.out
         have zn : w2.heap.size ≠ gx := Nat.ne_of_gt (blk_lt GX2.out)
         clear z2 x0 x1 x2 x3
         have G2 := Aside0.mk (blk_below (blk_drew G1.out) hb)
         have HU2 := Aside0.mk ((HU.out.drew).then_below hb)
         have HRR := Aside0.mk (R_sizes (B' := w.heap.size) hR (HU.out.drew).size)
         clear hR hb))
  go_wp2
  go_ret
  have hU : Upd w (w2.alloc (.cells #[.int .i64 c1, .int .i64 i, .int .i64 1, .slice A2 os.length c2] 56)) g := HU2.out.alloc _
  rw [← HC1.out]
  refine ⟨w2.heap.size, A2, c2, rfl, heap_alloc_new _ _, HU2.out.size, ?_, ?_, hU⟩
  · exact Kd.R_alloc (Kd.R_mono (Kd.R_bound HRR.out) (fun k hk => ⟨hk.2.1, Nat.ne_of_lt hk.2.2.1⟩)) _
  · exact TkAt.turn (m := m) (blk_alloc G2.out _) HS.out HS'.out hU HK.out
set_option maxHeartbeats 8000000 in
set_option maxRecDepth 100000 in
theorem req_status_false (g : Nat) (ok oko : Nat → Prop) (m : Tk) (c i a : Int) (B : Option Addr) (d : Nat) (os : List S46) (w : World) (h : TkAt w g ok m) (hok : ∀ k, ok k → k ≠ g) (ho : Sees w oko B d os) (hoko : ∀ k, oko k → k ≠ g) (hn : os.length < 5864062014805) (hc0 : 0 ≤ c) (hc9 : c ≤ 255) (hl : 0 < m.left) (hq : reqB m.ask.f0 = false) :
    Calls Try.prog 81 #[.pointer (some ⟨g, 0, none⟩), .agg #[.int .i64 c, .int .i64 i, .int .i64 a, .slice B os.length d], .bool false] w (Answered w g ok m ⟨c + 1, i, 1, os⟩) := by
  obtain ⟨A, cc, A', cc', h1, hs, hs'⟩ := h
  have H1 := Aside0.mk h1
  have HS := Aside0.mk hs
  have HS' := Aside0.mk hs'
  have HK := Aside0.mk hok
  have HO := Aside0.mk ho
  have HKO := Aside0.mk hoko
  have HN := Aside0.mk hn
  obtain ⟨c1, hc1⟩ : ∃ c1, c1 = c + 1 := ⟨_, rfl⟩
  have ec : IntKind.i64.wrap (c + 1) = c1 := by rw [IntKind.wrap_i64]; omega
  have HC1 := Aside0.mk hc1
  clear hc1
  have el : decide (0 < m.left) = true := decide_eq_true hl
  clear hl
  have RQ := Aside0.mk hq
  clear hq
  clear h1 hs hs' hok ho hoko hn
  have hu122 := Try.underlying122
  have hu120 := Try.underlying120
  have hu56 := Try.underlying56
  go_enter Try.func81, Try.ntmps81
  go_wp2_with (first
    | ((with_reducible refine gate_dst (N := 4) rfl ?_); refine box_event ?hg (N := 4) ?hd (cs := #[.int .i64 c, .int .i64 i, .int .i64 a, .slice B os.length d]) (t := 56) ?hr ?_; (case hd => rfl); (case hg => rfl); (case hr => first | (go_simp; done) | (go_simp; rfl)); intro gx hg w1 hbox hb
       have GR := Aside0.mk (show w.heap.size ≤ gx by rw [hg]; exact Nat.le_refl _)
       have GX := Aside0.mk hbox
       have G1 := Aside0.mk (blk_below H1.out hb)
       obtain ⟨j0, j1, j2, j3, q0, q1, q2, q3⟩ := four hbox
       obtain ⟨k0, k1, k2, k3, k4, k5, k6, k7, k8, k9, k10, k11⟩ := tk_cells G1.out
       have s4 := tk_free G1.out 4
       have gl1 := blk_lt G1.out
       have ne1 : w1.heap.size ≠ g := Nat.ne_of_gt gl1
       have ne2 : w1.heap.size ≠ gx := Nat.ne_of_gt (blk_lt hbox)
       have HU := Aside0.mk (Upd.of_below hb g)
       have NE := Aside0.mk (show g ≠ gx by have := blk_lt H1.out; omega)
       have nx : g ≠ gx := NE.out
       have nx' : gx ≠ g := NE.out.symm
       clear hg hbox hb)
    | (go_at_call 67; ((with_reducible refine (elect_Request.calls m.ask.f0 _ _ (by rw [request_eq, RQ.out])).mono ?_); rintro e w' ⟨rfl, ⟨nd, rfl⟩⟩)))
  go_region_held3 (fun w' => w'.cell? ⟨gx, 0, none⟩ = some (.int .i64 c) ∧ w'.cell? ⟨gx, 1, none⟩ = some (.int .i64 i) ∧ w'.cell? ⟨gx, 3, none⟩ = some (.slice B os.length d)) (go_keep)
    (first
      | (go_at_call 79; ((refine (clone_calls B d os _ ((HO.out.step (fun k ho hk => ((HU.out.drewN _).drew).block k hk (HKO.out k ho))).C) HN.out).mono ?_); rintro e w2 ⟨A2, c2, rfl, hR, hb⟩)
         have GX2 := Aside0.mk (blk_below (blk_drew (blk_drewN GX.out _)) hb)
         obtain ⟨z0, z1, z2, z3, x0, x1, x2, x3⟩ := four GX2.out
         have zn : w2.heap.size ≠ gx := Nat.ne_of_gt (blk_lt GX2.out)
         clear z2 x0 x1 x2 x3
         have G2 := Aside0.mk (blk_below (blk_drew (blk_drewN G1.out _)) hb)
         have HU2 := Aside0.mk (((HU.out.drewN _).drew).then_below hb)
         have HRR := Aside0.mk (R_sizes (B' := w.heap.size) hR ((HU.out.drewN _).drew).size)
         clear hR hb))
  go_wp2
  go_ret
  have hU : Upd w (w2.alloc (.cells #[.int .i64 c1, .int .i64 i, .int .i64 1, .slice A2 os.length c2] 56)) g := HU2.out.alloc _
  rw [← HC1.out]
  refine ⟨w2.heap.size, A2, c2, rfl, heap_alloc_new _ _, HU2.out.size, ?_, ?_, hU⟩
  · exact Kd.R_alloc (Kd.R_mono (Kd.R_bound HRR.out) (fun k hk => ⟨hk.2.1, Nat.ne_of_lt hk.2.2.1⟩)) _
  · exact TkAt.turn (m := m) (blk_alloc G2.out _) HS.out HS'.out hU HK.out
set_option maxHeartbeats 8000000 in
set_option maxRecDepth 100000 in
theorem req_wins_false (g : Nat) (ok oko : Nat → Prop) (m : Tk) (c i a : Int) (B : Option Addr) (d : Nat) (os : List S46) (w : World) (h : TkAt w g ok m) (hok : ∀ k, ok k → k ≠ g) (ho : Sees w oko B d os) (hoko : ∀ k, oko k → k ≠ g) (hn : os.length < 5864062014805) (hc0 : 0 ≤ c) (hc9 : c ≤ 255) (hl : 0 < m.left) (hq : reqB m.ask.f0 = true) (hx : crossB m.fav m.ask.f0 c = true) :
    Calls Try.prog 81 #[.pointer (some ⟨g, 0, none⟩), .agg #[.int .i64 c, .int .i64 i, .int .i64 a, .slice B os.length d], .bool false] w (Answered w g ok m ⟨c + 1, i, 1, os⟩) := by
  obtain ⟨A, cc, A', cc', h1, hs, hs'⟩ := h
  have H1 := Aside0.mk h1
  have HS := Aside0.mk hs
  have HS' := Aside0.mk hs'
  have HK := Aside0.mk hok
  have HO := Aside0.mk ho
  have HKO := Aside0.mk hoko
  have HN := Aside0.mk hn
  obtain ⟨c1, hc1⟩ : ∃ c1, c1 = c + 1 := ⟨_, rfl⟩
  have ec : IntKind.i64.wrap (c + 1) = c1 := by rw [IntKind.wrap_i64]; omega
  have HC1 := Aside0.mk hc1
  clear hc1
  have el : decide (0 < m.left) = true := decide_eq_true hl
  clear hl
  have RQ := Aside0.mk hq
  clear hq
  have RC := Aside0.mk hx
  clear hx
  clear h1 hs hs' hok ho hoko hn
  have hu122 := Try.underlying122
  have hu120 := Try.underlying120
  have hu56 := Try.underlying56
  go_enter Try.func81, Try.ntmps81
  go_wp2_with (first
    | ((with_reducible refine gate_dst (N := 4) rfl ?_); refine box_event ?hg (N := 4) ?hd (cs := #[.int .i64 c, .int .i64 i, .int .i64 a, .slice B os.length d]) (t := 56) ?hr ?_; (case hd => rfl); (case hg => rfl); (case hr => first | (go_simp; done) | (go_simp; rfl)); intro gx hg w1 hbox hb
       have GR := Aside0.mk (show w.heap.size ≤ gx by rw [hg]; exact Nat.le_refl _)
       have GX := Aside0.mk hbox
       have G1 := Aside0.mk (blk_below H1.out hb)
       obtain ⟨j0, j1, j2, j3, q0, q1, q2, q3⟩ := four hbox
       obtain ⟨k0, k1, k2, k3, k4, k5, k6, k7, k8, k9, k10, k11⟩ := tk_cells G1.out
       have s4 := tk_free G1.out 4
       have gl1 := blk_lt G1.out
       have ne1 : w1.heap.size ≠ g := Nat.ne_of_gt gl1
       have ne2 : w1.heap.size ≠ gx := Nat.ne_of_gt (blk_lt hbox)
       have HU := Aside0.mk (Upd.of_below hb g)
       have NE := Aside0.mk (show g ≠ gx by have := blk_lt H1.out; omega)
       have nx : g ≠ gx := NE.out
       have nx' : gx ≠ g := NE.out.symm
       clear hg hbox hb)
    | (go_at_call 67; ((with_reducible refine (elect_Request.calls m.ask.f0 _ _ (by rw [request_eq, RQ.out])).mono ?_); rintro e w' ⟨rfl, ⟨nd, rfl⟩⟩)))
  go_quiet ((go_at_call 68; exact crossed_quiet m.fav m.ask.f0 c _ _ _ _ RC.out))
  go_wp2
  go_region_held3 (fun w' => w'.cell? ⟨gx, 0, none⟩ = some (.int .i64 c) ∧ w'.cell? ⟨gx, 1, none⟩ = some (.int .i64 i) ∧ w'.cell? ⟨gx, 3, none⟩ = some (.slice B os.length d)) (go_keep)
    (first
      | (go_at_call 79; ((refine (clone_calls B d os _ ((HO.out.step (fun k ho hk => ((HU.out.drewN _).drew).block k hk (HKO.out k ho))).C) HN.out).mono ?_); rintro e w2 ⟨A2, c2, rfl, hR, hb⟩)
         have GX2 := Aside0.mk (blk_below (blk_drew (blk_drewN GX.out _)) hb)
         obtain ⟨z0, z1, z2, z3, x0, x1, x2, x3⟩ := four GX2.out
         have zn : w2.heap.size ≠ gx := Nat.ne_of_gt (blk_lt GX2.out)
         clear z2 x0 x1 x2 x3
         have G2 := Aside0.mk (blk_below (blk_drew (blk_drewN G1.out _)) hb)
         have HU2 := Aside0.mk (((HU.out.drewN _).drew).then_below hb)
         have HRR := Aside0.mk (R_sizes (B' := w.heap.size) hR ((HU.out.drewN _).drew).size)
         clear hR hb))
  go_wp2
  go_ret
  have hU : Upd w (w2.alloc (.cells #[.int .i64 c1, .int .i64 i, .int .i64 1, .slice A2 os.length c2] 56)) g := HU2.out.alloc _
  rw [← HC1.out]
  refine ⟨w2.heap.size, A2, c2, rfl, heap_alloc_new _ _, HU2.out.size, ?_, ?_, hU⟩
  · exact Kd.R_alloc (Kd.R_mono (Kd.R_bound HRR.out) (fun k hk => ⟨hk.2.1, Nat.ne_of_lt hk.2.2.1⟩)) _
  · exact TkAt.turn (m := m) (blk_alloc G2.out _) HS.out HS'.out hU HK.out
set_option maxHeartbeats 8000000 in
set_option maxRecDepth 100000 in
theorem req_gives_false (g : Nat) (ok oko : Nat → Prop) (m : Tk) (c i a : Int) (B : Option Addr) (d : Nat) (os : List S46) (w : World) (h : TkAt w g ok m) (hok : ∀ k, ok k → k ≠ g) (ho : Sees w oko B d os) (hoko : ∀ k, oko k → k ≠ g) (hn : os.length < 5864062014805) (hc0 : 0 ≤ c) (hc9 : c ≤ 255) (hl : 0 < m.left) (hq : reqB m.ask.f0 = true) (hx : crossB m.fav m.ask.f0 c = false) :
    Calls Try.prog 81 #[.pointer (some ⟨g, 0, none⟩), .agg #[.int .i64 c, .int .i64 i, .int .i64 a, .slice B os.length d], .bool false] w (Answered w g ok { m with left := 0 } ⟨c + 1, i, 1, os⟩) := by
  obtain ⟨A, cc, A', cc', h1, hs, hs'⟩ := h
  have H1 := Aside0.mk h1
  have HS := Aside0.mk hs
  have HS' := Aside0.mk hs'
  have HK := Aside0.mk hok
  have HO := Aside0.mk ho
  have HKO := Aside0.mk hoko
  have HN := Aside0.mk hn
  obtain ⟨c1, hc1⟩ : ∃ c1, c1 = c + 1 := ⟨_, rfl⟩
  have ec : IntKind.i64.wrap (c + 1) = c1 := by rw [IntKind.wrap_i64]; omega
  have HC1 := Aside0.mk hc1
  clear hc1
  have el : decide (0 < m.left) = true := decide_eq_true hl
  clear hl
  have RQ := Aside0.mk hq
  clear hq
  have RC := Aside0.mk hx
  clear hx
  clear h1 hs hs' hok ho hoko hn
  have hu122 := Try.underlying122
  have hu120 := Try.underlying120
  have hu56 := Try.underlying56
  go_enter Try.func81, Try.ntmps81
  go_wp2_with (first
    | ((with_reducible refine gate_dst (N := 4) rfl ?_); refine box_event ?hg (N := 4) ?hd (cs := #[.int .i64 c, .int .i64 i, .int .i64 a, .slice B os.length d]) (t := 56) ?hr ?_; (case hd => rfl); (case hg => rfl); (case hr => first | (go_simp; done) | (go_simp; rfl)); intro gx hg w1 hbox hb
       have GR := Aside0.mk (show w.heap.size ≤ gx by rw [hg]; exact Nat.le_refl _)
       have GX := Aside0.mk hbox
       have G1 := Aside0.mk (blk_below H1.out hb)
       obtain ⟨j0, j1, j2, j3, q0, q1, q2, q3⟩ := four hbox
       obtain ⟨k0, k1, k2, k3, k4, k5, k6, k7, k8, k9, k10, k11⟩ := tk_cells G1.out
       have s4 := tk_free G1.out 4
       have gl1 := blk_lt G1.out
       have ne1 : w1.heap.size ≠ g := Nat.ne_of_gt gl1
       have ne2 : w1.heap.size ≠ gx := Nat.ne_of_gt (blk_lt hbox)
       have HU := Aside0.mk (Upd.of_below hb g)
       have NE := Aside0.mk (show g ≠ gx by have := blk_lt H1.out; omega)
       have nx : g ≠ gx := NE.out
       have nx' : gx ≠ g := NE.out.symm
       clear hg hbox hb)
    | (go_at_call 67; ((with_reducible refine (elect_Request.calls m.ask.f0 _ _ (by rw [request_eq, RQ.out])).mono ?_); rintro e w' ⟨rfl, ⟨nd, rfl⟩⟩)))
  go_quiet ((go_at_call 68; exact crossed_quiet m.fav m.ask.f0 c _ _ _ _ RC.out))
  go_wp2
  go_region_held3 (fun w' => w'.cell? ⟨gx, 0, none⟩ = some (.int .i64 c) ∧ w'.cell? ⟨gx, 1, none⟩ = some (.int .i64 i) ∧ w'.cell? ⟨gx, 3, none⟩ = some (.slice B os.length d)) (go_keep)
    (first
      | (go_at_call 79; ((refine (clone_calls B d os _ ((HO.out.step (fun k ho hk => (((HU.out.drewN _).set g 4 (.inl rfl) _).drew).block k hk (HKO.out k ho))).C) HN.out).mono ?_); rintro e w2 ⟨A2, c2, rfl, hR, hb⟩)
         have GX2 := Aside0.mk (blk_below (blk_drew (blk_far (blk_drewN GX.out _) NE.out.symm _)) hb)
         obtain ⟨z0, z1, z2, z3, x0, x1, x2, x3⟩ := four GX2.out
         have zn : w2.heap.size ≠ gx := Nat.ne_of_gt (blk_lt GX2.out)
         clear z2 x0 x1 x2 x3
         have G2 := Aside0.mk (blk_below (blk_drew (blk_put (blk_drewN G1.out _) 4 _ rfl)) hb)
         have HU2 := Aside0.mk ((((HU.out.drewN _).set g 4 (.inl rfl) _).drew).then_below hb)
         have HRR := Aside0.mk (R_sizes (B' := w.heap.size) hR (((HU.out.drewN _).set g 4 (.inl rfl) _).drew).size)
         clear hR hb))
  go_wp2
  go_ret
  have hU : Upd w (w2.alloc (.cells #[.int .i64 c1, .int .i64 i, .int .i64 1, .slice A2 os.length c2] 56)) g := HU2.out.alloc _
  rw [← HC1.out]
  refine ⟨w2.heap.size, A2, c2, rfl, heap_alloc_new _ _, HU2.out.size, ?_, ?_, hU⟩
  · exact Kd.R_alloc (Kd.R_mono (Kd.R_bound HRR.out) (fun k hk => ⟨hk.2.1, Nat.ne_of_lt hk.2.2.1⟩)) _
  · exact TkAt.turn (m := { m with left := 0 }) (blk_alloc G2.out _) HS.out HS'.out hU HK.out
end Go.Proofs.Ytbdlkcgaobkdcaa.P
end
section
namespace Go.Proofs.Ytbdlkcgaobkdcaa.P
open Go.RowKit Go.Proofs.YtbdlkcgaobkdcaaW.PrintWords Go.Proofs.YtbdlkcgaobkdcaaW.PrintLast Go.Proofs.YtbdlkcgaobkdcaaW.PrintMore
attribute [local go_sem] max2_int min2_int max_two min_two max_three min_three max_four min_four

theorem request_calls (g : Nat) (ok oko : Nat → Prop) (m : Tk) (c i a : Int) (B : Option Addr) (d : Nat) (os : List S46) (w : World) (h : TkAt w g ok m) (hok : ∀ k, ok k → k ≠ g) (ho : Sees w oko B d os) (hoko : ∀ k, oko k → k ≠ g) (hn : os.length < 5864062014805) (yes : Bool) (hc0 : 0 ≤ c) (hc9 : c ≤ 255) (hl0 : 0 ≤ m.left) :
    Calls Try.prog 81 #[.pointer (some ⟨g, 0, none⟩), .agg #[.int .i64 c, .int .i64 i, .int .i64 a, .slice B os.length d], .bool yes] w (Answered w g ok (requestS m ⟨c, i, a, os⟩ yes).1 (requestS m ⟨c, i, a, os⟩ yes).2) := by
  unfold requestS
  by_cases hl : 0 < m.left
  · cases hq : reqB m.ask.f0 with
    | true =>
      rw [if_pos ⟨hl, rfl⟩]
      cases hx : crossB m.fav m.ask.f0 c with
      | true =>
        rw [if_pos rfl]
        cases yes with
        | true => exact req_wins_true g ok oko m c i a B d os w h hok ho hoko hn hc0 hc9 hl hq hx
        | false => exact req_wins_false g ok oko m c i a B d os w h hok ho hoko hn hc0 hc9 hl hq hx
      | false =>
        rw [if_neg (by decide)]
        cases yes with
        | true => exact req_gives_true g ok oko m c i a B d os w h hok ho hoko hn hc0 hc9 hl hq hx
        | false => exact req_gives_false g ok oko m c i a B d os w h hok ho hoko hn hc0 hc9 hl hq hx
    | false =>
      rw [if_neg (by rintro ⟨_, h1⟩; cases h1)]
      cases yes with
      | true => exact req_status_true g ok oko m c i a B d os w h hok ho hoko hn hc0 hc9 hl hq
      | false => exact req_status_false g ok oko m c i a B d os w h hok ho hoko hn hc0 hc9 hl hq
  · rw [if_neg (fun h1 => hl h1.1)]
    cases yes with
    | true => exact req_idle_true g ok oko m c i a B d os w h hok ho hoko hn hc0 hc9 (by omega)
    | false => exact req_idle_false g ok oko m c i a B d os w h hok ho hoko hn hc0 hc9 (by omega)
/-- A row of datagrams: none, or one in a block of its own, with options of its own. -/
def RowOf (w : World) (B : Nat) (v : Value) (l : List S56) : Prop := (l = [] ∧ v = .slice none 0 0) ∨ ∃ (b : S56) (gs : Nat) (A : Option Addr) (c : Nat), l = [b] ∧ v = .slice (some ⟨gs, 0, none⟩) 1 1 ∧
  w.heap[gs]? = some (.cells #[.int .i64 b.f0, .int .i64 b.f1, .int .i64 b.f2, .slice A b.f3.length c] 56 (0, 0)) ∧ B ≤ gs ∧ Kd.R k46 46 w B (fun k => B ≤ k ∧ k ≠ gs) (.slice A b.f3.length c) b.f3
/-- What Take leaves: datagrams, an error, the state at g. -/
def MadeBaps (w : World) (g : Nat) (ok : Nat → Prop) (m : Tk) (l : List S56) (er : Int) (e : Ending) (w' : World) : Prop := ∃ (v : Value) (B : Nat), e = .returned (.tuple #[v, .int .i64 er]) ∧ w.heap.size ≤ B ∧ RowOf w' B v l ∧
  TkAt w' g (fun k => ok k ∨ (w.heap.size ≤ k ∧ k < B)) m ∧ Upd w w' g
theorem MadeBaps.none {w : World} {g : Nat} {ok : Nat → Prop} {m : Tk} {er : Int} {w' : World} (hT : TkAt w' g ok m) (hU : Upd w w' g) : MadeBaps w g ok m [] er (.returned (.tuple #[.slice Option.none 0 0, .int .i64 er])) w' :=
  ⟨_, w.heap.size, rfl, Nat.le_refl _, .inl ⟨rfl, rfl⟩, hT.mono (fun _ hk => .inl hk), hU⟩
set_option maxHeartbeats 8000000 in
set_option maxRecDepth 100000 in
theorem take_form (g : Nat) (ok oko : Nat → Prop) (m : Tk) (c i a : Int) (B : Option Addr) (d : Nat) (os : List S46) (w : World) (h : TkAt w g ok m) (hok : ∀ k, ok k → k ≠ g) (ho : Sees w oko B d os) (hoko : ∀ k, oko k → k ≠ g) (hn : os.length < 5864062014805) (s : ByteArray) (er : Int) (yes : Bool) (hp : bapS c i a os = (s, er)) (he : er ≠ 0) :
    Calls Try.prog 46 #[.pointer (some ⟨g, 0, none⟩), .agg #[.int .i64 c, .int .i64 i, .int .i64 a, .slice B os.length d], .bool yes] w (MadeBaps w g ok m [] 2200) := by
  obtain ⟨A, cc, A', cc', h1, hs, hs'⟩ := h
  have H1 := Aside0.mk h1
  have HS := Aside0.mk hs
  have HS' := Aside0.mk hs'
  have HK := Aside0.mk hok
  have HO := Aside0.mk ho
  have HKO := Aside0.mk hoko
  have HN := Aside0.mk hn
  have HP := Aside0.mk (show bapmsg_Put.f c i a os = some (s, er) by unfold bapmsg_Put.f; rw [hp])
  clear hp
  have e0 : (er != 0) = true := by simpa using he
  clear he
  have RQ : Aside0 (reqB c = reqB c) := ⟨rfl⟩
  clear h1 hs hs' hok ho hoko hn
  have hu122 := Try.underlying122
  have hu120 := Try.underlying120
  have hu56 := Try.underlying56
  go_enter Try.func46, Try.ntmps46
  go_wp2_with (first
    | ((with_reducible refine gate_dst (N := 4) rfl ?_); refine box_event ?hg (N := 4) ?hd (cs := #[.int .i64 c, .int .i64 i, .int .i64 a, .slice B os.length d]) (t := 56) ?hr ?_; (case hd => rfl); (case hg => rfl); (case hr => first | (go_simp; done) | (go_simp; rfl)); intro gx hg w1 hbox hb
       have GR := Aside0.mk (show w.heap.size ≤ gx by rw [hg]; exact Nat.le_refl _)
       have GX := Aside0.mk hbox
       have G1 := Aside0.mk (blk_below H1.out hb)
       obtain ⟨j0, j1, j2, j3, q0, q1, q2, q3⟩ := four hbox
       obtain ⟨k0, k1, k2, k3, k4, k5, k6, k7, k8, k9, k10, k11⟩ := tk_cells G1.out
       have s4 := tk_free G1.out 4
       have gl1 := blk_lt G1.out
       have ne1 : w1.heap.size ≠ g := Nat.ne_of_gt gl1
       have ne2 : w1.heap.size ≠ gx := Nat.ne_of_gt (blk_lt hbox)
       have HU := Aside0.mk (Upd.of_below hb g)
       have NE := Aside0.mk (show g ≠ gx by have := blk_lt H1.out; omega)
       have nx : g ≠ gx := NE.out
       have nx' : gx ≠ g := NE.out.symm
       clear hg hbox hb)
    | (go_at_call 54; ((with_reducible refine (bapmsg_Put.calls c i a B d os s er _ (HO.out.step (fun k ho hk => HU.out.block k hk (HKO.out k ho))).C HO.out.cap HP.out).mono ?_); rintro e w3 ⟨rfl, hb⟩)
       have G3 := Aside0.mk (blk_below G1.out hb)
       have GX3 := Aside0.mk (blk_below GX.out hb)
       have HU3 := Aside0.mk (HU.out.then_below hb)
       clear hb ne1 ne2 gl1 s4 j0 j1 j2 j3 q0 q1 q2 q3 k0 k1 k2 k3 k4 k5 k6 k7 k8 k9 k10 k11
       obtain ⟨j0, j1, j2, j3, q0, q1, q2, q3⟩ := four GX3.out
       obtain ⟨k0, k1, k2, k3, k4, k5, k6, k7, k8, k9, k10, k11⟩ := tk_cells G3.out
       have s4 := tk_free G3.out 4
       have s8 := tk_free G3.out 8
       have s9 := tk_free G3.out 9
       have s10 := tk_free G3.out 10
       have s11 := tk_free G3.out 11)
    | (go_at_call 67; ((with_reducible refine (elect_Request.calls c _ _ (by rw [request_eq, RQ.out])).mono ?_); rintro e w' ⟨rfl, ⟨nd, rfl⟩⟩)))
  go_ret2
  exact MadeBaps.none (TkAt.turn G3.out HS.out HS'.out HU3.out HK.out) HU3.out
set_option maxHeartbeats 8000000 in
set_option maxRecDepth 100000 in
theorem take_request (g : Nat) (ok oko : Nat → Prop) (m : Tk) (c i a : Int) (B : Option Addr) (d : Nat) (os : List S46) (w : World) (h : TkAt w g ok m) (hok : ∀ k, ok k → k ≠ g) (ho : Sees w oko B d os) (hoko : ∀ k, oko k → k ≠ g) (hn : os.length < 5864062014805) (s : ByteArray) (er : Int) (yes : Bool) (hp : bapS c i a os = (s, er)) (hc0 : 0 ≤ c) (hc9 : c ≤ 255) (hl0 : 0 ≤ m.left) (he : er = 0) (hq : reqB c = true) :
    Calls Try.prog 46 #[.pointer (some ⟨g, 0, none⟩), .agg #[.int .i64 c, .int .i64 i, .int .i64 a, .slice B os.length d], .bool yes] w (MadeBaps w g ok (requestS m ⟨c, i, a, os⟩ yes).1 [(requestS m ⟨c, i, a, os⟩ yes).2] 0) := by
  obtain ⟨A, cc, A', cc', h1, hs, hs'⟩ := h
  have H1 := Aside0.mk h1
  have HS := Aside0.mk hs
  have HS' := Aside0.mk hs'
  have HK := Aside0.mk hok
  have HO := Aside0.mk ho
  have HKO := Aside0.mk hoko
  have HN := Aside0.mk hn
  have HP := Aside0.mk (show bapmsg_Put.f c i a os = some (s, er) by unfold bapmsg_Put.f; rw [hp])
  clear hp
  have e0 : (er != 0) = false := by simpa using he
  clear he
  have RQ := Aside0.mk hq
  clear hq
  clear h1 hs hs' hok ho hoko hn
  have hu122 := Try.underlying122
  have hu120 := Try.underlying120
  have hu56 := Try.underlying56
  go_enter Try.func46, Try.ntmps46
  go_wp2_with (first
    | ((with_reducible refine gate_dst (N := 4) rfl ?_); refine box_event ?hg (N := 4) ?hd (cs := #[.int .i64 c, .int .i64 i, .int .i64 a, .slice B os.length d]) (t := 56) ?hr ?_; (case hd => rfl); (case hg => rfl); (case hr => first | (go_simp; done) | (go_simp; rfl)); intro gx hg w1 hbox hb
       have GR := Aside0.mk (show w.heap.size ≤ gx by rw [hg]; exact Nat.le_refl _)
       have GX := Aside0.mk hbox
       have G1 := Aside0.mk (blk_below H1.out hb)
       obtain ⟨j0, j1, j2, j3, q0, q1, q2, q3⟩ := four hbox
       obtain ⟨k0, k1, k2, k3, k4, k5, k6, k7, k8, k9, k10, k11⟩ := tk_cells G1.out
       have s4 := tk_free G1.out 4
       have gl1 := blk_lt G1.out
       have ne1 : w1.heap.size ≠ g := Nat.ne_of_gt gl1
       have ne2 : w1.heap.size ≠ gx := Nat.ne_of_gt (blk_lt hbox)
       have HU := Aside0.mk (Upd.of_below hb g)
       have NE := Aside0.mk (show g ≠ gx by have := blk_lt H1.out; omega)
       have nx : g ≠ gx := NE.out
       have nx' : gx ≠ g := NE.out.symm
       clear hg hbox hb)
    | (go_at_call 54; ((with_reducible refine (bapmsg_Put.calls c i a B d os s er _ (HO.out.step (fun k ho hk => HU.out.block k hk (HKO.out k ho))).C HO.out.cap HP.out).mono ?_); rintro e w3 ⟨rfl, hb⟩)
       have G3 := Aside0.mk (blk_below G1.out hb)
       have GX3 := Aside0.mk (blk_below GX.out hb)
       have HU3 := Aside0.mk (HU.out.then_below hb)
       clear hb ne1 ne2 gl1 s4 j0 j1 j2 j3 q0 q1 q2 q3 k0 k1 k2 k3 k4 k5 k6 k7 k8 k9 k10 k11
       obtain ⟨j0, j1, j2, j3, q0, q1, q2, q3⟩ := four GX3.out
       obtain ⟨k0, k1, k2, k3, k4, k5, k6, k7, k8, k9, k10, k11⟩ := tk_cells G3.out
       have s4 := tk_free G3.out 4
       have s8 := tk_free G3.out 8
       have s9 := tk_free G3.out 9
       have s10 := tk_free G3.out 10
       have s11 := tk_free G3.out 11)
    | (go_at_call 67; ((with_reducible refine (elect_Request.calls c _ _ (by rw [request_eq, RQ.out])).mono ?_); rintro e w' ⟨rfl, ⟨nd, rfl⟩⟩))
    | (go_at_call 81; ((with_reducible refine (request_calls g ok oko m c i a B d os _ (TkAt.turn (blk_drewN G3.out nd) HS.out HS'.out (HU3.out.drewN nd) HK.out) HK.out (HO.out.step (fun k ho hk => (HU3.out.drewN nd).block k hk (HKO.out k ho))) HKO.out HN.out yes hc0 hc9 hl0).mono ?_); rintro e w4 ⟨gs, A2, c2, rfl, hgs, hge, hR, hT, hU⟩)
       have X1 := Aside0.mk hgs
       have X2 := Aside0.mk hge
       have X3 := Aside0.mk hR
       have X4 := Aside0.mk hT
       have X5 := Aside0.mk hU
       clear hgs hge hR hT hU j0 j1 j2 j3 q0 q1 q2 q3 k0 k1 k2 k3 k4 k5 k6 k7 k8 k9 k10 k11 s4 s8 s9 s10 s11))
  go_ret2
  have hz : w.heap.size ≤ (w3.drewN nd).heap.size := (HU3.out.drewN nd).size
  exact ⟨_, w.heap.size, rfl, Nat.le_refl _, .inr ⟨_, gs, A2, c2, rfl, rfl, X1.out, Nat.le_trans hz X2.out, Kd.R_mono (Kd.R_lower X3.out hz) (fun k hk => ⟨Nat.le_trans hz hk.1, hk.2⟩)⟩, X4.out.mono (fun _ hk => .inl hk), (HU3.out.drewN nd).trans X5.out⟩
set_option maxHeartbeats 8000000 in
set_option maxRecDepth 100000 in
theorem take_status (g : Nat) (ok oko : Nat → Prop) (m : Tk) (c i a : Int) (B : Option Addr) (d : Nat) (os : List S46) (w : World) (h : TkAt w g ok m) (hok : ∀ k, ok k → k ≠ g) (ho : Sees w oko B d os) (hoko : ∀ k, oko k → k ≠ g) (hn : os.length < 5864062014805) (s : ByteArray) (er : Int) (yes : Bool) (hp : bapS c i a os = (s, er)) (he : er = 0) (hq : reqB c = false) (h7 : c = 7) :
    Calls Try.prog 46 #[.pointer (some ⟨g, 0, none⟩), .agg #[.int .i64 c, .int .i64 i, .int .i64 a, .slice B os.length d], .bool yes] w (MadeBaps w g ok m [⟨8, i, 0, []⟩] 0) := by
  obtain ⟨A, cc, A', cc', h1, hs, hs'⟩ := h
  have H1 := Aside0.mk h1
  have HS := Aside0.mk hs
  have HS' := Aside0.mk hs'
  have HK := Aside0.mk hok
  have HO := Aside0.mk ho
  have HKO := Aside0.mk hoko
  have HN := Aside0.mk hn
  have HP := Aside0.mk (show bapmsg_Put.f c i a os = some (s, er) by unfold bapmsg_Put.f; rw [hp])
  clear hp
  have e0 : (er != 0) = false := by simpa using he
  clear he
  have RQ := Aside0.mk hq
  clear hq
  have e7 : (c == 7) = true := by rw [h7]; rfl
  clear h7
  clear h1 hs hs' hok ho hoko hn
  have hu122 := Try.underlying122
  have hu120 := Try.underlying120
  have hu56 := Try.underlying56
  go_enter Try.func46, Try.ntmps46
  go_wp2_with (first
    | ((with_reducible refine gate_dst (N := 4) rfl ?_); refine box_event ?hg (N := 4) ?hd (cs := #[.int .i64 c, .int .i64 i, .int .i64 a, .slice B os.length d]) (t := 56) ?hr ?_; (case hd => rfl); (case hg => rfl); (case hr => first | (go_simp; done) | (go_simp; rfl)); intro gx hg w1 hbox hb
       have GR := Aside0.mk (show w.heap.size ≤ gx by rw [hg]; exact Nat.le_refl _)
       have GX := Aside0.mk hbox
       have G1 := Aside0.mk (blk_below H1.out hb)
       obtain ⟨j0, j1, j2, j3, q0, q1, q2, q3⟩ := four hbox
       obtain ⟨k0, k1, k2, k3, k4, k5, k6, k7, k8, k9, k10, k11⟩ := tk_cells G1.out
       have s4 := tk_free G1.out 4
       have gl1 := blk_lt G1.out
       have ne1 : w1.heap.size ≠ g := Nat.ne_of_gt gl1
       have ne2 : w1.heap.size ≠ gx := Nat.ne_of_gt (blk_lt hbox)
       have HU := Aside0.mk (Upd.of_below hb g)
       have NE := Aside0.mk (show g ≠ gx by have := blk_lt H1.out; omega)
       have nx : g ≠ gx := NE.out
       have nx' : gx ≠ g := NE.out.symm
       clear hg hbox hb)
    | (go_at_call 54; ((with_reducible refine (bapmsg_Put.calls c i a B d os s er _ (HO.out.step (fun k ho hk => HU.out.block k hk (HKO.out k ho))).C HO.out.cap HP.out).mono ?_); rintro e w3 ⟨rfl, hb⟩)
       have G3 := Aside0.mk (blk_below G1.out hb)
       have GX3 := Aside0.mk (blk_below GX.out hb)
       have HU3 := Aside0.mk (HU.out.then_below hb)
       clear hb ne1 ne2 gl1 s4 j0 j1 j2 j3 q0 q1 q2 q3 k0 k1 k2 k3 k4 k5 k6 k7 k8 k9 k10 k11
       obtain ⟨j0, j1, j2, j3, q0, q1, q2, q3⟩ := four GX3.out
       obtain ⟨k0, k1, k2, k3, k4, k5, k6, k7, k8, k9, k10, k11⟩ := tk_cells G3.out
       have s4 := tk_free G3.out 4
       have s8 := tk_free G3.out 8
       have s9 := tk_free G3.out 9
       have s10 := tk_free G3.out 10
       have s11 := tk_free G3.out 11)
    | (go_at_call 67; ((with_reducible refine (elect_Request.calls c _ _ (by rw [request_eq, RQ.out])).mono ?_); rintro e w' ⟨rfl, ⟨nd, rfl⟩⟩)))
  go_ret2
  have hU := (HU3.out.drewN nd).alloc (.cells #[.int .i64 8, .int .i64 i, .int .i64 0, .slice none 0 0] 56)
  exact ⟨_, w.heap.size, rfl, Nat.le_refl _, .inr ⟨⟨8, i, 0, []⟩, _, none, 0, rfl, rfl, heap_alloc_new _ _, (HU3.out.drewN nd).size, Kd.R_nil _ _ _ _ _⟩, (TkAt.turn (blk_alloc (blk_drewN G3.out nd) _) HS.out HS'.out hU HK.out).mono (fun _ hk => .inl hk), hU⟩
end Go.Proofs.Ytbdlkcgaobkdcaa.P
end
section
namespace Go.Proofs.Ytbdlkcgaobkdcaa.P
open Go.RowKit Go.Proofs.YtbdlkcgaobkdcaaW.PrintWords Go.Proofs.YtbdlkcgaobkdcaaW.PrintLast Go.Proofs.YtbdlkcgaobkdcaaW.PrintMore
attribute [local go_sem] max2_int min2_int max_two min_two max_three min_three max_four min_four

set_option maxHeartbeats 8000000 in
set_option maxRecDepth 100000 in
theorem take_idle (g : Nat) (ok oko : Nat → Prop) (m : Tk) (c i a : Int) (B : Option Addr) (d : Nat) (os : List S46) (w : World) (h : TkAt w g ok m) (hok : ∀ k, ok k → k ≠ g) (ho : Sees w oko B d os) (hoko : ∀ k, oko k → k ≠ g) (hn : os.length < 5864062014805) (s : ByteArray) (er : Int) (yes : Bool) (hp : bapS c i a os = (s, er)) (he : er = 0) (hq : reqB c = false) (h7 : c ≠ 7) (hl : m.left = 0) :
    Calls Try.prog 46 #[.pointer (some ⟨g, 0, none⟩), .agg #[.int .i64 c, .int .i64 i, .int .i64 a, .slice B os.length d], .bool yes] w (MadeBaps w g ok m [] 0) := by
  obtain ⟨A, cc, A', cc', h1, hs, hs'⟩ := h
  have H1 := Aside0.mk h1
  have HS := Aside0.mk hs
  have HS' := Aside0.mk hs'
  have HK := Aside0.mk hok
  have HO := Aside0.mk ho
  have HKO := Aside0.mk hoko
  have HN := Aside0.mk hn
  have HP := Aside0.mk (show bapmsg_Put.f c i a os = some (s, er) by unfold bapmsg_Put.f; rw [hp])
  clear hp
  have e0 : (er != 0) = false := by simpa using he
  clear he
  have RQ := Aside0.mk hq
  clear hq
  have e7 : (c == 7) = false := by simpa using h7
  clear h7
  have el : decide (0 < m.left) = false := decide_eq_false (by omega)
  clear hl
  clear h1 hs hs' hok ho hoko hn
  have hu122 := Try.underlying122
  have hu120 := Try.underlying120
  have hu56 := Try.underlying56
  go_enter Try.func46, Try.ntmps46
  go_wp2_with (first
    | ((with_reducible refine gate_dst (N := 4) rfl ?_); refine box_event ?hg (N := 4) ?hd (cs := #[.int .i64 c, .int .i64 i, .int .i64 a, .slice B os.length d]) (t := 56) ?hr ?_; (case hd => rfl); (case hg => rfl); (case hr => first | (go_simp; done) | (go_simp; rfl)); intro gx hg w1 hbox hb
       have GR := Aside0.mk (show w.heap.size ≤ gx by rw [hg]; exact Nat.le_refl _)
       have GX := Aside0.mk hbox
       have G1 := Aside0.mk (blk_below H1.out hb)
       obtain ⟨j0, j1, j2, j3, q0, q1, q2, q3⟩ := four hbox
       obtain ⟨k0, k1, k2, k3, k4, k5, k6, k7, k8, k9, k10, k11⟩ := tk_cells G1.out
       have s4 := tk_free G1.out 4
       have gl1 := blk_lt G1.out
       have ne1 : w1.heap.size ≠ g := Nat.ne_of_gt gl1
       have ne2 : w1.heap.size ≠ gx := Nat.ne_of_gt (blk_lt hbox)
       have HU := Aside0.mk (Upd.of_below hb g)
       have NE := Aside0.mk (show g ≠ gx by have := blk_lt H1.out; omega)
       have nx : g ≠ gx := NE.out
       have nx' : gx ≠ g := NE.out.symm
       clear hg hbox hb)
    | (go_at_call 54; ((with_reducible refine (bapmsg_Put.calls c i a B d os s er _ (HO.out.step (fun k ho hk => HU.out.block k hk (HKO.out k ho))).C HO.out.cap HP.out).mono ?_); rintro e w3 ⟨rfl, hb⟩)
       have G3 := Aside0.mk (blk_below G1.out hb)
       have GX3 := Aside0.mk (blk_below GX.out hb)
       have HU3 := Aside0.mk (HU.out.then_below hb)
       clear hb ne1 ne2 gl1 s4 j0 j1 j2 j3 q0 q1 q2 q3 k0 k1 k2 k3 k4 k5 k6 k7 k8 k9 k10 k11
       obtain ⟨j0, j1, j2, j3, q0, q1, q2, q3⟩ := four GX3.out
       obtain ⟨k0, k1, k2, k3, k4, k5, k6, k7, k8, k9, k10, k11⟩ := tk_cells G3.out
       have s4 := tk_free G3.out 4
       have s8 := tk_free G3.out 8
       have s9 := tk_free G3.out 9
       have s10 := tk_free G3.out 10
       have s11 := tk_free G3.out 11)
    | (go_at_call 67; ((with_reducible refine (elect_Request.calls c _ _ (by rw [request_eq, RQ.out])).mono ?_); rintro e w' ⟨rfl, ⟨nd, rfl⟩⟩)))
  go_quiet (fail)
  go_wp2
  go_ret2
  exact MadeBaps.none (TkAt.turn (blk_drewN (blk_drewN G3.out _) _) HS.out HS'.out ((HU3.out.drewN _).drewN _) HK.out) ((HU3.out.drewN _).drewN _)
set_option maxHeartbeats 8000000 in
set_option maxRecDepth 100000 in
theorem take_code (g : Nat) (ok oko : Nat → Prop) (m : Tk) (c i a : Int) (B : Option Addr) (d : Nat) (os : List S46) (w : World) (h : TkAt w g ok m) (hok : ∀ k, ok k → k ≠ g) (ho : Sees w oko B d os) (hoko : ∀ k, oko k → k ≠ g) (hn : os.length < 5864062014805) (s : ByteArray) (er : Int) (yes : Bool) (hp : bapS c i a os = (s, er)) (hk0 : 0 ≤ m.ask.f0) (hk9 : m.ask.f0 ≤ 255) (he : er = 0) (hq : reqB c = false) (h7 : c ≠ 7) (hl : 0 < m.left) (hc1 : c ≠ m.ask.f0 + 1) :
    Calls Try.prog 46 #[.pointer (some ⟨g, 0, none⟩), .agg #[.int .i64 c, .int .i64 i, .int .i64 a, .slice B os.length d], .bool yes] w (MadeBaps w g ok m [] 0) := by
  obtain ⟨A, cc, A', cc', h1, hs, hs'⟩ := h
  have H1 := Aside0.mk h1
  have HS := Aside0.mk hs
  have HS' := Aside0.mk hs'
  have HK := Aside0.mk hok
  have HO := Aside0.mk ho
  have HKO := Aside0.mk hoko
  have HN := Aside0.mk hn
  have HP := Aside0.mk (show bapmsg_Put.f c i a os = some (s, er) by unfold bapmsg_Put.f; rw [hp])
  clear hp
  have e0 : (er != 0) = false := by simpa using he
  clear he
  have RQ := Aside0.mk hq
  clear hq
  have e7 : (c == 7) = false := by simpa using h7
  clear h7
  have el : decide (0 < m.left) = true := decide_eq_true hl
  clear hl
  obtain ⟨a1, ha1⟩ : ∃ a1, a1 = m.ask.f0 + 1 := ⟨_, rfl⟩
  have ea : IntKind.i64.wrap (m.ask.f0 + 1) = a1 := by rw [IntKind.wrap_i64]; omega
  rw [← ha1] at hc1
  clear ha1
  have ec : (c == a1) = false := by simpa using hc1
  clear hc1
  clear h1 hs hs' hok ho hoko hn
  have hu122 := Try.underlying122
  have hu120 := Try.underlying120
  have hu56 := Try.underlying56
  go_enter Try.func46, Try.ntmps46
  go_wp2_with (first
    | ((with_reducible refine gate_dst (N := 4) rfl ?_); refine box_event ?hg (N := 4) ?hd (cs := #[.int .i64 c, .int .i64 i, .int .i64 a, .slice B os.length d]) (t := 56) ?hr ?_; (case hd => rfl); (case hg => rfl); (case hr => first | (go_simp; done) | (go_simp; rfl)); intro gx hg w1 hbox hb
       have GR := Aside0.mk (show w.heap.size ≤ gx by rw [hg]; exact Nat.le_refl _)
       have GX := Aside0.mk hbox
       have G1 := Aside0.mk (blk_below H1.out hb)
       obtain ⟨j0, j1, j2, j3, q0, q1, q2, q3⟩ := four hbox
       obtain ⟨k0, k1, k2, k3, k4, k5, k6, k7, k8, k9, k10, k11⟩ := tk_cells G1.out
       have s4 := tk_free G1.out 4
       have gl1 := blk_lt G1.out
       have ne1 : w1.heap.size ≠ g := Nat.ne_of_gt gl1
       have ne2 : w1.heap.size ≠ gx := Nat.ne_of_gt (blk_lt hbox)
       have HU := Aside0.mk (Upd.of_below hb g)
       have NE := Aside0.mk (show g ≠ gx by have := blk_lt H1.out; omega)
       have nx : g ≠ gx := NE.out
       have nx' : gx ≠ g := NE.out.symm
       clear hg hbox hb)
    | (go_at_call 54; ((with_reducible refine (bapmsg_Put.calls c i a B d os s er _ (HO.out.step (fun k ho hk => HU.out.block k hk (HKO.out k ho))).C HO.out.cap HP.out).mono ?_); rintro e w3 ⟨rfl, hb⟩)
       have G3 := Aside0.mk (blk_below G1.out hb)
       have GX3 := Aside0.mk (blk_below GX.out hb)
       have HU3 := Aside0.mk (HU.out.then_below hb)
       clear hb ne1 ne2 gl1 s4 j0 j1 j2 j3 q0 q1 q2 q3 k0 k1 k2 k3 k4 k5 k6 k7 k8 k9 k10 k11
       obtain ⟨j0, j1, j2, j3, q0, q1, q2, q3⟩ := four GX3.out
       obtain ⟨k0, k1, k2, k3, k4, k5, k6, k7, k8, k9, k10, k11⟩ := tk_cells G3.out
       have s4 := tk_free G3.out 4
       have s8 := tk_free G3.out 8
       have s9 := tk_free G3.out 9
       have s10 := tk_free G3.out 10
       have s11 := tk_free G3.out 11)
    | (go_at_call 67; ((with_reducible refine (elect_Request.calls c _ _ (by rw [request_eq, RQ.out])).mono ?_); rintro e w' ⟨rfl, ⟨nd, rfl⟩⟩)))
  go_quiet (fail)
  go_wp2
  go_ret2
  exact MadeBaps.none (TkAt.turn (blk_drewN (blk_drewN G3.out _) _) HS.out HS'.out ((HU3.out.drewN _).drewN _) HK.out) ((HU3.out.drewN _).drewN _)
set_option maxHeartbeats 8000000 in
set_option maxRecDepth 100000 in
theorem take_id (g : Nat) (ok oko : Nat → Prop) (m : Tk) (c i a : Int) (B : Option Addr) (d : Nat) (os : List S46) (w : World) (h : TkAt w g ok m) (hok : ∀ k, ok k → k ≠ g) (ho : Sees w oko B d os) (hoko : ∀ k, oko k → k ≠ g) (hn : os.length < 5864062014805) (s : ByteArray) (er : Int) (yes : Bool) (hp : bapS c i a os = (s, er)) (hk0 : 0 ≤ m.ask.f0) (hk9 : m.ask.f0 ≤ 255) (he : er = 0) (hq : reqB c = false) (h7 : c ≠ 7) (hl : 0 < m.left) (hc1 : c = m.ask.f0 + 1) (hi1 : i ≠ m.ask.f1) :
    Calls Try.prog 46 #[.pointer (some ⟨g, 0, none⟩), .agg #[.int .i64 c, .int .i64 i, .int .i64 a, .slice B os.length d], .bool yes] w (MadeBaps w g ok m [] 0) := by
  obtain ⟨A, cc, A', cc', h1, hs, hs'⟩ := h
  have H1 := Aside0.mk h1
  have HS := Aside0.mk hs
  have HS' := Aside0.mk hs'
  have HK := Aside0.mk hok
  have HO := Aside0.mk ho
  have HKO := Aside0.mk hoko
  have HN := Aside0.mk hn
  have HP := Aside0.mk (show bapmsg_Put.f c i a os = some (s, er) by unfold bapmsg_Put.f; rw [hp])
  clear hp
  have e0 : (er != 0) = false := by simpa using he
  clear he
  have RQ := Aside0.mk hq
  clear hq
  have e7 : (c == 7) = false := by simpa using h7
  clear h7
  have el : decide (0 < m.left) = true := decide_eq_true hl
  clear hl
  obtain ⟨a1, ha1⟩ : ∃ a1, a1 = m.ask.f0 + 1 := ⟨_, rfl⟩
  have ea : IntKind.i64.wrap (m.ask.f0 + 1) = a1 := by rw [IntKind.wrap_i64]; omega
  rw [← ha1] at hc1
  clear ha1
  have ec : (c == a1) = true := by simpa using hc1
  clear hc1
  have ei : (i == m.ask.f1) = false := by simpa using hi1
  clear hi1
  clear h1 hs hs' hok ho hoko hn
  have hu122 := Try.underlying122
  have hu120 := Try.underlying120
  have hu56 := Try.underlying56
  go_enter Try.func46, Try.ntmps46
  go_wp2_with (first
    | ((with_reducible refine gate_dst (N := 4) rfl ?_); refine box_event ?hg (N := 4) ?hd (cs := #[.int .i64 c, .int .i64 i, .int .i64 a, .slice B os.length d]) (t := 56) ?hr ?_; (case hd => rfl); (case hg => rfl); (case hr => first | (go_simp; done) | (go_simp; rfl)); intro gx hg w1 hbox hb
       have GR := Aside0.mk (show w.heap.size ≤ gx by rw [hg]; exact Nat.le_refl _)
       have GX := Aside0.mk hbox
       have G1 := Aside0.mk (blk_below H1.out hb)
       obtain ⟨j0, j1, j2, j3, q0, q1, q2, q3⟩ := four hbox
       obtain ⟨k0, k1, k2, k3, k4, k5, k6, k7, k8, k9, k10, k11⟩ := tk_cells G1.out
       have s4 := tk_free G1.out 4
       have gl1 := blk_lt G1.out
       have ne1 : w1.heap.size ≠ g := Nat.ne_of_gt gl1
       have ne2 : w1.heap.size ≠ gx := Nat.ne_of_gt (blk_lt hbox)
       have HU := Aside0.mk (Upd.of_below hb g)
       have NE := Aside0.mk (show g ≠ gx by have := blk_lt H1.out; omega)
       have nx : g ≠ gx := NE.out
       have nx' : gx ≠ g := NE.out.symm
       clear hg hbox hb)
    | (go_at_call 54; ((with_reducible refine (bapmsg_Put.calls c i a B d os s er _ (HO.out.step (fun k ho hk => HU.out.block k hk (HKO.out k ho))).C HO.out.cap HP.out).mono ?_); rintro e w3 ⟨rfl, hb⟩)
       have G3 := Aside0.mk (blk_below G1.out hb)
       have GX3 := Aside0.mk (blk_below GX.out hb)
       have HU3 := Aside0.mk (HU.out.then_below hb)
       clear hb ne1 ne2 gl1 s4 j0 j1 j2 j3 q0 q1 q2 q3 k0 k1 k2 k3 k4 k5 k6 k7 k8 k9 k10 k11
       obtain ⟨j0, j1, j2, j3, q0, q1, q2, q3⟩ := four GX3.out
       obtain ⟨k0, k1, k2, k3, k4, k5, k6, k7, k8, k9, k10, k11⟩ := tk_cells G3.out
       have s4 := tk_free G3.out 4
       have s8 := tk_free G3.out 8
       have s9 := tk_free G3.out 9
       have s10 := tk_free G3.out 10
       have s11 := tk_free G3.out 11)
    | (go_at_call 67; ((with_reducible refine (elect_Request.calls c _ _ (by rw [request_eq, RQ.out])).mono ?_); rintro e w' ⟨rfl, ⟨nd, rfl⟩⟩)))
  go_quiet (fail)
  go_wp2
  go_ret2
  exact MadeBaps.none (TkAt.turn (blk_drewN (blk_drewN G3.out _) _) HS.out HS'.out ((HU3.out.drewN _).drewN _) HK.out) ((HU3.out.drewN _).drewN _)
set_option maxHeartbeats 8000000 in
set_option maxRecDepth 100000 in
theorem take_ends (g : Nat) (ok oko : Nat → Prop) (m : Tk) (c i a : Int) (B : Option Addr) (d : Nat) (os : List S46) (w : World) (h : TkAt w g ok m) (hok : ∀ k, ok k → k ≠ g) (ho : Sees w oko B d os) (hoko : ∀ k, oko k → k ≠ g) (hn : os.length < 5864062014805) (s : ByteArray) (er : Int) (yes : Bool) (hp : bapS c i a os = (s, er)) (hk0 : 0 ≤ m.ask.f0) (hk9 : m.ask.f0 ≤ 255) (he : er = 0) (hq : reqB c = false) (h7 : c ≠ 7) (hl : 0 < m.left) (hc1 : c = m.ask.f0 + 1) (hi1 : i = m.ask.f1) :
    Calls Try.prog 46 #[.pointer (some ⟨g, 0, none⟩), .agg #[.int .i64 c, .int .i64 i, .int .i64 a, .slice B os.length d], .bool yes] w (MadeBaps w g ok { m with left := 0, last := ⟨c, i, a, os⟩ } [] 0) := by
  obtain ⟨A, cc, A', cc', h1, hs, hs'⟩ := h
  have H1 := Aside0.mk h1
  have HS := Aside0.mk hs
  have HS' := Aside0.mk hs'
  have HK := Aside0.mk hok
  have HO := Aside0.mk ho
  have HKO := Aside0.mk hoko
  have HN := Aside0.mk hn
  have HP := Aside0.mk (show bapmsg_Put.f c i a os = some (s, er) by unfold bapmsg_Put.f; rw [hp])
  clear hp
  have e0 : (er != 0) = false := by simpa using he
  clear he
  have RQ := Aside0.mk hq
  clear hq
  have e7 : (c == 7) = false := by simpa using h7
  clear h7
  have el : decide (0 < m.left) = true := decide_eq_true hl
  clear hl
  obtain ⟨a1, ha1⟩ : ∃ a1, a1 = m.ask.f0 + 1 := ⟨_, rfl⟩
  have ea : IntKind.i64.wrap (m.ask.f0 + 1) = a1 := by rw [IntKind.wrap_i64]; omega
  rw [← ha1] at hc1
  clear ha1
  have ec : (c == a1) = true := by simpa using hc1
  clear hc1
  have ei : (i == m.ask.f1) = true := by simpa using hi1
  clear hi1
  clear h1 hs hs' hok ho hoko hn
  have hu122 := Try.underlying122
  have hu120 := Try.underlying120
  have hu56 := Try.underlying56
  go_enter Try.func46, Try.ntmps46
  go_wp2_with (first
    | ((with_reducible refine gate_dst (N := 4) rfl ?_); refine box_event ?hg (N := 4) ?hd (cs := #[.int .i64 c, .int .i64 i, .int .i64 a, .slice B os.length d]) (t := 56) ?hr ?_; (case hd => rfl); (case hg => rfl); (case hr => first | (go_simp; done) | (go_simp; rfl)); intro gx hg w1 hbox hb
       have GR := Aside0.mk (show w.heap.size ≤ gx by rw [hg]; exact Nat.le_refl _)
       have GX := Aside0.mk hbox
       have G1 := Aside0.mk (blk_below H1.out hb)
       obtain ⟨j0, j1, j2, j3, q0, q1, q2, q3⟩ := four hbox
       obtain ⟨k0, k1, k2, k3, k4, k5, k6, k7, k8, k9, k10, k11⟩ := tk_cells G1.out
       have s4 := tk_free G1.out 4
       have gl1 := blk_lt G1.out
       have ne1 : w1.heap.size ≠ g := Nat.ne_of_gt gl1
       have ne2 : w1.heap.size ≠ gx := Nat.ne_of_gt (blk_lt hbox)
       have HU := Aside0.mk (Upd.of_below hb g)
       have NE := Aside0.mk (show g ≠ gx by have := blk_lt H1.out; omega)
       have nx : g ≠ gx := NE.out
       have nx' : gx ≠ g := NE.out.symm
       clear hg hbox hb)
    | (go_at_call 54; ((with_reducible refine (bapmsg_Put.calls c i a B d os s er _ (HO.out.step (fun k ho hk => HU.out.block k hk (HKO.out k ho))).C HO.out.cap HP.out).mono ?_); rintro e w3 ⟨rfl, hb⟩)
       have G3 := Aside0.mk (blk_below G1.out hb)
       have GX3 := Aside0.mk (blk_below GX.out hb)
       have HU3 := Aside0.mk (HU.out.then_below hb)
       clear hb ne1 ne2 gl1 s4 j0 j1 j2 j3 q0 q1 q2 q3 k0 k1 k2 k3 k4 k5 k6 k7 k8 k9 k10 k11
       obtain ⟨j0, j1, j2, j3, q0, q1, q2, q3⟩ := four GX3.out
       obtain ⟨k0, k1, k2, k3, k4, k5, k6, k7, k8, k9, k10, k11⟩ := tk_cells G3.out
       have s4 := tk_free G3.out 4
       have s8 := tk_free G3.out 8
       have s9 := tk_free G3.out 9
       have s10 := tk_free G3.out 10
       have s11 := tk_free G3.out 11)
    | (go_at_call 67; ((with_reducible refine (elect_Request.calls c _ _ (by rw [request_eq, RQ.out])).mono ?_); rintro e w' ⟨rfl, ⟨nd, rfl⟩⟩)))
  go_quiet (fail)
  have hlg : g < w.heap.size := blk_lt H1.out
  go_wp2_with (first
    | (go_at_call 80; ((with_reducible refine (bclone_calls c i a B d os _ (HO.out.step (fun k ho hk => (HU3.out.drewN _).block k hk (HKO.out k ho))).C HO.out.cap HN.out).mono ?_); rintro e w4 ⟨A2, c2, rfl, hR, hb⟩)
       have G4 := Aside0.mk (blk_below (blk_drewN G3.out _) hb)
       have HU4 := Aside0.mk ((HU3.out.drewN _).then_below hb)
       have HRR := Aside0.mk (show Kd.R k46 46 w4 w.heap.size (fun k => w.heap.size ≤ k ∧ k < w4.heap.size) (.slice A2 os.length c2) os from Kd.R_mono (Kd.R_bound (Kd.R_lower hR (show w.heap.size ≤ (w3.drewN _).heap.size from (HU3.out.drewN _).size))) (fun k hk => ⟨hk.2.1, hk.2.2.1⟩))
       clear hb hR j0 j1 j2 j3 q0 q1 q2 q3 k0 k1 k2 k3 k4 k5 k6 k7 k8 k9 k10 k11 s4 s8 s9 s10 s11
       obtain ⟨k0, k1, k2, k3, k4, k5, k6, k7, k8, k9, k10, k11⟩ := tk_cells G4.out
       have s4 := tk_free G4.out 4
       have s8 := tk_free G4.out 8
       have s9 := tk_free G4.out 9
       have s10 := tk_free G4.out 10
       have s11 := tk_free G4.out 11
       clear k0 k1 k2 k3 k5 k6 k7))
  go_ret2
  have hU : Upd w (((((w4.setCell ⟨g, 4, none⟩ (.int .i64 0)).setCell ⟨g, 8, none⟩ (.int .i64 c)).setCell ⟨g, 9, none⟩ (.int .i64 i)).setCell ⟨g, 10, none⟩ (.int .i64 a)).setCell ⟨g, 11, none⟩ (.slice A2 os.length c2)) g :=
    ((((HU4.out.set g 4 (.inl rfl) _).set g 8 (.inl rfl) _).set g 9 (.inl rfl) _).set g 10 (.inl rfl) _).set g 11 (.inl rfl) _
  refine ⟨_, w4.heap.size, rfl, HU4.out.size, .inl ⟨rfl, rfl⟩, ⟨A, cc, A2, c2, blk_put (blk_put (blk_put (blk_put (blk_put G4.out 4 _ rfl) 8 _ rfl) 9 _ rfl) 10 _ rfl) 11 _ rfl, ?_, ?_⟩, hU⟩
  · exact (HS.out.step (fun k ho hk => hU.block k hk (HK.out k ho))).mono (fun k hk => .inl hk)
  · refine Sees.mono (ok := fun k => w.heap.size ≤ k ∧ k < w4.heap.size) (Sees.of_R (B := w.heap.size) (n := os.length) ?_) (fun k hk => .inr hk)
    repeat (refine Kd.R_far ?_ (fun k hk => by simp only; omega) _)
    exact HRR.out
theorem take_calls (g : Nat) (ok oko : Nat → Prop) (m : Tk) (c i a : Int) (B : Option Addr) (d : Nat) (os : List S46) (w : World) (h : TkAt w g ok m) (hok : ∀ k, ok k → k ≠ g) (ho : Sees w oko B d os) (hoko : ∀ k, oko k → k ≠ g) (hn : os.length < 5864062014805) (yes : Bool) (hm : m.Ok) :
    Calls Try.prog 46 #[.pointer (some ⟨g, 0, none⟩), .agg #[.int .i64 c, .int .i64 i, .int .i64 a, .slice B os.length d], .bool yes] w (MadeBaps w g ok (takeS m ⟨c, i, a, os⟩ yes).1 (takeS m ⟨c, i, a, os⟩ yes).2.1 (takeS m ⟨c, i, a, os⟩ yes).2.2) := by
  obtain ⟨⟨s, er⟩, hp⟩ : ∃ t, bapS c i a os = t := ⟨_, rfl⟩
  have l0 := hm.left0
  have k0 := hm.code0
  have k9 := hm.code1
  unfold takeS
  simp only
  rw [hp]
  by_cases he : er = 0
  · rw [if_neg (fun h1 => h1 he)]
    cases hq : reqB c with
    | true =>
      rw [if_pos rfl]
      have hc : 0 ≤ c ∧ c ≤ 255 := by
        unfold reqB at hq
        simp at hq
        omega
      exact take_request g ok oko m c i a B d os w h hok ho hoko hn s er yes hp hc.1 hc.2 l0 he hq
    | false =>
      rw [if_neg (by decide)]
      by_cases h7 : c = 7
      · rw [if_pos h7]; exact take_status g ok oko m c i a B d os w h hok ho hoko hn s er yes hp he hq h7
      · rw [if_neg h7]
        by_cases hl : 0 < m.left
        · by_cases hc : c = m.ask.f0 + 1
          · by_cases hi : i = m.ask.f1
            · rw [if_pos ⟨hl, hc, hi⟩]; exact take_ends g ok oko m c i a B d os w h hok ho hoko hn s er yes hp k0 (by omega) he hq h7 hl hc hi
            · rw [if_neg (fun h1 => hi h1.2.2)]; exact take_id g ok oko m c i a B d os w h hok ho hoko hn s er yes hp k0 (by omega) he hq h7 hl hc hi
          · rw [if_neg (fun h1 => hc h1.2.1)]; exact take_code g ok oko m c i a B d os w h hok ho hoko hn s er yes hp k0 (by omega) he hq h7 hl hc
        · rw [if_neg (fun h1 => hl h1.1)]; exact take_idle g ok oko m c i a B d os w h hok ho hoko hn s er yes hp he hq h7 (by omega)
  · rw [if_pos he]; exact take_form g ok oko m c i a B d os w h hok ho hoko hn s er yes hp he
end Go.Proofs.Ytbdlkcgaobkdcaa.P
end

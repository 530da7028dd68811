/- The walk of the law TalkCross: each takes the other's request, just one is given up; no condition. -/
import Derived.Test.YtbdlkcgaobkdcaaTalkQ
set_option linter.unusedVariables false
set_option linter.unusedSimpArgs false
namespace Go.Proofs.Ytbdlkcgaobkdcaa.P
open Go.RowKit Go.Proofs.YtbdlkcgaobkdcaaW.PrintWords Go.Proofs.YtbdlkcgaobkdcaaW.PrintLast Go.Proofs.YtbdlkcgaobkdcaaW.PrintMore
attribute [local go_sem] max2_int min2_int max_two min_two max_three min_three max_four min_four

theorem C_zero (w : World) (A : Option Addr) : Kd.C k46 w A 0 [] := ⟨rfl, by omega, fun h => absurd h (Nat.lt_irrefl 0)⟩
theorem Sees.zero (w : World) (ok : Nat → Prop) (A : Option Addr) (c : Nat) : Sees w ok A c [] := ⟨Nat.zero_le _, fun W' _ => C_zero W' A⟩
def cr_m (f : Bool) (c l : Int) : Tk := { newS f 5 with id := 1, ask := ⟨c, 1, 0, []⟩, left := l }
def cr_e (f : Bool) (c : Int) (b : S56) : Tk := { cr_m f c 0 with last := b }
theorem cr_ask (f : Bool) (c : Int) (hc : reqB c = true) (c1 : 1 ≤ c) (c5 : c ≤ 5) : askS (newS f 5) c [] = (cr_m f c 5, ⟨c, 1, 0, []⟩, 0) := ask_plain (j := 1) (new_Ok f 5 (by decide) (by decide)) (.inl hc) c1 (by omega) rfl rfl
theorem cr_bap (d a : Int) (d1 : 1 ≤ d) (d8 : d ≤ 8) (a0 : 0 ≤ a) (a9 : a ≤ 255) (h : (d % 2 == 0) = false → a = 0) : (bapS d 1 a []).2 = 0 := bap_plain d1 d8 (by omega) (by omega) a0 a9 h
theorem cr_wins (f : Bool) (c d : Int) (yes : Bool) (hc : reqB c = true) (hd : reqB d = true) (d1 : 1 ≤ d) (d5 : d ≤ 5) (h : crossB f c d = true) : takeS (cr_m f c 5) ⟨d, 1, 0, []⟩ yes = (cr_m f c 5, [⟨d + 1, 1, 1, []⟩], 0) := by
  have hr : requestS (cr_m f c 5) ⟨d, 1, 0, []⟩ yes = (cr_m f c 5, ⟨d + 1, 1, 1, []⟩) := by
    unfold requestS
    rw [if_pos ⟨by show (0 : Int) < 5; omega, hc⟩, if_pos (show crossB (cr_m f c 5).fav (cr_m f c 5).ask.f0 (⟨d, 1, 0, []⟩ : S56).f0 = true from h)]
  rw [take_req (cr_bap d 0 d1 (by omega) (by omega) (by omega) (fun _ => rfl)) hd, hr]
theorem cr_gives (f : Bool) (c d : Int) (yes : Bool) (hc : reqB c = true) (hd : reqB d = true) (d1 : 1 ≤ d) (d5 : d ≤ 5) (h : crossB f c d = false) : takeS (cr_m f c 5) ⟨d, 1, 0, []⟩ yes = (cr_m f c 0, [⟨d + 1, 1, ansB yes, []⟩], 0) := by
  have hr : requestS (cr_m f c 5) ⟨d, 1, 0, []⟩ yes = (cr_m f c 0, ⟨d + 1, 1, ansB yes, []⟩) := by
    unfold requestS
    rw [if_pos ⟨by show (0 : Int) < 5; omega, hc⟩, if_neg (show ¬ crossB (cr_m f c 5).fav (cr_m f c 5).ask.f0 (⟨d, 1, 0, []⟩ : S56).f0 = true by show ¬ crossB f c d = true; rw [h]; decide)]
    rfl
  rw [take_req (cr_bap d 0 d1 (by omega) (by omega) (by omega) (fun _ => rfl)) hd, hr]
theorem code3_even {j : Int} (h0 : 0 ≤ j) (h3 : j < 3) : ((code3 j + 1) % 2 == 0) = true ∧ reqB (code3 j + 1) = false ∧ code3 j + 1 ≠ 7 := by
  have : j = 0 ∨ j = 1 ∨ j = 2 := by omega
  rcases this with rfl | rfl | rfl <;> decide
theorem cr_end (f : Bool) (j a : Int) (h0 : 0 ≤ j) (h3 : j < 3) (a0 : 0 ≤ a) (a9 : a ≤ 255) : takeS (cr_m f (code3 j) 5) ⟨code3 j + 1, 1, a, []⟩ false = (cr_e f (code3 j) ⟨code3 j + 1, 1, a, []⟩, [], 0) := by
  have e := code3_even h0 h3
  have r := code3_req h0 h3
  exact take_mine (cr_bap (code3 j + 1) a (by omega) (by omega) a0 a9 (fun h => by rw [e.1] at h; cases h)) e.2.1 e.2.2 (by show (0 : Int) < 5; decide) rfl rfl
theorem cr_none (f : Bool) (j a : Int) (h0 : 0 ≤ j) (h3 : j < 3) (a0 : 0 ≤ a) (a9 : a ≤ 255) : takeS (cr_m f (code3 j) 0) ⟨code3 j + 1, 1, a, []⟩ false = (cr_m f (code3 j) 0, [], 0) := by
  have e := code3_even h0 h3
  have r := code3_req h0 h3
  exact take_other (cr_bap (code3 j + 1) a (by omega) (by omega) a0 a9 (fun h => by rw [e.1] at h; cases h)) e.2.1 e.2.2 (fun h => absurd h.1 (by show ¬ (0 : Int) < 0; decide))
theorem cross_not (c d : Int) : crossB false d c = !crossB true c d := by
  unfold crossB
  by_cases h1 : c = 5
  · by_cases h2 : d = 5
    · rw [h1, h2]; decide
    · rw [h1, beq_eq_false_iff_ne.2 h2]; decide
  · by_cases h2 : d = 5
    · rw [h2, beq_eq_false_iff_ne.2 h1]; decide
    · rw [beq_eq_false_iff_ne.2 h1, beq_eq_false_iff_ne.2 h2]; decide
theorem code3_at {w : World} {g : Nat} (j : Int) (h0 : 0 ≤ j) (h3 : j < 3) (h : w.heap[g]? = some (.cells #[.int .i64 1, .int .i64 3, .int .i64 5] 3 (0, 0))) : w.cell? ⟨g, j.toNat, none⟩ = some (.int .i64 (code3 j)) := by
  rw [blk_cell h]
  have : j = 0 ∨ j = 1 ∨ j = 2 := by omega
  rcases this with rfl | rfl | rfl <;> rfl
/-- What crossed leaves: both sides' states, an answer of each. -/
def CrossIn (X : Nat → Prop) (w : World) (ga gb : Nat) (ma mb : Tk) (ra rb : S56) (e : Ending) (w' : World) : Prop := ∃ (g1 : Nat) (A1 : Option Addr) (c1 : Nat) (g2 : Nat) (A2 : Option Addr) (c2 : Nat),
  e = .returned (.tuple #[.slice (some ⟨g1, 0, none⟩) 1 1, .slice (some ⟨g2, 0, none⟩) 1 1]) ∧ w'.heap[g1]? = some (.cells #[.int .i64 ra.f0, .int .i64 ra.f1, .int .i64 ra.f2, .slice A1 ra.f3.length c1] 56 (0, 0)) ∧ ¬ X g1 ∧
  w'.heap[g2]? = some (.cells #[.int .i64 rb.f0, .int .i64 rb.f1, .int .i64 rb.f2, .slice A2 rb.f3.length c2] 56 (0, 0)) ∧ ¬ X g2 ∧ TkIn X w' ga ma ∧ TkIn X w' gb mb ∧ (∀ B, B ≤ ga → B ≤ gb → B ≤ w.heap.size → Below B w w')
set_option maxHeartbeats 8000000 in
set_option maxRecDepth 100000 in
theorem crossed_true (X : Nat → Prop) (ga gb : Nat) (ma mb ma' mb' : Tk) (ra rb : S56) (c d : Int) (A B : Option Addr) (k l : Nat) (yes : Bool) (w : World) (ha : TkIn X w ga ma) (hb : TkIn X w gb mb) (hne : ga ≠ gb)
    (ea : takeS ma ⟨d, 1, 0, []⟩ yes = (ma', [rb], 0)) (eb : takeS mb ⟨c, 1, 0, []⟩ yes = (mb', [ra], 0)) :
    Calls Try.prog 64 #[.pointer (some ⟨ga, 0, none⟩), .pointer (some ⟨gb, 0, none⟩), .agg #[.int .i64 c, .int .i64 1, .int .i64 0, .slice A 0 k], .agg #[.int .i64 d, .int .i64 1, .int .i64 0, .slice B 0 l], .bool yes, .bool true] w (CrossIn X w ga gb ma' mb' ra rb) := by
  have hu56 := Try.underlying56
  have TA := Aside0.mk ha
  have TB := Aside0.mk hb
  have EA := Aside0.mk ea
  have EB := Aside0.mk eb
  have NE := Aside0.mk hne
  clear ha hb ea eb hne
  go_enter Try.func64, Try.ntmps64
  go_wp2_with (first
    | (go_at_call 46; ((with_reducible refine (take_one (c := c) (i := 1) (a := 0) (os := []) (X := X) (m := mb) ?p1 (Sees.zero _ _ _ _) (by decide) EB.out (n := 0) rfl).mono ?_); (case p1 => repeat (first | exact TB.out | apply TkIn.alloc | apply TkIn.drewN | apply TkIn.drew)); rintro e wb ⟨g1, A1, c1, rfl, hg1, hx1, hs1, hTb, hUb⟩)
       have QB := Aside0.mk (show wb.heap[w.heap.size + 1]? = some (.cells #[.int .i64 d, .int .i64 1, .int .i64 0, .slice B 0 l] 56 (0, 0)) from hUb.blk (alloc_at (by simp)) (by have := TB.out.lt; omega))
       have PA := Aside0.mk (show TkIn X wb ga ma from TkIn.other (by repeat (first | exact TA.out | apply TkIn.alloc | apply TkIn.drewN | apply TkIn.drew)) hUb NE.out TB.out.own)
       have G1 := Aside0.mk hg1
       have X1 := Aside0.mk hx1
       have TB2 := Aside0.mk hTb
       have U1 := Aside0.mk hUb
       clear hg1 hx1 hs1 hTb hUb TA TB
       have TA := PA
       clear PA
       obtain ⟨z0, z1, z2, z3, _, _, _, _⟩ := four QB.out)
    | (go_at_call 46; ((with_reducible refine (take_one (c := d) (i := 1) (a := 0) (os := []) (X := X) (m := ma) ?p2 (Sees.zero _ _ _ _) (by decide) EA.out (n := 0) rfl).mono ?_); (case p2 => repeat (first | exact TA.out | apply TkIn.alloc | apply TkIn.drewN | apply TkIn.drew)); rintro e wa ⟨g2, A2, c2, rfl, hg2, hx2, hs2, hTa, hUa⟩)
       have F1 := Aside0.mk (hUa.blk G1.out (fun h => X1.out (h ▸ TA.out.own)))
       have FB := Aside0.mk (TkIn.other TB2.out hUa NE.out.symm TA.out.own)
       have G2 := Aside0.mk hg2
       have X2 := Aside0.mk hx2
       have FA := Aside0.mk hTa
       have U2 := Aside0.mk hUa
       clear hg2 hx2 hs2 hTa hUa z0 z1 z2 z3))
  go_ret2
  refine ⟨g1, A1, c1, g2, A2, c2, rfl, F1.out, X1.out, G2.out, X2.out, FA.out, FB.out, fun B' hA hB hw => ?_⟩
  have b1 : Below B' w ((w.alloc (.cells #[.int .i64 c, .int .i64 1, .int .i64 0, .slice A 0 k] 56)).alloc (.cells #[.int .i64 d, .int .i64 1, .int .i64 0, .slice B 0 l] 56)) := (Below.alloc (Below.alloc (Below.refl _ _) hw _) (by simp; omega) _)
  exact (b1.trans (U1.out.below hB (by simp; omega))).trans (U2.out.below hA (Nat.le_trans hw (Nat.le_trans (by simp; omega) U1.out.size)))
set_option maxHeartbeats 8000000 in
set_option maxRecDepth 100000 in
theorem crossed_false (X : Nat → Prop) (ga gb : Nat) (ma mb ma' mb' : Tk) (ra rb : S56) (c d : Int) (A B : Option Addr) (k l : Nat) (yes : Bool) (w : World) (ha : TkIn X w ga ma) (hb : TkIn X w gb mb) (hne : ga ≠ gb)
    (ea : takeS ma ⟨d, 1, 0, []⟩ yes = (ma', [rb], 0)) (eb : takeS mb ⟨c, 1, 0, []⟩ yes = (mb', [ra], 0)) :
    Calls Try.prog 64 #[.pointer (some ⟨ga, 0, none⟩), .pointer (some ⟨gb, 0, none⟩), .agg #[.int .i64 c, .int .i64 1, .int .i64 0, .slice A 0 k], .agg #[.int .i64 d, .int .i64 1, .int .i64 0, .slice B 0 l], .bool yes, .bool false] w (CrossIn X w ga gb ma' mb' ra rb) := by
  have hu56 := Try.underlying56
  have TA := Aside0.mk ha
  have TB := Aside0.mk hb
  have EA := Aside0.mk ea
  have EB := Aside0.mk eb
  have NE := Aside0.mk hne
  clear ha hb ea eb hne
  go_enter Try.func64, Try.ntmps64
  go_wp2_with (first
    | (go_at_call 46; ((with_reducible refine (take_one (c := d) (i := 1) (a := 0) (os := []) (X := X) (m := ma) ?p2 (Sees.zero _ _ _ _) (by decide) EA.out (n := 0) rfl).mono ?_); (case p2 => repeat (first | exact TA.out | apply TkIn.alloc | apply TkIn.drewN | apply TkIn.drew)); rintro e wa ⟨g2, A2, c2, rfl, hg2, hx2, hs2, hTa, hUa⟩)
       have QB := Aside0.mk (show wa.heap[w.heap.size]? = some (.cells #[.int .i64 c, .int .i64 1, .int .i64 0, .slice A 0 k] 56 (0, 0)) from hUa.blk (blk_alloc (heap_alloc_new w _) _) (by have := TA.out.lt; omega))
       have PB := Aside0.mk (show TkIn X wa gb mb from TkIn.other (by repeat (first | exact TB.out | apply TkIn.alloc | apply TkIn.drewN | apply TkIn.drew)) hUa NE.out.symm TA.out.own)
       have G2 := Aside0.mk hg2
       have X2 := Aside0.mk hx2
       have TA2 := Aside0.mk hTa
       have U1 := Aside0.mk hUa
       clear hg2 hx2 hs2 hTa hUa TA TB
       have TB := PB
       clear PB
       obtain ⟨z0, z1, z2, z3, _, _, _, _⟩ := four QB.out)
    | (go_at_call 46; ((with_reducible refine (take_one (c := c) (i := 1) (a := 0) (os := []) (X := X) (m := mb) ?p1 (Sees.zero _ _ _ _) (by decide) EB.out (n := 0) rfl).mono ?_); (case p1 => repeat (first | exact TB.out | apply TkIn.alloc | apply TkIn.drewN | apply TkIn.drew)); rintro e wb ⟨g1, A1, c1, rfl, hg1, hx1, hs1, hTb, hUb⟩)
       have F2 := Aside0.mk (hUb.blk G2.out (fun h => X2.out (h ▸ TB.out.own)))
       have FA := Aside0.mk (TkIn.other TA2.out hUb NE.out TB.out.own)
       have G1 := Aside0.mk hg1
       have X1 := Aside0.mk hx1
       have FB := Aside0.mk hTb
       have U2 := Aside0.mk hUb
       clear hg1 hx1 hs1 hTb hUb z0 z1 z2 z3))
  go_ret2
  refine ⟨g1, A1, c1, g2, A2, c2, rfl, G1.out, X1.out, F2.out, X2.out, FA.out, FB.out, fun B' hA hB hw => ?_⟩
  have b1 : Below B' w ((w.alloc (.cells #[.int .i64 c, .int .i64 1, .int .i64 0, .slice A 0 k] 56)).alloc (.cells #[.int .i64 d, .int .i64 1, .int .i64 0, .slice B 0 l] 56)) := (Below.alloc (Below.alloc (Below.refl _ _) hw _) (by simp; omega) _)
  exact (b1.trans (U1.out.below hA (by simp; omega))).trans (U2.out.below hB (Nat.le_trans hw (Nat.le_trans (by simp; omega) U1.out.size)))
theorem crossed_calls (X : Nat → Prop) (ga gb : Nat) (ma mb ma' mb' : Tk) (ra rb : S56) (c d : Int) (A B : Option Addr) (k l : Nat) (yes first : Bool) (w : World) (ha : TkIn X w ga ma) (hb : TkIn X w gb mb) (hne : ga ≠ gb)
    (ea : takeS ma ⟨d, 1, 0, []⟩ yes = (ma', [rb], 0)) (eb : takeS mb ⟨c, 1, 0, []⟩ yes = (mb', [ra], 0)) :
    Calls Try.prog 64 #[.pointer (some ⟨ga, 0, none⟩), .pointer (some ⟨gb, 0, none⟩), .agg #[.int .i64 c, .int .i64 1, .int .i64 0, .slice A 0 k], .agg #[.int .i64 d, .int .i64 1, .int .i64 0, .slice B 0 l], .bool yes, .bool first] w (CrossIn X w ga gb ma' mb' ra rb) := by
  cases first with
  | true => exact crossed_true X ga gb ma mb ma' mb' ra rb c d A B k l yes w ha hb hne ea eb
  | false => exact crossed_false X ga gb ma mb ma' mb' ra rb c d A B k l yes w ha hb hne ea eb
#print axioms crossed_calls
set_option maxHeartbeats 8000000 in
set_option maxRecDepth 100000 in
theorem talkCross_true_true (x y : Int) (first : Bool) (w : World) (hcw : crossB true (code3 (Int.tmod (IntKind.u64.wrap x) 3)) (code3 (Int.tmod (IntKind.u64.wrap y) 3)) = true) : Calls Try.prog 21 #[.int .i64 x, .int .i64 y, .bool true, .bool first] w fun e w' => e = .returned (.bool true) ∧ Below w.heap.size w w' := by
  have hu56 := Try.underlying56
  obtain ⟨jx, hjx⟩ : ∃ j, Int.tmod (IntKind.u64.wrap x) 3 = j := ⟨_, rfl⟩
  have jx0 : 0 ≤ jx := by have := tmod3 x; omega
  have jx3 : jx < 3 := by have := tmod3 x; omega
  obtain ⟨jy, hjy⟩ : ∃ j, Int.tmod (IntKind.u64.wrap y) 3 = j := ⟨_, rfl⟩
  have jy0 : 0 ≤ jy := by have := tmod3 y; omega
  have jy3 : jy < 3 := by have := tmod3 y; omega
  rw [hjx, hjy] at hcw
  have CW := Aside0.mk hcw
  have RX := Aside0.mk (code3_req jx0 jx3)
  have RY := Aside0.mk (code3_req jy0 jy3)
  have EA := Aside0.mk (cr_ask true (code3 jx) RX.out.1 RX.out.2.1 RX.out.2.2)
  have EB := Aside0.mk (cr_ask false (code3 jy) RY.out.1 RY.out.2.1 RY.out.2.2)
  have CA := Aside0.mk (show takeS (cr_m true (code3 jx) 5) ⟨code3 jy, 1, 0, []⟩ true = (cr_m true (code3 jx) 5, [⟨code3 jy + 1, 1, 1, []⟩], 0) from cr_wins true (code3 jx) (code3 jy) true RX.out.1 RY.out.1 RY.out.2.1 RY.out.2.2 CW.out)
  have CB := Aside0.mk (show takeS (cr_m false (code3 jy) 5) ⟨code3 jx, 1, 0, []⟩ true = (cr_m false (code3 jy) 0, [⟨code3 jx + 1, 1, 0, []⟩], 0) from cr_gives false (code3 jy) (code3 jx) true RY.out.1 RX.out.1 RX.out.2.1 RX.out.2.2 (by rw [cross_not, CW.out]; rfl))
  have FA := Aside0.mk (cr_end true jx 0 jx0 jx3 (by decide) (by decide))
  have FB := Aside0.mk (cr_none false jy 1 jy0 jy3 (by decide) (by decide))
  clear hcw
  have S1 : Aside0 True := ⟨trivial⟩
  go_enter Try.func21, Try.ntmps21
  go_wp2_with (first
    | (go_at_call 41; refine (awake22 _).mono ?_; rintro e w0 ⟨rfl, hb⟩; have B0 := Aside0.mk hb; clear hb)
    | (go_at_call 42; ((with_reducible refine (new_calls true 5 _ (by decide) (by decide)).mono ?_); rintro e w1 ⟨ga, rfl, hg, hT, hb⟩)
       have T0 := Aside0.mk hT
       have GA := Aside0.mk (show w.heap.size ≤ ga by have := B0.out.size; simp at hg; omega)
       have CD := Aside0.mk (show w1.heap[w0.heap.size]? = some (.cells #[.int .i64 1, .int .i64 3, .int .i64 5] 3 (0, 0)) from blk_below (heap_alloc_new _ _) hb)
       have CG := Aside0.mk (show w0.heap.size ≠ ga by simp at hg; omega)
       have B1 := Aside0.mk (below_step (by repeat (first | exact B0.out | apply below_alloc | apply pw_below_drewN | apply below_drew1)) hb)
       clear hg hT hb B0)
    | (go_at_call 42; ((with_reducible refine (new_calls false 5 _ (by decide) (by decide)).mono ?_); rintro e w2 ⟨gb, rfl, hg, hT, hb⟩)
       have NE := Aside0.mk (show ga ≠ gb by have := T0.out.lt; omega)
       have GB := Aside0.mk (show w.heap.size ≤ gb by have := B1.out.size; omega)
       have TA := Aside0.mk (show TkIn (fun k => k = ga ∨ k = gb) w2 ga (newS true 5) from ⟨(T0.out.below hb).mono (fun _ hk => hk.elim), new_Ok true 5 (by decide) (by decide), .inl rfl, fun k hk => by have := (T0.out.below hb).lt; have := hT.lt; rcases hk with hk | hk <;> omega⟩)
       have TB := Aside0.mk (show TkIn (fun k => k = ga ∨ k = gb) w2 gb (newS false 5) from ⟨hT.mono (fun _ hk => hk.elim), new_Ok false 5 (by decide) (by decide), .inr rfl, fun k hk => by have := (T0.out.below hb).lt; have := hT.lt; rcases hk with hk | hk <;> omega⟩)
       have CD2 := Aside0.mk (blk_below CD.out hb)
       have CB' := Aside0.mk (show w0.heap.size ≠ gb by have := blk_lt CD.out; omega)
       have B2 := Aside0.mk (below_step B1.out hb)
       clear hg hT hb B1 T0 CD
       have zx := code3_at jx jx0 jx3 CD2.out)
    | (go_at_call 29; ((with_reducible refine (withylaw0_Num.calls _ _ _ rfl).mono ?_); rintro e w' ⟨rfl, ⟨nd, rfl⟩⟩))
    | (go_at_call 43; ((with_reducible refine (ask_inN (code := code3 jx) (os := []) (X := fun k => k = ga ∨ k = gb) (m := newS true 5) ?p1 (Kd.C_nil _ _) (by decide) EA.out (n := 0) rfl).mono ?_); (case p1 => repeat (first | exact TA.out | apply TkIn.alloc | apply TkIn.drewN | apply TkIn.drew)); rintro e w3 ⟨A1, c1, rfl, hs, hT, hU⟩)
       have T1 := Aside0.mk hT
       have T2 := Aside0.mk (show TkIn (fun k => k = ga ∨ k = gb) w3 gb (newS false 5) from TkIn.other (by repeat (first | exact TB.out | apply TkIn.alloc | apply TkIn.drewN | apply TkIn.drew)) hU NE.out.symm (.inl rfl))
       have CD3 := Aside0.mk (hU.blk (show (World.heap _)[w0.heap.size]? = some (.cells #[.int .i64 1, .int .i64 3, .int .i64 5] 3 (0, 0)) by repeat (first | exact CD2.out | apply blk_drewN)) CG.out)
       have B3 := Aside0.mk (below_upd (by repeat (first | exact B2.out | apply below_alloc | apply pw_below_drewN | apply below_drew1)) hU GA.out)
       clear hs hT hU TA TB B2 zx CD2
       have zy : ∀ o, (w3.alloc o).cell? ⟨w0.heap.size, jy.toNat, none⟩ = some (.int .i64 (code3 jy)) := fun o => code3_at jy jy0 jy3 (blk_alloc CD3.out o))
    | (go_at_call 43; clear S1; ((with_reducible refine (ask_inN (code := code3 jy) (os := []) (X := fun k => k = ga ∨ k = gb) (m := newS false 5) ?p2 (Kd.C_nil _ _) (by decide) EB.out (n := 0) rfl).mono ?_); (case p2 => repeat (first | exact T2.out | apply TkIn.alloc | apply TkIn.drewN | apply TkIn.drew)); rintro e w4 ⟨A2, c2, rfl, hs, hT, hU⟩)
       have TB := Aside0.mk hT
       have TA := Aside0.mk (show TkIn (fun k => k = ga ∨ k = gb) w4 ga (cr_m true (code3 jx) 5) from TkIn.other (by repeat (first | exact T1.out | apply TkIn.alloc | apply TkIn.drewN | apply TkIn.drew)) hU NE.out (.inr rfl))
       obtain ⟨gp, hgp⟩ : ∃ gp, gp = w3.heap.size := ⟨_, rfl⟩
       have GP := Aside0.mk (show w4.heap[gp]? = some (.cells #[.int .i64 (code3 jx), .int .i64 1, .int .i64 0, .slice A1 0 c1] 56 (0, 0)) by rw [hgp]; exact hU.blk (heap_alloc_new _ _) (Nat.ne_of_gt T2.out.lt))
       rw [← hgp]
       have B4 := Aside0.mk (below_upd (by repeat (first | exact B3.out | apply below_alloc | apply pw_below_drewN | apply below_drew1)) hU GB.out)
       have z0 : ∀ o, (w4.alloc o).cell? ⟨gp, 0, none⟩ = some (.int .i64 (code3 jx)) := fun o => (blk_cell (blk_alloc GP.out o) 0).trans rfl
       have z1 : ∀ o, (w4.alloc o).cell? ⟨gp, 1, none⟩ = some (.int .i64 1) := fun o => (blk_cell (blk_alloc GP.out o) 1).trans rfl
       have z2 : ∀ o, (w4.alloc o).cell? ⟨gp, 2, none⟩ = some (.int .i64 0) := fun o => (blk_cell (blk_alloc GP.out o) 2).trans rfl
       have z3 : ∀ o, (w4.alloc o).cell? ⟨gp, 3, none⟩ = some (.slice A1 0 c1) := fun o => (blk_cell (blk_alloc GP.out o) 3).trans rfl
       clear hs hT hU T1 T2 B3 zy CD3 hgp)
    | (go_at_call 64; ((with_reducible refine (crossed_calls (fun k => k = ga ∨ k = gb) ga gb _ _ _ _ _ _ (code3 jx) (code3 jy) A1 A2 c1 c2 true first _ ?p3 ?p4 NE.out CA.out CB.out).mono ?_); (case p3 => repeat (first | exact TA.out | apply TkIn.alloc | apply TkIn.drewN | apply TkIn.drew)); (case p4 => repeat (first | exact TB.out | apply TkIn.alloc | apply TkIn.drewN | apply TkIn.drew)); rintro e w5 ⟨g1, A3, c3, g2, A4, c4, rfl, h1, x1, h2, x2, hTa, hTb, hB⟩)
       have G1 := Aside0.mk (show w5.heap[g1]? = some (.cells #[.int .i64 (code3 jx + 1), .int .i64 1, .int .i64 0, .slice A3 0 c3] 56 (0, 0)) from h1)
       have G2 := Aside0.mk (show w5.heap[g2]? = some (.cells #[.int .i64 (code3 jy + 1), .int .i64 1, .int .i64 1, .slice A4 0 c4] 56 (0, 0)) from h2)
       have X2 := Aside0.mk x2
       have UA := Aside0.mk hTa
       have UB := Aside0.mk hTb
       have B5 := Aside0.mk (Below.trans (show Below w.heap.size w _ from (by repeat (first | exact B4.out | apply below_alloc | apply pw_below_drewN | apply below_drew1))) (hB w.heap.size GA.out GB.out (show Below w.heap.size w _ from (by repeat (first | exact B4.out | apply below_alloc | apply pw_below_drewN | apply below_drew1))).size))
       clear h1 x1 h2 x2 hTa hTb hB TA TB B4 GP z0 z1 z2 z3
       obtain ⟨z0, z1, z2, z3, _, _, _, _⟩ := four G1.out
       obtain ⟨y0, y1, y2, y3, _, _, _, _⟩ := four G2.out)
    | (go_at_call 45; ((with_reducible refine (pending_in (X := fun k => k = ga ∨ k = gb) (q := true) (m := cr_m true (code3 jx) 5) (g := ga) ?p5 rfl).mono ?_); (case p5 => exact UA.out); rintro e w' ⟨rfl, rfl⟩))
    | (go_at_call 45; ((with_reducible refine (pending_in (X := fun k => k = ga ∨ k = gb) (q := false) (m := cr_m false (code3 jy) 0) (g := gb) ?p6 rfl).mono ?_); (case p6 => exact UB.out); rintro e w' ⟨rfl, rfl⟩))
    | (go_at_call 46; ((with_reducible refine (take_inN (c := code3 jx + 1) (i := 1) (a := 0) (os := []) (X := fun k => k = ga ∨ k = gb) (g := ga) ?p7 (Sees.zero _ _ _ _) (by decide) FA.out (n := 0) rfl).mono ?_); (case p7 => exact UA.out); rintro e w6 ⟨A5, c5, rfl, hs, hT, hU⟩)
       have VA := Aside0.mk hT
       have VB := Aside0.mk (TkIn.other UB.out hU NE.out.symm (.inl rfl))
       have G2' := Aside0.mk (hU.blk G2.out (fun h => X2.out (.inl h)))
       have B6 := Aside0.mk (below_upd B5.out hU GA.out)
       clear hs hT hU UA UB B5 G1 G2 z0 z1 z2 z3 y0 y1 y2 y3
       obtain ⟨y0, y1, y2, y3, _, _, _, _⟩ := four G2'.out)
    | (go_at_call 46; ((with_reducible refine (take_inN (c := code3 jy + 1) (i := 1) (a := 1) (os := []) (X := fun k => k = ga ∨ k = gb) (g := gb) ?p8 (Sees.zero _ _ _ _) (by decide) FB.out (n := 0) rfl).mono ?_); (case p8 => exact VB.out); rintro e w7 ⟨A6, c6, rfl, hs, hT, hU⟩)
       have WB := Aside0.mk hT
       have WA := Aside0.mk (TkIn.other VA.out hU NE.out (.inr rfl))
       have B7 := Aside0.mk (below_upd B6.out hU GB.out)
       clear hs hT hU VA VB B6 G2' y0 y1 y2 y3)
    | (go_at_call 45; ((with_reducible refine (pending_in (X := fun k => k = ga ∨ k = gb) (q := false) (m := cr_e true (code3 jx) ⟨code3 jx + 1, 1, 0, []⟩) (g := ga) ?p9 rfl).mono ?_); (case p9 => exact WA.out); rintro e w' ⟨rfl, rfl⟩))
    | (go_at_call 45; ((with_reducible refine (pending_in (X := fun k => k = ga ∨ k = gb) (q := false) (m := cr_m false (code3 jy) 0) (g := gb) ?p10 rfl).mono ?_); (case p10 => exact WB.out); rintro e w' ⟨rfl, rfl⟩)))
  go_ret
  exact ⟨rfl, B7.out⟩
set_option maxHeartbeats 8000000 in
set_option maxRecDepth 100000 in
theorem talkCross_true_false (x y : Int) (first : Bool) (w : World) (hcw : crossB true (code3 (Int.tmod (IntKind.u64.wrap x) 3)) (code3 (Int.tmod (IntKind.u64.wrap y) 3)) = true) : Calls Try.prog 21 #[.int .i64 x, .int .i64 y, .bool false, .bool first] w fun e w' => e = .returned (.bool true) ∧ Below w.heap.size w w' := by
  have hu56 := Try.underlying56
  obtain ⟨jx, hjx⟩ : ∃ j, Int.tmod (IntKind.u64.wrap x) 3 = j := ⟨_, rfl⟩
  have jx0 : 0 ≤ jx := by have := tmod3 x; omega
  have jx3 : jx < 3 := by have := tmod3 x; omega
  obtain ⟨jy, hjy⟩ : ∃ j, Int.tmod (IntKind.u64.wrap y) 3 = j := ⟨_, rfl⟩
  have jy0 : 0 ≤ jy := by have := tmod3 y; omega
  have jy3 : jy < 3 := by have := tmod3 y; omega
  rw [hjx, hjy] at hcw
  have CW := Aside0.mk hcw
  have RX := Aside0.mk (code3_req jx0 jx3)
  have RY := Aside0.mk (code3_req jy0 jy3)
  have EA := Aside0.mk (cr_ask true (code3 jx) RX.out.1 RX.out.2.1 RX.out.2.2)
  have EB := Aside0.mk (cr_ask false (code3 jy) RY.out.1 RY.out.2.1 RY.out.2.2)
  have CA := Aside0.mk (show takeS (cr_m true (code3 jx) 5) ⟨code3 jy, 1, 0, []⟩ false = (cr_m true (code3 jx) 5, [⟨code3 jy + 1, 1, 1, []⟩], 0) from cr_wins true (code3 jx) (code3 jy) false RX.out.1 RY.out.1 RY.out.2.1 RY.out.2.2 CW.out)
  have CB := Aside0.mk (show takeS (cr_m false (code3 jy) 5) ⟨code3 jx, 1, 0, []⟩ false = (cr_m false (code3 jy) 0, [⟨code3 jx + 1, 1, 1, []⟩], 0) from cr_gives false (code3 jy) (code3 jx) false RY.out.1 RX.out.1 RX.out.2.1 RX.out.2.2 (by rw [cross_not, CW.out]; rfl))
  have FA := Aside0.mk (cr_end true jx 1 jx0 jx3 (by decide) (by decide))
  have FB := Aside0.mk (cr_none false jy 1 jy0 jy3 (by decide) (by decide))
  clear hcw
  have S1 : Aside0 True := ⟨trivial⟩
  go_enter Try.func21, Try.ntmps21
  go_wp2_with (first
    | (go_at_call 41; refine (awake22 _).mono ?_; rintro e w0 ⟨rfl, hb⟩; have B0 := Aside0.mk hb; clear hb)
    | (go_at_call 42; ((with_reducible refine (new_calls true 5 _ (by decide) (by decide)).mono ?_); rintro e w1 ⟨ga, rfl, hg, hT, hb⟩)
       have T0 := Aside0.mk hT
       have GA := Aside0.mk (show w.heap.size ≤ ga by have := B0.out.size; simp at hg; omega)
       have CD := Aside0.mk (show w1.heap[w0.heap.size]? = some (.cells #[.int .i64 1, .int .i64 3, .int .i64 5] 3 (0, 0)) from blk_below (heap_alloc_new _ _) hb)
       have CG := Aside0.mk (show w0.heap.size ≠ ga by simp at hg; omega)
       have B1 := Aside0.mk (below_step (by repeat (first | exact B0.out | apply below_alloc | apply pw_below_drewN | apply below_drew1)) hb)
       clear hg hT hb B0)
    | (go_at_call 42; ((with_reducible refine (new_calls false 5 _ (by decide) (by decide)).mono ?_); rintro e w2 ⟨gb, rfl, hg, hT, hb⟩)
       have NE := Aside0.mk (show ga ≠ gb by have := T0.out.lt; omega)
       have GB := Aside0.mk (show w.heap.size ≤ gb by have := B1.out.size; omega)
       have TA := Aside0.mk (show TkIn (fun k => k = ga ∨ k = gb) w2 ga (newS true 5) from ⟨(T0.out.below hb).mono (fun _ hk => hk.elim), new_Ok true 5 (by decide) (by decide), .inl rfl, fun k hk => by have := (T0.out.below hb).lt; have := hT.lt; rcases hk with hk | hk <;> omega⟩)
       have TB := Aside0.mk (show TkIn (fun k => k = ga ∨ k = gb) w2 gb (newS false 5) from ⟨hT.mono (fun _ hk => hk.elim), new_Ok false 5 (by decide) (by decide), .inr rfl, fun k hk => by have := (T0.out.below hb).lt; have := hT.lt; rcases hk with hk | hk <;> omega⟩)
       have CD2 := Aside0.mk (blk_below CD.out hb)
       have CB' := Aside0.mk (show w0.heap.size ≠ gb by have := blk_lt CD.out; omega)
       have B2 := Aside0.mk (below_step B1.out hb)
       clear hg hT hb B1 T0 CD
       have zx := code3_at jx jx0 jx3 CD2.out)
    | (go_at_call 29; ((with_reducible refine (withylaw0_Num.calls _ _ _ rfl).mono ?_); rintro e w' ⟨rfl, ⟨nd, rfl⟩⟩))
    | (go_at_call 43; ((with_reducible refine (ask_inN (code := code3 jx) (os := []) (X := fun k => k = ga ∨ k = gb) (m := newS true 5) ?p1 (Kd.C_nil _ _) (by decide) EA.out (n := 0) rfl).mono ?_); (case p1 => repeat (first | exact TA.out | apply TkIn.alloc | apply TkIn.drewN | apply TkIn.drew)); rintro e w3 ⟨A1, c1, rfl, hs, hT, hU⟩)
       have T1 := Aside0.mk hT
       have T2 := Aside0.mk (show TkIn (fun k => k = ga ∨ k = gb) w3 gb (newS false 5) from TkIn.other (by repeat (first | exact TB.out | apply TkIn.alloc | apply TkIn.drewN | apply TkIn.drew)) hU NE.out.symm (.inl rfl))
       have CD3 := Aside0.mk (hU.blk (show (World.heap _)[w0.heap.size]? = some (.cells #[.int .i64 1, .int .i64 3, .int .i64 5] 3 (0, 0)) by repeat (first | exact CD2.out | apply blk_drewN)) CG.out)
       have B3 := Aside0.mk (below_upd (by repeat (first | exact B2.out | apply below_alloc | apply pw_below_drewN | apply below_drew1)) hU GA.out)
       clear hs hT hU TA TB B2 zx CD2
       have zy : ∀ o, (w3.alloc o).cell? ⟨w0.heap.size, jy.toNat, none⟩ = some (.int .i64 (code3 jy)) := fun o => code3_at jy jy0 jy3 (blk_alloc CD3.out o))
    | (go_at_call 43; clear S1; ((with_reducible refine (ask_inN (code := code3 jy) (os := []) (X := fun k => k = ga ∨ k = gb) (m := newS false 5) ?p2 (Kd.C_nil _ _) (by decide) EB.out (n := 0) rfl).mono ?_); (case p2 => repeat (first | exact T2.out | apply TkIn.alloc | apply TkIn.drewN | apply TkIn.drew)); rintro e w4 ⟨A2, c2, rfl, hs, hT, hU⟩)
       have TB := Aside0.mk hT
       have TA := Aside0.mk (show TkIn (fun k => k = ga ∨ k = gb) w4 ga (cr_m true (code3 jx) 5) from TkIn.other (by repeat (first | exact T1.out | apply TkIn.alloc | apply TkIn.drewN | apply TkIn.drew)) hU NE.out (.inr rfl))
       obtain ⟨gp, hgp⟩ : ∃ gp, gp = w3.heap.size := ⟨_, rfl⟩
       have GP := Aside0.mk (show w4.heap[gp]? = some (.cells #[.int .i64 (code3 jx), .int .i64 1, .int .i64 0, .slice A1 0 c1] 56 (0, 0)) by rw [hgp]; exact hU.blk (heap_alloc_new _ _) (Nat.ne_of_gt T2.out.lt))
       rw [← hgp]
       have B4 := Aside0.mk (below_upd (by repeat (first | exact B3.out | apply below_alloc | apply pw_below_drewN | apply below_drew1)) hU GB.out)
       have z0 : ∀ o, (w4.alloc o).cell? ⟨gp, 0, none⟩ = some (.int .i64 (code3 jx)) := fun o => (blk_cell (blk_alloc GP.out o) 0).trans rfl
       have z1 : ∀ o, (w4.alloc o).cell? ⟨gp, 1, none⟩ = some (.int .i64 1) := fun o => (blk_cell (blk_alloc GP.out o) 1).trans rfl
       have z2 : ∀ o, (w4.alloc o).cell? ⟨gp, 2, none⟩ = some (.int .i64 0) := fun o => (blk_cell (blk_alloc GP.out o) 2).trans rfl
       have z3 : ∀ o, (w4.alloc o).cell? ⟨gp, 3, none⟩ = some (.slice A1 0 c1) := fun o => (blk_cell (blk_alloc GP.out o) 3).trans rfl
       clear hs hT hU T1 T2 B3 zy CD3 hgp)
    | (go_at_call 64; ((with_reducible refine (crossed_calls (fun k => k = ga ∨ k = gb) ga gb _ _ _ _ _ _ (code3 jx) (code3 jy) A1 A2 c1 c2 false first _ ?p3 ?p4 NE.out CA.out CB.out).mono ?_); (case p3 => repeat (first | exact TA.out | apply TkIn.alloc | apply TkIn.drewN | apply TkIn.drew)); (case p4 => repeat (first | exact TB.out | apply TkIn.alloc | apply TkIn.drewN | apply TkIn.drew)); rintro e w5 ⟨g1, A3, c3, g2, A4, c4, rfl, h1, x1, h2, x2, hTa, hTb, hB⟩)
       have G1 := Aside0.mk (show w5.heap[g1]? = some (.cells #[.int .i64 (code3 jx + 1), .int .i64 1, .int .i64 1, .slice A3 0 c3] 56 (0, 0)) from h1)
       have G2 := Aside0.mk (show w5.heap[g2]? = some (.cells #[.int .i64 (code3 jy + 1), .int .i64 1, .int .i64 1, .slice A4 0 c4] 56 (0, 0)) from h2)
       have X2 := Aside0.mk x2
       have UA := Aside0.mk hTa
       have UB := Aside0.mk hTb
       have B5 := Aside0.mk (Below.trans (show Below w.heap.size w _ from (by repeat (first | exact B4.out | apply below_alloc | apply pw_below_drewN | apply below_drew1))) (hB w.heap.size GA.out GB.out (show Below w.heap.size w _ from (by repeat (first | exact B4.out | apply below_alloc | apply pw_below_drewN | apply below_drew1))).size))
       clear h1 x1 h2 x2 hTa hTb hB TA TB B4 GP z0 z1 z2 z3
       obtain ⟨z0, z1, z2, z3, _, _, _, _⟩ := four G1.out
       obtain ⟨y0, y1, y2, y3, _, _, _, _⟩ := four G2.out)
    | (go_at_call 45; ((with_reducible refine (pending_in (X := fun k => k = ga ∨ k = gb) (q := true) (m := cr_m true (code3 jx) 5) (g := ga) ?p5 rfl).mono ?_); (case p5 => exact UA.out); rintro e w' ⟨rfl, rfl⟩))
    | (go_at_call 45; ((with_reducible refine (pending_in (X := fun k => k = ga ∨ k = gb) (q := false) (m := cr_m false (code3 jy) 0) (g := gb) ?p6 rfl).mono ?_); (case p6 => exact UB.out); rintro e w' ⟨rfl, rfl⟩))
    | (go_at_call 46; ((with_reducible refine (take_inN (c := code3 jx + 1) (i := 1) (a := 1) (os := []) (X := fun k => k = ga ∨ k = gb) (g := ga) ?p7 (Sees.zero _ _ _ _) (by decide) FA.out (n := 0) rfl).mono ?_); (case p7 => exact UA.out); rintro e w6 ⟨A5, c5, rfl, hs, hT, hU⟩)
       have VA := Aside0.mk hT
       have VB := Aside0.mk (TkIn.other UB.out hU NE.out.symm (.inl rfl))
       have G2' := Aside0.mk (hU.blk G2.out (fun h => X2.out (.inl h)))
       have B6 := Aside0.mk (below_upd B5.out hU GA.out)
       clear hs hT hU UA UB B5 G1 G2 z0 z1 z2 z3 y0 y1 y2 y3
       obtain ⟨y0, y1, y2, y3, _, _, _, _⟩ := four G2'.out)
    | (go_at_call 46; ((with_reducible refine (take_inN (c := code3 jy + 1) (i := 1) (a := 1) (os := []) (X := fun k => k = ga ∨ k = gb) (g := gb) ?p8 (Sees.zero _ _ _ _) (by decide) FB.out (n := 0) rfl).mono ?_); (case p8 => exact VB.out); rintro e w7 ⟨A6, c6, rfl, hs, hT, hU⟩)
       have WB := Aside0.mk hT
       have WA := Aside0.mk (TkIn.other VA.out hU NE.out (.inr rfl))
       have B7 := Aside0.mk (below_upd B6.out hU GB.out)
       clear hs hT hU VA VB B6 G2' y0 y1 y2 y3)
    | (go_at_call 45; ((with_reducible refine (pending_in (X := fun k => k = ga ∨ k = gb) (q := false) (m := cr_e true (code3 jx) ⟨code3 jx + 1, 1, 1, []⟩) (g := ga) ?p9 rfl).mono ?_); (case p9 => exact WA.out); rintro e w' ⟨rfl, rfl⟩))
    | (go_at_call 45; ((with_reducible refine (pending_in (X := fun k => k = ga ∨ k = gb) (q := false) (m := cr_m false (code3 jy) 0) (g := gb) ?p10 rfl).mono ?_); (case p10 => exact WB.out); rintro e w' ⟨rfl, rfl⟩)))
  go_ret
  exact ⟨rfl, B7.out⟩
set_option maxHeartbeats 8000000 in
set_option maxRecDepth 100000 in
theorem talkCross_false_true (x y : Int) (first : Bool) (w : World) (hcw : crossB true (code3 (Int.tmod (IntKind.u64.wrap x) 3)) (code3 (Int.tmod (IntKind.u64.wrap y) 3)) = false) : Calls Try.prog 21 #[.int .i64 x, .int .i64 y, .bool true, .bool first] w fun e w' => e = .returned (.bool true) ∧ Below w.heap.size w w' := by
  have hu56 := Try.underlying56
  obtain ⟨jx, hjx⟩ : ∃ j, Int.tmod (IntKind.u64.wrap x) 3 = j := ⟨_, rfl⟩
  have jx0 : 0 ≤ jx := by have := tmod3 x; omega
  have jx3 : jx < 3 := by have := tmod3 x; omega
  obtain ⟨jy, hjy⟩ : ∃ j, Int.tmod (IntKind.u64.wrap y) 3 = j := ⟨_, rfl⟩
  have jy0 : 0 ≤ jy := by have := tmod3 y; omega
  have jy3 : jy < 3 := by have := tmod3 y; omega
  rw [hjx, hjy] at hcw
  have CW := Aside0.mk hcw
  have RX := Aside0.mk (code3_req jx0 jx3)
  have RY := Aside0.mk (code3_req jy0 jy3)
  have EA := Aside0.mk (cr_ask true (code3 jx) RX.out.1 RX.out.2.1 RX.out.2.2)
  have EB := Aside0.mk (cr_ask false (code3 jy) RY.out.1 RY.out.2.1 RY.out.2.2)
  have CA := Aside0.mk (show takeS (cr_m true (code3 jx) 5) ⟨code3 jy, 1, 0, []⟩ true = (cr_m true (code3 jx) 0, [⟨code3 jy + 1, 1, 0, []⟩], 0) from cr_gives true (code3 jx) (code3 jy) true RX.out.1 RY.out.1 RY.out.2.1 RY.out.2.2 CW.out)
  have CB := Aside0.mk (show takeS (cr_m false (code3 jy) 5) ⟨code3 jx, 1, 0, []⟩ true = (cr_m false (code3 jy) 5, [⟨code3 jx + 1, 1, 1, []⟩], 0) from cr_wins false (code3 jy) (code3 jx) true RY.out.1 RX.out.1 RX.out.2.1 RX.out.2.2 (by rw [cross_not, CW.out]; rfl))
  have FA := Aside0.mk (cr_none true jx 1 jx0 jx3 (by decide) (by decide))
  have FB := Aside0.mk (cr_end false jy 0 jy0 jy3 (by decide) (by decide))
  clear hcw
  have S1 : Aside0 True := ⟨trivial⟩
  go_enter Try.func21, Try.ntmps21
  go_wp2_with (first
    | (go_at_call 41; refine (awake22 _).mono ?_; rintro e w0 ⟨rfl, hb⟩; have B0 := Aside0.mk hb; clear hb)
    | (go_at_call 42; ((with_reducible refine (new_calls true 5 _ (by decide) (by decide)).mono ?_); rintro e w1 ⟨ga, rfl, hg, hT, hb⟩)
       have T0 := Aside0.mk hT
       have GA := Aside0.mk (show w.heap.size ≤ ga by have := B0.out.size; simp at hg; omega)
       have CD := Aside0.mk (show w1.heap[w0.heap.size]? = some (.cells #[.int .i64 1, .int .i64 3, .int .i64 5] 3 (0, 0)) from blk_below (heap_alloc_new _ _) hb)
       have CG := Aside0.mk (show w0.heap.size ≠ ga by simp at hg; omega)
       have B1 := Aside0.mk (below_step (by repeat (first | exact B0.out | apply below_alloc | apply pw_below_drewN | apply below_drew1)) hb)
       clear hg hT hb B0)
    | (go_at_call 42; ((with_reducible refine (new_calls false 5 _ (by decide) (by decide)).mono ?_); rintro e w2 ⟨gb, rfl, hg, hT, hb⟩)
       have NE := Aside0.mk (show ga ≠ gb by have := T0.out.lt; omega)
       have GB := Aside0.mk (show w.heap.size ≤ gb by have := B1.out.size; omega)
       have TA := Aside0.mk (show TkIn (fun k => k = ga ∨ k = gb) w2 ga (newS true 5) from ⟨(T0.out.below hb).mono (fun _ hk => hk.elim), new_Ok true 5 (by decide) (by decide), .inl rfl, fun k hk => by have := (T0.out.below hb).lt; have := hT.lt; rcases hk with hk | hk <;> omega⟩)
       have TB := Aside0.mk (show TkIn (fun k => k = ga ∨ k = gb) w2 gb (newS false 5) from ⟨hT.mono (fun _ hk => hk.elim), new_Ok false 5 (by decide) (by decide), .inr rfl, fun k hk => by have := (T0.out.below hb).lt; have := hT.lt; rcases hk with hk | hk <;> omega⟩)
       have CD2 := Aside0.mk (blk_below CD.out hb)
       have CB' := Aside0.mk (show w0.heap.size ≠ gb by have := blk_lt CD.out; omega)
       have B2 := Aside0.mk (below_step B1.out hb)
       clear hg hT hb B1 T0 CD
       have zx := code3_at jx jx0 jx3 CD2.out)
    | (go_at_call 29; ((with_reducible refine (withylaw0_Num.calls _ _ _ rfl).mono ?_); rintro e w' ⟨rfl, ⟨nd, rfl⟩⟩))
    | (go_at_call 43; ((with_reducible refine (ask_inN (code := code3 jx) (os := []) (X := fun k => k = ga ∨ k = gb) (m := newS true 5) ?p1 (Kd.C_nil _ _) (by decide) EA.out (n := 0) rfl).mono ?_); (case p1 => repeat (first | exact TA.out | apply TkIn.alloc | apply TkIn.drewN | apply TkIn.drew)); rintro e w3 ⟨A1, c1, rfl, hs, hT, hU⟩)
       have T1 := Aside0.mk hT
       have T2 := Aside0.mk (show TkIn (fun k => k = ga ∨ k = gb) w3 gb (newS false 5) from TkIn.other (by repeat (first | exact TB.out | apply TkIn.alloc | apply TkIn.drewN | apply TkIn.drew)) hU NE.out.symm (.inl rfl))
       have CD3 := Aside0.mk (hU.blk (show (World.heap _)[w0.heap.size]? = some (.cells #[.int .i64 1, .int .i64 3, .int .i64 5] 3 (0, 0)) by repeat (first | exact CD2.out | apply blk_drewN)) CG.out)
       have B3 := Aside0.mk (below_upd (by repeat (first | exact B2.out | apply below_alloc | apply pw_below_drewN | apply below_drew1)) hU GA.out)
       clear hs hT hU TA TB B2 zx CD2
       have zy : ∀ o, (w3.alloc o).cell? ⟨w0.heap.size, jy.toNat, none⟩ = some (.int .i64 (code3 jy)) := fun o => code3_at jy jy0 jy3 (blk_alloc CD3.out o))
    | (go_at_call 43; clear S1; ((with_reducible refine (ask_inN (code := code3 jy) (os := []) (X := fun k => k = ga ∨ k = gb) (m := newS false 5) ?p2 (Kd.C_nil _ _) (by decide) EB.out (n := 0) rfl).mono ?_); (case p2 => repeat (first | exact T2.out | apply TkIn.alloc | apply TkIn.drewN | apply TkIn.drew)); rintro e w4 ⟨A2, c2, rfl, hs, hT, hU⟩)
       have TB := Aside0.mk hT
       have TA := Aside0.mk (show TkIn (fun k => k = ga ∨ k = gb) w4 ga (cr_m true (code3 jx) 5) from TkIn.other (by repeat (first | exact T1.out | apply TkIn.alloc | apply TkIn.drewN | apply TkIn.drew)) hU NE.out (.inr rfl))
       obtain ⟨gp, hgp⟩ : ∃ gp, gp = w3.heap.size := ⟨_, rfl⟩
       have GP := Aside0.mk (show w4.heap[gp]? = some (.cells #[.int .i64 (code3 jx), .int .i64 1, .int .i64 0, .slice A1 0 c1] 56 (0, 0)) by rw [hgp]; exact hU.blk (heap_alloc_new _ _) (Nat.ne_of_gt T2.out.lt))
       rw [← hgp]
       have B4 := Aside0.mk (below_upd (by repeat (first | exact B3.out | apply below_alloc | apply pw_below_drewN | apply below_drew1)) hU GB.out)
       have z0 : ∀ o, (w4.alloc o).cell? ⟨gp, 0, none⟩ = some (.int .i64 (code3 jx)) := fun o => (blk_cell (blk_alloc GP.out o) 0).trans rfl
       have z1 : ∀ o, (w4.alloc o).cell? ⟨gp, 1, none⟩ = some (.int .i64 1) := fun o => (blk_cell (blk_alloc GP.out o) 1).trans rfl
       have z2 : ∀ o, (w4.alloc o).cell? ⟨gp, 2, none⟩ = some (.int .i64 0) := fun o => (blk_cell (blk_alloc GP.out o) 2).trans rfl
       have z3 : ∀ o, (w4.alloc o).cell? ⟨gp, 3, none⟩ = some (.slice A1 0 c1) := fun o => (blk_cell (blk_alloc GP.out o) 3).trans rfl
       clear hs hT hU T1 T2 B3 zy CD3 hgp)
    | (go_at_call 64; ((with_reducible refine (crossed_calls (fun k => k = ga ∨ k = gb) ga gb _ _ _ _ _ _ (code3 jx) (code3 jy) A1 A2 c1 c2 true first _ ?p3 ?p4 NE.out CA.out CB.out).mono ?_); (case p3 => repeat (first | exact TA.out | apply TkIn.alloc | apply TkIn.drewN | apply TkIn.drew)); (case p4 => repeat (first | exact TB.out | apply TkIn.alloc | apply TkIn.drewN | apply TkIn.drew)); rintro e w5 ⟨g1, A3, c3, g2, A4, c4, rfl, h1, x1, h2, x2, hTa, hTb, hB⟩)
       have G1 := Aside0.mk (show w5.heap[g1]? = some (.cells #[.int .i64 (code3 jx + 1), .int .i64 1, .int .i64 1, .slice A3 0 c3] 56 (0, 0)) from h1)
       have G2 := Aside0.mk (show w5.heap[g2]? = some (.cells #[.int .i64 (code3 jy + 1), .int .i64 1, .int .i64 0, .slice A4 0 c4] 56 (0, 0)) from h2)
       have X2 := Aside0.mk x2
       have UA := Aside0.mk hTa
       have UB := Aside0.mk hTb
       have B5 := Aside0.mk (Below.trans (show Below w.heap.size w _ from (by repeat (first | exact B4.out | apply below_alloc | apply pw_below_drewN | apply below_drew1))) (hB w.heap.size GA.out GB.out (show Below w.heap.size w _ from (by repeat (first | exact B4.out | apply below_alloc | apply pw_below_drewN | apply below_drew1))).size))
       clear h1 x1 h2 x2 hTa hTb hB TA TB B4 GP z0 z1 z2 z3
       obtain ⟨z0, z1, z2, z3, _, _, _, _⟩ := four G1.out
       obtain ⟨y0, y1, y2, y3, _, _, _, _⟩ := four G2.out)
    | (go_at_call 45; ((with_reducible refine (pending_in (X := fun k => k = ga ∨ k = gb) (q := false) (m := cr_m true (code3 jx) 0) (g := ga) ?p5 rfl).mono ?_); (case p5 => exact UA.out); rintro e w' ⟨rfl, rfl⟩))
    | (go_at_call 45; ((with_reducible refine (pending_in (X := fun k => k = ga ∨ k = gb) (q := true) (m := cr_m false (code3 jy) 5) (g := gb) ?p6 rfl).mono ?_); (case p6 => exact UB.out); rintro e w' ⟨rfl, rfl⟩))
    | (go_at_call 46; ((with_reducible refine (take_inN (c := code3 jx + 1) (i := 1) (a := 1) (os := []) (X := fun k => k = ga ∨ k = gb) (g := ga) ?p7 (Sees.zero _ _ _ _) (by decide) FA.out (n := 0) rfl).mono ?_); (case p7 => exact UA.out); rintro e w6 ⟨A5, c5, rfl, hs, hT, hU⟩)
       have VA := Aside0.mk hT
       have VB := Aside0.mk (TkIn.other UB.out hU NE.out.symm (.inl rfl))
       have G2' := Aside0.mk (hU.blk G2.out (fun h => X2.out (.inl h)))
       have B6 := Aside0.mk (below_upd B5.out hU GA.out)
       clear hs hT hU UA UB B5 G1 G2 z0 z1 z2 z3 y0 y1 y2 y3
       obtain ⟨y0, y1, y2, y3, _, _, _, _⟩ := four G2'.out)
    | (go_at_call 46; ((with_reducible refine (take_inN (c := code3 jy + 1) (i := 1) (a := 0) (os := []) (X := fun k => k = ga ∨ k = gb) (g := gb) ?p8 (Sees.zero _ _ _ _) (by decide) FB.out (n := 0) rfl).mono ?_); (case p8 => exact VB.out); rintro e w7 ⟨A6, c6, rfl, hs, hT, hU⟩)
       have WB := Aside0.mk hT
       have WA := Aside0.mk (TkIn.other VA.out hU NE.out (.inr rfl))
       have B7 := Aside0.mk (below_upd B6.out hU GB.out)
       clear hs hT hU VA VB B6 G2' y0 y1 y2 y3)
    | (go_at_call 45; ((with_reducible refine (pending_in (X := fun k => k = ga ∨ k = gb) (q := false) (m := cr_m true (code3 jx) 0) (g := ga) ?p9 rfl).mono ?_); (case p9 => exact WA.out); rintro e w' ⟨rfl, rfl⟩))
    | (go_at_call 45; ((with_reducible refine (pending_in (X := fun k => k = ga ∨ k = gb) (q := false) (m := cr_e false (code3 jy) ⟨code3 jy + 1, 1, 0, []⟩) (g := gb) ?p10 rfl).mono ?_); (case p10 => exact WB.out); rintro e w' ⟨rfl, rfl⟩)))
  go_ret
  exact ⟨rfl, B7.out⟩
set_option maxHeartbeats 8000000 in
set_option maxRecDepth 100000 in
theorem talkCross_false_false (x y : Int) (first : Bool) (w : World) (hcw : crossB true (code3 (Int.tmod (IntKind.u64.wrap x) 3)) (code3 (Int.tmod (IntKind.u64.wrap y) 3)) = false) : Calls Try.prog 21 #[.int .i64 x, .int .i64 y, .bool false, .bool first] w fun e w' => e = .returned (.bool true) ∧ Below w.heap.size w w' := by
  have hu56 := Try.underlying56
  obtain ⟨jx, hjx⟩ : ∃ j, Int.tmod (IntKind.u64.wrap x) 3 = j := ⟨_, rfl⟩
  have jx0 : 0 ≤ jx := by have := tmod3 x; omega
  have jx3 : jx < 3 := by have := tmod3 x; omega
  obtain ⟨jy, hjy⟩ : ∃ j, Int.tmod (IntKind.u64.wrap y) 3 = j := ⟨_, rfl⟩
  have jy0 : 0 ≤ jy := by have := tmod3 y; omega
  have jy3 : jy < 3 := by have := tmod3 y; omega
  rw [hjx, hjy] at hcw
  have CW := Aside0.mk hcw
  have RX := Aside0.mk (code3_req jx0 jx3)
  have RY := Aside0.mk (code3_req jy0 jy3)
  have EA := Aside0.mk (cr_ask true (code3 jx) RX.out.1 RX.out.2.1 RX.out.2.2)
  have EB := Aside0.mk (cr_ask false (code3 jy) RY.out.1 RY.out.2.1 RY.out.2.2)
  have CA := Aside0.mk (show takeS (cr_m true (code3 jx) 5) ⟨code3 jy, 1, 0, []⟩ false = (cr_m true (code3 jx) 0, [⟨code3 jy + 1, 1, 1, []⟩], 0) from cr_gives true (code3 jx) (code3 jy) false RX.out.1 RY.out.1 RY.out.2.1 RY.out.2.2 CW.out)
  have CB := Aside0.mk (show takeS (cr_m false (code3 jy) 5) ⟨code3 jx, 1, 0, []⟩ false = (cr_m false (code3 jy) 5, [⟨code3 jx + 1, 1, 1, []⟩], 0) from cr_wins false (code3 jy) (code3 jx) false RY.out.1 RX.out.1 RX.out.2.1 RX.out.2.2 (by rw [cross_not, CW.out]; rfl))
  have FA := Aside0.mk (cr_none true jx 1 jx0 jx3 (by decide) (by decide))
  have FB := Aside0.mk (cr_end false jy 1 jy0 jy3 (by decide) (by decide))
  clear hcw
  have S1 : Aside0 True := ⟨trivial⟩
  go_enter Try.func21, Try.ntmps21
  go_wp2_with (first
    | (go_at_call 41; refine (awake22 _).mono ?_; rintro e w0 ⟨rfl, hb⟩; have B0 := Aside0.mk hb; clear hb)
    | (go_at_call 42; ((with_reducible refine (new_calls true 5 _ (by decide) (by decide)).mono ?_); rintro e w1 ⟨ga, rfl, hg, hT, hb⟩)
       have T0 := Aside0.mk hT
       have GA := Aside0.mk (show w.heap.size ≤ ga by have := B0.out.size; simp at hg; omega)
       have CD := Aside0.mk (show w1.heap[w0.heap.size]? = some (.cells #[.int .i64 1, .int .i64 3, .int .i64 5] 3 (0, 0)) from blk_below (heap_alloc_new _ _) hb)
       have CG := Aside0.mk (show w0.heap.size ≠ ga by simp at hg; omega)
       have B1 := Aside0.mk (below_step (by repeat (first | exact B0.out | apply below_alloc | apply pw_below_drewN | apply below_drew1)) hb)
       clear hg hT hb B0)
    | (go_at_call 42; ((with_reducible refine (new_calls false 5 _ (by decide) (by decide)).mono ?_); rintro e w2 ⟨gb, rfl, hg, hT, hb⟩)
       have NE := Aside0.mk (show ga ≠ gb by have := T0.out.lt; omega)
       have GB := Aside0.mk (show w.heap.size ≤ gb by have := B1.out.size; omega)
       have TA := Aside0.mk (show TkIn (fun k => k = ga ∨ k = gb) w2 ga (newS true 5) from ⟨(T0.out.below hb).mono (fun _ hk => hk.elim), new_Ok true 5 (by decide) (by decide), .inl rfl, fun k hk => by have := (T0.out.below hb).lt; have := hT.lt; rcases hk with hk | hk <;> omega⟩)
       have TB := Aside0.mk (show TkIn (fun k => k = ga ∨ k = gb) w2 gb (newS false 5) from ⟨hT.mono (fun _ hk => hk.elim), new_Ok false 5 (by decide) (by decide), .inr rfl, fun k hk => by have := (T0.out.below hb).lt; have := hT.lt; rcases hk with hk | hk <;> omega⟩)
       have CD2 := Aside0.mk (blk_below CD.out hb)
       have CB' := Aside0.mk (show w0.heap.size ≠ gb by have := blk_lt CD.out; omega)
       have B2 := Aside0.mk (below_step B1.out hb)
       clear hg hT hb B1 T0 CD
       have zx := code3_at jx jx0 jx3 CD2.out)
    | (go_at_call 29; ((with_reducible refine (withylaw0_Num.calls _ _ _ rfl).mono ?_); rintro e w' ⟨rfl, ⟨nd, rfl⟩⟩))
    | (go_at_call 43; ((with_reducible refine (ask_inN (code := code3 jx) (os := []) (X := fun k => k = ga ∨ k = gb) (m := newS true 5) ?p1 (Kd.C_nil _ _) (by decide) EA.out (n := 0) rfl).mono ?_); (case p1 => repeat (first | exact TA.out | apply TkIn.alloc | apply TkIn.drewN | apply TkIn.drew)); rintro e w3 ⟨A1, c1, rfl, hs, hT, hU⟩)
       have T1 := Aside0.mk hT
       have T2 := Aside0.mk (show TkIn (fun k => k = ga ∨ k = gb) w3 gb (newS false 5) from TkIn.other (by repeat (first | exact TB.out | apply TkIn.alloc | apply TkIn.drewN | apply TkIn.drew)) hU NE.out.symm (.inl rfl))
       have CD3 := Aside0.mk (hU.blk (show (World.heap _)[w0.heap.size]? = some (.cells #[.int .i64 1, .int .i64 3, .int .i64 5] 3 (0, 0)) by repeat (first | exact CD2.out | apply blk_drewN)) CG.out)
       have B3 := Aside0.mk (below_upd (by repeat (first | exact B2.out | apply below_alloc | apply pw_below_drewN | apply below_drew1)) hU GA.out)
       clear hs hT hU TA TB B2 zx CD2
       have zy : ∀ o, (w3.alloc o).cell? ⟨w0.heap.size, jy.toNat, none⟩ = some (.int .i64 (code3 jy)) := fun o => code3_at jy jy0 jy3 (blk_alloc CD3.out o))
    | (go_at_call 43; clear S1; ((with_reducible refine (ask_inN (code := code3 jy) (os := []) (X := fun k => k = ga ∨ k = gb) (m := newS false 5) ?p2 (Kd.C_nil _ _) (by decide) EB.out (n := 0) rfl).mono ?_); (case p2 => repeat (first | exact T2.out | apply TkIn.alloc | apply TkIn.drewN | apply TkIn.drew)); rintro e w4 ⟨A2, c2, rfl, hs, hT, hU⟩)
       have TB := Aside0.mk hT
       have TA := Aside0.mk (show TkIn (fun k => k = ga ∨ k = gb) w4 ga (cr_m true (code3 jx) 5) from TkIn.other (by repeat (first | exact T1.out | apply TkIn.alloc | apply TkIn.drewN | apply TkIn.drew)) hU NE.out (.inr rfl))
       obtain ⟨gp, hgp⟩ : ∃ gp, gp = w3.heap.size := ⟨_, rfl⟩
       have GP := Aside0.mk (show w4.heap[gp]? = some (.cells #[.int .i64 (code3 jx), .int .i64 1, .int .i64 0, .slice A1 0 c1] 56 (0, 0)) by rw [hgp]; exact hU.blk (heap_alloc_new _ _) (Nat.ne_of_gt T2.out.lt))
       rw [← hgp]
       have B4 := Aside0.mk (below_upd (by repeat (first | exact B3.out | apply below_alloc | apply pw_below_drewN | apply below_drew1)) hU GB.out)
       have z0 : ∀ o, (w4.alloc o).cell? ⟨gp, 0, none⟩ = some (.int .i64 (code3 jx)) := fun o => (blk_cell (blk_alloc GP.out o) 0).trans rfl
       have z1 : ∀ o, (w4.alloc o).cell? ⟨gp, 1, none⟩ = some (.int .i64 1) := fun o => (blk_cell (blk_alloc GP.out o) 1).trans rfl
       have z2 : ∀ o, (w4.alloc o).cell? ⟨gp, 2, none⟩ = some (.int .i64 0) := fun o => (blk_cell (blk_alloc GP.out o) 2).trans rfl
       have z3 : ∀ o, (w4.alloc o).cell? ⟨gp, 3, none⟩ = some (.slice A1 0 c1) := fun o => (blk_cell (blk_alloc GP.out o) 3).trans rfl
       clear hs hT hU T1 T2 B3 zy CD3 hgp)
    | (go_at_call 64; ((with_reducible refine (crossed_calls (fun k => k = ga ∨ k = gb) ga gb _ _ _ _ _ _ (code3 jx) (code3 jy) A1 A2 c1 c2 false first _ ?p3 ?p4 NE.out CA.out CB.out).mono ?_); (case p3 => repeat (first | exact TA.out | apply TkIn.alloc | apply TkIn.drewN | apply TkIn.drew)); (case p4 => repeat (first | exact TB.out | apply TkIn.alloc | apply TkIn.drewN | apply TkIn.drew)); rintro e w5 ⟨g1, A3, c3, g2, A4, c4, rfl, h1, x1, h2, x2, hTa, hTb, hB⟩)
       have G1 := Aside0.mk (show w5.heap[g1]? = some (.cells #[.int .i64 (code3 jx + 1), .int .i64 1, .int .i64 1, .slice A3 0 c3] 56 (0, 0)) from h1)
       have G2 := Aside0.mk (show w5.heap[g2]? = some (.cells #[.int .i64 (code3 jy + 1), .int .i64 1, .int .i64 1, .slice A4 0 c4] 56 (0, 0)) from h2)
       have X2 := Aside0.mk x2
       have UA := Aside0.mk hTa
       have UB := Aside0.mk hTb
       have B5 := Aside0.mk (Below.trans (show Below w.heap.size w _ from (by repeat (first | exact B4.out | apply below_alloc | apply pw_below_drewN | apply below_drew1))) (hB w.heap.size GA.out GB.out (show Below w.heap.size w _ from (by repeat (first | exact B4.out | apply below_alloc | apply pw_below_drewN | apply below_drew1))).size))
       clear h1 x1 h2 x2 hTa hTb hB TA TB B4 GP z0 z1 z2 z3
       obtain ⟨z0, z1, z2, z3, _, _, _, _⟩ := four G1.out
       obtain ⟨y0, y1, y2, y3, _, _, _, _⟩ := four G2.out)
    | (go_at_call 45; ((with_reducible refine (pending_in (X := fun k => k = ga ∨ k = gb) (q := false) (m := cr_m true (code3 jx) 0) (g := ga) ?p5 rfl).mono ?_); (case p5 => exact UA.out); rintro e w' ⟨rfl, rfl⟩))
    | (go_at_call 45; ((with_reducible refine (pending_in (X := fun k => k = ga ∨ k = gb) (q := true) (m := cr_m false (code3 jy) 5) (g := gb) ?p6 rfl).mono ?_); (case p6 => exact UB.out); rintro e w' ⟨rfl, rfl⟩))
    | (go_at_call 46; ((with_reducible refine (take_inN (c := code3 jx + 1) (i := 1) (a := 1) (os := []) (X := fun k => k = ga ∨ k = gb) (g := ga) ?p7 (Sees.zero _ _ _ _) (by decide) FA.out (n := 0) rfl).mono ?_); (case p7 => exact UA.out); rintro e w6 ⟨A5, c5, rfl, hs, hT, hU⟩)
       have VA := Aside0.mk hT
       have VB := Aside0.mk (TkIn.other UB.out hU NE.out.symm (.inl rfl))
       have G2' := Aside0.mk (hU.blk G2.out (fun h => X2.out (.inl h)))
       have B6 := Aside0.mk (below_upd B5.out hU GA.out)
       clear hs hT hU UA UB B5 G1 G2 z0 z1 z2 z3 y0 y1 y2 y3
       obtain ⟨y0, y1, y2, y3, _, _, _, _⟩ := four G2'.out)
    | (go_at_call 46; ((with_reducible refine (take_inN (c := code3 jy + 1) (i := 1) (a := 1) (os := []) (X := fun k => k = ga ∨ k = gb) (g := gb) ?p8 (Sees.zero _ _ _ _) (by decide) FB.out (n := 0) rfl).mono ?_); (case p8 => exact VB.out); rintro e w7 ⟨A6, c6, rfl, hs, hT, hU⟩)
       have WB := Aside0.mk hT
       have WA := Aside0.mk (TkIn.other VA.out hU NE.out (.inr rfl))
       have B7 := Aside0.mk (below_upd B6.out hU GB.out)
       clear hs hT hU VA VB B6 G2' y0 y1 y2 y3)
    | (go_at_call 45; ((with_reducible refine (pending_in (X := fun k => k = ga ∨ k = gb) (q := false) (m := cr_m true (code3 jx) 0) (g := ga) ?p9 rfl).mono ?_); (case p9 => exact WA.out); rintro e w' ⟨rfl, rfl⟩))
    | (go_at_call 45; ((with_reducible refine (pending_in (X := fun k => k = ga ∨ k = gb) (q := false) (m := cr_e false (code3 jy) ⟨code3 jy + 1, 1, 1, []⟩) (g := gb) ?p10 rfl).mono ?_); (case p10 => exact WB.out); rintro e w' ⟨rfl, rfl⟩)))
  go_ret
  exact ⟨rfl, B7.out⟩
theorem talkCross_calls (x y : Int) (yes first : Bool) (w : World) : Calls Try.prog 21 #[.int .i64 x, .int .i64 y, .bool yes, .bool first] w fun e w' => e = .returned (.bool true) ∧ Below w.heap.size w w' := by
  cases hcw : crossB true (code3 (Int.tmod (IntKind.u64.wrap x) 3)) (code3 (Int.tmod (IntKind.u64.wrap y) 3)) with
  | true =>
    cases yes with
    | true => exact talkCross_true_true x y first w hcw
    | false => exact talkCross_true_false x y first w hcw
  | false =>
    cases yes with
    | true => exact talkCross_false_true x y first w hcw
    | false => exact talkCross_false_false x y first w hcw
#print axioms talkCross_calls
end Go.Proofs.Ytbdlkcgaobkdcaa.P

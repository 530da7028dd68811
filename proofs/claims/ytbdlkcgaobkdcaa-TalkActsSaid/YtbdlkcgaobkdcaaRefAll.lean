/- The document's own side: RefBap, TalkR, Px47, TalkS, Px51, TalkT, TalkU as one; conditions as in each. -/
import Derived.Test.YtbdlkcgaobkdcaaPx48
import Derived.Test.YtbdlkcgaobkdcaaHBap
import Derived.Test.YtbdlkcgaobkdcaaMask
import Derived.Test.YtbdlkcgaobkdcaaTalkFive
import Derived.Test.YtbdlkcgaobkdcaaPx0
import Derived.Deep.RegionHeld3
import Derived.RegionTactic
import Derived.BigQuiet
import Derived.Deep.QuietTactic
set_option linter.unusedVariables false
set_option linter.unusedSimpArgs false
section
namespace Go.Proofs.Ytbdlkcgaobkdcaa.P
open Go.RowKit Go.Proofs.YtbdlkcgaobkdcaaW.PrintWords Go.Proofs.YtbdlkcgaobkdcaaW.PrintLast

theorem two_some (n : Int) (h0 : 0 ≤ n) (h1 : n < 65536) : withyref1_two.f n = some (strOfNums [n / 256, n % 256]) := by
  unfold withyref1_two.f
  rw [mask255, mask255, Int.emod_emod_of_dvd _ (by decide), Int.emod_emod_of_dvd _ (by decide), Int.emod_eq_of_lt (show 0 ≤ n / 256 by omega) (by omega)]
theorem refBap_body (c i : Int) (b : ByteArray) (hb : b.size ≤ 5000) :
    ∃ s : ByteArray, (if (wrap64 ((b.size : Int) + 4)) > 2048 then (some ((⟨#[]⟩ : ByteArray), (901 : Int))) else ((some (([c % 256, i % 256] : List Int) : List Int)).bind fun y => ((withyref1_two.f (wrap64 ((b.size : Int) + 4))).bind fun t => (if (strOfNums y).size + t.size ≤ 9223372036854775807 then (if ((strOfNums y) ++ t).size + b.size ≤ 9223372036854775807 then (some (((strOfNums y) ++ t) ++ b, 0)) else (none)) else (none))))) =
      some (s, if 2048 < 4 + b.size then 901 else 0) := by
  have hw : wrap64 ((b.size : Int) + 4) = 4 + (b.size : Int) := by rw [wrap64_of (by omega) (by omega)]; omega
  rw [hw]
  clear hw
  by_cases h : 2048 < 4 + b.size
  · exact ⟨_, by rw [if_pos (by omega), if_pos h]⟩
  · have z : ∀ x y : Int, (strOfNums [x, y]).size = 2 := fun x y => by simp [strOfNums]; rfl
    refine ⟨(strOfNums [c % 256, i % 256] ++ strOfNums [(4 + (b.size : Int)) / 256, (4 + (b.size : Int)) % 256]) ++ b, ?_⟩
    rw [if_neg (by omega), if_neg h, two_some _ (by omega) (by omega)]
    simp only [Option.bind_some]
    rw [if_pos (by rw [z, z]; decide), if_pos (by rw [ByteArray.size_append, z, z]; omega)]
theorem refBap_eq (c i a : Int) (l : List S46) (hl : l.all (fun o => decide (o.f1.size ≤ 140737488351232)) = true) : ∃ s, withyref1_Bap.f 2 c i a l = some (s, (bapS c i a l).2) := by
  have e0 : withyref1_Opts.f l = some (putS l) := by unfold withyref1_Opts.f; rw [if_pos hl]
  have hput : (putS l).1.size ≤ 2048 := putS_len l
  unfold withyref1_Bap.f
  rw [mask1]
  have bad : (bapS c i a l).2 = 900 → ∃ s, withyref1_Bap.j0 2 (c % 2 == 0) true c i a l = some (s, (bapS c i a l).2) := fun h => by
    rw [h]
    exact ⟨_, by simp only [withyref1_Bap.j0, if_true]; rfl⟩
  have bap : mayB c i = false ∨ a < 0 ∨ 255 < a ∨ ((c % 2 == 0) = false ∧ a ≠ 0) ∨ (putS l).2 ≠ 0 → (bapS c i a l).2 = 900 := fun h => by unfold bapS; rw [if_pos h]
  by_cases h1 : c < 1
  · rw [if_pos h1]; exact bad (bap (.inl (by unfold mayB; rw [decide_eq_false (show ¬ 1 ≤ c by omega)]; rfl)))
  rw [if_neg h1]
  by_cases h2 : c > 8
  · rw [if_pos h2]; exact bad (bap (.inl (by unfold mayB; rw [decide_eq_false (show ¬ c ≤ 8 by omega)]; simp)))
  rw [if_neg h2]
  by_cases h3 : i < 0
  · rw [if_pos h3]; exact bad (bap (.inl (by unfold mayB; rw [decide_eq_false (show ¬ 0 ≤ i by omega)]; simp)))
  rw [if_neg h3]
  by_cases h4 : i > 255
  · rw [if_pos h4]; exact bad (bap (.inl (by unfold mayB; rw [decide_eq_false (show ¬ i ≤ 255 by omega)]; simp)))
  rw [if_neg h4]
  by_cases h5 : a < 0
  · rw [if_pos h5]; exact bad (bap (.inr (.inl h5)))
  rw [if_neg h5]
  by_cases h6 : a > 255
  · rw [if_pos h6]; exact bad (bap (.inr (.inr (.inl h6))))
  rw [if_neg h6]
  have hm : mayB c i = true := by unfold mayB; rw [decide_eq_true (show 1 ≤ c by omega), decide_eq_true (show c ≤ 8 by omega), decide_eq_true (show 0 ≤ i by omega), decide_eq_true (show i ≤ 255 by omega)]; rfl
  have step : ∀ x : Bool, x = (c % 2 == 0) → (x = false → a = 0) → ∃ s, withyref1_Bap.j0 2 x false c i a l = some (s, (bapS c i a l).2) := by
    intro x hx ha
    simp only [withyref1_Bap.j0]
    rw [if_neg (by decide), e0, Option.bind_some]
    by_cases hp : (putS l).2 = 0
    · rw [if_pos hp]
      have hb : (bapS c i a l).2 = if x = true then (if 2048 < 4 + (1 + (putS l).1.size) then 901 else 0) else (if 2048 < 4 + (putS l).1.size then 901 else 0) := by
        unfold bapS
        rw [if_neg (by rintro (h | h | h | ⟨h, h'⟩ | h); rw [hm] at h; cases h; exact h5 h; exact h6 h; exact h' (ha (hx.trans h)); exact h hp), ← hx]
        cases x with
        | true => simp only [if_true]; split <;> rfl
        | false => simp only [Bool.false_eq_true, if_false]; split <;> rfl
      rw [hb]
      cases x with
      | true =>
        rw [if_pos rfl, if_pos rfl]
        have z1 : (strOfNums [a % 256]).size = 1 := by simp [strOfNums]; rfl
        simp only [Option.bind_some]
        rw [if_pos (by rw [z1]; omega)]
        have z : (strOfNums [a % 256] ++ (putS l).1).size = 1 + (putS l).1.size := by rw [ByteArray.size_append, z1]
        have := refBap_body c i (strOfNums [a % 256] ++ (putS l).1) (by rw [z]; omega)
        rw [z] at this ⊢
        exact this
      | false =>
        rw [if_neg (show ¬ (false = true) by decide), if_neg (show ¬ (false = true) by decide)]
        exact refBap_body c i (putS l).1 (by omega)
    · rw [if_neg hp, bap (.inr (.inr (.inr (.inr hp))))]
      exact ⟨_, rfl⟩
  by_cases h7 : c % 2 = 0
  · rw [if_pos h7]
    exact step _ rfl (fun h => by rw [h7] at h; cases h)
  · rw [if_neg h7]
    by_cases h8 : a = 0
    · rw [h8] at bad bap step ⊢
      exact step _ rfl (fun _ => rfl)
    · rw [show (a != 0) = true by simpa using h8]
      exact bad (bap (.inr (.inr (.inr (.inl ⟨by simpa using h7, h8⟩)))))
/-- The document's Bap, as the walks take it: some bytes, bapmsg.Put's error. -/
theorem refBap_calls (c i a : Int) (A : Option Addr) (cc : Nat) (l : List S46) (w : World) (hr : Kd.C k46 w A l.length l) (hc : l.length ≤ cc) (hl : l.all (fun o => decide (o.f1.size ≤ 140737488351232)) = true) :
    Calls Try.prog 87 #[.agg #[.int .i64 c, .int .i64 i, .int .i64 a, .slice A l.length cc]] w fun e w' => (∃ s, e = .returned (.tuple #[.string s, .int .i64 (bapS c i a l).2])) ∧ Below w.heap.size w w' := by
  obtain ⟨s, h⟩ := refBap_eq c i a l hl
  exact (withyref1_Bap.calls 2 c i a A cc l s _ w hr hc h).mono fun e w' ⟨h1, h2⟩ => ⟨⟨s, h1⟩, h2⟩
end Go.Proofs.Ytbdlkcgaobkdcaa.P
end
section
namespace Go.Proofs.Ytbdlkcgaobkdcaa.P
open Go.RowKit Go.Proofs.YtbdlkcgaobkdcaaW.PrintWords Go.Proofs.YtbdlkcgaobkdcaaW.PrintLast Go.Proofs.YtbdlkcgaobkdcaaW.PrintMore
attribute [local go_sem] max2_int min2_int max_two min_two max_three min_three max_four min_four

/-- The document's side: thirteen cells; p: is one pending; lr: the tries left, if so. -/
def rfCells (m : Tk) (p : Bool) (lr : Int) (u v : Value) : Array Value := #[.bool p, .int .i64 m.last.f0, .int .i64 m.last.f1, .int .i64 m.last.f2, v, .bool m.fav, .int .i64 m.tries, .int .i64 lr, .int .i64 m.id, .int .i64 m.ask.f0, .int .i64 m.ask.f1, .int .i64 m.ask.f2, u]
def RfAt (w : World) (g : Nat) (ok : Nat → Prop) (m : Tk) : Prop := ∃ (p : Bool) (lr : Int) (A : Option Addr) (c : Nat) (A' : Option Addr) (c' : Nat), decide (0 < m.left) = p ∧ (0 < m.left → lr = m.left) ∧
  w.heap[g]? = some (.cells (rfCells m p lr (.slice A m.ask.f3.length c) (.slice A' m.last.f3.length c')) 99 (0, 0)) ∧ Sees w ok A c m.ask.f3 ∧ Sees w ok A' c' m.last.f3
theorem RfAt.mono {w : World} {g : Nat} {ok ok' : Nat → Prop} {m : Tk} (h : RfAt w g ok m) (hk : ∀ k, ok k → ok' k) : RfAt w g ok' m := by
  obtain ⟨p, lr, A, c, A', c', h0, h1, h2, h3, h4⟩ := h
  exact ⟨p, lr, A, c, A', c', h0, h1, h2, h3.mono hk, h4.mono hk⟩
theorem RfAt.lt {w : World} {g : Nat} {ok : Nat → Prop} {m : Tk} (h : RfAt w g ok m) : g < w.heap.size := by
  obtain ⟨p, lr, A, c, A', c', h0, h1, h2, _⟩ := h
  exact blk_lt h2
theorem RfAt.step {w w' : World} {g : Nat} {ok : Nat → Prop} {m : Tk} (h : RfAt w g ok m) (hg : w'.heap[g]? = w.heap[g]?) (hm : ∀ k, ok k → k < w.heap.size → w'.heap[k]? = w.heap[k]?) : RfAt w' g ok m := by
  obtain ⟨p, lr, A, c, A', c', h0, h1, h2, h3, h4⟩ := h
  exact ⟨p, lr, A, c, A', c', h0, h1, hg.trans h2, h3.step hm, h4.step hm⟩
theorem RfAt.below {w w' : World} {g : Nat} {ok : Nat → Prop} {m : Tk} (h : RfAt w g ok m) (hb : Below w.heap.size w w') : RfAt w' g ok m := h.step (hb.block g h.lt) (fun k _ hk => hb.block k hk)
theorem RfAt.kept {w w' : World} {g : Nat} {ok S : Nat → Prop} {m : Tk} (h : RfAt w g ok m) (hk : Kept w w' S) (hg : ¬ S g) (hS : ∀ k, ok k → ¬ S k) : RfAt w' g ok m := h.step (hk.2 g h.lt hg) (fun k ho hlt => hk.2 k hlt (hS k ho))
theorem RfAt.turn {w w' : World} {g : Nat} {ok : Nat → Prop} {m : Tk} {p : Bool} {lr : Int} {A A' : Option Addr} {c c' : Nat} (h0 : decide (0 < m.left) = p) (h1 : 0 < m.left → lr = m.left)
    (hb : w'.heap[g]? = some (.cells (rfCells m p lr (.slice A m.ask.f3.length c) (.slice A' m.last.f3.length c')) 99 (0, 0))) (hs : Sees w ok A c m.ask.f3) (hs' : Sees w ok A' c' m.last.f3) (hU : Upd w w' g) (hok : ∀ k, ok k → k ≠ g) : RfAt w' g ok m :=
  ⟨p, lr, A, c, A', c', h0, h1, hb, hs.step (fun k ho hk => hU.block k hk (hok k ho)), hs'.step (fun k ho hk => hU.block k hk (hok k ho))⟩
theorem rf_cells {w : World} {g : Nat} {m : Tk} {p : Bool} {lr : Int} {u v : Value} (h : w.heap[g]? = some (.cells (rfCells m p lr u v) 99 (0, 0))) :
    w.cell? ⟨g, 0, none⟩ = some (.bool p) ∧ w.cell? ⟨g, 1, none⟩ = some (.int .i64 m.last.f0) ∧ w.cell? ⟨g, 2, none⟩ = some (.int .i64 m.last.f1) ∧ w.cell? ⟨g, 3, none⟩ = some (.int .i64 m.last.f2) ∧ w.cell? ⟨g, 4, none⟩ = some v ∧
    w.cell? ⟨g, 5, none⟩ = some (.bool m.fav) ∧ w.cell? ⟨g, 6, none⟩ = some (.int .i64 m.tries) ∧ w.cell? ⟨g, 7, none⟩ = some (.int .i64 lr) ∧ w.cell? ⟨g, 8, none⟩ = some (.int .i64 m.id) ∧
    w.cell? ⟨g, 9, none⟩ = some (.int .i64 m.ask.f0) ∧ w.cell? ⟨g, 10, none⟩ = some (.int .i64 m.ask.f1) ∧ w.cell? ⟨g, 11, none⟩ = some (.int .i64 m.ask.f2) ∧ w.cell? ⟨g, 12, none⟩ = some u :=
  ⟨(blk_cell h 0).trans rfl, (blk_cell h 1).trans rfl, (blk_cell h 2).trans rfl, (blk_cell h 3).trans rfl, (blk_cell h 4).trans rfl, (blk_cell h 5).trans rfl, (blk_cell h 6).trans rfl, (blk_cell h 7).trans rfl, (blk_cell h 8).trans rfl, (blk_cell h 9).trans rfl, (blk_cell h 10).trans rfl, (blk_cell h 11).trans rfl, (blk_cell h 12).trans rfl⟩
/-- What the document's Ask and Again leave. -/
def RfBap (w : World) (g : Nat) (ok : Nat → Prop) (m : Tk) (b : S56) (er : Int) (e : Ending) (w' : World) : Prop := ∃ (A : Option Addr) (cc : Nat),
  e = .returned (.tuple #[.agg #[.int .i64 b.f0, .int .i64 b.f1, .int .i64 b.f2, .slice A b.f3.length cc], .int .i64 er]) ∧ b.f3.length ≤ cc ∧ Kd.C k46 w' A b.f3.length b.f3 ∧ RfAt w' g (fun k => ok k ∨ (w.heap.size ≤ k ∧ k < w'.heap.size)) m ∧ Upd w w' g
theorem RfBap.none {w : World} {g : Nat} {ok : Nat → Prop} {m : Tk} {er : Int} {w' : World} (hT : RfAt w' g ok m) (hU : Upd w w' g) :
    RfBap w g ok m bp0 er (.returned (.tuple #[.agg #[.int .i64 0, .int .i64 0, .int .i64 0, .slice none 0 0], .int .i64 er])) w' :=
  ⟨Option.none, 0, rfl, Nat.le_refl _, Kd.C_nil _ _, hT.mono (fun _ hk => .inl hk), hU⟩
def RfNew (w : World) (m : Tk) (e : Ending) (w' : World) : Prop := ∃ g : Nat, e = .returned (.tuple #[.pointer (some ⟨g, 0, none⟩), .int .i64 0]) ∧ w.heap.size ≤ g ∧ RfAt w' g (fun _ => False) m ∧ Below w.heap.size w w'
set_option maxHeartbeats 4000000 in
set_option maxRecDepth 100000 in
theorem rnew_calls (fav : Bool) (tries : Int) (w : World) (h1 : 1 ≤ tries) (h2 : tries ≤ 10) : Calls Try.prog 57 #[.bool fav, .int .i64 tries] w (RfNew w (newS fav tries)) := by
  have hu99 := Try.underlying99
  have c1 : decide (tries < 1) = false := decide_eq_false (by omega)
  have c2 : decide (10 < tries) = false := decide_eq_false (by omega)
  go_enter Try.func57, Try.ntmps57
  go_wp2
  go_ret2
  exact ⟨w.heap.size, rfl, Nat.le_refl _, ⟨false, 0, none, 0, none, 0, rfl, fun h => absurd h (by show ¬ (0 : Int) < 0; decide), blk_new w _, Sees.nil _ _ _, Sees.nil _ _ _⟩, below_alloc (Below.refl _ _) _⟩
set_option maxHeartbeats 4000000 in
theorem rnew_bad (fav : Bool) (tries : Int) (w : World) (h : tries < 1 ∨ 10 < tries) : Calls Try.prog 57 #[.bool fav, .int .i64 tries] w fun e w' => e = .returned (.tuple #[.pointer none, .int .i64 2200]) ∧ w = w' := by
  rcases h with h | h
  · have c1 : decide (tries < 1) = true := decide_eq_true h
    go_enter Try.func57, Try.ntmps57
    go_wp2
    go_ret2
    exact ⟨rfl, rfl⟩
  · have c1 : decide (tries < 1) = false := decide_eq_false (by omega)
    have c2 : decide (10 < tries) = true := decide_eq_true h
    go_enter Try.func57, Try.ntmps57
    go_wp2
    go_ret2
    exact ⟨rfl, rfl⟩
set_option maxHeartbeats 4000000 in
set_option maxRecDepth 100000 in
theorem ragain_none (g : Nat) (ok : Nat → Prop) (m : Tk) (w : World) (h : RfAt w g ok m) (hok : ∀ k, ok k → k ≠ g) (h0 : m.left = 0) : Calls Try.prog 59 #[.pointer (some ⟨g, 0, none⟩)] w (RfBap w g ok { m with left := 0 } bp0 2202) := by
  obtain ⟨p, lr, A, c, A', c', hp0, hp1, h1, hs, hs'⟩ := h
  obtain rfl : p = false := by rw [← hp0, h0]; rfl
  have H1 := Aside0.mk h1
  have HS := Aside0.mk hs
  have HS' := Aside0.mk hs'
  have HK := Aside0.mk hok
  have HM : m = { m with left := 0 } := by cases m; simp only at h0; rw [h0]
  have HMM := Aside0.mk HM
  clear HM hp0 hp1 h0
  clear h1 hs hs' hok
  have hu99 := Try.underlying99
  have hu56 := Try.underlying56
  go_enter Try.func59, Try.ntmps59
  go_wp2_with (first
    | ((with_reducible refine gate_dst (N := 2) rfl ?_); refine box_event ?hg (N := 2) ?hd (cs := #[.int .i64 0, .int .i64 0, .int .i64 0, .slice none 0 0]) (t := 56) ?hr ?_; (case hd => rfl); (case hg => rfl); (case hr => first | (go_simp; done) | (go_simp; rfl)); intro gr hg w1 hbox hb
       have GR := Aside0.mk (show w.heap.size ≤ gr by rw [hg]; exact Nat.le_refl _)
       have GL := Aside0.mk (show gr < w1.heap.size from blk_lt hbox)
       have GX := Aside0.mk hbox
       have G1 := Aside0.mk (blk_below H1.out hb)
       have HU := Aside0.mk (Upd.of_below hb g)
       have NE := Aside0.mk (show g ≠ gr by have := blk_lt H1.out; omega)
       obtain ⟨k0, k1, k2, k3, k4, k5, k6, k7, k8, k9, k10, k11, k12⟩ := rf_cells G1.out
       have s0 := blk_frozen G1.out 0
       have s7 := blk_frozen G1.out 7
       obtain ⟨j0, j1, j2, j3, q0, q1, q2, q3⟩ := four GX.out
       have nx : g ≠ gr := NE.out
       have nx' : gr ≠ g := NE.out.symm
       clear hg hbox hb))
  have hgr := GR.out
  refine bodyPost_ret (v := .tuple #[.agg #[.int .i64 0, .int .i64 0, .int .i64 0, .slice none 0 0], .int .i64 2202]) (by simp [results, Try.results59, go_sem, *]) rfl ?_
  have hU : Upd w ((((w1.setCell ⟨gr, 0, none⟩ (.int .i64 0)).setCell ⟨gr, 1, none⟩ (.int .i64 0)).setCell ⟨gr, 2, none⟩ (.int .i64 0)).setCell ⟨gr, 3, none⟩ (.slice none 0 0)) g := (((HU.out.set gr 0 (.inr hgr) _).set gr 1 (.inr hgr) _).set gr 2 (.inr hgr) _).set gr 3 (.inr hgr) _
  refine RfBap.none (m := { m with left := 0 }) ?_ hU
  exact RfAt.turn (m := { m with left := 0 }) (p := false) (lr := lr) rfl (fun h => absurd h (by show ¬ (0 : Int) < 0; decide)) (blk_far (blk_far (blk_far (blk_far G1.out NE.out _) NE.out _) NE.out _) NE.out _) HS.out HS'.out hU HK.out
set_option maxHeartbeats 4000000 in
set_option maxRecDepth 100000 in
theorem ragain_last (g : Nat) (ok : Nat → Prop) (m : Tk) (w : World) (h : RfAt w g ok m) (hok : ∀ k, ok k → k ≠ g) (h0 : m.left = 1) : Calls Try.prog 59 #[.pointer (some ⟨g, 0, none⟩)] w (RfBap w g ok { m with left := 0 } bp0 2202) := by
  obtain ⟨p, lr, A, c, A', c', hp0, hp1, h1, hs, hs'⟩ := h
  obtain rfl : p = true := by rw [← hp0, h0]; rfl
  have hlr : lr = 1 := by rw [hp1 (by omega), h0]
  clear hp0 hp1 h0
  have H1 := Aside0.mk h1
  have HS := Aside0.mk hs
  have HS' := Aside0.mk hs'
  have HK := Aside0.mk hok
  obtain ⟨l1, hl1⟩ : ∃ l1, l1 = lr - 1 := ⟨_, rfl⟩
  have c1 : decide (l1 ≤ 0) = true := decide_eq_true (by omega)
  have c2 : IntKind.i64.wrap (lr - 1) = l1 := by rw [IntKind.wrap_i64]; omega
  clear hl1 hlr
  clear h1 hs hs' hok
  have hu99 := Try.underlying99
  have hu56 := Try.underlying56
  go_enter Try.func59, Try.ntmps59
  go_wp2_with (first
    | ((with_reducible refine gate_dst (N := 2) rfl ?_); refine box_event ?hg (N := 2) ?hd (cs := #[.int .i64 0, .int .i64 0, .int .i64 0, .slice none 0 0]) (t := 56) ?hr ?_; (case hd => rfl); (case hg => rfl); (case hr => first | (go_simp; done) | (go_simp; rfl)); intro gr hg w1 hbox hb
       have GR := Aside0.mk (show w.heap.size ≤ gr by rw [hg]; exact Nat.le_refl _)
       have GL := Aside0.mk (show gr < w1.heap.size from blk_lt hbox)
       have GX := Aside0.mk hbox
       have G1 := Aside0.mk (blk_below H1.out hb)
       have HU := Aside0.mk (Upd.of_below hb g)
       have NE := Aside0.mk (show g ≠ gr by have := blk_lt H1.out; omega)
       obtain ⟨k0, k1, k2, k3, k4, k5, k6, k7, k8, k9, k10, k11, k12⟩ := rf_cells G1.out
       have s0 := blk_frozen G1.out 0
       have s7 := blk_frozen G1.out 7
       obtain ⟨j0, j1, j2, j3, q0, q1, q2, q3⟩ := four GX.out
       have nx : g ≠ gr := NE.out
       have nx' : gr ≠ g := NE.out.symm
       clear hg hbox hb))
  have hgr := GR.out
  refine bodyPost_ret (v := .tuple #[.agg #[.int .i64 0, .int .i64 0, .int .i64 0, .slice none 0 0], .int .i64 2202]) (by simp [results, Try.results59, go_sem, *]) rfl ?_
  have hU : Upd w ((((((w1.setCell ⟨g, 7, none⟩ (.int .i64 l1)).setCell ⟨g, 0, none⟩ (.bool false)).setCell ⟨gr, 0, none⟩ (.int .i64 0)).setCell ⟨gr, 1, none⟩ (.int .i64 0)).setCell ⟨gr, 2, none⟩ (.int .i64 0)).setCell ⟨gr, 3, none⟩ (.slice none 0 0)) g := (((((HU.out.set g 7 (.inl rfl) _).set g 0 (.inl rfl) _).set gr 0 (.inr hgr) _).set gr 1 (.inr hgr) _).set gr 2 (.inr hgr) _).set gr 3 (.inr hgr) _
  refine RfBap.none (m := { m with left := 0 }) ?_ hU
  exact RfAt.turn (m := { m with left := 0 }) (p := false) (lr := l1) rfl (fun h => absurd h (by show ¬ (0 : Int) < 0; decide)) (blk_far (blk_far (blk_far (blk_far (blk_put (blk_put G1.out 7 _ rfl) 0 _ rfl) NE.out _) NE.out _) NE.out _) NE.out _) HS.out HS'.out hU HK.out
set_option maxHeartbeats 4000000 in
set_option maxRecDepth 100000 in
theorem ragain_more (g : Nat) (ok : Nat → Prop) (m : Tk) (w : World) (h : RfAt w g ok m) (hok : ∀ k, ok k → k ≠ g) (h0 : 2 ≤ m.left) (h9 : m.left ≤ 10) : Calls Try.prog 59 #[.pointer (some ⟨g, 0, none⟩)] w (RfBap w g ok { m with left := m.left - 1 } m.ask 0) := by
  obtain ⟨p, lr, A, c, A', c', hp0, hp1, h1, hs, hs'⟩ := h
  obtain rfl : p = true := by rw [← hp0]; exact decide_eq_true (by omega)
  obtain rfl : lr = m.left := hp1 (by omega)
  clear hp0 hp1
  have H1 := Aside0.mk h1
  have HS := Aside0.mk hs
  have HS' := Aside0.mk hs'
  have HK := Aside0.mk hok
  obtain ⟨l1, hl1⟩ : ∃ l1, l1 = m.left - 1 := ⟨_, rfl⟩
  have c1 : decide (l1 ≤ 0) = false := decide_eq_false (by omega)
  have c2 : IntKind.i64.wrap (m.left - 1) = l1 := by rw [IntKind.wrap_i64]; omega
  have L1 := Aside0.mk (show 0 < l1 by omega)
  have HL := Aside0.mk hl1
  clear hl1
  clear h1 hs hs' hok
  have hu99 := Try.underlying99
  have hu56 := Try.underlying56
  go_enter Try.func59, Try.ntmps59
  go_wp2_with (first
    | ((with_reducible refine gate_dst (N := 2) rfl ?_); refine box_event ?hg (N := 2) ?hd (cs := #[.int .i64 0, .int .i64 0, .int .i64 0, .slice none 0 0]) (t := 56) ?hr ?_; (case hd => rfl); (case hg => rfl); (case hr => first | (go_simp; done) | (go_simp; rfl)); intro gr hg w1 hbox hb
       have GR := Aside0.mk (show w.heap.size ≤ gr by rw [hg]; exact Nat.le_refl _)
       have GL := Aside0.mk (show gr < w1.heap.size from blk_lt hbox)
       have GX := Aside0.mk hbox
       have G1 := Aside0.mk (blk_below H1.out hb)
       have HU := Aside0.mk (Upd.of_below hb g)
       have NE := Aside0.mk (show g ≠ gr by have := blk_lt H1.out; omega)
       obtain ⟨k0, k1, k2, k3, k4, k5, k6, k7, k8, k9, k10, k11, k12⟩ := rf_cells G1.out
       have s0 := blk_frozen G1.out 0
       have s7 := blk_frozen G1.out 7
       obtain ⟨j0, j1, j2, j3, q0, q1, q2, q3⟩ := four GX.out
       have nx : g ≠ gr := NE.out
       have nx' : gr ≠ g := NE.out.symm
       clear hg hbox hb))
  have hgr := GR.out
  refine bodyPost_ret (v := .tuple #[.agg #[.int .i64 m.ask.f0, .int .i64 m.ask.f1, .int .i64 m.ask.f2, .slice A m.ask.f3.length c], .int .i64 0]) (by simp [results, Try.results59, go_sem, *]) rfl ?_
  have hU : Upd w (((((w1.setCell ⟨g, 7, none⟩ (.int .i64 l1)).setCell ⟨gr, 0, none⟩ (.int .i64 m.ask.f0)).setCell ⟨gr, 1, none⟩ (.int .i64 m.ask.f1)).setCell ⟨gr, 2, none⟩ (.int .i64 m.ask.f2)).setCell ⟨gr, 3, none⟩ (.slice A m.ask.f3.length c)) g := ((((HU.out.set g 7 (.inl rfl) _).set gr 0 (.inr hgr) _).set gr 1 (.inr hgr) _).set gr 2 (.inr hgr) _).set gr 3 (.inr hgr) _
  rw [← HL.out]
  refine ⟨A, c, rfl, HS.out.cap, (HS.out.step (fun k ho hk => hU.block k hk (HK.out k ho))).C, RfAt.mono ?_ (fun k hk => .inl hk), hU⟩
  exact RfAt.turn (m := { m with left := l1 }) (p := true) (lr := l1) (decide_eq_true L1.out) (fun _ => rfl) (blk_far (blk_far (blk_far (blk_far (blk_put G1.out 7 _ rfl) NE.out _) NE.out _) NE.out _) NE.out _) HS.out HS'.out hU HK.out
theorem ragain_calls (g : Nat) (ok : Nat → Prop) (m : Tk) (w : World) (h : RfAt w g ok m) (hok : ∀ k, ok k → k ≠ g) (h0 : 0 ≤ m.left) (h9 : m.left ≤ 10) : Calls Try.prog 59 #[.pointer (some ⟨g, 0, none⟩)] w (RfBap w g ok (againS m).1 (againS m).2.1 (againS m).2.2) := by
  unfold againS
  by_cases c0 : m.left = 0
  · rw [if_pos c0]
    have := ragain_none g ok m w h hok c0
    rw [show ({ m with left := 0 } : Tk) = m by cases m; simp only at c0; rw [c0]] at this
    exact this
  · rw [if_neg c0]
    by_cases c1 : m.left = 1
    · rw [if_pos c1]; exact ragain_last g ok m w h hok c1
    · rw [if_neg c1]; exact ragain_more g ok m w h hok (by omega) h9
end Go.Proofs.Ytbdlkcgaobkdcaa.P
end
section
namespace Go.Proofs.Ytbdlkcgaobkdcaa.P
open Go.RowKit Go.Proofs.YtbdlkcgaobkdcaaW.PrintWords Go.Proofs.YtbdlkcgaobkdcaaW.PrintLast Go.Proofs.YtbdlkcgaobkdcaaW.PrintMore
attribute [local go_sem] max2_int min2_int max_two min_two max_three min_three max_four min_four   -- for this text's walks alone

/-! ### withyref21_request: function 69 -/
def withyref21_request.f (a0 : Int) : Option (Bool) := if a0 = 1 then (some true) else (if a0 = 3 then (some true) else (some (a0 == 5)))
set_option maxHeartbeats 8000000 in
set_option maxRecDepth 100000 in
theorem withyref21_request.calls (a0 : Int) (r : Bool) (w : World) (h : withyref21_request.f a0 = some r) :
    Calls Try.prog 69 #[.int .i64 a0] w fun e w' => e = .returned (.bool r) ∧ Drawn0 w w' := by
  have H : (if a0 = 1 then (some true) else (if a0 = 3 then (some true) else (some (a0 == 5)))) = some r := h
  clear h
  by_cases c2 : a0 = 1
  · rw [if_pos c2] at H
    have c2b0 : (a0 == 1) = true := beq_iff_eq.mpr c2
    have c2b1 : (a0 != 1) = false := bne_eq_false_iff_eq.mpr c2
    clear c2
    obtain rfl := Option.some.inj H
    go_enter Try.func69, Try.ntmps69
    go_wp2
    go_ret
    exact ⟨by first | rfl | (simp; done) | (simp [*]; done), by repeat (first | exact Drawn0.refl _ | apply Drawn0.step)⟩
  · rw [if_neg c2] at H
    have c2b0 : (a0 == 1) = false := beq_eq_false_iff_ne.mpr c2
    have c2b1 : (a0 != 1) = true := bne_iff_ne.mpr c2
    by_cases c3 : a0 = 3
    · rw [if_pos c3] at H
      have c3b0 : (a0 == 3) = true := beq_iff_eq.mpr c3
      have c3b1 : (a0 != 3) = false := bne_eq_false_iff_eq.mpr c3
      clear c3
      obtain rfl := Option.some.inj H
      go_enter Try.func69, Try.ntmps69
      go_wp2
      go_ret
      exact ⟨by first | rfl | (simp; done) | (simp [*]; done), by repeat (first | exact Drawn0.refl _ | apply Drawn0.step)⟩
    · rw [if_neg c3] at H
      have c3b0 : (a0 == 3) = false := beq_eq_false_iff_ne.mpr c3
      have c3b1 : (a0 != 3) = true := bne_iff_ne.mpr c3
      obtain rfl := Option.some.inj H
      go_enter Try.func69, Try.ntmps69
      go_wp2
      go_ret
      exact ⟨by first | rfl | (simp; done) | (simp [*]; done), by repeat (first | exact Drawn0.refl _ | apply Drawn0.step)⟩

end Go.Proofs.Ytbdlkcgaobkdcaa.P
end
section
namespace Go.Proofs.Ytbdlkcgaobkdcaa.P
open Go.RowKit Go.Proofs.YtbdlkcgaobkdcaaW.PrintWords Go.Proofs.YtbdlkcgaobkdcaaW.PrintLast Go.Proofs.YtbdlkcgaobkdcaaW.PrintMore
attribute [local go_sem] max2_int min2_int max_two min_two max_three min_three max_four min_four

theorem rrequest_eq (c : Int) : withyref21_request.f c = some (reqB c) := by
  unfold withyref21_request.f reqB
  by_cases h1 : c = 1
  · rw [if_pos h1, h1]; rfl
  · rw [if_neg h1, beq_eq_false_iff_ne.2 h1]
    by_cases h3 : c = 3
    · rw [if_pos h3, h3]; rfl
    · rw [if_neg h3, beq_eq_false_iff_ne.2 h3]; rfl
/-- An empty row that was made just now. -/
theorem made_R (w : World) : Kd.R k46 46 (w.alloc (.cells #[] 46)) w.heap.size (fun k => w.heap.size ≤ k) (.slice (some ⟨w.heap.size, 0, none⟩) 0 0) [] :=
  ⟨fun k hk => by have : w.heap.size = k := by simpa [Value.ownBlock] using hk
                  omega, [], World.ownsRow_made w #[] 0 (Nat.le_refl _) (Nat.zero_le _) rfl, Reps.none _ _⟩
theorem bapS_id (c i j a : Int) (l : List S46) (i0 : 0 ≤ i) (i9 : i ≤ 255) (j0 : 0 ≤ j) (j9 : j ≤ 255) : (bapS c i a l).2 = (bapS c j a l).2 := by
  have h : mayB c i = mayB c j := by unfold mayB; rw [decide_eq_true i0, decide_eq_true i9, decide_eq_true j0, decide_eq_true j9]
  unfold bapS
  rw [h]
  repeat' split
  all_goals rfl
set_option maxHeartbeats 8000000 in
set_option maxRecDepth 100000 in
theorem rask_code (g : Nat) (ok : Nat → Prop) (m : Tk) (code : Int) (B : Option Addr) (d : Nat) (os : List S46) (er : Int) (w : World) (h : RfAt w g ok m) (hok : ∀ k, ok k → k ≠ g) (hi0 : 0 ≤ m.id) (hi9 : m.id ≤ 255) (ho : Sees w ok B d os) (hz : os.all (fun o => decide (o.f1.size ≤ 140737488351232)) = true) (hn : os.length < 5864062014805)
    (hp : (bapS code 0 0 os).2 = er) (hq : reqB code = false) (h7 : code ≠ 7) :
    Calls Try.prog 58 #[.pointer (some ⟨g, 0, none⟩), .int .i64 code, .slice B os.length d] w (RfBap w g ok m bp0 2200) := by
  obtain ⟨p, lr, A, c, A', c', hp0, hp1, h1, hs, hs'⟩ := h
  have H1 := Aside0.mk h1
  have HS := Aside0.mk hs
  have HS' := Aside0.mk hs'
  have HK := Aside0.mk hok
  have HP0 := Aside0.mk hp0
  have HP1 := Aside0.mk hp1
  clear hp0 hp1
  have RQ := Aside0.mk hq
  clear hq
  have e7 : (code != 7) = true := by simpa using h7
  clear h7
  have HP := Aside0.mk hp
  have HO := Aside0.mk ho
  have HZ := Aside0.mk hz
  have HN := Aside0.mk hn
  clear hp ho hz hn
  clear h1 hs hs' hok
  have hu99 := Try.underlying99
  have hu56 := Try.underlying56
  go_enter Try.func58, Try.ntmps58
  go_wp2_with (first
    | ((with_reducible refine gate_dst (N := 6) rfl ?_); refine box_event ?hg (N := 6) ?hd (cs := #[.int .i64 0, .int .i64 0, .int .i64 0, .slice none 0 0]) (t := 56) ?hr ?_; (case hd => rfl); (case hg => rfl); (case hr => first | (go_simp; done) | (go_simp; rfl)); intro gr hg w1 hbox hb
       have GR := Aside0.mk (show w.heap.size ≤ gr by rw [hg]; exact Nat.le_refl _)
       have GL := Aside0.mk (show gr < w1.heap.size from blk_lt hbox)
       have GX := Aside0.mk hbox
       have G1 := Aside0.mk (blk_below H1.out hb)
       have HU := Aside0.mk (Upd.of_below hb g)
       have NE := Aside0.mk (show g ≠ gr by have := blk_lt H1.out; omega)
       clear hg hbox hb)
    | (go_at_call 87; ((refine (refBap_calls code 0 0 B d os _ (HO.out.step (fun k ho hk => HU.out.block k hk (HK.out k ho))).C HO.out.cap HZ.out).mono ?_); rw [HP.out]; rintro e w4 ⟨⟨s_, rfl⟩, hb⟩)
       have G4 := Aside0.mk (blk_below G1.out hb)
       have GX4 := Aside0.mk (blk_below GX.out hb)
       have HU4 := Aside0.mk (HU.out.then_below hb)
       have GL4 := Aside0.mk (show gr < w4.heap.size from blk_lt GX4.out)
       clear hb
       obtain ⟨k0, k1, k2, k3, k4, k5, k6, k7, k8, k9, k10, k11, k12⟩ := rf_cells G4.out
       have s8 := blk_frozen G4.out 8
       obtain ⟨j0, j1, j2, j3, q0, q1, q2, q3⟩ := four GX4.out
       have nx : g ≠ gr := NE.out
       have nx' : gr ≠ g := NE.out.symm)
    | (go_at_call 69; ((with_reducible refine (withyref21_request.calls code false _ (by rw [rrequest_eq, RQ.out])).mono ?_); rintro e w' ⟨rfl, ⟨nd, rfl⟩⟩)))
  have hgr := GR.out
  refine bodyPost_ret (v := .tuple #[.agg #[.int .i64 0, .int .i64 0, .int .i64 0, .slice none 0 0], .int .i64 2200]) (by simp [results, Try.results58, go_sem, *]) rfl ?_
  have hU : Upd w ((((((w4.setCell ⟨gr, 0, none⟩ (.int .i64 0)).setCell ⟨gr, 1, none⟩ (.int .i64 0)).setCell ⟨gr, 2, none⟩ (.int .i64 0)).setCell ⟨gr, 3, none⟩ (.slice none 0 0))).drewN nd) g := ((((HU4.out.set gr 0 (.inr hgr) _).set gr 1 (.inr hgr) _).set gr 2 (.inr hgr) _).set gr 3 (.inr hgr) _).drewN nd
  refine RfBap.none ?_ hU
  exact RfAt.turn HP0.out HP1.out (blk_drewN (blk_far (blk_far (blk_far (blk_far G4.out NE.out _) NE.out _) NE.out _) NE.out _) nd) HS.out HS'.out hU HK.out
theorem sees_up {ok : Nat → Prop} {w w' : World} {g : Nat} {A : Option Addr} {c : Nat} {l : List S46} (hU : Upd w w' g) (hok : ∀ k, ok k → k ≠ g) (h : Sees w ok A c l) : Sees w' ok A c l := h.step (fun k ho hk => hU.block k hk (hok k ho))
set_option maxHeartbeats 8000000 in
set_option maxRecDepth 100000 in
theorem rask_put1 (g : Nat) (ok : Nat → Prop) (m : Tk) (code : Int) (B : Option Addr) (d : Nat) (os : List S46) (er : Int) (w : World) (h : RfAt w g ok m) (hok : ∀ k, ok k → k ≠ g) (hi0 : 0 ≤ m.id) (hi9 : m.id ≤ 255) (ho : Sees w ok B d os) (hz : os.all (fun o => decide (o.f1.size ≤ 140737488351232)) = true) (hn : os.length < 5864062014805)
    (hp : (bapS code 0 0 os).2 = er) (hq : reqB code = true) (he : er ≠ 0) :
    Calls Try.prog 58 #[.pointer (some ⟨g, 0, none⟩), .int .i64 code, .slice B os.length d] w (RfBap w g ok m bp0 2200) := by
  obtain ⟨p, lr, A, c, A', c', hp0, hp1, h1, hs, hs'⟩ := h
  have H1 := Aside0.mk h1
  have HS := Aside0.mk hs
  have HS' := Aside0.mk hs'
  have HK := Aside0.mk hok
  have HP0 := Aside0.mk hp0
  have HP1 := Aside0.mk hp1
  clear hp0 hp1
  have RQ := Aside0.mk hq
  clear hq
  have e0 : (er != 0) = true := by simpa using he
  clear he
  have HP := Aside0.mk hp
  have HO := Aside0.mk ho
  have HZ := Aside0.mk hz
  have HN := Aside0.mk hn
  clear hp ho hz hn
  clear h1 hs hs' hok
  have hu99 := Try.underlying99
  have hu56 := Try.underlying56
  go_enter Try.func58, Try.ntmps58
  go_wp2_with (first
    | ((with_reducible refine gate_dst (N := 6) rfl ?_); refine box_event ?hg (N := 6) ?hd (cs := #[.int .i64 0, .int .i64 0, .int .i64 0, .slice none 0 0]) (t := 56) ?hr ?_; (case hd => rfl); (case hg => rfl); (case hr => first | (go_simp; done) | (go_simp; rfl)); intro gr hg w1 hbox hb
       have GR := Aside0.mk (show w.heap.size ≤ gr by rw [hg]; exact Nat.le_refl _)
       have GL := Aside0.mk (show gr < w1.heap.size from blk_lt hbox)
       have GX := Aside0.mk hbox
       have G1 := Aside0.mk (blk_below H1.out hb)
       have HU := Aside0.mk (Upd.of_below hb g)
       have NE := Aside0.mk (show g ≠ gr by have := blk_lt H1.out; omega)
       clear hg hbox hb)
    | (go_at_call 87; ((refine (refBap_calls code 0 0 B d os _ (HO.out.step (fun k ho hk => HU.out.block k hk (HK.out k ho))).C HO.out.cap HZ.out).mono ?_); rw [HP.out]; rintro e w4 ⟨⟨s_, rfl⟩, hb⟩)
       have G4 := Aside0.mk (blk_below G1.out hb)
       have GX4 := Aside0.mk (blk_below GX.out hb)
       have HU4 := Aside0.mk (HU.out.then_below hb)
       have GL4 := Aside0.mk (show gr < w4.heap.size from blk_lt GX4.out)
       clear hb
       obtain ⟨k0, k1, k2, k3, k4, k5, k6, k7, k8, k9, k10, k11, k12⟩ := rf_cells G4.out
       have s8 := blk_frozen G4.out 8
       obtain ⟨j0, j1, j2, j3, q0, q1, q2, q3⟩ := four GX4.out
       have nx : g ≠ gr := NE.out
       have nx' : gr ≠ g := NE.out.symm)
    | (go_at_call 69; ((with_reducible refine (withyref21_request.calls code true _ (by rw [rrequest_eq, RQ.out])).mono ?_); rintro e w' ⟨rfl, ⟨nd, rfl⟩⟩)))
  have hgr := GR.out
  refine bodyPost_ret (v := .tuple #[.agg #[.int .i64 0, .int .i64 0, .int .i64 0, .slice none 0 0], .int .i64 2200]) (by simp [results, Try.results58, go_sem, *]) rfl ?_
  have hU : Upd w ((((((w4.setCell ⟨gr, 0, none⟩ (.int .i64 0)).setCell ⟨gr, 1, none⟩ (.int .i64 0)).setCell ⟨gr, 2, none⟩ (.int .i64 0)).setCell ⟨gr, 3, none⟩ (.slice none 0 0))).drewN nd) g := ((((HU4.out.set gr 0 (.inr hgr) _).set gr 1 (.inr hgr) _).set gr 2 (.inr hgr) _).set gr 3 (.inr hgr) _).drewN nd
  refine RfBap.none ?_ hU
  exact RfAt.turn HP0.out HP1.out (blk_drewN (blk_far (blk_far (blk_far (blk_far G4.out NE.out _) NE.out _) NE.out _) NE.out _) nd) HS.out HS'.out hU HK.out
set_option maxHeartbeats 8000000 in
set_option maxRecDepth 100000 in
theorem rask_busy1 (g : Nat) (ok : Nat → Prop) (m : Tk) (code : Int) (B : Option Addr) (d : Nat) (os : List S46) (er : Int) (w : World) (h : RfAt w g ok m) (hok : ∀ k, ok k → k ≠ g) (hi0 : 0 ≤ m.id) (hi9 : m.id ≤ 255) (ho : Sees w ok B d os) (hz : os.all (fun o => decide (o.f1.size ≤ 140737488351232)) = true) (hn : os.length < 5864062014805)
    (hp : (bapS code 0 0 os).2 = er) (hq : reqB code = true) (he : er = 0) (hl : 0 < m.left) :
    Calls Try.prog 58 #[.pointer (some ⟨g, 0, none⟩), .int .i64 code, .slice B os.length d] w (RfBap w g ok m bp0 2201) := by
  obtain ⟨p, lr, A, c, A', c', hp0, hp1, h1, hs, hs'⟩ := h
  have H1 := Aside0.mk h1
  have HS := Aside0.mk hs
  have HS' := Aside0.mk hs'
  have HK := Aside0.mk hok
  obtain rfl : p = true := by rw [← hp0]; exact decide_eq_true hl
  clear hl
  have HP0 := Aside0.mk hp0
  have HP1 := Aside0.mk hp1
  clear hp0 hp1
  have RQ := Aside0.mk hq
  clear hq
  have e0 : (er != 0) = false := by simpa using he
  clear he
  have HP := Aside0.mk hp
  have HO := Aside0.mk ho
  have HZ := Aside0.mk hz
  have HN := Aside0.mk hn
  clear hp ho hz hn
  clear h1 hs hs' hok
  have hu99 := Try.underlying99
  have hu56 := Try.underlying56
  go_enter Try.func58, Try.ntmps58
  go_wp2_with (first
    | ((with_reducible refine gate_dst (N := 6) rfl ?_); refine box_event ?hg (N := 6) ?hd (cs := #[.int .i64 0, .int .i64 0, .int .i64 0, .slice none 0 0]) (t := 56) ?hr ?_; (case hd => rfl); (case hg => rfl); (case hr => first | (go_simp; done) | (go_simp; rfl)); intro gr hg w1 hbox hb
       have GR := Aside0.mk (show w.heap.size ≤ gr by rw [hg]; exact Nat.le_refl _)
       have GL := Aside0.mk (show gr < w1.heap.size from blk_lt hbox)
       have GX := Aside0.mk hbox
       have G1 := Aside0.mk (blk_below H1.out hb)
       have HU := Aside0.mk (Upd.of_below hb g)
       have NE := Aside0.mk (show g ≠ gr by have := blk_lt H1.out; omega)
       clear hg hbox hb)
    | (go_at_call 87; ((refine (refBap_calls code 0 0 B d os _ (HO.out.step (fun k ho hk => HU.out.block k hk (HK.out k ho))).C HO.out.cap HZ.out).mono ?_); rw [HP.out]; rintro e w4 ⟨⟨s_, rfl⟩, hb⟩)
       have G4 := Aside0.mk (blk_below G1.out hb)
       have GX4 := Aside0.mk (blk_below GX.out hb)
       have HU4 := Aside0.mk (HU.out.then_below hb)
       have GL4 := Aside0.mk (show gr < w4.heap.size from blk_lt GX4.out)
       clear hb
       obtain ⟨k0, k1, k2, k3, k4, k5, k6, k7, k8, k9, k10, k11, k12⟩ := rf_cells G4.out
       have s8 := blk_frozen G4.out 8
       obtain ⟨j0, j1, j2, j3, q0, q1, q2, q3⟩ := four GX4.out
       have nx : g ≠ gr := NE.out
       have nx' : gr ≠ g := NE.out.symm)
    | (go_at_call 69; ((with_reducible refine (withyref21_request.calls code true _ (by rw [rrequest_eq, RQ.out])).mono ?_); rintro e w' ⟨rfl, ⟨nd, rfl⟩⟩)))
  have hgr := GR.out
  refine bodyPost_ret (v := .tuple #[.agg #[.int .i64 0, .int .i64 0, .int .i64 0, .slice none 0 0], .int .i64 2201]) (by simp [results, Try.results58, go_sem, *]) rfl ?_
  have hU : Upd w ((((((w4.setCell ⟨gr, 0, none⟩ (.int .i64 0)).setCell ⟨gr, 1, none⟩ (.int .i64 0)).setCell ⟨gr, 2, none⟩ (.int .i64 0)).setCell ⟨gr, 3, none⟩ (.slice none 0 0))).drewN nd) g := ((((HU4.out.set gr 0 (.inr hgr) _).set gr 1 (.inr hgr) _).set gr 2 (.inr hgr) _).set gr 3 (.inr hgr) _).drewN nd
  refine RfBap.none ?_ hU
  exact RfAt.turn HP0.out HP1.out (blk_drewN (blk_far (blk_far (blk_far (blk_far G4.out NE.out _) NE.out _) NE.out _) NE.out _) nd) HS.out HS'.out hU HK.out
set_option maxHeartbeats 8000000 in
set_option maxRecDepth 100000 in
theorem rask_ok1 (g : Nat) (ok : Nat → Prop) (m : Tk) (code : Int) (B : Option Addr) (d : Nat) (os : List S46) (er : Int) (w : World) (h : RfAt w g ok m) (hok : ∀ k, ok k → k ≠ g) (hi0 : 0 ≤ m.id) (hi9 : m.id ≤ 255) (ho : Sees w ok B d os) (hz : os.all (fun o => decide (o.f1.size ≤ 140737488351232)) = true) (hn : os.length < 5864062014805)
    (hp : (bapS code 0 0 os).2 = er) (hq : reqB code = true) (he : er = 0) (hl : m.left = 0) (ht : 1 ≤ m.tries) :
    Calls Try.prog 58 #[.pointer (some ⟨g, 0, none⟩), .int .i64 code, .slice B os.length d] w (RfBap w g ok { m with id := nextId m.id, ask := ⟨code, nextId m.id, 0, os⟩, left := m.tries } ⟨code, nextId m.id, 0, os⟩ 0) := by
  obtain ⟨p, lr, A, c, A', c', hp0, hp1, h1, hs, hs'⟩ := h
  have H1 := Aside0.mk h1
  have HS := Aside0.mk hs
  have HS' := Aside0.mk hs'
  have HK := Aside0.mk hok
  have HTR := Aside0.mk (show 0 < m.tries by omega)
  clear ht
  obtain rfl : p = false := by rw [← hp0, hl]; rfl
  clear hl hp0 hp1
  obtain ⟨i1, hi1⟩ : ∃ i1, i1 = m.id + 1 := ⟨_, rfl⟩
  obtain ⟨i2, hi2⟩ : ∃ i2, i2 = nextId m.id := ⟨_, rfl⟩
  have ee1 : IntKind.i64.wrap (m.id + 1) = i1 := by rw [IntKind.wrap_i64]; omega
  have ee2 : bits .and .i64 i1 255 = i2 := by rw [mask255, hi1, hi2]; rfl
  have HI2 := Aside0.mk hi2
  clear hi1 hi2
  have RQ := Aside0.mk hq
  clear hq
  have e0 : (er != 0) = false := by simpa using he
  clear he
  have HP := Aside0.mk hp
  have HO := Aside0.mk ho
  have HZ := Aside0.mk hz
  have HN := Aside0.mk hn
  clear hp ho hz hn
  clear h1 hs hs' hok
  have hu99 := Try.underlying99
  have hu56 := Try.underlying56
  go_enter Try.func58, Try.ntmps58
  go_wp2_with (first
    | ((with_reducible refine gate_dst (N := 6) rfl ?_); refine box_event ?hg (N := 6) ?hd (cs := #[.int .i64 0, .int .i64 0, .int .i64 0, .slice none 0 0]) (t := 56) ?hr ?_; (case hd => rfl); (case hg => rfl); (case hr => first | (go_simp; done) | (go_simp; rfl)); intro gr hg w1 hbox hb
       have GR := Aside0.mk (show w.heap.size ≤ gr by rw [hg]; exact Nat.le_refl _)
       have GL := Aside0.mk (show gr < w1.heap.size from blk_lt hbox)
       have GX := Aside0.mk hbox
       have G1 := Aside0.mk (blk_below H1.out hb)
       have HU := Aside0.mk (Upd.of_below hb g)
       have NE := Aside0.mk (show g ≠ gr by have := blk_lt H1.out; omega)
       clear hg hbox hb)
    | (go_at_call 87; ((refine (refBap_calls code 0 0 B d os _ (HO.out.step (fun k ho hk => HU.out.block k hk (HK.out k ho))).C HO.out.cap HZ.out).mono ?_); rw [HP.out]; rintro e w4 ⟨⟨s_, rfl⟩, hb⟩)
       have G4 := Aside0.mk (blk_below G1.out hb)
       have GX4 := Aside0.mk (blk_below GX.out hb)
       have HU4 := Aside0.mk (HU.out.then_below hb)
       have GL4 := Aside0.mk (show gr < w4.heap.size from blk_lt GX4.out)
       clear hb
       obtain ⟨k0, k1, k2, k3, k4, k5, k6, k7, k8, k9, k10, k11, k12⟩ := rf_cells G4.out
       have s8 := blk_frozen G4.out 8
       obtain ⟨j0, j1, j2, j3, q0, q1, q2, q3⟩ := four GX4.out
       have nx : g ≠ gr := NE.out
       have nx' : gr ≠ g := NE.out.symm)
    | (go_at_call 69; ((with_reducible refine (withyref21_request.calls code true _ (by rw [rrequest_eq, RQ.out])).mono ?_); rintro e w' ⟨rfl, ⟨nd, rfl⟩⟩)))
  obtain ⟨w5, hw5⟩ : ∃ w5, w5 = (w4.drewN nd).setCell ⟨g, 8, none⟩ (.int .i64 i2) := ⟨_, rfl⟩
  have G5 := Aside0.mk (show w5.heap[g]? = some (.cells (rfCells { m with id := i2 } false lr (.slice A m.ask.f3.length c) (.slice A' m.last.f3.length c')) 99 (0, 0)) by rw [hw5]; exact blk_put (blk_drewN G4.out nd) 8 _ rfl)
  have GX5 := Aside0.mk (show w5.heap[gr]? = some (.cells #[.int .i64 0, .int .i64 0, .int .i64 0, .slice none 0 0] 56 (0, 0)) by rw [hw5]; exact blk_far (blk_drewN GX4.out nd) NE.out.symm _)
  have HU5 := Aside0.mk (show Upd w w5 g by rw [hw5]; exact (HU4.out.drewN nd).set g 8 (.inl rfl) _)
  have GL5 := Aside0.mk (show gr < w5.heap.size from blk_lt GX5.out)
  rw [← hw5]
  clear hw5 G4 GX4 HU4 GL4 G1 GX HU GL k0 k1 k2 k3 k4 k5 k6 k7 k8 k9 k10 k11 k12 j0 j1 j2 j3 q0 q1 q2 q3 s8
  have k8 : w5.cell? ⟨g, 8, none⟩ = some (.int .i64 i2) := (blk_cell G5.out 8).trans rfl
  have glt : g < w5.heap.size := blk_lt G5.out
  have ngs : w5.heap.size ≠ g := Nat.ne_of_gt glt
  go_region_held3 (fun w' => w'.cell? ⟨g, 8, none⟩ = some (.int .i64 i2)) (simp [*, World.cell?_alloc_some, World.cell?_setCell_far, World.cell?_setCell_other])
    ((refine Kd.R_append_rows_step k46 (w0 := w5) w5.heap.size (by rfl) _ _ 35 46 (.agg #[(.int .i64 0), (.string ⟨#[]⟩)]) 24 (by rfl) Try.underlying35 info46 rfl (by decide) (by omega) (.slice (some ⟨w5.heap.size, 0, none⟩) 0 0) [] os B os.length d (fun k => w5.heap.size ≤ k) (fun _ => False) (by rfl) (by rfl) (by first | exact made_R _ | exact Kd.R_drew (made_R _)) (Sees.C (show Sees _ ok B d os from sees_up (show Upd w _ g by repeat (first | exact HU5.out | apply Upd.alloc | apply Upd.drew)) HK.out HO.out)) (fun _ _ h => h) (fun _ h => h.elim) (fun _ h => by simp at h; omega) (by repeat (first | exact Below.refl _ _ | apply below_alloc | apply below_drew)) (by simp) (by have := HN.out; simp; omega) ?_; intro v1 wA ho hb hg_ hat_; rw [List.nil_append] at ho; obtain ⟨A2, c2, rfl⟩ := Kd.R_slice ho; have z8 := (hb.cell (p := ⟨g, 8, none⟩) glt).trans k8; have GA := Aside0.mk ((hb.block g glt).trans G5.out); have GXA := Aside0.mk ((hb.block gr GL5.out).trans GX5.out); have RA := Aside0.mk ho; have BA := Aside0.mk hb; obtain ⟨_, _, _, _, _, _, _, _, _, y9, y10, y11, y12⟩ := rf_cells GA.out; have f9 := blk_frozen GA.out 9; have f10 := blk_frozen GA.out 10; have f11 := blk_frozen GA.out 11; have f12 := blk_frozen GA.out 12; clear ho hb hg_ hat_))
  obtain ⟨w6, hw6⟩ : ∃ w6, w6 = ((((wA.setCell ⟨g, 9, none⟩ (.int .i64 code)).setCell ⟨g, 10, none⟩ (.int .i64 i2)).setCell ⟨g, 11, none⟩ (.int .i64 0)).setCell ⟨g, 12, none⟩ (.slice A2 os.length c2)) := ⟨_, rfl⟩
  have hz6 : w6.heap.size = wA.heap.size := by rw [hw6]; simp [World.setCell]
  have G6 := Aside0.mk (show w6.heap[g]? = some (.cells (rfCells { m with id := i2, ask := ⟨code, i2, 0, os⟩ } false lr (.slice A2 os.length c2) (.slice A' m.last.f3.length c')) 99 (0, 0)) by rw [hw6]; exact blk_put (blk_put (blk_put (blk_put GA.out 9 _ rfl) 10 _ rfl) 11 _ rfl) 12 _ rfl)
  have GX6 := Aside0.mk (show w6.heap[gr]? = some (.cells #[.int .i64 0, .int .i64 0, .int .i64 0, .slice none 0 0] 56 (0, 0)) by rw [hw6]; exact blk_far (blk_far (blk_far (blk_far GXA.out NE.out.symm _) NE.out.symm _) NE.out.symm _) NE.out.symm _)
  have HU6 := Aside0.mk (show Upd w w6 g by rw [hw6]; exact ((((HU5.out.then_below BA.out).set g 9 (.inl rfl) _).set g 10 (.inl rfl) _).set g 11 (.inl rfl) _).set g 12 (.inl rfl) _)
  have R6 := Aside0.mk (show Kd.R k46 46 w6 w5.heap.size (fun k => w5.heap.size ≤ k ∧ k < w6.heap.size) (.slice A2 os.length c2) os by
    rw [hz6]
    refine Kd.R_mono (ok := fun k => w5.heap.size ≤ k ∧ k < wA.heap.size) ?_ (fun k hk => hk)
    rw [hw6]
    repeat (refine Kd.R_far ?_ (fun k hk => by simp only; omega) _)
    exact Kd.R_mono (Kd.R_bound RA.out) (fun k hk => ⟨hk.1, hk.2.2.1⟩))
  rw [← hw6]
  have SZ := Aside0.mk (show w.heap.size ≤ w5.heap.size from HU5.out.size)
  clear hw6 hz6 GA GXA BA RA G5 GX5 HU5 z8 y9 y10 y11 y12 f9 f10 f11 f12 k8 ngs
  obtain ⟨k0, k1, k2, k3, k4, k5, k6, k7, k8, k9, k10, k11, k12⟩ := rf_cells G6.out
  have s0 := blk_frozen G6.out 0
  have s7 := blk_frozen G6.out 7
  obtain ⟨j0, j1, j2, j3, q0, q1, q2, q3⟩ := four GX6.out
  go_wp2
  have hgr := GR.out
  have hgl := GL5.out
  have hsz := SZ.out
  refine bodyPost_ret (v := .tuple #[.agg #[.int .i64 code, .int .i64 i2, .int .i64 0, .slice A2 os.length c2], .int .i64 0]) (by simp [results, Try.results58, go_sem, *]) rfl ?_
  obtain ⟨w7, hw7⟩ : ∃ w7, w7 = ((((((w6.setCell ⟨g, 0, none⟩ (.bool true)).setCell ⟨g, 7, none⟩ (.int .i64 m.tries)).setCell ⟨gr, 0, none⟩ (.int .i64 code)).setCell ⟨gr, 1, none⟩ (.int .i64 i2)).setCell ⟨gr, 2, none⟩ (.int .i64 0)).setCell ⟨gr, 3, none⟩ (.slice A2 os.length c2)) := ⟨_, rfl⟩
  rw [← hw7, ← HI2.out]
  have hU : Upd w w7 g := by rw [hw7]; exact (((((HU6.out.set g 0 (.inl rfl) _).set g 7 (.inl rfl) _).set gr 0 (.inr hgr) _).set gr 1 (.inr hgr) _).set gr 2 (.inr hgr) _).set gr 3 (.inr hgr) _
  have hz7 : w7.heap.size = w6.heap.size := by rw [hw7]; simp [World.setCell]
  have R7 : Kd.R k46 46 w7 w5.heap.size (fun k => w5.heap.size ≤ k ∧ k < w6.heap.size) (.slice A2 os.length c2) os := by
    rw [hw7]
    repeat (refine Kd.R_far ?_ (fun k hk => by simp only; omega) _)
    exact R6.out
  have G7 : w7.heap[g]? = some (.cells (rfCells { m with id := i2, ask := ⟨code, i2, 0, os⟩, left := m.tries } true m.tries (.slice A2 os.length c2) (.slice A' m.last.f3.length c')) 99 (0, 0)) := by
    rw [hw7]
    exact blk_far (blk_far (blk_far (blk_far (blk_put (blk_put G6.out 0 _ rfl) 7 _ rfl) NE.out _) NE.out _) NE.out _) NE.out _
  refine ⟨A2, c2, rfl, (Kd.R_reads' R7).2.1, (Kd.R_reads' R7).2.2, ⟨true, m.tries, A2, c2, A', c', decide_eq_true HTR.out, fun _ => rfl, G7, ?_, ?_⟩, hU⟩
  · exact (Sees.of_R R7).mono (fun k hk => .inr ⟨by omega, by omega⟩)
  · exact (HS'.out.step (fun k ho hk => hU.block k hk (HK.out k ho))).mono (fun k hk => .inl hk)
set_option maxHeartbeats 8000000 in
set_option maxRecDepth 100000 in
theorem rask_put7 (g : Nat) (ok : Nat → Prop) (m : Tk) (code : Int) (B : Option Addr) (d : Nat) (os : List S46) (er : Int) (w : World) (h : RfAt w g ok m) (hok : ∀ k, ok k → k ≠ g) (hi0 : 0 ≤ m.id) (hi9 : m.id ≤ 255) (ho : Sees w ok B d os) (hz : os.all (fun o => decide (o.f1.size ≤ 140737488351232)) = true) (hn : os.length < 5864062014805)
    (hp : (bapS code 0 0 os).2 = er) (h7 : code = 7) (he : er ≠ 0) :
    Calls Try.prog 58 #[.pointer (some ⟨g, 0, none⟩), .int .i64 code, .slice B os.length d] w (RfBap w g ok m bp0 2200) := by
  obtain ⟨p, lr, A, c, A', c', hp0, hp1, h1, hs, hs'⟩ := h
  have H1 := Aside0.mk h1
  have HS := Aside0.mk hs
  have HS' := Aside0.mk hs'
  have HK := Aside0.mk hok
  have HP0 := Aside0.mk hp0
  have HP1 := Aside0.mk hp1
  clear hp0 hp1
  have RQ := Aside0.mk (show reqB code = false by rw [h7]; rfl)
  have e7 : (code != 7) = false := by rw [h7]; rfl
  clear h7
  have e0 : (er != 0) = true := by simpa using he
  clear he
  have HP := Aside0.mk hp
  have HO := Aside0.mk ho
  have HZ := Aside0.mk hz
  have HN := Aside0.mk hn
  clear hp ho hz hn
  clear h1 hs hs' hok
  have hu99 := Try.underlying99
  have hu56 := Try.underlying56
  go_enter Try.func58, Try.ntmps58
  go_wp2_with (first
    | ((with_reducible refine gate_dst (N := 6) rfl ?_); refine box_event ?hg (N := 6) ?hd (cs := #[.int .i64 0, .int .i64 0, .int .i64 0, .slice none 0 0]) (t := 56) ?hr ?_; (case hd => rfl); (case hg => rfl); (case hr => first | (go_simp; done) | (go_simp; rfl)); intro gr hg w1 hbox hb
       have GR := Aside0.mk (show w.heap.size ≤ gr by rw [hg]; exact Nat.le_refl _)
       have GL := Aside0.mk (show gr < w1.heap.size from blk_lt hbox)
       have GX := Aside0.mk hbox
       have G1 := Aside0.mk (blk_below H1.out hb)
       have HU := Aside0.mk (Upd.of_below hb g)
       have NE := Aside0.mk (show g ≠ gr by have := blk_lt H1.out; omega)
       clear hg hbox hb)
    | (go_at_call 87; ((refine (refBap_calls code 0 0 B d os _ (HO.out.step (fun k ho hk => HU.out.block k hk (HK.out k ho))).C HO.out.cap HZ.out).mono ?_); rw [HP.out]; rintro e w4 ⟨⟨s_, rfl⟩, hb⟩)
       have G4 := Aside0.mk (blk_below G1.out hb)
       have GX4 := Aside0.mk (blk_below GX.out hb)
       have HU4 := Aside0.mk (HU.out.then_below hb)
       have GL4 := Aside0.mk (show gr < w4.heap.size from blk_lt GX4.out)
       clear hb
       obtain ⟨k0, k1, k2, k3, k4, k5, k6, k7, k8, k9, k10, k11, k12⟩ := rf_cells G4.out
       have s8 := blk_frozen G4.out 8
       obtain ⟨j0, j1, j2, j3, q0, q1, q2, q3⟩ := four GX4.out
       have nx : g ≠ gr := NE.out
       have nx' : gr ≠ g := NE.out.symm)
    | (go_at_call 69; ((with_reducible refine (withyref21_request.calls code false _ (by rw [rrequest_eq, RQ.out])).mono ?_); rintro e w' ⟨rfl, ⟨nd, rfl⟩⟩)))
  have hgr := GR.out
  refine bodyPost_ret (v := .tuple #[.agg #[.int .i64 0, .int .i64 0, .int .i64 0, .slice none 0 0], .int .i64 2200]) (by simp [results, Try.results58, go_sem, *]) rfl ?_
  have hU : Upd w ((((((w4.setCell ⟨gr, 0, none⟩ (.int .i64 0)).setCell ⟨gr, 1, none⟩ (.int .i64 0)).setCell ⟨gr, 2, none⟩ (.int .i64 0)).setCell ⟨gr, 3, none⟩ (.slice none 0 0))).drewN nd) g := ((((HU4.out.set gr 0 (.inr hgr) _).set gr 1 (.inr hgr) _).set gr 2 (.inr hgr) _).set gr 3 (.inr hgr) _).drewN nd
  refine RfBap.none ?_ hU
  exact RfAt.turn HP0.out HP1.out (blk_drewN (blk_far (blk_far (blk_far (blk_far G4.out NE.out _) NE.out _) NE.out _) NE.out _) nd) HS.out HS'.out hU HK.out
set_option maxHeartbeats 8000000 in
set_option maxRecDepth 100000 in
theorem rask_busy7 (g : Nat) (ok : Nat → Prop) (m : Tk) (code : Int) (B : Option Addr) (d : Nat) (os : List S46) (er : Int) (w : World) (h : RfAt w g ok m) (hok : ∀ k, ok k → k ≠ g) (hi0 : 0 ≤ m.id) (hi9 : m.id ≤ 255) (ho : Sees w ok B d os) (hz : os.all (fun o => decide (o.f1.size ≤ 140737488351232)) = true) (hn : os.length < 5864062014805)
    (hp : (bapS code 0 0 os).2 = er) (h7 : code = 7) (he : er = 0) (hl : 0 < m.left) :
    Calls Try.prog 58 #[.pointer (some ⟨g, 0, none⟩), .int .i64 code, .slice B os.length d] w (RfBap w g ok m bp0 2201) := by
  obtain ⟨p, lr, A, c, A', c', hp0, hp1, h1, hs, hs'⟩ := h
  have H1 := Aside0.mk h1
  have HS := Aside0.mk hs
  have HS' := Aside0.mk hs'
  have HK := Aside0.mk hok
  obtain rfl : p = true := by rw [← hp0]; exact decide_eq_true hl
  clear hl
  have HP0 := Aside0.mk hp0
  have HP1 := Aside0.mk hp1
  clear hp0 hp1
  have RQ := Aside0.mk (show reqB code = false by rw [h7]; rfl)
  have e7 : (code != 7) = false := by rw [h7]; rfl
  clear h7
  have e0 : (er != 0) = false := by simpa using he
  clear he
  have HP := Aside0.mk hp
  have HO := Aside0.mk ho
  have HZ := Aside0.mk hz
  have HN := Aside0.mk hn
  clear hp ho hz hn
  clear h1 hs hs' hok
  have hu99 := Try.underlying99
  have hu56 := Try.underlying56
  go_enter Try.func58, Try.ntmps58
  go_wp2_with (first
    | ((with_reducible refine gate_dst (N := 6) rfl ?_); refine box_event ?hg (N := 6) ?hd (cs := #[.int .i64 0, .int .i64 0, .int .i64 0, .slice none 0 0]) (t := 56) ?hr ?_; (case hd => rfl); (case hg => rfl); (case hr => first | (go_simp; done) | (go_simp; rfl)); intro gr hg w1 hbox hb
       have GR := Aside0.mk (show w.heap.size ≤ gr by rw [hg]; exact Nat.le_refl _)
       have GL := Aside0.mk (show gr < w1.heap.size from blk_lt hbox)
       have GX := Aside0.mk hbox
       have G1 := Aside0.mk (blk_below H1.out hb)
       have HU := Aside0.mk (Upd.of_below hb g)
       have NE := Aside0.mk (show g ≠ gr by have := blk_lt H1.out; omega)
       clear hg hbox hb)
    | (go_at_call 87; ((refine (refBap_calls code 0 0 B d os _ (HO.out.step (fun k ho hk => HU.out.block k hk (HK.out k ho))).C HO.out.cap HZ.out).mono ?_); rw [HP.out]; rintro e w4 ⟨⟨s_, rfl⟩, hb⟩)
       have G4 := Aside0.mk (blk_below G1.out hb)
       have GX4 := Aside0.mk (blk_below GX.out hb)
       have HU4 := Aside0.mk (HU.out.then_below hb)
       have GL4 := Aside0.mk (show gr < w4.heap.size from blk_lt GX4.out)
       clear hb
       obtain ⟨k0, k1, k2, k3, k4, k5, k6, k7, k8, k9, k10, k11, k12⟩ := rf_cells G4.out
       have s8 := blk_frozen G4.out 8
       obtain ⟨j0, j1, j2, j3, q0, q1, q2, q3⟩ := four GX4.out
       have nx : g ≠ gr := NE.out
       have nx' : gr ≠ g := NE.out.symm)
    | (go_at_call 69; ((with_reducible refine (withyref21_request.calls code false _ (by rw [rrequest_eq, RQ.out])).mono ?_); rintro e w' ⟨rfl, ⟨nd, rfl⟩⟩)))
  have hgr := GR.out
  refine bodyPost_ret (v := .tuple #[.agg #[.int .i64 0, .int .i64 0, .int .i64 0, .slice none 0 0], .int .i64 2201]) (by simp [results, Try.results58, go_sem, *]) rfl ?_
  have hU : Upd w ((((((w4.setCell ⟨gr, 0, none⟩ (.int .i64 0)).setCell ⟨gr, 1, none⟩ (.int .i64 0)).setCell ⟨gr, 2, none⟩ (.int .i64 0)).setCell ⟨gr, 3, none⟩ (.slice none 0 0))).drewN nd) g := ((((HU4.out.set gr 0 (.inr hgr) _).set gr 1 (.inr hgr) _).set gr 2 (.inr hgr) _).set gr 3 (.inr hgr) _).drewN nd
  refine RfBap.none ?_ hU
  exact RfAt.turn HP0.out HP1.out (blk_drewN (blk_far (blk_far (blk_far (blk_far G4.out NE.out _) NE.out _) NE.out _) NE.out _) nd) HS.out HS'.out hU HK.out
set_option maxHeartbeats 8000000 in
set_option maxRecDepth 100000 in
theorem rask_ok7 (g : Nat) (ok : Nat → Prop) (m : Tk) (code : Int) (B : Option Addr) (d : Nat) (os : List S46) (er : Int) (w : World) (h : RfAt w g ok m) (hok : ∀ k, ok k → k ≠ g) (hi0 : 0 ≤ m.id) (hi9 : m.id ≤ 255) (ho : Sees w ok B d os) (hz : os.all (fun o => decide (o.f1.size ≤ 140737488351232)) = true) (hn : os.length < 5864062014805)
    (hp : (bapS code 0 0 os).2 = er) (h7 : code = 7) (he : er = 0) (hl : m.left = 0) (ht : 1 ≤ m.tries) :
    Calls Try.prog 58 #[.pointer (some ⟨g, 0, none⟩), .int .i64 code, .slice B os.length d] w (RfBap w g ok { m with id := nextId m.id, ask := ⟨code, nextId m.id, 0, os⟩, left := m.tries } ⟨code, nextId m.id, 0, os⟩ 0) := by
  obtain ⟨p, lr, A, c, A', c', hp0, hp1, h1, hs, hs'⟩ := h
  have H1 := Aside0.mk h1
  have HS := Aside0.mk hs
  have HS' := Aside0.mk hs'
  have HK := Aside0.mk hok
  have HTR := Aside0.mk (show 0 < m.tries by omega)
  clear ht
  obtain rfl : p = false := by rw [← hp0, hl]; rfl
  clear hl hp0 hp1
  obtain ⟨i1, hi1⟩ : ∃ i1, i1 = m.id + 1 := ⟨_, rfl⟩
  obtain ⟨i2, hi2⟩ : ∃ i2, i2 = nextId m.id := ⟨_, rfl⟩
  have ee1 : IntKind.i64.wrap (m.id + 1) = i1 := by rw [IntKind.wrap_i64]; omega
  have ee2 : bits .and .i64 i1 255 = i2 := by rw [mask255, hi1, hi2]; rfl
  have HI2 := Aside0.mk hi2
  clear hi1 hi2
  have RQ := Aside0.mk (show reqB code = false by rw [h7]; rfl)
  have e7 : (code != 7) = false := by rw [h7]; rfl
  clear h7
  have e0 : (er != 0) = false := by simpa using he
  clear he
  have HP := Aside0.mk hp
  have HO := Aside0.mk ho
  have HZ := Aside0.mk hz
  have HN := Aside0.mk hn
  clear hp ho hz hn
  clear h1 hs hs' hok
  have hu99 := Try.underlying99
  have hu56 := Try.underlying56
  go_enter Try.func58, Try.ntmps58
  go_wp2_with (first
    | ((with_reducible refine gate_dst (N := 6) rfl ?_); refine box_event ?hg (N := 6) ?hd (cs := #[.int .i64 0, .int .i64 0, .int .i64 0, .slice none 0 0]) (t := 56) ?hr ?_; (case hd => rfl); (case hg => rfl); (case hr => first | (go_simp; done) | (go_simp; rfl)); intro gr hg w1 hbox hb
       have GR := Aside0.mk (show w.heap.size ≤ gr by rw [hg]; exact Nat.le_refl _)
       have GL := Aside0.mk (show gr < w1.heap.size from blk_lt hbox)
       have GX := Aside0.mk hbox
       have G1 := Aside0.mk (blk_below H1.out hb)
       have HU := Aside0.mk (Upd.of_below hb g)
       have NE := Aside0.mk (show g ≠ gr by have := blk_lt H1.out; omega)
       clear hg hbox hb)
    | (go_at_call 87; ((refine (refBap_calls code 0 0 B d os _ (HO.out.step (fun k ho hk => HU.out.block k hk (HK.out k ho))).C HO.out.cap HZ.out).mono ?_); rw [HP.out]; rintro e w4 ⟨⟨s_, rfl⟩, hb⟩)
       have G4 := Aside0.mk (blk_below G1.out hb)
       have GX4 := Aside0.mk (blk_below GX.out hb)
       have HU4 := Aside0.mk (HU.out.then_below hb)
       have GL4 := Aside0.mk (show gr < w4.heap.size from blk_lt GX4.out)
       clear hb
       obtain ⟨k0, k1, k2, k3, k4, k5, k6, k7, k8, k9, k10, k11, k12⟩ := rf_cells G4.out
       have s8 := blk_frozen G4.out 8
       obtain ⟨j0, j1, j2, j3, q0, q1, q2, q3⟩ := four GX4.out
       have nx : g ≠ gr := NE.out
       have nx' : gr ≠ g := NE.out.symm)
    | (go_at_call 69; ((with_reducible refine (withyref21_request.calls code false _ (by rw [rrequest_eq, RQ.out])).mono ?_); rintro e w' ⟨rfl, ⟨nd, rfl⟩⟩)))
  obtain ⟨w5, hw5⟩ : ∃ w5, w5 = (w4.drewN nd).setCell ⟨g, 8, none⟩ (.int .i64 i2) := ⟨_, rfl⟩
  have G5 := Aside0.mk (show w5.heap[g]? = some (.cells (rfCells { m with id := i2 } false lr (.slice A m.ask.f3.length c) (.slice A' m.last.f3.length c')) 99 (0, 0)) by rw [hw5]; exact blk_put (blk_drewN G4.out nd) 8 _ rfl)
  have GX5 := Aside0.mk (show w5.heap[gr]? = some (.cells #[.int .i64 0, .int .i64 0, .int .i64 0, .slice none 0 0] 56 (0, 0)) by rw [hw5]; exact blk_far (blk_drewN GX4.out nd) NE.out.symm _)
  have HU5 := Aside0.mk (show Upd w w5 g by rw [hw5]; exact (HU4.out.drewN nd).set g 8 (.inl rfl) _)
  have GL5 := Aside0.mk (show gr < w5.heap.size from blk_lt GX5.out)
  rw [← hw5]
  clear hw5 G4 GX4 HU4 GL4 G1 GX HU GL k0 k1 k2 k3 k4 k5 k6 k7 k8 k9 k10 k11 k12 j0 j1 j2 j3 q0 q1 q2 q3 s8
  have k8 : w5.cell? ⟨g, 8, none⟩ = some (.int .i64 i2) := (blk_cell G5.out 8).trans rfl
  have glt : g < w5.heap.size := blk_lt G5.out
  have ngs : w5.heap.size ≠ g := Nat.ne_of_gt glt
  go_region_held3 (fun w' => w'.cell? ⟨g, 8, none⟩ = some (.int .i64 i2)) (simp [*, World.cell?_alloc_some, World.cell?_setCell_far, World.cell?_setCell_other])
    ((refine Kd.R_append_rows_step k46 (w0 := w5) w5.heap.size (by rfl) _ _ 35 46 (.agg #[(.int .i64 0), (.string ⟨#[]⟩)]) 24 (by rfl) Try.underlying35 info46 rfl (by decide) (by omega) (.slice (some ⟨w5.heap.size, 0, none⟩) 0 0) [] os B os.length d (fun k => w5.heap.size ≤ k) (fun _ => False) (by rfl) (by rfl) (by first | exact made_R _ | exact Kd.R_drew (made_R _)) (Sees.C (show Sees _ ok B d os from sees_up (show Upd w _ g by repeat (first | exact HU5.out | apply Upd.alloc | apply Upd.drew)) HK.out HO.out)) (fun _ _ h => h) (fun _ h => h.elim) (fun _ h => by simp at h; omega) (by repeat (first | exact Below.refl _ _ | apply below_alloc | apply below_drew)) (by simp) (by have := HN.out; simp; omega) ?_; intro v1 wA ho hb hg_ hat_; rw [List.nil_append] at ho; obtain ⟨A2, c2, rfl⟩ := Kd.R_slice ho; have z8 := (hb.cell (p := ⟨g, 8, none⟩) glt).trans k8; have GA := Aside0.mk ((hb.block g glt).trans G5.out); have GXA := Aside0.mk ((hb.block gr GL5.out).trans GX5.out); have RA := Aside0.mk ho; have BA := Aside0.mk hb; obtain ⟨_, _, _, _, _, _, _, _, _, y9, y10, y11, y12⟩ := rf_cells GA.out; have f9 := blk_frozen GA.out 9; have f10 := blk_frozen GA.out 10; have f11 := blk_frozen GA.out 11; have f12 := blk_frozen GA.out 12; clear ho hb hg_ hat_))
  obtain ⟨w6, hw6⟩ : ∃ w6, w6 = ((((wA.setCell ⟨g, 9, none⟩ (.int .i64 code)).setCell ⟨g, 10, none⟩ (.int .i64 i2)).setCell ⟨g, 11, none⟩ (.int .i64 0)).setCell ⟨g, 12, none⟩ (.slice A2 os.length c2)) := ⟨_, rfl⟩
  have hz6 : w6.heap.size = wA.heap.size := by rw [hw6]; simp [World.setCell]
  have G6 := Aside0.mk (show w6.heap[g]? = some (.cells (rfCells { m with id := i2, ask := ⟨code, i2, 0, os⟩ } false lr (.slice A2 os.length c2) (.slice A' m.last.f3.length c')) 99 (0, 0)) by rw [hw6]; exact blk_put (blk_put (blk_put (blk_put GA.out 9 _ rfl) 10 _ rfl) 11 _ rfl) 12 _ rfl)
  have GX6 := Aside0.mk (show w6.heap[gr]? = some (.cells #[.int .i64 0, .int .i64 0, .int .i64 0, .slice none 0 0] 56 (0, 0)) by rw [hw6]; exact blk_far (blk_far (blk_far (blk_far GXA.out NE.out.symm _) NE.out.symm _) NE.out.symm _) NE.out.symm _)
  have HU6 := Aside0.mk (show Upd w w6 g by rw [hw6]; exact ((((HU5.out.then_below BA.out).set g 9 (.inl rfl) _).set g 10 (.inl rfl) _).set g 11 (.inl rfl) _).set g 12 (.inl rfl) _)
  have R6 := Aside0.mk (show Kd.R k46 46 w6 w5.heap.size (fun k => w5.heap.size ≤ k ∧ k < w6.heap.size) (.slice A2 os.length c2) os by
    rw [hz6]
    refine Kd.R_mono (ok := fun k => w5.heap.size ≤ k ∧ k < wA.heap.size) ?_ (fun k hk => hk)
    rw [hw6]
    repeat (refine Kd.R_far ?_ (fun k hk => by simp only; omega) _)
    exact Kd.R_mono (Kd.R_bound RA.out) (fun k hk => ⟨hk.1, hk.2.2.1⟩))
  rw [← hw6]
  have SZ := Aside0.mk (show w.heap.size ≤ w5.heap.size from HU5.out.size)
  clear hw6 hz6 GA GXA BA RA G5 GX5 HU5 z8 y9 y10 y11 y12 f9 f10 f11 f12 k8 ngs
  obtain ⟨k0, k1, k2, k3, k4, k5, k6, k7, k8, k9, k10, k11, k12⟩ := rf_cells G6.out
  have s0 := blk_frozen G6.out 0
  have s7 := blk_frozen G6.out 7
  obtain ⟨j0, j1, j2, j3, q0, q1, q2, q3⟩ := four GX6.out
  go_wp2
  have hgr := GR.out
  have hgl := GL5.out
  have hsz := SZ.out
  refine bodyPost_ret (v := .tuple #[.agg #[.int .i64 code, .int .i64 i2, .int .i64 0, .slice A2 os.length c2], .int .i64 0]) (by simp [results, Try.results58, go_sem, *]) rfl ?_
  obtain ⟨w7, hw7⟩ : ∃ w7, w7 = ((((((w6.setCell ⟨g, 0, none⟩ (.bool true)).setCell ⟨g, 7, none⟩ (.int .i64 m.tries)).setCell ⟨gr, 0, none⟩ (.int .i64 code)).setCell ⟨gr, 1, none⟩ (.int .i64 i2)).setCell ⟨gr, 2, none⟩ (.int .i64 0)).setCell ⟨gr, 3, none⟩ (.slice A2 os.length c2)) := ⟨_, rfl⟩
  rw [← hw7, ← HI2.out]
  have hU : Upd w w7 g := by rw [hw7]; exact (((((HU6.out.set g 0 (.inl rfl) _).set g 7 (.inl rfl) _).set gr 0 (.inr hgr) _).set gr 1 (.inr hgr) _).set gr 2 (.inr hgr) _).set gr 3 (.inr hgr) _
  have hz7 : w7.heap.size = w6.heap.size := by rw [hw7]; simp [World.setCell]
  have R7 : Kd.R k46 46 w7 w5.heap.size (fun k => w5.heap.size ≤ k ∧ k < w6.heap.size) (.slice A2 os.length c2) os := by
    rw [hw7]
    repeat (refine Kd.R_far ?_ (fun k hk => by simp only; omega) _)
    exact R6.out
  have G7 : w7.heap[g]? = some (.cells (rfCells { m with id := i2, ask := ⟨code, i2, 0, os⟩, left := m.tries } true m.tries (.slice A2 os.length c2) (.slice A' m.last.f3.length c')) 99 (0, 0)) := by
    rw [hw7]
    exact blk_far (blk_far (blk_far (blk_far (blk_put (blk_put G6.out 0 _ rfl) 7 _ rfl) NE.out _) NE.out _) NE.out _) NE.out _
  refine ⟨A2, c2, rfl, (Kd.R_reads' R7).2.1, (Kd.R_reads' R7).2.2, ⟨true, m.tries, A2, c2, A', c', decide_eq_true HTR.out, fun _ => rfl, G7, ?_, ?_⟩, hU⟩
  · exact (Sees.of_R R7).mono (fun k hk => .inr ⟨by omega, by omega⟩)
  · exact (HS'.out.step (fun k ho hk => hU.block k hk (HK.out k ho))).mono (fun k hk => .inl hk)
theorem rask_calls (g : Nat) (ok : Nat → Prop) (m : Tk) (code : Int) (B : Option Addr) (d : Nat) (os : List S46) (w : World) (h : RfAt w g ok m) (hok : ∀ k, ok k → k ≠ g) (hm : m.Ok) (ho : Sees w ok B d os) (hz : os.all (fun o => decide (o.f1.size ≤ 140737488351232)) = true) (hn : os.length < 5864062014805) :
    Calls Try.prog 58 #[.pointer (some ⟨g, 0, none⟩), .int .i64 code, .slice B os.length d] w (RfBap w g ok (askS m code os).1 (askS m code os).2.1 (askS m code os).2.2) := by
  obtain ⟨er, hp⟩ : ∃ er, (bapS code 0 0 os).2 = er := ⟨_, rfl⟩
  have hp2 : (bapS code (nextId m.id) 0 os).2 = er := (bapS_id code (nextId m.id) 0 0 os (by unfold nextId; omega) (by unfold nextId; omega) (by omega) (by omega)).trans hp
  have i0 := hm.id0
  have i9 := hm.id1
  have l0 := hm.left0
  unfold askS
  rw [hp2]
  cases hq : reqB code with
  | true =>
    by_cases he : er = 0
    · rw [if_neg (by rintro (⟨h1, _⟩ | h1); cases h1; exact h1 he)]
      by_cases hl : 0 < m.left
      · rw [if_pos hl]; exact rask_busy1 g ok m code B d os er w h hok i0 i9 ho hz hn hp hq he hl
      · rw [if_neg hl]; exact rask_ok1 g ok m code B d os er w h hok i0 i9 ho hz hn hp hq he (by omega) hm.tries0
    · rw [if_pos (.inr he)]; exact rask_put1 g ok m code B d os er w h hok i0 i9 ho hz hn hp hq he
  | false =>
    by_cases h7 : code = 7
    · by_cases he : er = 0
      · rw [if_neg (by rintro (⟨_, h1⟩ | h1); exact h1 h7; exact h1 he)]
        by_cases hl : 0 < m.left
        · rw [if_pos hl]; exact rask_busy7 g ok m code B d os er w h hok i0 i9 ho hz hn hp h7 he hl
        · rw [if_neg hl]; exact rask_ok7 g ok m code B d os er w h hok i0 i9 ho hz hn hp h7 he (by omega) hm.tries0
      · rw [if_pos (.inr he)]; exact rask_put7 g ok m code B d os er w h hok i0 i9 ho hz hn hp h7 he
    · rw [if_pos (.inl ⟨rfl, h7⟩)]; exact rask_code g ok m code B d os er w h hok i0 i9 ho hz hn hp hq h7
end Go.Proofs.Ytbdlkcgaobkdcaa.P
end
section
namespace Go.Proofs.Ytbdlkcgaobkdcaa.P
open Go.RowKit Go.Proofs.YtbdlkcgaobkdcaaW.PrintWords Go.Proofs.YtbdlkcgaobkdcaaW.PrintLast Go.Proofs.YtbdlkcgaobkdcaaW.PrintMore
attribute [local go_sem] max2_int min2_int max_two min_two max_three min_three max_four min_four   -- for this text's walks alone

/-! ### withyref21_beats: function 70 -/
def withyref21_beats.f (a0 : Int) (a1 : Int) (a2 : Bool) : Option (Bool) := if ((a0 == 5) != (a1 == 5)) = true then (some (a1 == 5)) else (some a2)
set_option maxHeartbeats 8000000 in
set_option maxRecDepth 100000 in
theorem withyref21_beats.calls (a0 : Int) (a1 : Int) (a2 : Bool) (r : Bool) (w : World) (h : withyref21_beats.f a0 a1 a2 = some r) :
    Calls Try.prog 70 #[.int .i64 a0, .int .i64 a1, .bool a2] w fun e w' => e = .returned (.bool r) ∧ Drawn0 w w' := by
  have H : (if ((a0 == 5) != (a1 == 5)) = true then (some (a1 == 5)) else (some a2)) = some r := h
  clear h
  by_cases c4 : ((a0 == 5) != (a1 == 5)) = true
  · rw [if_pos c4] at H
    have c4b0 : ((a0 == 5) != (a1 == 5)) = true := c4
    (try (have c4b1 : decide ((a0 == 5) = (a1 == 5)) = false := by simpa using c4))
    (try (have c4b2 : ((a0 == 5) == (a1 == 5)) = false := by simpa using c4))
    (try (have c4b3 : ¬ ((a0 == 5) = (a1 == 5)) := by simpa using c4))
    clear c4
    obtain rfl := Option.some.inj H
    go_enter Try.func70, Try.ntmps70
    go_wp2
    go_ret
    exact ⟨by first | rfl | (simp; done) | (simp [*]; done), by repeat (first | exact Drawn0.refl _ | apply Drawn0.step)⟩
  · rw [if_neg c4] at H
    have c4b0 : ((a0 == 5) != (a1 == 5)) = false := by simpa using c4
    (try (have c4b1 : decide ((a0 == 5) = (a1 == 5)) = true := by simpa using c4))
    (try (have c4b2 : ((a0 == 5) == (a1 == 5)) = true := by simpa using c4))
    clear c4
    obtain rfl := Option.some.inj H
    go_enter Try.func70, Try.ntmps70
    go_wp2
    go_ret
    exact ⟨by first | rfl | (simp; done) | (simp [*]; done), by repeat (first | exact Drawn0.refl _ | apply Drawn0.step)⟩

end Go.Proofs.Ytbdlkcgaobkdcaa.P
end
section
namespace Go.Proofs.Ytbdlkcgaobkdcaa.P
open Go.RowKit Go.Proofs.YtbdlkcgaobkdcaaW.PrintWords Go.Proofs.YtbdlkcgaobkdcaaW.PrintLast Go.Proofs.YtbdlkcgaobkdcaaW.PrintMore
attribute [local go_sem] max2_int min2_int max_two min_two max_three min_three max_four min_four

/-- What the document's Take leaves. -/
def RfBaps (w : World) (g : Nat) (ok : Nat → Prop) (m : Tk) (l : List S56) (er : Int) (e : Ending) (w' : World) : Prop := ∃ (A : Option Addr) (c : Nat),
  e = .returned (.tuple #[.slice A l.length c, .int .i64 er]) ∧ l.length ≤ c ∧ Kd.C k56 w' A l.length l ∧ RfAt w' g (fun k => ok k ∨ (w.heap.size ≤ k ∧ k < w'.heap.size)) m ∧ Upd w w' g
theorem RfBaps.none {w : World} {g : Nat} {ok : Nat → Prop} {m : Tk} {er : Int} {w' : World} (hT : RfAt w' g ok m) (hU : Upd w w' g) : RfBaps w g ok m [] er (.returned (.tuple #[.slice Option.none 0 0, .int .i64 er])) w' :=
  ⟨Option.none, 0, rfl, Nat.le_refl _, Kd.C_nil _ _, hT.mono (fun _ hk => .inl hk), hU⟩
theorem beats_eq (f : Bool) (x y : Int) : withyref21_beats.f x y f = some (crossB f x y) := by
  unfold withyref21_beats.f crossB
  cases hxy : ((x == 5) == (y == 5)) with
  | true => simp [bne, hxy]
  | false => simp [bne, hxy]
theorem beats_quiet (f : Bool) (x y : Int) (r : Bool) (w : World) (a n : Nat) (h : crossB f x y = r) : Calls Try.prog 70 #[.int .i64 x, .int .i64 y, .bool f] (w.drewN (a + n)) fun e w' => e = .returned (.bool r) ∧ ∃ k, w' = w.drewN (a + k) := by
  refine (withyref21_beats.calls x y f r _ (by rw [beats_eq, h])).mono fun e w' ⟨h1, h2⟩ => ?_
  obtain ⟨k, hk⟩ := h2.out
  exact ⟨h1, n + k, by rw [hk, World.drewN_drewN, Nat.add_assoc]⟩
set_option maxHeartbeats 8000000 in
set_option maxRecDepth 100000 in
theorem rtake_form (g : Nat) (ok : Nat → Prop) (m : Tk) (c_ i a : Int) (B : Option Addr) (d : Nat) (os : List S46) (er : Int) (yes : Bool) (w : World) (h : RfAt w g ok m) (hok : ∀ k, ok k → k ≠ g) (ho : Sees w ok B d os) (hz : os.all (fun o => decide (o.f1.size ≤ 140737488351232)) = true) (hn : os.length < 5864062014805)
    (hp : (bapS c_ i a os).2 = er) (he : er ≠ 0) :
    Calls Try.prog 60 #[.pointer (some ⟨g, 0, none⟩), .agg #[.int .i64 c_, .int .i64 i, .int .i64 a, .slice B os.length d], .bool yes] w (RfBaps w g ok m [] 2200) := by
  cases yes
  all_goals
    obtain ⟨p, lr, A, c, A', c', hp0, hp1, h1, hs, hs'⟩ := h
    have H1 := Aside0.mk h1
    have HS := Aside0.mk hs
    have HS' := Aside0.mk hs'
    have HK := Aside0.mk hok
    have HP0 := Aside0.mk hp0
    have HP1 := Aside0.mk hp1
    clear hp0 hp1
    have e0 : (er != 0) = true := by simpa using he
    clear he
    have RQ : Aside0 (reqB c_ = reqB c_) := ⟨rfl⟩
    have RA : Aside0 (reqB m.ask.f0 = reqB m.ask.f0) := ⟨rfl⟩
    have HP := Aside0.mk hp
    have HO := Aside0.mk ho
    have HZ := Aside0.mk hz
    have HN := Aside0.mk hn
    clear hp ho hz hn
    clear h1 hs hs' hok
    have hu99 := Try.underlying99
    have hu56 := Try.underlying56
    go_enter Try.func60, Try.ntmps60
    go_wp2_with (first
      | ((with_reducible refine gate_dst (N := 4) rfl ?_); refine box_event ?hg (N := 4) ?hd (cs := #[.int .i64 c_, .int .i64 i, .int .i64 a, .slice B os.length d]) (t := 56) ?hr ?_; (case hd => rfl); (case hg => rfl); (case hr => first | (go_simp; done) | (go_simp; rfl)); intro gx hg w1 hbox hb
         have GR := Aside0.mk (show w.heap.size ≤ gx by rw [hg]; exact Nat.le_refl _)
         have GL := Aside0.mk (show gx < w1.heap.size from blk_lt hbox)
         have GX := Aside0.mk hbox
         have G1 := Aside0.mk (blk_below H1.out hb)
         have HU := Aside0.mk (Upd.of_below hb g)
         have NE := Aside0.mk (show g ≠ gx by have := blk_lt H1.out; omega)
         obtain ⟨j0, j1, j2, j3, q0, q1, q2, q3⟩ := four GX.out
         clear hg hbox hb)
      | (go_at_call 87; ((refine (refBap_calls c_ i a B d os _ (HO.out.step (fun k ho hk => HU.out.block k hk (HK.out k ho))).C HO.out.cap HZ.out).mono ?_); rw [HP.out]; rintro e w3 ⟨⟨s_, rfl⟩, hb⟩)
         have G3 := Aside0.mk (blk_below G1.out hb)
         have GX3 := Aside0.mk (blk_below GX.out hb)
         have HU3 := Aside0.mk (HU.out.then_below hb)
         clear hb j0 j1 j2 j3 q0 q1 q2 q3
         obtain ⟨k0, k1, k2, k3, k4, k5, k6, k7, k8, k9, k10, k11, k12⟩ := rf_cells G3.out
         have s0 := blk_frozen G3.out 0
         have s1 := blk_frozen G3.out 1
         have s2 := blk_frozen G3.out 2
         have s3 := blk_frozen G3.out 3
         have s4 := blk_frozen G3.out 4
         obtain ⟨j0, j1, j2, j3, q0, q1, q2, q3⟩ := four GX3.out
         have nx : g ≠ gx := NE.out
         have nx' : gx ≠ g := NE.out.symm)
      | (go_at_call 69; ((with_reducible refine (withyref21_request.calls c_ _ _ (by rw [rrequest_eq, RQ.out])).mono ?_); rintro e w' ⟨rfl, ⟨nd, rfl⟩⟩))
      | (go_at_call 69; ((with_reducible refine (withyref21_request.calls m.ask.f0 _ _ (by rw [rrequest_eq, RA.out])).mono ?_); rintro e w' ⟨rfl, ⟨na, rfl⟩⟩)))
    go_ret2
    exact RfBaps.none (RfAt.turn HP0.out HP1.out G3.out HS.out HS'.out HU3.out HK.out) HU3.out
set_option maxHeartbeats 8000000 in
set_option maxRecDepth 100000 in
theorem rtake_status (g : Nat) (ok : Nat → Prop) (m : Tk) (c_ i a : Int) (B : Option Addr) (d : Nat) (os : List S46) (er : Int) (yes : Bool) (w : World) (h : RfAt w g ok m) (hok : ∀ k, ok k → k ≠ g) (ho : Sees w ok B d os) (hz : os.all (fun o => decide (o.f1.size ≤ 140737488351232)) = true) (hn : os.length < 5864062014805)
    (hp : (bapS c_ i a os).2 = er) (he : er = 0) (h7 : c_ = 7) :
    Calls Try.prog 60 #[.pointer (some ⟨g, 0, none⟩), .agg #[.int .i64 c_, .int .i64 i, .int .i64 a, .slice B os.length d], .bool yes] w (RfBaps w g ok m [⟨8, i, 0, []⟩] 0) := by
  cases yes
  all_goals
    obtain ⟨p, lr, A, c, A', c', hp0, hp1, h1, hs, hs'⟩ := h
    have H1 := Aside0.mk h1
    have HS := Aside0.mk hs
    have HS' := Aside0.mk hs'
    have HK := Aside0.mk hok
    have HP0 := Aside0.mk hp0
    have HP1 := Aside0.mk hp1
    clear hp0 hp1
    have e0 : (er != 0) = false := by simpa using he
    clear he
    have e7 : (c_ == 7) = true := by rw [h7]; rfl
    clear h7
    have RQ : Aside0 (reqB c_ = reqB c_) := ⟨rfl⟩
    have RA : Aside0 (reqB m.ask.f0 = reqB m.ask.f0) := ⟨rfl⟩
    have HP := Aside0.mk hp
    have HO := Aside0.mk ho
    have HZ := Aside0.mk hz
    have HN := Aside0.mk hn
    clear hp ho hz hn
    clear h1 hs hs' hok
    have hu99 := Try.underlying99
    have hu56 := Try.underlying56
    go_enter Try.func60, Try.ntmps60
    go_wp2_with (first
      | ((with_reducible refine gate_dst (N := 4) rfl ?_); refine box_event ?hg (N := 4) ?hd (cs := #[.int .i64 c_, .int .i64 i, .int .i64 a, .slice B os.length d]) (t := 56) ?hr ?_; (case hd => rfl); (case hg => rfl); (case hr => first | (go_simp; done) | (go_simp; rfl)); intro gx hg w1 hbox hb
         have GR := Aside0.mk (show w.heap.size ≤ gx by rw [hg]; exact Nat.le_refl _)
         have GL := Aside0.mk (show gx < w1.heap.size from blk_lt hbox)
         have GX := Aside0.mk hbox
         have G1 := Aside0.mk (blk_below H1.out hb)
         have HU := Aside0.mk (Upd.of_below hb g)
         have NE := Aside0.mk (show g ≠ gx by have := blk_lt H1.out; omega)
         obtain ⟨j0, j1, j2, j3, q0, q1, q2, q3⟩ := four GX.out
         clear hg hbox hb)
      | (go_at_call 87; ((refine (refBap_calls c_ i a B d os _ (HO.out.step (fun k ho hk => HU.out.block k hk (HK.out k ho))).C HO.out.cap HZ.out).mono ?_); rw [HP.out]; rintro e w3 ⟨⟨s_, rfl⟩, hb⟩)
         have G3 := Aside0.mk (blk_below G1.out hb)
         have GX3 := Aside0.mk (blk_below GX.out hb)
         have HU3 := Aside0.mk (HU.out.then_below hb)
         clear hb j0 j1 j2 j3 q0 q1 q2 q3
         obtain ⟨k0, k1, k2, k3, k4, k5, k6, k7, k8, k9, k10, k11, k12⟩ := rf_cells G3.out
         have s0 := blk_frozen G3.out 0
         have s1 := blk_frozen G3.out 1
         have s2 := blk_frozen G3.out 2
         have s3 := blk_frozen G3.out 3
         have s4 := blk_frozen G3.out 4
         obtain ⟨j0, j1, j2, j3, q0, q1, q2, q3⟩ := four GX3.out
         have nx : g ≠ gx := NE.out
         have nx' : gx ≠ g := NE.out.symm)
      | (go_at_call 69; ((with_reducible refine (withyref21_request.calls c_ _ _ (by rw [rrequest_eq, RQ.out])).mono ?_); rintro e w' ⟨rfl, ⟨nd, rfl⟩⟩))
      | (go_at_call 69; ((with_reducible refine (withyref21_request.calls m.ask.f0 _ _ (by rw [rrequest_eq, RA.out])).mono ?_); rintro e w' ⟨rfl, ⟨na, rfl⟩⟩)))
    go_ret2
    have hU := HU3.out.alloc (.cells #[.int .i64 8, .int .i64 i, .int .i64 0, .slice none 0 0] 56)
    exact ⟨_, 1, rfl, Nat.le_refl _, row_one (b := ⟨8, i, 0, []⟩) (heap_alloc_new _ _) (Nat.le_refl 0) (Kd.C_nil _ _), RfAt.mono (RfAt.turn HP0.out HP1.out (blk_alloc G3.out _) HS.out HS'.out hU HK.out) (fun _ hk => .inl hk), hU⟩
set_option maxHeartbeats 8000000 in
set_option maxRecDepth 100000 in
theorem rtake_idle_true (g : Nat) (ok : Nat → Prop) (m : Tk) (c_ i a : Int) (B : Option Addr) (d : Nat) (os : List S46) (er : Int) (w : World) (h : RfAt w g ok m) (hok : ∀ k, ok k → k ≠ g) (ho : Sees w ok B d os) (hz : os.all (fun o => decide (o.f1.size ≤ 140737488351232)) = true) (hn : os.length < 5864062014805)
    (hp : (bapS c_ i a os).2 = er) (hc0 : 0 ≤ c_) (hc9 : c_ ≤ 255) (he : er = 0) (h7 : c_ ≠ 7) (hq : reqB c_ = true) (hl : m.left = 0) :
    Calls Try.prog 60 #[.pointer (some ⟨g, 0, none⟩), .agg #[.int .i64 c_, .int .i64 i, .int .i64 a, .slice B os.length d], .bool true] w (RfBaps w g ok m [⟨c_ + 1, i, 0, os⟩] 0) := by
  all_goals
    obtain ⟨p, lr, A, c, A', c', hp0, hp1, h1, hs, hs'⟩ := h
    have H1 := Aside0.mk h1
    have HS := Aside0.mk hs
    have HS' := Aside0.mk hs'
    have HK := Aside0.mk hok
    obtain rfl : p = false := by rw [← hp0, hl]; rfl
    have HP0 := Aside0.mk hp0
    have HP1 := Aside0.mk hp1
    clear hp0 hp1 hl
    have e0 : (er != 0) = false := by simpa using he
    clear he
    have e7 : (c_ == 7) = false := by simpa using h7
    clear h7
    have RQ := Aside0.mk hq
    clear hq
    obtain ⟨c1, hc1⟩ : ∃ c1, c1 = c_ + 1 := ⟨_, rfl⟩
    have ec : IntKind.i64.wrap (c_ + 1) = c1 := by rw [IntKind.wrap_i64]; omega
    have HC1 := Aside0.mk hc1
    clear hc1
    have RA : Aside0 (reqB m.ask.f0 = reqB m.ask.f0) := ⟨rfl⟩
    have HP := Aside0.mk hp
    have HO := Aside0.mk ho
    have HZ := Aside0.mk hz
    have HN := Aside0.mk hn
    clear hp ho hz hn
    clear h1 hs hs' hok
    have hu99 := Try.underlying99
    have hu56 := Try.underlying56
    go_enter Try.func60, Try.ntmps60
    go_wp2_with (first
      | ((with_reducible refine gate_dst (N := 4) rfl ?_); refine box_event ?hg (N := 4) ?hd (cs := #[.int .i64 c_, .int .i64 i, .int .i64 a, .slice B os.length d]) (t := 56) ?hr ?_; (case hd => rfl); (case hg => rfl); (case hr => first | (go_simp; done) | (go_simp; rfl)); intro gx hg w1 hbox hb
         have GR := Aside0.mk (show w.heap.size ≤ gx by rw [hg]; exact Nat.le_refl _)
         have GL := Aside0.mk (show gx < w1.heap.size from blk_lt hbox)
         have GX := Aside0.mk hbox
         have G1 := Aside0.mk (blk_below H1.out hb)
         have HU := Aside0.mk (Upd.of_below hb g)
         have NE := Aside0.mk (show g ≠ gx by have := blk_lt H1.out; omega)
         obtain ⟨j0, j1, j2, j3, q0, q1, q2, q3⟩ := four GX.out
         clear hg hbox hb)
      | (go_at_call 87; ((refine (refBap_calls c_ i a B d os _ (HO.out.step (fun k ho hk => HU.out.block k hk (HK.out k ho))).C HO.out.cap HZ.out).mono ?_); rw [HP.out]; rintro e w3 ⟨⟨s_, rfl⟩, hb⟩)
         have G3 := Aside0.mk (blk_below G1.out hb)
         have GX3 := Aside0.mk (blk_below GX.out hb)
         have HU3 := Aside0.mk (HU.out.then_below hb)
         clear hb j0 j1 j2 j3 q0 q1 q2 q3
         obtain ⟨k0, k1, k2, k3, k4, k5, k6, k7, k8, k9, k10, k11, k12⟩ := rf_cells G3.out
         have s0 := blk_frozen G3.out 0
         have s1 := blk_frozen G3.out 1
         have s2 := blk_frozen G3.out 2
         have s3 := blk_frozen G3.out 3
         have s4 := blk_frozen G3.out 4
         obtain ⟨j0, j1, j2, j3, q0, q1, q2, q3⟩ := four GX3.out
         have nx : g ≠ gx := NE.out
         have nx' : gx ≠ g := NE.out.symm)
      | (go_at_call 69; ((with_reducible refine (withyref21_request.calls c_ _ _ (by rw [rrequest_eq, RQ.out])).mono ?_); rintro e w' ⟨rfl, ⟨nd, rfl⟩⟩))
      | (go_at_call 69; ((with_reducible refine (withyref21_request.calls m.ask.f0 _ _ (by rw [rrequest_eq, RA.out])).mono ?_); rintro e w' ⟨rfl, ⟨na, rfl⟩⟩)))
    obtain ⟨w5, hw5⟩ : ∃ w5, w5 = w3.drewN nd := ⟨_, rfl⟩
    have G5 := Aside0.mk (show w5.heap[g]? = some (.cells (rfCells m false lr (.slice A m.ask.f3.length c) (.slice A' m.last.f3.length c')) 99 (0, 0)) by rw [hw5]; exact blk_drewN G3.out _)
    have GX5 := Aside0.mk (show w5.heap[gx]? = some (.cells #[.int .i64 c_, .int .i64 i, .int .i64 a, .slice B os.length d] 56 (0, 0)) by rw [hw5]; exact blk_drewN GX3.out _)
    have HU5 := Aside0.mk (show Upd w w5 g by rw [hw5]; exact HU3.out.drewN _)
    rw [← hw5]
    clear hw5 G3 GX3 HU3 k0 k1 k2 k3 k4 k5 k6 k7 k8 k9 k10 k11 k12 j0 j1 j2 j3 q0 q1 q2 q3 s0 s1 s2 s3 s4
    have GL5 := Aside0.mk (show gx < w5.heap.size from blk_lt GX5.out)
    have ngs : w5.heap.size ≠ gx := Nat.ne_of_gt GL5.out
    obtain ⟨j0, j1, j2, j3, q0, q1, q2, q3⟩ := four GX5.out
    go_region_held3 (fun w' => w'.cell? ⟨gx, 0, none⟩ = some (.int .i64 c_) ∧ w'.cell? ⟨gx, 1, none⟩ = some (.int .i64 i) ∧ w'.cell? ⟨gx, 3, none⟩ = some (.slice B os.length d)) (go_keep)
      ((refine Kd.R_append_rows_step k46 (w0 := w5) w5.heap.size (by rfl) _ _ 35 46 (.agg #[(.int .i64 0), (.string ⟨#[]⟩)]) 24 (by rfl) Try.underlying35 info46 rfl (by decide) (by omega) (.slice (some ⟨w5.heap.size, 0, none⟩) 0 0) [] os B os.length d (fun k => w5.heap.size ≤ k) (fun _ => False) (by rfl) (by rfl) (by first | exact made_R _ | exact Kd.R_drew (made_R _)) (Sees.C (show Sees _ ok B d os from sees_up (show Upd w _ g by repeat (first | exact HU5.out | apply Upd.alloc | apply Upd.drew)) HK.out HO.out)) (fun _ _ h => h) (fun _ h => h.elim) (fun _ h => by simp at h; omega) (by repeat (first | exact Below.refl _ _ | apply below_alloc | apply below_drew)) (by simp) (by have := HN.out; simp; omega) ?_; intro v1 wA ho hb hg_ hat_; rw [List.nil_append] at ho; obtain ⟨A2, c2, rfl⟩ := Kd.R_slice ho; have GXA := Aside0.mk ((hb.block gx GL5.out).trans GX5.out); have RR := Aside0.mk ho; have BA := Aside0.mk hb; have ngA : wA.heap.size ≠ gx := Nat.ne_of_gt (blk_lt GXA.out); obtain ⟨y0, y1, y2, y3, _, _, _, _⟩ := four GXA.out; clear ho hb hg_ hat_ y2))
    go_wp2
    go_ret2
    have hU : Upd w (wA.alloc (.cells #[.int .i64 c1, .int .i64 i, .int .i64 0, .slice A2 os.length c2] 56)) g := (HU5.out.then_below BA.out).alloc _
    have hgl := G5.out
    rw [← HC1.out]
    refine ⟨_, 1, rfl, Nat.le_refl _, row_one (b := ⟨c1, i, 0, os⟩) (heap_alloc_new _ _) (Kd.R_reads' RR.out).2.1 (Kd.C_alloc (Kd.R_reads' RR.out).2.2 _), RfAt.mono ?_ (fun _ hk => .inl hk), hU⟩
    exact RfAt.turn (m := m) (p := false) (lr := lr) HP0.out HP1.out (blk_alloc ((BA.out.block g (blk_lt hgl)).trans hgl) _) HS.out HS'.out hU HK.out
set_option maxHeartbeats 8000000 in
set_option maxRecDepth 100000 in
theorem rtake_idle_false (g : Nat) (ok : Nat → Prop) (m : Tk) (c_ i a : Int) (B : Option Addr) (d : Nat) (os : List S46) (er : Int) (w : World) (h : RfAt w g ok m) (hok : ∀ k, ok k → k ≠ g) (ho : Sees w ok B d os) (hz : os.all (fun o => decide (o.f1.size ≤ 140737488351232)) = true) (hn : os.length < 5864062014805)
    (hp : (bapS c_ i a os).2 = er) (hc0 : 0 ≤ c_) (hc9 : c_ ≤ 255) (he : er = 0) (h7 : c_ ≠ 7) (hq : reqB c_ = true) (hl : m.left = 0) :
    Calls Try.prog 60 #[.pointer (some ⟨g, 0, none⟩), .agg #[.int .i64 c_, .int .i64 i, .int .i64 a, .slice B os.length d], .bool false] w (RfBaps w g ok m [⟨c_ + 1, i, 1, os⟩] 0) := by
  all_goals
    obtain ⟨p, lr, A, c, A', c', hp0, hp1, h1, hs, hs'⟩ := h
    have H1 := Aside0.mk h1
    have HS := Aside0.mk hs
    have HS' := Aside0.mk hs'
    have HK := Aside0.mk hok
    obtain rfl : p = false := by rw [← hp0, hl]; rfl
    have HP0 := Aside0.mk hp0
    have HP1 := Aside0.mk hp1
    clear hp0 hp1 hl
    have e0 : (er != 0) = false := by simpa using he
    clear he
    have e7 : (c_ == 7) = false := by simpa using h7
    clear h7
    have RQ := Aside0.mk hq
    clear hq
    obtain ⟨c1, hc1⟩ : ∃ c1, c1 = c_ + 1 := ⟨_, rfl⟩
    have ec : IntKind.i64.wrap (c_ + 1) = c1 := by rw [IntKind.wrap_i64]; omega
    have HC1 := Aside0.mk hc1
    clear hc1
    have RA : Aside0 (reqB m.ask.f0 = reqB m.ask.f0) := ⟨rfl⟩
    have HP := Aside0.mk hp
    have HO := Aside0.mk ho
    have HZ := Aside0.mk hz
    have HN := Aside0.mk hn
    clear hp ho hz hn
    clear h1 hs hs' hok
    have hu99 := Try.underlying99
    have hu56 := Try.underlying56
    go_enter Try.func60, Try.ntmps60
    go_wp2_with (first
      | ((with_reducible refine gate_dst (N := 4) rfl ?_); refine box_event ?hg (N := 4) ?hd (cs := #[.int .i64 c_, .int .i64 i, .int .i64 a, .slice B os.length d]) (t := 56) ?hr ?_; (case hd => rfl); (case hg => rfl); (case hr => first | (go_simp; done) | (go_simp; rfl)); intro gx hg w1 hbox hb
         have GR := Aside0.mk (show w.heap.size ≤ gx by rw [hg]; exact Nat.le_refl _)
         have GL := Aside0.mk (show gx < w1.heap.size from blk_lt hbox)
         have GX := Aside0.mk hbox
         have G1 := Aside0.mk (blk_below H1.out hb)
         have HU := Aside0.mk (Upd.of_below hb g)
         have NE := Aside0.mk (show g ≠ gx by have := blk_lt H1.out; omega)
         obtain ⟨j0, j1, j2, j3, q0, q1, q2, q3⟩ := four GX.out
         clear hg hbox hb)
      | (go_at_call 87; ((refine (refBap_calls c_ i a B d os _ (HO.out.step (fun k ho hk => HU.out.block k hk (HK.out k ho))).C HO.out.cap HZ.out).mono ?_); rw [HP.out]; rintro e w3 ⟨⟨s_, rfl⟩, hb⟩)
         have G3 := Aside0.mk (blk_below G1.out hb)
         have GX3 := Aside0.mk (blk_below GX.out hb)
         have HU3 := Aside0.mk (HU.out.then_below hb)
         clear hb j0 j1 j2 j3 q0 q1 q2 q3
         obtain ⟨k0, k1, k2, k3, k4, k5, k6, k7, k8, k9, k10, k11, k12⟩ := rf_cells G3.out
         have s0 := blk_frozen G3.out 0
         have s1 := blk_frozen G3.out 1
         have s2 := blk_frozen G3.out 2
         have s3 := blk_frozen G3.out 3
         have s4 := blk_frozen G3.out 4
         obtain ⟨j0, j1, j2, j3, q0, q1, q2, q3⟩ := four GX3.out
         have nx : g ≠ gx := NE.out
         have nx' : gx ≠ g := NE.out.symm)
      | (go_at_call 69; ((with_reducible refine (withyref21_request.calls c_ _ _ (by rw [rrequest_eq, RQ.out])).mono ?_); rintro e w' ⟨rfl, ⟨nd, rfl⟩⟩))
      | (go_at_call 69; ((with_reducible refine (withyref21_request.calls m.ask.f0 _ _ (by rw [rrequest_eq, RA.out])).mono ?_); rintro e w' ⟨rfl, ⟨na, rfl⟩⟩)))
    obtain ⟨w5, hw5⟩ : ∃ w5, w5 = w3.drewN nd := ⟨_, rfl⟩
    have G5 := Aside0.mk (show w5.heap[g]? = some (.cells (rfCells m false lr (.slice A m.ask.f3.length c) (.slice A' m.last.f3.length c')) 99 (0, 0)) by rw [hw5]; exact blk_drewN G3.out _)
    have GX5 := Aside0.mk (show w5.heap[gx]? = some (.cells #[.int .i64 c_, .int .i64 i, .int .i64 a, .slice B os.length d] 56 (0, 0)) by rw [hw5]; exact blk_drewN GX3.out _)
    have HU5 := Aside0.mk (show Upd w w5 g by rw [hw5]; exact HU3.out.drewN _)
    rw [← hw5]
    clear hw5 G3 GX3 HU3 k0 k1 k2 k3 k4 k5 k6 k7 k8 k9 k10 k11 k12 j0 j1 j2 j3 q0 q1 q2 q3 s0 s1 s2 s3 s4
    have GL5 := Aside0.mk (show gx < w5.heap.size from blk_lt GX5.out)
    have ngs : w5.heap.size ≠ gx := Nat.ne_of_gt GL5.out
    obtain ⟨j0, j1, j2, j3, q0, q1, q2, q3⟩ := four GX5.out
    go_region_held3 (fun w' => w'.cell? ⟨gx, 0, none⟩ = some (.int .i64 c_) ∧ w'.cell? ⟨gx, 1, none⟩ = some (.int .i64 i) ∧ w'.cell? ⟨gx, 3, none⟩ = some (.slice B os.length d)) (go_keep)
      ((refine Kd.R_append_rows_step k46 (w0 := w5) w5.heap.size (by rfl) _ _ 35 46 (.agg #[(.int .i64 0), (.string ⟨#[]⟩)]) 24 (by rfl) Try.underlying35 info46 rfl (by decide) (by omega) (.slice (some ⟨w5.heap.size, 0, none⟩) 0 0) [] os B os.length d (fun k => w5.heap.size ≤ k) (fun _ => False) (by rfl) (by rfl) (by first | exact made_R _ | exact Kd.R_drew (made_R _)) (Sees.C (show Sees _ ok B d os from sees_up (show Upd w _ g by repeat (first | exact HU5.out | apply Upd.alloc | apply Upd.drew)) HK.out HO.out)) (fun _ _ h => h) (fun _ h => h.elim) (fun _ h => by simp at h; omega) (by repeat (first | exact Below.refl _ _ | apply below_alloc | apply below_drew)) (by simp) (by have := HN.out; simp; omega) ?_; intro v1 wA ho hb hg_ hat_; rw [List.nil_append] at ho; obtain ⟨A2, c2, rfl⟩ := Kd.R_slice ho; have GXA := Aside0.mk ((hb.block gx GL5.out).trans GX5.out); have RR := Aside0.mk ho; have BA := Aside0.mk hb; have ngA : wA.heap.size ≠ gx := Nat.ne_of_gt (blk_lt GXA.out); obtain ⟨y0, y1, y2, y3, _, _, _, _⟩ := four GXA.out; clear ho hb hg_ hat_ y2))
    go_wp2
    go_ret2
    have hU : Upd w (wA.alloc (.cells #[.int .i64 c1, .int .i64 i, .int .i64 1, .slice A2 os.length c2] 56)) g := (HU5.out.then_below BA.out).alloc _
    have hgl := G5.out
    rw [← HC1.out]
    refine ⟨_, 1, rfl, Nat.le_refl _, row_one (b := ⟨c1, i, 1, os⟩) (heap_alloc_new _ _) (Kd.R_reads' RR.out).2.1 (Kd.C_alloc (Kd.R_reads' RR.out).2.2 _), RfAt.mono ?_ (fun _ hk => .inl hk), hU⟩
    exact RfAt.turn (m := m) (p := false) (lr := lr) HP0.out HP1.out (blk_alloc ((BA.out.block g (blk_lt hgl)).trans hgl) _) HS.out HS'.out hU HK.out
set_option maxHeartbeats 8000000 in
set_option maxRecDepth 100000 in
theorem rtake_stat_true (g : Nat) (ok : Nat → Prop) (m : Tk) (c_ i a : Int) (B : Option Addr) (d : Nat) (os : List S46) (er : Int) (w : World) (h : RfAt w g ok m) (hok : ∀ k, ok k → k ≠ g) (ho : Sees w ok B d os) (hz : os.all (fun o => decide (o.f1.size ≤ 140737488351232)) = true) (hn : os.length < 5864062014805)
    (hp : (bapS c_ i a os).2 = er) (hc0 : 0 ≤ c_) (hc9 : c_ ≤ 255) (he : er = 0) (h7 : c_ ≠ 7) (hq : reqB c_ = true) (hl : 0 < m.left) (hr : reqB m.ask.f0 = false) :
    Calls Try.prog 60 #[.pointer (some ⟨g, 0, none⟩), .agg #[.int .i64 c_, .int .i64 i, .int .i64 a, .slice B os.length d], .bool true] w (RfBaps w g ok m [⟨c_ + 1, i, 0, os⟩] 0) := by
  all_goals
    obtain ⟨p, lr, A, c, A', c', hp0, hp1, h1, hs, hs'⟩ := h
    have H1 := Aside0.mk h1
    have HS := Aside0.mk hs
    have HS' := Aside0.mk hs'
    have HK := Aside0.mk hok
    obtain rfl : p = true := by rw [← hp0]; exact decide_eq_true hl
    have HP0 := Aside0.mk hp0
    have HP1 := Aside0.mk hp1
    clear hp0 hp1 hl
    have e0 : (er != 0) = false := by simpa using he
    clear he
    have e7 : (c_ == 7) = false := by simpa using h7
    clear h7
    have RQ := Aside0.mk hq
    clear hq
    obtain ⟨c1, hc1⟩ : ∃ c1, c1 = c_ + 1 := ⟨_, rfl⟩
    have ec : IntKind.i64.wrap (c_ + 1) = c1 := by rw [IntKind.wrap_i64]; omega
    have HC1 := Aside0.mk hc1
    clear hc1
    have RA := Aside0.mk hr
    clear hr
    have HP := Aside0.mk hp
    have HO := Aside0.mk ho
    have HZ := Aside0.mk hz
    have HN := Aside0.mk hn
    clear hp ho hz hn
    clear h1 hs hs' hok
    have hu99 := Try.underlying99
    have hu56 := Try.underlying56
    go_enter Try.func60, Try.ntmps60
    go_wp2_with (first
      | ((with_reducible refine gate_dst (N := 4) rfl ?_); refine box_event ?hg (N := 4) ?hd (cs := #[.int .i64 c_, .int .i64 i, .int .i64 a, .slice B os.length d]) (t := 56) ?hr ?_; (case hd => rfl); (case hg => rfl); (case hr => first | (go_simp; done) | (go_simp; rfl)); intro gx hg w1 hbox hb
         have GR := Aside0.mk (show w.heap.size ≤ gx by rw [hg]; exact Nat.le_refl _)
         have GL := Aside0.mk (show gx < w1.heap.size from blk_lt hbox)
         have GX := Aside0.mk hbox
         have G1 := Aside0.mk (blk_below H1.out hb)
         have HU := Aside0.mk (Upd.of_below hb g)
         have NE := Aside0.mk (show g ≠ gx by have := blk_lt H1.out; omega)
         obtain ⟨j0, j1, j2, j3, q0, q1, q2, q3⟩ := four GX.out
         clear hg hbox hb)
      | (go_at_call 87; ((refine (refBap_calls c_ i a B d os _ (HO.out.step (fun k ho hk => HU.out.block k hk (HK.out k ho))).C HO.out.cap HZ.out).mono ?_); rw [HP.out]; rintro e w3 ⟨⟨s_, rfl⟩, hb⟩)
         have G3 := Aside0.mk (blk_below G1.out hb)
         have GX3 := Aside0.mk (blk_below GX.out hb)
         have HU3 := Aside0.mk (HU.out.then_below hb)
         clear hb j0 j1 j2 j3 q0 q1 q2 q3
         obtain ⟨k0, k1, k2, k3, k4, k5, k6, k7, k8, k9, k10, k11, k12⟩ := rf_cells G3.out
         have s0 := blk_frozen G3.out 0
         have s1 := blk_frozen G3.out 1
         have s2 := blk_frozen G3.out 2
         have s3 := blk_frozen G3.out 3
         have s4 := blk_frozen G3.out 4
         obtain ⟨j0, j1, j2, j3, q0, q1, q2, q3⟩ := four GX3.out
         have nx : g ≠ gx := NE.out
         have nx' : gx ≠ g := NE.out.symm)
      | (go_at_call 69; ((with_reducible refine (withyref21_request.calls c_ _ _ (by rw [rrequest_eq, RQ.out])).mono ?_); rintro e w' ⟨rfl, ⟨nd, rfl⟩⟩))
      | (go_at_call 69; ((with_reducible refine (withyref21_request.calls m.ask.f0 _ _ (by rw [rrequest_eq, RA.out])).mono ?_); rintro e w' ⟨rfl, ⟨na, rfl⟩⟩)))
    obtain ⟨w5, hw5⟩ : ∃ w5, w5 = w3.drewN (nd + na) := ⟨_, rfl⟩
    have G5 := Aside0.mk (show w5.heap[g]? = some (.cells (rfCells m true lr (.slice A m.ask.f3.length c) (.slice A' m.last.f3.length c')) 99 (0, 0)) by rw [hw5]; exact blk_drewN G3.out _)
    have GX5 := Aside0.mk (show w5.heap[gx]? = some (.cells #[.int .i64 c_, .int .i64 i, .int .i64 a, .slice B os.length d] 56 (0, 0)) by rw [hw5]; exact blk_drewN GX3.out _)
    have HU5 := Aside0.mk (show Upd w w5 g by rw [hw5]; exact HU3.out.drewN _)
    rw [← hw5]
    clear hw5 G3 GX3 HU3 k0 k1 k2 k3 k4 k5 k6 k7 k8 k9 k10 k11 k12 j0 j1 j2 j3 q0 q1 q2 q3 s0 s1 s2 s3 s4
    have GL5 := Aside0.mk (show gx < w5.heap.size from blk_lt GX5.out)
    have ngs : w5.heap.size ≠ gx := Nat.ne_of_gt GL5.out
    obtain ⟨j0, j1, j2, j3, q0, q1, q2, q3⟩ := four GX5.out
    go_region_held3 (fun w' => w'.cell? ⟨gx, 0, none⟩ = some (.int .i64 c_) ∧ w'.cell? ⟨gx, 1, none⟩ = some (.int .i64 i) ∧ w'.cell? ⟨gx, 3, none⟩ = some (.slice B os.length d)) (go_keep)
      ((refine Kd.R_append_rows_step k46 (w0 := w5) w5.heap.size (by rfl) _ _ 35 46 (.agg #[(.int .i64 0), (.string ⟨#[]⟩)]) 24 (by rfl) Try.underlying35 info46 rfl (by decide) (by omega) (.slice (some ⟨w5.heap.size, 0, none⟩) 0 0) [] os B os.length d (fun k => w5.heap.size ≤ k) (fun _ => False) (by rfl) (by rfl) (by first | exact made_R _ | exact Kd.R_drew (made_R _)) (Sees.C (show Sees _ ok B d os from sees_up (show Upd w _ g by repeat (first | exact HU5.out | apply Upd.alloc | apply Upd.drew)) HK.out HO.out)) (fun _ _ h => h) (fun _ h => h.elim) (fun _ h => by simp at h; omega) (by repeat (first | exact Below.refl _ _ | apply below_alloc | apply below_drew)) (by simp) (by have := HN.out; simp; omega) ?_; intro v1 wA ho hb hg_ hat_; rw [List.nil_append] at ho; obtain ⟨A2, c2, rfl⟩ := Kd.R_slice ho; have GXA := Aside0.mk ((hb.block gx GL5.out).trans GX5.out); have RR := Aside0.mk ho; have BA := Aside0.mk hb; have ngA : wA.heap.size ≠ gx := Nat.ne_of_gt (blk_lt GXA.out); obtain ⟨y0, y1, y2, y3, _, _, _, _⟩ := four GXA.out; clear ho hb hg_ hat_ y2))
    go_wp2
    go_ret2
    have hU : Upd w (wA.alloc (.cells #[.int .i64 c1, .int .i64 i, .int .i64 0, .slice A2 os.length c2] 56)) g := (HU5.out.then_below BA.out).alloc _
    have hgl := G5.out
    rw [← HC1.out]
    refine ⟨_, 1, rfl, Nat.le_refl _, row_one (b := ⟨c1, i, 0, os⟩) (heap_alloc_new _ _) (Kd.R_reads' RR.out).2.1 (Kd.C_alloc (Kd.R_reads' RR.out).2.2 _), RfAt.mono ?_ (fun _ hk => .inl hk), hU⟩
    exact RfAt.turn (m := m) (p := true) (lr := lr) HP0.out HP1.out (blk_alloc ((BA.out.block g (blk_lt hgl)).trans hgl) _) HS.out HS'.out hU HK.out
set_option maxHeartbeats 8000000 in
set_option maxRecDepth 100000 in
theorem rtake_stat_false (g : Nat) (ok : Nat → Prop) (m : Tk) (c_ i a : Int) (B : Option Addr) (d : Nat) (os : List S46) (er : Int) (w : World) (h : RfAt w g ok m) (hok : ∀ k, ok k → k ≠ g) (ho : Sees w ok B d os) (hz : os.all (fun o => decide (o.f1.size ≤ 140737488351232)) = true) (hn : os.length < 5864062014805)
    (hp : (bapS c_ i a os).2 = er) (hc0 : 0 ≤ c_) (hc9 : c_ ≤ 255) (he : er = 0) (h7 : c_ ≠ 7) (hq : reqB c_ = true) (hl : 0 < m.left) (hr : reqB m.ask.f0 = false) :
    Calls Try.prog 60 #[.pointer (some ⟨g, 0, none⟩), .agg #[.int .i64 c_, .int .i64 i, .int .i64 a, .slice B os.length d], .bool false] w (RfBaps w g ok m [⟨c_ + 1, i, 1, os⟩] 0) := by
  all_goals
    obtain ⟨p, lr, A, c, A', c', hp0, hp1, h1, hs, hs'⟩ := h
    have H1 := Aside0.mk h1
    have HS := Aside0.mk hs
    have HS' := Aside0.mk hs'
    have HK := Aside0.mk hok
    obtain rfl : p = true := by rw [← hp0]; exact decide_eq_true hl
    have HP0 := Aside0.mk hp0
    have HP1 := Aside0.mk hp1
    clear hp0 hp1 hl
    have e0 : (er != 0) = false := by simpa using he
    clear he
    have e7 : (c_ == 7) = false := by simpa using h7
    clear h7
    have RQ := Aside0.mk hq
    clear hq
    obtain ⟨c1, hc1⟩ : ∃ c1, c1 = c_ + 1 := ⟨_, rfl⟩
    have ec : IntKind.i64.wrap (c_ + 1) = c1 := by rw [IntKind.wrap_i64]; omega
    have HC1 := Aside0.mk hc1
    clear hc1
    have RA := Aside0.mk hr
    clear hr
    have HP := Aside0.mk hp
    have HO := Aside0.mk ho
    have HZ := Aside0.mk hz
    have HN := Aside0.mk hn
    clear hp ho hz hn
    clear h1 hs hs' hok
    have hu99 := Try.underlying99
    have hu56 := Try.underlying56
    go_enter Try.func60, Try.ntmps60
    go_wp2_with (first
      | ((with_reducible refine gate_dst (N := 4) rfl ?_); refine box_event ?hg (N := 4) ?hd (cs := #[.int .i64 c_, .int .i64 i, .int .i64 a, .slice B os.length d]) (t := 56) ?hr ?_; (case hd => rfl); (case hg => rfl); (case hr => first | (go_simp; done) | (go_simp; rfl)); intro gx hg w1 hbox hb
         have GR := Aside0.mk (show w.heap.size ≤ gx by rw [hg]; exact Nat.le_refl _)
         have GL := Aside0.mk (show gx < w1.heap.size from blk_lt hbox)
         have GX := Aside0.mk hbox
         have G1 := Aside0.mk (blk_below H1.out hb)
         have HU := Aside0.mk (Upd.of_below hb g)
         have NE := Aside0.mk (show g ≠ gx by have := blk_lt H1.out; omega)
         obtain ⟨j0, j1, j2, j3, q0, q1, q2, q3⟩ := four GX.out
         clear hg hbox hb)
      | (go_at_call 87; ((refine (refBap_calls c_ i a B d os _ (HO.out.step (fun k ho hk => HU.out.block k hk (HK.out k ho))).C HO.out.cap HZ.out).mono ?_); rw [HP.out]; rintro e w3 ⟨⟨s_, rfl⟩, hb⟩)
         have G3 := Aside0.mk (blk_below G1.out hb)
         have GX3 := Aside0.mk (blk_below GX.out hb)
         have HU3 := Aside0.mk (HU.out.then_below hb)
         clear hb j0 j1 j2 j3 q0 q1 q2 q3
         obtain ⟨k0, k1, k2, k3, k4, k5, k6, k7, k8, k9, k10, k11, k12⟩ := rf_cells G3.out
         have s0 := blk_frozen G3.out 0
         have s1 := blk_frozen G3.out 1
         have s2 := blk_frozen G3.out 2
         have s3 := blk_frozen G3.out 3
         have s4 := blk_frozen G3.out 4
         obtain ⟨j0, j1, j2, j3, q0, q1, q2, q3⟩ := four GX3.out
         have nx : g ≠ gx := NE.out
         have nx' : gx ≠ g := NE.out.symm)
      | (go_at_call 69; ((with_reducible refine (withyref21_request.calls c_ _ _ (by rw [rrequest_eq, RQ.out])).mono ?_); rintro e w' ⟨rfl, ⟨nd, rfl⟩⟩))
      | (go_at_call 69; ((with_reducible refine (withyref21_request.calls m.ask.f0 _ _ (by rw [rrequest_eq, RA.out])).mono ?_); rintro e w' ⟨rfl, ⟨na, rfl⟩⟩)))
    obtain ⟨w5, hw5⟩ : ∃ w5, w5 = w3.drewN (nd + na) := ⟨_, rfl⟩
    have G5 := Aside0.mk (show w5.heap[g]? = some (.cells (rfCells m true lr (.slice A m.ask.f3.length c) (.slice A' m.last.f3.length c')) 99 (0, 0)) by rw [hw5]; exact blk_drewN G3.out _)
    have GX5 := Aside0.mk (show w5.heap[gx]? = some (.cells #[.int .i64 c_, .int .i64 i, .int .i64 a, .slice B os.length d] 56 (0, 0)) by rw [hw5]; exact blk_drewN GX3.out _)
    have HU5 := Aside0.mk (show Upd w w5 g by rw [hw5]; exact HU3.out.drewN _)
    rw [← hw5]
    clear hw5 G3 GX3 HU3 k0 k1 k2 k3 k4 k5 k6 k7 k8 k9 k10 k11 k12 j0 j1 j2 j3 q0 q1 q2 q3 s0 s1 s2 s3 s4
    have GL5 := Aside0.mk (show gx < w5.heap.size from blk_lt GX5.out)
    have ngs : w5.heap.size ≠ gx := Nat.ne_of_gt GL5.out
    obtain ⟨j0, j1, j2, j3, q0, q1, q2, q3⟩ := four GX5.out
    go_region_held3 (fun w' => w'.cell? ⟨gx, 0, none⟩ = some (.int .i64 c_) ∧ w'.cell? ⟨gx, 1, none⟩ = some (.int .i64 i) ∧ w'.cell? ⟨gx, 3, none⟩ = some (.slice B os.length d)) (go_keep)
      ((refine Kd.R_append_rows_step k46 (w0 := w5) w5.heap.size (by rfl) _ _ 35 46 (.agg #[(.int .i64 0), (.string ⟨#[]⟩)]) 24 (by rfl) Try.underlying35 info46 rfl (by decide) (by omega) (.slice (some ⟨w5.heap.size, 0, none⟩) 0 0) [] os B os.length d (fun k => w5.heap.size ≤ k) (fun _ => False) (by rfl) (by rfl) (by first | exact made_R _ | exact Kd.R_drew (made_R _)) (Sees.C (show Sees _ ok B d os from sees_up (show Upd w _ g by repeat (first | exact HU5.out | apply Upd.alloc | apply Upd.drew)) HK.out HO.out)) (fun _ _ h => h) (fun _ h => h.elim) (fun _ h => by simp at h; omega) (by repeat (first | exact Below.refl _ _ | apply below_alloc | apply below_drew)) (by simp) (by have := HN.out; simp; omega) ?_; intro v1 wA ho hb hg_ hat_; rw [List.nil_append] at ho; obtain ⟨A2, c2, rfl⟩ := Kd.R_slice ho; have GXA := Aside0.mk ((hb.block gx GL5.out).trans GX5.out); have RR := Aside0.mk ho; have BA := Aside0.mk hb; have ngA : wA.heap.size ≠ gx := Nat.ne_of_gt (blk_lt GXA.out); obtain ⟨y0, y1, y2, y3, _, _, _, _⟩ := four GXA.out; clear ho hb hg_ hat_ y2))
    go_wp2
    go_ret2
    have hU : Upd w (wA.alloc (.cells #[.int .i64 c1, .int .i64 i, .int .i64 1, .slice A2 os.length c2] 56)) g := (HU5.out.then_below BA.out).alloc _
    have hgl := G5.out
    rw [← HC1.out]
    refine ⟨_, 1, rfl, Nat.le_refl _, row_one (b := ⟨c1, i, 1, os⟩) (heap_alloc_new _ _) (Kd.R_reads' RR.out).2.1 (Kd.C_alloc (Kd.R_reads' RR.out).2.2 _), RfAt.mono ?_ (fun _ hk => .inl hk), hU⟩
    exact RfAt.turn (m := m) (p := true) (lr := lr) HP0.out HP1.out (blk_alloc ((BA.out.block g (blk_lt hgl)).trans hgl) _) HS.out HS'.out hU HK.out
set_option maxHeartbeats 8000000 in
set_option maxRecDepth 100000 in
theorem rtake_wins_true (g : Nat) (ok : Nat → Prop) (m : Tk) (c_ i a : Int) (B : Option Addr) (d : Nat) (os : List S46) (er : Int) (w : World) (h : RfAt w g ok m) (hok : ∀ k, ok k → k ≠ g) (ho : Sees w ok B d os) (hz : os.all (fun o => decide (o.f1.size ≤ 140737488351232)) = true) (hn : os.length < 5864062014805)
    (hp : (bapS c_ i a os).2 = er) (hc0 : 0 ≤ c_) (hc9 : c_ ≤ 255) (he : er = 0) (h7 : c_ ≠ 7) (hq : reqB c_ = true) (hl : 0 < m.left) (hr : reqB m.ask.f0 = true) (hx : crossB m.fav m.ask.f0 c_ = true) :
    Calls Try.prog 60 #[.pointer (some ⟨g, 0, none⟩), .agg #[.int .i64 c_, .int .i64 i, .int .i64 a, .slice B os.length d], .bool true] w (RfBaps w g ok m [⟨c_ + 1, i, 1, os⟩] 0) := by
  all_goals
    obtain ⟨p, lr, A, c, A', c', hp0, hp1, h1, hs, hs'⟩ := h
    have H1 := Aside0.mk h1
    have HS := Aside0.mk hs
    have HS' := Aside0.mk hs'
    have HK := Aside0.mk hok
    obtain rfl : p = true := by rw [← hp0]; exact decide_eq_true hl
    have HP0 := Aside0.mk hp0
    have HP1 := Aside0.mk hp1
    clear hp0 hp1 hl
    have e0 : (er != 0) = false := by simpa using he
    clear he
    have e7 : (c_ == 7) = false := by simpa using h7
    clear h7
    have RQ := Aside0.mk hq
    clear hq
    obtain ⟨c1, hc1⟩ : ∃ c1, c1 = c_ + 1 := ⟨_, rfl⟩
    have ec : IntKind.i64.wrap (c_ + 1) = c1 := by rw [IntKind.wrap_i64]; omega
    have HC1 := Aside0.mk hc1
    clear hc1
    have RA := Aside0.mk hr
    clear hr
    have RC := Aside0.mk hx
    clear hx
    have HP := Aside0.mk hp
    have HO := Aside0.mk ho
    have HZ := Aside0.mk hz
    have HN := Aside0.mk hn
    clear hp ho hz hn
    clear h1 hs hs' hok
    have hu99 := Try.underlying99
    have hu56 := Try.underlying56
    go_enter Try.func60, Try.ntmps60
    go_wp2_with (first
      | ((with_reducible refine gate_dst (N := 4) rfl ?_); refine box_event ?hg (N := 4) ?hd (cs := #[.int .i64 c_, .int .i64 i, .int .i64 a, .slice B os.length d]) (t := 56) ?hr ?_; (case hd => rfl); (case hg => rfl); (case hr => first | (go_simp; done) | (go_simp; rfl)); intro gx hg w1 hbox hb
         have GR := Aside0.mk (show w.heap.size ≤ gx by rw [hg]; exact Nat.le_refl _)
         have GL := Aside0.mk (show gx < w1.heap.size from blk_lt hbox)
         have GX := Aside0.mk hbox
         have G1 := Aside0.mk (blk_below H1.out hb)
         have HU := Aside0.mk (Upd.of_below hb g)
         have NE := Aside0.mk (show g ≠ gx by have := blk_lt H1.out; omega)
         obtain ⟨j0, j1, j2, j3, q0, q1, q2, q3⟩ := four GX.out
         clear hg hbox hb)
      | (go_at_call 87; ((refine (refBap_calls c_ i a B d os _ (HO.out.step (fun k ho hk => HU.out.block k hk (HK.out k ho))).C HO.out.cap HZ.out).mono ?_); rw [HP.out]; rintro e w3 ⟨⟨s_, rfl⟩, hb⟩)
         have G3 := Aside0.mk (blk_below G1.out hb)
         have GX3 := Aside0.mk (blk_below GX.out hb)
         have HU3 := Aside0.mk (HU.out.then_below hb)
         clear hb j0 j1 j2 j3 q0 q1 q2 q3
         obtain ⟨k0, k1, k2, k3, k4, k5, k6, k7, k8, k9, k10, k11, k12⟩ := rf_cells G3.out
         have s0 := blk_frozen G3.out 0
         have s1 := blk_frozen G3.out 1
         have s2 := blk_frozen G3.out 2
         have s3 := blk_frozen G3.out 3
         have s4 := blk_frozen G3.out 4
         obtain ⟨j0, j1, j2, j3, q0, q1, q2, q3⟩ := four GX3.out
         have nx : g ≠ gx := NE.out
         have nx' : gx ≠ g := NE.out.symm)
      | (go_at_call 69; ((with_reducible refine (withyref21_request.calls c_ _ _ (by rw [rrequest_eq, RQ.out])).mono ?_); rintro e w' ⟨rfl, ⟨nd, rfl⟩⟩))
      | (go_at_call 69; ((with_reducible refine (withyref21_request.calls m.ask.f0 _ _ (by rw [rrequest_eq, RA.out])).mono ?_); rintro e w' ⟨rfl, ⟨na, rfl⟩⟩)))
    go_quiet ((go_at_call 70; exact beats_quiet m.fav m.ask.f0 c_ _ _ _ _ RC.out))
    go_wp2
    obtain ⟨w5, hw5⟩ : ∃ w5, w5 = (w3.drewN (nd + na)).drewN nq := ⟨_, rfl⟩
    have G5 := Aside0.mk (show w5.heap[g]? = some (.cells (rfCells m true lr (.slice A m.ask.f3.length c) (.slice A' m.last.f3.length c')) 99 (0, 0)) by rw [hw5]; exact blk_drewN (blk_drewN G3.out _) _)
    have GX5 := Aside0.mk (show w5.heap[gx]? = some (.cells #[.int .i64 c_, .int .i64 i, .int .i64 a, .slice B os.length d] 56 (0, 0)) by rw [hw5]; exact blk_drewN (blk_drewN GX3.out _) _)
    have HU5 := Aside0.mk (show Upd w w5 g by rw [hw5]; exact (HU3.out.drewN _).drewN _)
    rw [← hw5]
    clear hw5 G3 GX3 HU3 k0 k1 k2 k3 k4 k5 k6 k7 k8 k9 k10 k11 k12 j0 j1 j2 j3 q0 q1 q2 q3 s0 s1 s2 s3 s4
    have GL5 := Aside0.mk (show gx < w5.heap.size from blk_lt GX5.out)
    have ngs : w5.heap.size ≠ gx := Nat.ne_of_gt GL5.out
    obtain ⟨j0, j1, j2, j3, q0, q1, q2, q3⟩ := four GX5.out
    go_region_held3 (fun w' => w'.cell? ⟨gx, 0, none⟩ = some (.int .i64 c_) ∧ w'.cell? ⟨gx, 1, none⟩ = some (.int .i64 i) ∧ w'.cell? ⟨gx, 3, none⟩ = some (.slice B os.length d)) (go_keep)
      ((refine Kd.R_append_rows_step k46 (w0 := w5) w5.heap.size (by rfl) _ _ 35 46 (.agg #[(.int .i64 0), (.string ⟨#[]⟩)]) 24 (by rfl) Try.underlying35 info46 rfl (by decide) (by omega) (.slice (some ⟨w5.heap.size, 0, none⟩) 0 0) [] os B os.length d (fun k => w5.heap.size ≤ k) (fun _ => False) (by rfl) (by rfl) (by first | exact made_R _ | exact Kd.R_drew (made_R _)) (Sees.C (show Sees _ ok B d os from sees_up (show Upd w _ g by repeat (first | exact HU5.out | apply Upd.alloc | apply Upd.drew)) HK.out HO.out)) (fun _ _ h => h) (fun _ h => h.elim) (fun _ h => by simp at h; omega) (by repeat (first | exact Below.refl _ _ | apply below_alloc | apply below_drew)) (by simp) (by have := HN.out; simp; omega) ?_; intro v1 wA ho hb hg_ hat_; rw [List.nil_append] at ho; obtain ⟨A2, c2, rfl⟩ := Kd.R_slice ho; have GXA := Aside0.mk ((hb.block gx GL5.out).trans GX5.out); have RR := Aside0.mk ho; have BA := Aside0.mk hb; have ngA : wA.heap.size ≠ gx := Nat.ne_of_gt (blk_lt GXA.out); obtain ⟨y0, y1, y2, y3, _, _, _, _⟩ := four GXA.out; clear ho hb hg_ hat_ y2))
    go_wp2
    go_ret2
    have hU : Upd w (wA.alloc (.cells #[.int .i64 c1, .int .i64 i, .int .i64 1, .slice A2 os.length c2] 56)) g := (HU5.out.then_below BA.out).alloc _
    have hgl := G5.out
    rw [← HC1.out]
    refine ⟨_, 1, rfl, Nat.le_refl _, row_one (b := ⟨c1, i, 1, os⟩) (heap_alloc_new _ _) (Kd.R_reads' RR.out).2.1 (Kd.C_alloc (Kd.R_reads' RR.out).2.2 _), RfAt.mono ?_ (fun _ hk => .inl hk), hU⟩
    exact RfAt.turn (m := m) (p := true) (lr := lr) HP0.out HP1.out (blk_alloc ((BA.out.block g (blk_lt hgl)).trans hgl) _) HS.out HS'.out hU HK.out
set_option maxHeartbeats 8000000 in
set_option maxRecDepth 100000 in
theorem rtake_wins_false (g : Nat) (ok : Nat → Prop) (m : Tk) (c_ i a : Int) (B : Option Addr) (d : Nat) (os : List S46) (er : Int) (w : World) (h : RfAt w g ok m) (hok : ∀ k, ok k → k ≠ g) (ho : Sees w ok B d os) (hz : os.all (fun o => decide (o.f1.size ≤ 140737488351232)) = true) (hn : os.length < 5864062014805)
    (hp : (bapS c_ i a os).2 = er) (hc0 : 0 ≤ c_) (hc9 : c_ ≤ 255) (he : er = 0) (h7 : c_ ≠ 7) (hq : reqB c_ = true) (hl : 0 < m.left) (hr : reqB m.ask.f0 = true) (hx : crossB m.fav m.ask.f0 c_ = true) :
    Calls Try.prog 60 #[.pointer (some ⟨g, 0, none⟩), .agg #[.int .i64 c_, .int .i64 i, .int .i64 a, .slice B os.length d], .bool false] w (RfBaps w g ok m [⟨c_ + 1, i, 1, os⟩] 0) := by
  all_goals
    obtain ⟨p, lr, A, c, A', c', hp0, hp1, h1, hs, hs'⟩ := h
    have H1 := Aside0.mk h1
    have HS := Aside0.mk hs
    have HS' := Aside0.mk hs'
    have HK := Aside0.mk hok
    obtain rfl : p = true := by rw [← hp0]; exact decide_eq_true hl
    have HP0 := Aside0.mk hp0
    have HP1 := Aside0.mk hp1
    clear hp0 hp1 hl
    have e0 : (er != 0) = false := by simpa using he
    clear he
    have e7 : (c_ == 7) = false := by simpa using h7
    clear h7
    have RQ := Aside0.mk hq
    clear hq
    obtain ⟨c1, hc1⟩ : ∃ c1, c1 = c_ + 1 := ⟨_, rfl⟩
    have ec : IntKind.i64.wrap (c_ + 1) = c1 := by rw [IntKind.wrap_i64]; omega
    have HC1 := Aside0.mk hc1
    clear hc1
    have RA := Aside0.mk hr
    clear hr
    have RC := Aside0.mk hx
    clear hx
    have HP := Aside0.mk hp
    have HO := Aside0.mk ho
    have HZ := Aside0.mk hz
    have HN := Aside0.mk hn
    clear hp ho hz hn
    clear h1 hs hs' hok
    have hu99 := Try.underlying99
    have hu56 := Try.underlying56
    go_enter Try.func60, Try.ntmps60
    go_wp2_with (first
      | ((with_reducible refine gate_dst (N := 4) rfl ?_); refine box_event ?hg (N := 4) ?hd (cs := #[.int .i64 c_, .int .i64 i, .int .i64 a, .slice B os.length d]) (t := 56) ?hr ?_; (case hd => rfl); (case hg => rfl); (case hr => first | (go_simp; done) | (go_simp; rfl)); intro gx hg w1 hbox hb
         have GR := Aside0.mk (show w.heap.size ≤ gx by rw [hg]; exact Nat.le_refl _)
         have GL := Aside0.mk (show gx < w1.heap.size from blk_lt hbox)
         have GX := Aside0.mk hbox
         have G1 := Aside0.mk (blk_below H1.out hb)
         have HU := Aside0.mk (Upd.of_below hb g)
         have NE := Aside0.mk (show g ≠ gx by have := blk_lt H1.out; omega)
         obtain ⟨j0, j1, j2, j3, q0, q1, q2, q3⟩ := four GX.out
         clear hg hbox hb)
      | (go_at_call 87; ((refine (refBap_calls c_ i a B d os _ (HO.out.step (fun k ho hk => HU.out.block k hk (HK.out k ho))).C HO.out.cap HZ.out).mono ?_); rw [HP.out]; rintro e w3 ⟨⟨s_, rfl⟩, hb⟩)
         have G3 := Aside0.mk (blk_below G1.out hb)
         have GX3 := Aside0.mk (blk_below GX.out hb)
         have HU3 := Aside0.mk (HU.out.then_below hb)
         clear hb j0 j1 j2 j3 q0 q1 q2 q3
         obtain ⟨k0, k1, k2, k3, k4, k5, k6, k7, k8, k9, k10, k11, k12⟩ := rf_cells G3.out
         have s0 := blk_frozen G3.out 0
         have s1 := blk_frozen G3.out 1
         have s2 := blk_frozen G3.out 2
         have s3 := blk_frozen G3.out 3
         have s4 := blk_frozen G3.out 4
         obtain ⟨j0, j1, j2, j3, q0, q1, q2, q3⟩ := four GX3.out
         have nx : g ≠ gx := NE.out
         have nx' : gx ≠ g := NE.out.symm)
      | (go_at_call 69; ((with_reducible refine (withyref21_request.calls c_ _ _ (by rw [rrequest_eq, RQ.out])).mono ?_); rintro e w' ⟨rfl, ⟨nd, rfl⟩⟩))
      | (go_at_call 69; ((with_reducible refine (withyref21_request.calls m.ask.f0 _ _ (by rw [rrequest_eq, RA.out])).mono ?_); rintro e w' ⟨rfl, ⟨na, rfl⟩⟩)))
    go_quiet ((go_at_call 70; exact beats_quiet m.fav m.ask.f0 c_ _ _ _ _ RC.out))
    go_wp2
    obtain ⟨w5, hw5⟩ : ∃ w5, w5 = (w3.drewN (nd + na)).drewN nq := ⟨_, rfl⟩
    have G5 := Aside0.mk (show w5.heap[g]? = some (.cells (rfCells m true lr (.slice A m.ask.f3.length c) (.slice A' m.last.f3.length c')) 99 (0, 0)) by rw [hw5]; exact blk_drewN (blk_drewN G3.out _) _)
    have GX5 := Aside0.mk (show w5.heap[gx]? = some (.cells #[.int .i64 c_, .int .i64 i, .int .i64 a, .slice B os.length d] 56 (0, 0)) by rw [hw5]; exact blk_drewN (blk_drewN GX3.out _) _)
    have HU5 := Aside0.mk (show Upd w w5 g by rw [hw5]; exact (HU3.out.drewN _).drewN _)
    rw [← hw5]
    clear hw5 G3 GX3 HU3 k0 k1 k2 k3 k4 k5 k6 k7 k8 k9 k10 k11 k12 j0 j1 j2 j3 q0 q1 q2 q3 s0 s1 s2 s3 s4
    have GL5 := Aside0.mk (show gx < w5.heap.size from blk_lt GX5.out)
    have ngs : w5.heap.size ≠ gx := Nat.ne_of_gt GL5.out
    obtain ⟨j0, j1, j2, j3, q0, q1, q2, q3⟩ := four GX5.out
    go_region_held3 (fun w' => w'.cell? ⟨gx, 0, none⟩ = some (.int .i64 c_) ∧ w'.cell? ⟨gx, 1, none⟩ = some (.int .i64 i) ∧ w'.cell? ⟨gx, 3, none⟩ = some (.slice B os.length d)) (go_keep)
      ((refine Kd.R_append_rows_step k46 (w0 := w5) w5.heap.size (by rfl) _ _ 35 46 (.agg #[(.int .i64 0), (.string ⟨#[]⟩)]) 24 (by rfl) Try.underlying35 info46 rfl (by decide) (by omega) (.slice (some ⟨w5.heap.size, 0, none⟩) 0 0) [] os B os.length d (fun k => w5.heap.size ≤ k) (fun _ => False) (by rfl) (by rfl) (by first | exact made_R _ | exact Kd.R_drew (made_R _)) (Sees.C (show Sees _ ok B d os from sees_up (show Upd w _ g by repeat (first | exact HU5.out | apply Upd.alloc | apply Upd.drew)) HK.out HO.out)) (fun _ _ h => h) (fun _ h => h.elim) (fun _ h => by simp at h; omega) (by repeat (first | exact Below.refl _ _ | apply below_alloc | apply below_drew)) (by simp) (by have := HN.out; simp; omega) ?_; intro v1 wA ho hb hg_ hat_; rw [List.nil_append] at ho; obtain ⟨A2, c2, rfl⟩ := Kd.R_slice ho; have GXA := Aside0.mk ((hb.block gx GL5.out).trans GX5.out); have RR := Aside0.mk ho; have BA := Aside0.mk hb; have ngA : wA.heap.size ≠ gx := Nat.ne_of_gt (blk_lt GXA.out); obtain ⟨y0, y1, y2, y3, _, _, _, _⟩ := four GXA.out; clear ho hb hg_ hat_ y2))
    go_wp2
    go_ret2
    have hU : Upd w (wA.alloc (.cells #[.int .i64 c1, .int .i64 i, .int .i64 1, .slice A2 os.length c2] 56)) g := (HU5.out.then_below BA.out).alloc _
    have hgl := G5.out
    rw [← HC1.out]
    refine ⟨_, 1, rfl, Nat.le_refl _, row_one (b := ⟨c1, i, 1, os⟩) (heap_alloc_new _ _) (Kd.R_reads' RR.out).2.1 (Kd.C_alloc (Kd.R_reads' RR.out).2.2 _), RfAt.mono ?_ (fun _ hk => .inl hk), hU⟩
    exact RfAt.turn (m := m) (p := true) (lr := lr) HP0.out HP1.out (blk_alloc ((BA.out.block g (blk_lt hgl)).trans hgl) _) HS.out HS'.out hU HK.out
set_option maxHeartbeats 8000000 in
set_option maxRecDepth 100000 in
theorem rtake_gives_true (g : Nat) (ok : Nat → Prop) (m : Tk) (c_ i a : Int) (B : Option Addr) (d : Nat) (os : List S46) (er : Int) (w : World) (h : RfAt w g ok m) (hok : ∀ k, ok k → k ≠ g) (ho : Sees w ok B d os) (hz : os.all (fun o => decide (o.f1.size ≤ 140737488351232)) = true) (hn : os.length < 5864062014805)
    (hp : (bapS c_ i a os).2 = er) (hc0 : 0 ≤ c_) (hc9 : c_ ≤ 255) (he : er = 0) (h7 : c_ ≠ 7) (hq : reqB c_ = true) (hl : 0 < m.left) (hr : reqB m.ask.f0 = true) (hx : crossB m.fav m.ask.f0 c_ = false) :
    Calls Try.prog 60 #[.pointer (some ⟨g, 0, none⟩), .agg #[.int .i64 c_, .int .i64 i, .int .i64 a, .slice B os.length d], .bool true] w (RfBaps w g ok { m with left := 0 } [⟨c_ + 1, i, 0, os⟩] 0) := by
  all_goals
    obtain ⟨p, lr, A, c, A', c', hp0, hp1, h1, hs, hs'⟩ := h
    have H1 := Aside0.mk h1
    have HS := Aside0.mk hs
    have HS' := Aside0.mk hs'
    have HK := Aside0.mk hok
    obtain rfl : p = true := by rw [← hp0]; exact decide_eq_true hl
    clear hp0 hp1 hl
    have e0 : (er != 0) = false := by simpa using he
    clear he
    have e7 : (c_ == 7) = false := by simpa using h7
    clear h7
    have RQ := Aside0.mk hq
    clear hq
    obtain ⟨c1, hc1⟩ : ∃ c1, c1 = c_ + 1 := ⟨_, rfl⟩
    have ec : IntKind.i64.wrap (c_ + 1) = c1 := by rw [IntKind.wrap_i64]; omega
    have HC1 := Aside0.mk hc1
    clear hc1
    have RA := Aside0.mk hr
    clear hr
    have RC := Aside0.mk hx
    clear hx
    have HP := Aside0.mk hp
    have HO := Aside0.mk ho
    have HZ := Aside0.mk hz
    have HN := Aside0.mk hn
    clear hp ho hz hn
    clear h1 hs hs' hok
    have hu99 := Try.underlying99
    have hu56 := Try.underlying56
    go_enter Try.func60, Try.ntmps60
    go_wp2_with (first
      | ((with_reducible refine gate_dst (N := 4) rfl ?_); refine box_event ?hg (N := 4) ?hd (cs := #[.int .i64 c_, .int .i64 i, .int .i64 a, .slice B os.length d]) (t := 56) ?hr ?_; (case hd => rfl); (case hg => rfl); (case hr => first | (go_simp; done) | (go_simp; rfl)); intro gx hg w1 hbox hb
         have GR := Aside0.mk (show w.heap.size ≤ gx by rw [hg]; exact Nat.le_refl _)
         have GL := Aside0.mk (show gx < w1.heap.size from blk_lt hbox)
         have GX := Aside0.mk hbox
         have G1 := Aside0.mk (blk_below H1.out hb)
         have HU := Aside0.mk (Upd.of_below hb g)
         have NE := Aside0.mk (show g ≠ gx by have := blk_lt H1.out; omega)
         obtain ⟨j0, j1, j2, j3, q0, q1, q2, q3⟩ := four GX.out
         clear hg hbox hb)
      | (go_at_call 87; ((refine (refBap_calls c_ i a B d os _ (HO.out.step (fun k ho hk => HU.out.block k hk (HK.out k ho))).C HO.out.cap HZ.out).mono ?_); rw [HP.out]; rintro e w3 ⟨⟨s_, rfl⟩, hb⟩)
         have G3 := Aside0.mk (blk_below G1.out hb)
         have GX3 := Aside0.mk (blk_below GX.out hb)
         have HU3 := Aside0.mk (HU.out.then_below hb)
         clear hb j0 j1 j2 j3 q0 q1 q2 q3
         obtain ⟨k0, k1, k2, k3, k4, k5, k6, k7, k8, k9, k10, k11, k12⟩ := rf_cells G3.out
         have s0 := blk_frozen G3.out 0
         have s1 := blk_frozen G3.out 1
         have s2 := blk_frozen G3.out 2
         have s3 := blk_frozen G3.out 3
         have s4 := blk_frozen G3.out 4
         obtain ⟨j0, j1, j2, j3, q0, q1, q2, q3⟩ := four GX3.out
         have nx : g ≠ gx := NE.out
         have nx' : gx ≠ g := NE.out.symm)
      | (go_at_call 69; ((with_reducible refine (withyref21_request.calls c_ _ _ (by rw [rrequest_eq, RQ.out])).mono ?_); rintro e w' ⟨rfl, ⟨nd, rfl⟩⟩))
      | (go_at_call 69; ((with_reducible refine (withyref21_request.calls m.ask.f0 _ _ (by rw [rrequest_eq, RA.out])).mono ?_); rintro e w' ⟨rfl, ⟨na, rfl⟩⟩)))
    go_quiet ((go_at_call 70; exact beats_quiet m.fav m.ask.f0 c_ _ _ _ _ RC.out))
    go_wp2
    obtain ⟨w5, hw5⟩ : ∃ w5, w5 = (w3.drewN (nd + na + nq)).setCell ⟨g, 0, none⟩ (.bool false) := ⟨_, rfl⟩
    have G5 := Aside0.mk (show w5.heap[g]? = some (.cells (rfCells { m with left := 0 } false lr (.slice A m.ask.f3.length c) (.slice A' m.last.f3.length c')) 99 (0, 0)) by rw [hw5]; exact blk_put (blk_drewN G3.out _) 0 _ rfl)
    have GX5 := Aside0.mk (show w5.heap[gx]? = some (.cells #[.int .i64 c_, .int .i64 i, .int .i64 a, .slice B os.length d] 56 (0, 0)) by rw [hw5]; exact blk_far (blk_drewN GX3.out _) NE.out.symm _)
    have HU5 := Aside0.mk (show Upd w w5 g by rw [hw5]; exact (HU3.out.drewN _).set g 0 (.inl rfl) _)
    rw [← hw5]
    clear hw5 G3 GX3 HU3 k0 k1 k2 k3 k4 k5 k6 k7 k8 k9 k10 k11 k12 j0 j1 j2 j3 q0 q1 q2 q3 s0 s1 s2 s3 s4
    have GL5 := Aside0.mk (show gx < w5.heap.size from blk_lt GX5.out)
    have ngs : w5.heap.size ≠ gx := Nat.ne_of_gt GL5.out
    obtain ⟨j0, j1, j2, j3, q0, q1, q2, q3⟩ := four GX5.out
    go_region_held3 (fun w' => w'.cell? ⟨gx, 0, none⟩ = some (.int .i64 c_) ∧ w'.cell? ⟨gx, 1, none⟩ = some (.int .i64 i) ∧ w'.cell? ⟨gx, 3, none⟩ = some (.slice B os.length d)) (go_keep)
      ((refine Kd.R_append_rows_step k46 (w0 := w5) w5.heap.size (by rfl) _ _ 35 46 (.agg #[(.int .i64 0), (.string ⟨#[]⟩)]) 24 (by rfl) Try.underlying35 info46 rfl (by decide) (by omega) (.slice (some ⟨w5.heap.size, 0, none⟩) 0 0) [] os B os.length d (fun k => w5.heap.size ≤ k) (fun _ => False) (by rfl) (by rfl) (by first | exact made_R _ | exact Kd.R_drew (made_R _)) (Sees.C (show Sees _ ok B d os from sees_up (show Upd w _ g by repeat (first | exact HU5.out | apply Upd.alloc | apply Upd.drew)) HK.out HO.out)) (fun _ _ h => h) (fun _ h => h.elim) (fun _ h => by simp at h; omega) (by repeat (first | exact Below.refl _ _ | apply below_alloc | apply below_drew)) (by simp) (by have := HN.out; simp; omega) ?_; intro v1 wA ho hb hg_ hat_; rw [List.nil_append] at ho; obtain ⟨A2, c2, rfl⟩ := Kd.R_slice ho; have GXA := Aside0.mk ((hb.block gx GL5.out).trans GX5.out); have RR := Aside0.mk ho; have BA := Aside0.mk hb; have ngA : wA.heap.size ≠ gx := Nat.ne_of_gt (blk_lt GXA.out); obtain ⟨y0, y1, y2, y3, _, _, _, _⟩ := four GXA.out; clear ho hb hg_ hat_ y2))
    go_wp2
    go_ret2
    have hU : Upd w (wA.alloc (.cells #[.int .i64 c1, .int .i64 i, .int .i64 0, .slice A2 os.length c2] 56)) g := (HU5.out.then_below BA.out).alloc _
    have hgl := G5.out
    rw [← HC1.out]
    refine ⟨_, 1, rfl, Nat.le_refl _, row_one (b := ⟨c1, i, 0, os⟩) (heap_alloc_new _ _) (Kd.R_reads' RR.out).2.1 (Kd.C_alloc (Kd.R_reads' RR.out).2.2 _), RfAt.mono ?_ (fun _ hk => .inl hk), hU⟩
    exact RfAt.turn (m := { m with left := 0 }) (p := false) (lr := lr) (decide_eq_false (by show ¬ (0 : Int) < 0; decide)) (fun h => absurd h (by show ¬ (0 : Int) < 0; decide)) (blk_alloc ((BA.out.block g (blk_lt hgl)).trans hgl) _) HS.out HS'.out hU HK.out
set_option maxHeartbeats 8000000 in
set_option maxRecDepth 100000 in
theorem rtake_gives_false (g : Nat) (ok : Nat → Prop) (m : Tk) (c_ i a : Int) (B : Option Addr) (d : Nat) (os : List S46) (er : Int) (w : World) (h : RfAt w g ok m) (hok : ∀ k, ok k → k ≠ g) (ho : Sees w ok B d os) (hz : os.all (fun o => decide (o.f1.size ≤ 140737488351232)) = true) (hn : os.length < 5864062014805)
    (hp : (bapS c_ i a os).2 = er) (hc0 : 0 ≤ c_) (hc9 : c_ ≤ 255) (he : er = 0) (h7 : c_ ≠ 7) (hq : reqB c_ = true) (hl : 0 < m.left) (hr : reqB m.ask.f0 = true) (hx : crossB m.fav m.ask.f0 c_ = false) :
    Calls Try.prog 60 #[.pointer (some ⟨g, 0, none⟩), .agg #[.int .i64 c_, .int .i64 i, .int .i64 a, .slice B os.length d], .bool false] w (RfBaps w g ok { m with left := 0 } [⟨c_ + 1, i, 1, os⟩] 0) := by
  all_goals
    obtain ⟨p, lr, A, c, A', c', hp0, hp1, h1, hs, hs'⟩ := h
    have H1 := Aside0.mk h1
    have HS := Aside0.mk hs
    have HS' := Aside0.mk hs'
    have HK := Aside0.mk hok
    obtain rfl : p = true := by rw [← hp0]; exact decide_eq_true hl
    clear hp0 hp1 hl
    have e0 : (er != 0) = false := by simpa using he
    clear he
    have e7 : (c_ == 7) = false := by simpa using h7
    clear h7
    have RQ := Aside0.mk hq
    clear hq
    obtain ⟨c1, hc1⟩ : ∃ c1, c1 = c_ + 1 := ⟨_, rfl⟩
    have ec : IntKind.i64.wrap (c_ + 1) = c1 := by rw [IntKind.wrap_i64]; omega
    have HC1 := Aside0.mk hc1
    clear hc1
    have RA := Aside0.mk hr
    clear hr
    have RC := Aside0.mk hx
    clear hx
    have HP := Aside0.mk hp
    have HO := Aside0.mk ho
    have HZ := Aside0.mk hz
    have HN := Aside0.mk hn
    clear hp ho hz hn
    clear h1 hs hs' hok
    have hu99 := Try.underlying99
    have hu56 := Try.underlying56
    go_enter Try.func60, Try.ntmps60
    go_wp2_with (first
      | ((with_reducible refine gate_dst (N := 4) rfl ?_); refine box_event ?hg (N := 4) ?hd (cs := #[.int .i64 c_, .int .i64 i, .int .i64 a, .slice B os.length d]) (t := 56) ?hr ?_; (case hd => rfl); (case hg => rfl); (case hr => first | (go_simp; done) | (go_simp; rfl)); intro gx hg w1 hbox hb
         have GR := Aside0.mk (show w.heap.size ≤ gx by rw [hg]; exact Nat.le_refl _)
         have GL := Aside0.mk (show gx < w1.heap.size from blk_lt hbox)
         have GX := Aside0.mk hbox
         have G1 := Aside0.mk (blk_below H1.out hb)
         have HU := Aside0.mk (Upd.of_below hb g)
         have NE := Aside0.mk (show g ≠ gx by have := blk_lt H1.out; omega)
         obtain ⟨j0, j1, j2, j3, q0, q1, q2, q3⟩ := four GX.out
         clear hg hbox hb)
      | (go_at_call 87; ((refine (refBap_calls c_ i a B d os _ (HO.out.step (fun k ho hk => HU.out.block k hk (HK.out k ho))).C HO.out.cap HZ.out).mono ?_); rw [HP.out]; rintro e w3 ⟨⟨s_, rfl⟩, hb⟩)
         have G3 := Aside0.mk (blk_below G1.out hb)
         have GX3 := Aside0.mk (blk_below GX.out hb)
         have HU3 := Aside0.mk (HU.out.then_below hb)
         clear hb j0 j1 j2 j3 q0 q1 q2 q3
         obtain ⟨k0, k1, k2, k3, k4, k5, k6, k7, k8, k9, k10, k11, k12⟩ := rf_cells G3.out
         have s0 := blk_frozen G3.out 0
         have s1 := blk_frozen G3.out 1
         have s2 := blk_frozen G3.out 2
         have s3 := blk_frozen G3.out 3
         have s4 := blk_frozen G3.out 4
         obtain ⟨j0, j1, j2, j3, q0, q1, q2, q3⟩ := four GX3.out
         have nx : g ≠ gx := NE.out
         have nx' : gx ≠ g := NE.out.symm)
      | (go_at_call 69; ((with_reducible refine (withyref21_request.calls c_ _ _ (by rw [rrequest_eq, RQ.out])).mono ?_); rintro e w' ⟨rfl, ⟨nd, rfl⟩⟩))
      | (go_at_call 69; ((with_reducible refine (withyref21_request.calls m.ask.f0 _ _ (by rw [rrequest_eq, RA.out])).mono ?_); rintro e w' ⟨rfl, ⟨na, rfl⟩⟩)))
    go_quiet ((go_at_call 70; exact beats_quiet m.fav m.ask.f0 c_ _ _ _ _ RC.out))
    go_wp2
    obtain ⟨w5, hw5⟩ : ∃ w5, w5 = (w3.drewN (nd + na + nq)).setCell ⟨g, 0, none⟩ (.bool false) := ⟨_, rfl⟩
    have G5 := Aside0.mk (show w5.heap[g]? = some (.cells (rfCells { m with left := 0 } false lr (.slice A m.ask.f3.length c) (.slice A' m.last.f3.length c')) 99 (0, 0)) by rw [hw5]; exact blk_put (blk_drewN G3.out _) 0 _ rfl)
    have GX5 := Aside0.mk (show w5.heap[gx]? = some (.cells #[.int .i64 c_, .int .i64 i, .int .i64 a, .slice B os.length d] 56 (0, 0)) by rw [hw5]; exact blk_far (blk_drewN GX3.out _) NE.out.symm _)
    have HU5 := Aside0.mk (show Upd w w5 g by rw [hw5]; exact (HU3.out.drewN _).set g 0 (.inl rfl) _)
    rw [← hw5]
    clear hw5 G3 GX3 HU3 k0 k1 k2 k3 k4 k5 k6 k7 k8 k9 k10 k11 k12 j0 j1 j2 j3 q0 q1 q2 q3 s0 s1 s2 s3 s4
    have GL5 := Aside0.mk (show gx < w5.heap.size from blk_lt GX5.out)
    have ngs : w5.heap.size ≠ gx := Nat.ne_of_gt GL5.out
    obtain ⟨j0, j1, j2, j3, q0, q1, q2, q3⟩ := four GX5.out
    go_region_held3 (fun w' => w'.cell? ⟨gx, 0, none⟩ = some (.int .i64 c_) ∧ w'.cell? ⟨gx, 1, none⟩ = some (.int .i64 i) ∧ w'.cell? ⟨gx, 3, none⟩ = some (.slice B os.length d)) (go_keep)
      ((refine Kd.R_append_rows_step k46 (w0 := w5) w5.heap.size (by rfl) _ _ 35 46 (.agg #[(.int .i64 0), (.string ⟨#[]⟩)]) 24 (by rfl) Try.underlying35 info46 rfl (by decide) (by omega) (.slice (some ⟨w5.heap.size, 0, none⟩) 0 0) [] os B os.length d (fun k => w5.heap.size ≤ k) (fun _ => False) (by rfl) (by rfl) (by first | exact made_R _ | exact Kd.R_drew (made_R _)) (Sees.C (show Sees _ ok B d os from sees_up (show Upd w _ g by repeat (first | exact HU5.out | apply Upd.alloc | apply Upd.drew)) HK.out HO.out)) (fun _ _ h => h) (fun _ h => h.elim) (fun _ h => by simp at h; omega) (by repeat (first | exact Below.refl _ _ | apply below_alloc | apply below_drew)) (by simp) (by have := HN.out; simp; omega) ?_; intro v1 wA ho hb hg_ hat_; rw [List.nil_append] at ho; obtain ⟨A2, c2, rfl⟩ := Kd.R_slice ho; have GXA := Aside0.mk ((hb.block gx GL5.out).trans GX5.out); have RR := Aside0.mk ho; have BA := Aside0.mk hb; have ngA : wA.heap.size ≠ gx := Nat.ne_of_gt (blk_lt GXA.out); obtain ⟨y0, y1, y2, y3, _, _, _, _⟩ := four GXA.out; clear ho hb hg_ hat_ y2))
    go_wp2
    go_ret2
    have hU : Upd w (wA.alloc (.cells #[.int .i64 c1, .int .i64 i, .int .i64 1, .slice A2 os.length c2] 56)) g := (HU5.out.then_below BA.out).alloc _
    have hgl := G5.out
    rw [← HC1.out]
    refine ⟨_, 1, rfl, Nat.le_refl _, row_one (b := ⟨c1, i, 1, os⟩) (heap_alloc_new _ _) (Kd.R_reads' RR.out).2.1 (Kd.C_alloc (Kd.R_reads' RR.out).2.2 _), RfAt.mono ?_ (fun _ hk => .inl hk), hU⟩
    exact RfAt.turn (m := { m with left := 0 }) (p := false) (lr := lr) (decide_eq_false (by show ¬ (0 : Int) < 0; decide)) (fun h => absurd h (by show ¬ (0 : Int) < 0; decide)) (blk_alloc ((BA.out.block g (blk_lt hgl)).trans hgl) _) HS.out HS'.out hU HK.out
end Go.Proofs.Ytbdlkcgaobkdcaa.P
end
section
namespace Go.Proofs.Ytbdlkcgaobkdcaa.P
open Go.RowKit Go.Proofs.YtbdlkcgaobkdcaaW.PrintWords Go.Proofs.YtbdlkcgaobkdcaaW.PrintLast Go.Proofs.YtbdlkcgaobkdcaaW.PrintMore
attribute [local go_sem] max2_int min2_int max_two min_two max_three min_three max_four min_four

set_option maxHeartbeats 8000000 in
set_option maxRecDepth 100000 in
theorem rtake_noidle (g : Nat) (ok : Nat → Prop) (m : Tk) (c_ i a : Int) (B : Option Addr) (d : Nat) (os : List S46) (er : Int) (yes : Bool) (w : World) (h : RfAt w g ok m) (hok : ∀ k, ok k → k ≠ g) (ho : Sees w ok B d os) (hz : os.all (fun o => decide (o.f1.size ≤ 140737488351232)) = true) (hn : os.length < 5864062014805)
    (hp : (bapS c_ i a os).2 = er) (he : er = 0) (h7 : c_ ≠ 7) (hq : reqB c_ = false) (hl : m.left = 0) :
    Calls Try.prog 60 #[.pointer (some ⟨g, 0, none⟩), .agg #[.int .i64 c_, .int .i64 i, .int .i64 a, .slice B os.length d], .bool yes] w (RfBaps w g ok m [] 0) := by
  cases yes
  all_goals
    obtain ⟨p, lr, A, c, A', c', hp0, hp1, h1, hs, hs'⟩ := h
    have H1 := Aside0.mk h1
    have HS := Aside0.mk hs
    have HS' := Aside0.mk hs'
    have HK := Aside0.mk hok
    obtain rfl : p = false := by rw [← hp0, hl]; rfl
    have HP0 := Aside0.mk hp0
    have HP1 := Aside0.mk hp1
    clear hp0 hp1 hl
    have e0 : (er != 0) = false := by simpa using he
    clear he
    have e7 : (c_ == 7) = false := by simpa using h7
    clear h7
    have RQ := Aside0.mk hq
    clear hq
    have RA : Aside0 (reqB m.ask.f0 = reqB m.ask.f0) := ⟨rfl⟩
    have HP := Aside0.mk hp
    have HO := Aside0.mk ho
    have HZ := Aside0.mk hz
    have HN := Aside0.mk hn
    clear hp ho hz hn
    clear h1 hs hs' hok
    have hu99 := Try.underlying99
    have hu56 := Try.underlying56
    go_enter Try.func60, Try.ntmps60
    go_wp2_with (first
      | ((with_reducible refine gate_dst (N := 4) rfl ?_); refine box_event ?hg (N := 4) ?hd (cs := #[.int .i64 c_, .int .i64 i, .int .i64 a, .slice B os.length d]) (t := 56) ?hr ?_; (case hd => rfl); (case hg => rfl); (case hr => first | (go_simp; done) | (go_simp; rfl)); intro gx hg w1 hbox hb
         have GR := Aside0.mk (show w.heap.size ≤ gx by rw [hg]; exact Nat.le_refl _)
         have GL := Aside0.mk (show gx < w1.heap.size from blk_lt hbox)
         have GX := Aside0.mk hbox
         have G1 := Aside0.mk (blk_below H1.out hb)
         have HU := Aside0.mk (Upd.of_below hb g)
         have NE := Aside0.mk (show g ≠ gx by have := blk_lt H1.out; omega)
         obtain ⟨j0, j1, j2, j3, q0, q1, q2, q3⟩ := four GX.out
         clear hg hbox hb)
      | (go_at_call 87; ((refine (refBap_calls c_ i a B d os _ (HO.out.step (fun k ho hk => HU.out.block k hk (HK.out k ho))).C HO.out.cap HZ.out).mono ?_); rw [HP.out]; rintro e w3 ⟨⟨s_, rfl⟩, hb⟩)
         have G3 := Aside0.mk (blk_below G1.out hb)
         have GX3 := Aside0.mk (blk_below GX.out hb)
         have HU3 := Aside0.mk (HU.out.then_below hb)
         clear hb j0 j1 j2 j3 q0 q1 q2 q3
         obtain ⟨k0, k1, k2, k3, k4, k5, k6, k7, k8, k9, k10, k11, k12⟩ := rf_cells G3.out
         have s0 := blk_frozen G3.out 0
         have s1 := blk_frozen G3.out 1
         have s2 := blk_frozen G3.out 2
         have s3 := blk_frozen G3.out 3
         have s4 := blk_frozen G3.out 4
         obtain ⟨j0, j1, j2, j3, q0, q1, q2, q3⟩ := four GX3.out
         have nx : g ≠ gx := NE.out
         have nx' : gx ≠ g := NE.out.symm)
      | (go_at_call 69; ((with_reducible refine (withyref21_request.calls c_ _ _ (by rw [rrequest_eq, RQ.out])).mono ?_); rintro e w' ⟨rfl, ⟨nd, rfl⟩⟩))
      | (go_at_call 69; ((with_reducible refine (withyref21_request.calls m.ask.f0 _ _ (by rw [rrequest_eq, RA.out])).mono ?_); rintro e w' ⟨rfl, ⟨na, rfl⟩⟩)))
    go_quiet (fail)
    go_wp2
    go_ret2
    exact RfBaps.none (RfAt.turn HP0.out HP1.out (blk_drewN (blk_drewN G3.out _) _) HS.out HS'.out ((HU3.out.drewN _).drewN _) HK.out) ((HU3.out.drewN _).drewN _)
set_option maxHeartbeats 8000000 in
set_option maxRecDepth 100000 in
theorem rtake_code (g : Nat) (ok : Nat → Prop) (m : Tk) (c_ i a : Int) (B : Option Addr) (d : Nat) (os : List S46) (er : Int) (yes : Bool) (w : World) (h : RfAt w g ok m) (hok : ∀ k, ok k → k ≠ g) (ho : Sees w ok B d os) (hz : os.all (fun o => decide (o.f1.size ≤ 140737488351232)) = true) (hn : os.length < 5864062014805)
    (hp : (bapS c_ i a os).2 = er) (hk0 : 0 ≤ m.ask.f0) (hk9 : m.ask.f0 ≤ 255) (he : er = 0) (h7 : c_ ≠ 7) (hq : reqB c_ = false) (hl : 0 < m.left) (hc1 : c_ ≠ m.ask.f0 + 1) :
    Calls Try.prog 60 #[.pointer (some ⟨g, 0, none⟩), .agg #[.int .i64 c_, .int .i64 i, .int .i64 a, .slice B os.length d], .bool yes] w (RfBaps w g ok m [] 0) := by
  cases yes
  all_goals
    obtain ⟨p, lr, A, c, A', c', hp0, hp1, h1, hs, hs'⟩ := h
    have H1 := Aside0.mk h1
    have HS := Aside0.mk hs
    have HS' := Aside0.mk hs'
    have HK := Aside0.mk hok
    obtain rfl : p = true := by rw [← hp0]; exact decide_eq_true hl
    have HP0 := Aside0.mk hp0
    have HP1 := Aside0.mk hp1
    clear hp0 hp1 hl
    have e0 : (er != 0) = false := by simpa using he
    clear he
    have e7 : (c_ == 7) = false := by simpa using h7
    clear h7
    have RQ := Aside0.mk hq
    clear hq
    have RA : Aside0 (reqB m.ask.f0 = reqB m.ask.f0) := ⟨rfl⟩
    obtain ⟨a1, ha1⟩ : ∃ a1, a1 = m.ask.f0 + 1 := ⟨_, rfl⟩
    have ea : IntKind.i64.wrap (m.ask.f0 + 1) = a1 := by rw [IntKind.wrap_i64]; omega
    rw [← ha1] at hc1
    clear ha1
    have ec : (a1 == c_) = false := by simpa using fun h => hc1 h.symm
    clear hc1
    have HP := Aside0.mk hp
    have HO := Aside0.mk ho
    have HZ := Aside0.mk hz
    have HN := Aside0.mk hn
    clear hp ho hz hn
    clear h1 hs hs' hok
    have hu99 := Try.underlying99
    have hu56 := Try.underlying56
    go_enter Try.func60, Try.ntmps60
    go_wp2_with (first
      | ((with_reducible refine gate_dst (N := 4) rfl ?_); refine box_event ?hg (N := 4) ?hd (cs := #[.int .i64 c_, .int .i64 i, .int .i64 a, .slice B os.length d]) (t := 56) ?hr ?_; (case hd => rfl); (case hg => rfl); (case hr => first | (go_simp; done) | (go_simp; rfl)); intro gx hg w1 hbox hb
         have GR := Aside0.mk (show w.heap.size ≤ gx by rw [hg]; exact Nat.le_refl _)
         have GL := Aside0.mk (show gx < w1.heap.size from blk_lt hbox)
         have GX := Aside0.mk hbox
         have G1 := Aside0.mk (blk_below H1.out hb)
         have HU := Aside0.mk (Upd.of_below hb g)
         have NE := Aside0.mk (show g ≠ gx by have := blk_lt H1.out; omega)
         obtain ⟨j0, j1, j2, j3, q0, q1, q2, q3⟩ := four GX.out
         clear hg hbox hb)
      | (go_at_call 87; ((refine (refBap_calls c_ i a B d os _ (HO.out.step (fun k ho hk => HU.out.block k hk (HK.out k ho))).C HO.out.cap HZ.out).mono ?_); rw [HP.out]; rintro e w3 ⟨⟨s_, rfl⟩, hb⟩)
         have G3 := Aside0.mk (blk_below G1.out hb)
         have GX3 := Aside0.mk (blk_below GX.out hb)
         have HU3 := Aside0.mk (HU.out.then_below hb)
         clear hb j0 j1 j2 j3 q0 q1 q2 q3
         obtain ⟨k0, k1, k2, k3, k4, k5, k6, k7, k8, k9, k10, k11, k12⟩ := rf_cells G3.out
         have s0 := blk_frozen G3.out 0
         have s1 := blk_frozen G3.out 1
         have s2 := blk_frozen G3.out 2
         have s3 := blk_frozen G3.out 3
         have s4 := blk_frozen G3.out 4
         obtain ⟨j0, j1, j2, j3, q0, q1, q2, q3⟩ := four GX3.out
         have nx : g ≠ gx := NE.out
         have nx' : gx ≠ g := NE.out.symm)
      | (go_at_call 69; ((with_reducible refine (withyref21_request.calls c_ _ _ (by rw [rrequest_eq, RQ.out])).mono ?_); rintro e w' ⟨rfl, ⟨nd, rfl⟩⟩))
      | (go_at_call 69; ((with_reducible refine (withyref21_request.calls m.ask.f0 _ _ (by rw [rrequest_eq, RA.out])).mono ?_); rintro e w' ⟨rfl, ⟨na, rfl⟩⟩)))
    go_quiet (fail)
    go_wp2
    go_ret2
    exact RfBaps.none (RfAt.turn HP0.out HP1.out (blk_drewN (blk_drewN G3.out _) _) HS.out HS'.out ((HU3.out.drewN _).drewN _) HK.out) ((HU3.out.drewN _).drewN _)
set_option maxHeartbeats 8000000 in
set_option maxRecDepth 100000 in
theorem rtake_id (g : Nat) (ok : Nat → Prop) (m : Tk) (c_ i a : Int) (B : Option Addr) (d : Nat) (os : List S46) (er : Int) (yes : Bool) (w : World) (h : RfAt w g ok m) (hok : ∀ k, ok k → k ≠ g) (ho : Sees w ok B d os) (hz : os.all (fun o => decide (o.f1.size ≤ 140737488351232)) = true) (hn : os.length < 5864062014805)
    (hp : (bapS c_ i a os).2 = er) (hk0 : 0 ≤ m.ask.f0) (hk9 : m.ask.f0 ≤ 255) (he : er = 0) (h7 : c_ ≠ 7) (hq : reqB c_ = false) (hl : 0 < m.left) (hc1 : c_ = m.ask.f0 + 1) (hi1 : i ≠ m.ask.f1) :
    Calls Try.prog 60 #[.pointer (some ⟨g, 0, none⟩), .agg #[.int .i64 c_, .int .i64 i, .int .i64 a, .slice B os.length d], .bool yes] w (RfBaps w g ok m [] 0) := by
  cases yes
  all_goals
    obtain ⟨p, lr, A, c, A', c', hp0, hp1, h1, hs, hs'⟩ := h
    have H1 := Aside0.mk h1
    have HS := Aside0.mk hs
    have HS' := Aside0.mk hs'
    have HK := Aside0.mk hok
    obtain rfl : p = true := by rw [← hp0]; exact decide_eq_true hl
    have HP0 := Aside0.mk hp0
    have HP1 := Aside0.mk hp1
    clear hp0 hp1 hl
    have e0 : (er != 0) = false := by simpa using he
    clear he
    have e7 : (c_ == 7) = false := by simpa using h7
    clear h7
    have RQ := Aside0.mk hq
    clear hq
    have RA : Aside0 (reqB m.ask.f0 = reqB m.ask.f0) := ⟨rfl⟩
    obtain ⟨a1, ha1⟩ : ∃ a1, a1 = m.ask.f0 + 1 := ⟨_, rfl⟩
    have ea : IntKind.i64.wrap (m.ask.f0 + 1) = a1 := by rw [IntKind.wrap_i64]; omega
    rw [← ha1] at hc1
    clear ha1
    have ec : (a1 == c_) = true := by simpa using hc1.symm
    clear hc1
    have ei : (m.ask.f1 == i) = false := by simpa using fun h => hi1 h.symm
    clear hi1
    have HP := Aside0.mk hp
    have HO := Aside0.mk ho
    have HZ := Aside0.mk hz
    have HN := Aside0.mk hn
    clear hp ho hz hn
    clear h1 hs hs' hok
    have hu99 := Try.underlying99
    have hu56 := Try.underlying56
    go_enter Try.func60, Try.ntmps60
    go_wp2_with (first
      | ((with_reducible refine gate_dst (N := 4) rfl ?_); refine box_event ?hg (N := 4) ?hd (cs := #[.int .i64 c_, .int .i64 i, .int .i64 a, .slice B os.length d]) (t := 56) ?hr ?_; (case hd => rfl); (case hg => rfl); (case hr => first | (go_simp; done) | (go_simp; rfl)); intro gx hg w1 hbox hb
         have GR := Aside0.mk (show w.heap.size ≤ gx by rw [hg]; exact Nat.le_refl _)
         have GL := Aside0.mk (show gx < w1.heap.size from blk_lt hbox)
         have GX := Aside0.mk hbox
         have G1 := Aside0.mk (blk_below H1.out hb)
         have HU := Aside0.mk (Upd.of_below hb g)
         have NE := Aside0.mk (show g ≠ gx by have := blk_lt H1.out; omega)
         obtain ⟨j0, j1, j2, j3, q0, q1, q2, q3⟩ := four GX.out
         clear hg hbox hb)
      | (go_at_call 87; ((refine (refBap_calls c_ i a B d os _ (HO.out.step (fun k ho hk => HU.out.block k hk (HK.out k ho))).C HO.out.cap HZ.out).mono ?_); rw [HP.out]; rintro e w3 ⟨⟨s_, rfl⟩, hb⟩)
         have G3 := Aside0.mk (blk_below G1.out hb)
         have GX3 := Aside0.mk (blk_below GX.out hb)
         have HU3 := Aside0.mk (HU.out.then_below hb)
         clear hb j0 j1 j2 j3 q0 q1 q2 q3
         obtain ⟨k0, k1, k2, k3, k4, k5, k6, k7, k8, k9, k10, k11, k12⟩ := rf_cells G3.out
         have s0 := blk_frozen G3.out 0
         have s1 := blk_frozen G3.out 1
         have s2 := blk_frozen G3.out 2
         have s3 := blk_frozen G3.out 3
         have s4 := blk_frozen G3.out 4
         obtain ⟨j0, j1, j2, j3, q0, q1, q2, q3⟩ := four GX3.out
         have nx : g ≠ gx := NE.out
         have nx' : gx ≠ g := NE.out.symm)
      | (go_at_call 69; ((with_reducible refine (withyref21_request.calls c_ _ _ (by rw [rrequest_eq, RQ.out])).mono ?_); rintro e w' ⟨rfl, ⟨nd, rfl⟩⟩))
      | (go_at_call 69; ((with_reducible refine (withyref21_request.calls m.ask.f0 _ _ (by rw [rrequest_eq, RA.out])).mono ?_); rintro e w' ⟨rfl, ⟨na, rfl⟩⟩)))
    go_quiet (fail)
    go_wp2
    go_ret2
    exact RfBaps.none (RfAt.turn HP0.out HP1.out (blk_drewN (blk_drewN G3.out _) _) HS.out HS'.out ((HU3.out.drewN _).drewN _) HK.out) ((HU3.out.drewN _).drewN _)
set_option maxHeartbeats 8000000 in
set_option maxRecDepth 100000 in
theorem rtake_ends (g : Nat) (ok : Nat → Prop) (m : Tk) (c_ i a : Int) (B : Option Addr) (d : Nat) (os : List S46) (er : Int) (yes : Bool) (w : World) (h : RfAt w g ok m) (hok : ∀ k, ok k → k ≠ g) (ho : Sees w ok B d os) (hz : os.all (fun o => decide (o.f1.size ≤ 140737488351232)) = true) (hn : os.length < 5864062014805)
    (hp : (bapS c_ i a os).2 = er) (hk0 : 0 ≤ m.ask.f0) (hk9 : m.ask.f0 ≤ 255) (he : er = 0) (h7 : c_ ≠ 7) (hq : reqB c_ = false) (hl : 0 < m.left) (hc1 : c_ = m.ask.f0 + 1) (hi1 : i = m.ask.f1) :
    Calls Try.prog 60 #[.pointer (some ⟨g, 0, none⟩), .agg #[.int .i64 c_, .int .i64 i, .int .i64 a, .slice B os.length d], .bool yes] w (RfBaps w g ok { m with left := 0, last := ⟨c_, i, a, os⟩ } [] 0) := by
  cases yes
  all_goals
    obtain ⟨p, lr, A, c, A', c', hp0, hp1, h1, hs, hs'⟩ := h
    have H1 := Aside0.mk h1
    have HS := Aside0.mk hs
    have HS' := Aside0.mk hs'
    have HK := Aside0.mk hok
    obtain rfl : p = true := by rw [← hp0]; exact decide_eq_true hl
    clear hp0 hp1 hl
    have e0 : (er != 0) = false := by simpa using he
    clear he
    have e7 : (c_ == 7) = false := by simpa using h7
    clear h7
    have RQ := Aside0.mk hq
    clear hq
    have RA : Aside0 (reqB m.ask.f0 = reqB m.ask.f0) := ⟨rfl⟩
    obtain ⟨a1, ha1⟩ : ∃ a1, a1 = m.ask.f0 + 1 := ⟨_, rfl⟩
    have ea : IntKind.i64.wrap (m.ask.f0 + 1) = a1 := by rw [IntKind.wrap_i64]; omega
    rw [← ha1] at hc1
    clear ha1
    have ec : (a1 == c_) = true := by simpa using hc1.symm
    clear hc1
    have ei : (m.ask.f1 == i) = true := by simpa using hi1.symm
    clear hi1
    have HP := Aside0.mk hp
    have HO := Aside0.mk ho
    have HZ := Aside0.mk hz
    have HN := Aside0.mk hn
    clear hp ho hz hn
    clear h1 hs hs' hok
    have hu99 := Try.underlying99
    have hu56 := Try.underlying56
    go_enter Try.func60, Try.ntmps60
    go_wp2_with (first
      | ((with_reducible refine gate_dst (N := 4) rfl ?_); refine box_event ?hg (N := 4) ?hd (cs := #[.int .i64 c_, .int .i64 i, .int .i64 a, .slice B os.length d]) (t := 56) ?hr ?_; (case hd => rfl); (case hg => rfl); (case hr => first | (go_simp; done) | (go_simp; rfl)); intro gx hg w1 hbox hb
         have GR := Aside0.mk (show w.heap.size ≤ gx by rw [hg]; exact Nat.le_refl _)
         have GL := Aside0.mk (show gx < w1.heap.size from blk_lt hbox)
         have GX := Aside0.mk hbox
         have G1 := Aside0.mk (blk_below H1.out hb)
         have HU := Aside0.mk (Upd.of_below hb g)
         have NE := Aside0.mk (show g ≠ gx by have := blk_lt H1.out; omega)
         obtain ⟨j0, j1, j2, j3, q0, q1, q2, q3⟩ := four GX.out
         clear hg hbox hb)
      | (go_at_call 87; ((refine (refBap_calls c_ i a B d os _ (HO.out.step (fun k ho hk => HU.out.block k hk (HK.out k ho))).C HO.out.cap HZ.out).mono ?_); rw [HP.out]; rintro e w3 ⟨⟨s_, rfl⟩, hb⟩)
         have G3 := Aside0.mk (blk_below G1.out hb)
         have GX3 := Aside0.mk (blk_below GX.out hb)
         have HU3 := Aside0.mk (HU.out.then_below hb)
         clear hb j0 j1 j2 j3 q0 q1 q2 q3
         obtain ⟨k0, k1, k2, k3, k4, k5, k6, k7, k8, k9, k10, k11, k12⟩ := rf_cells G3.out
         have s0 := blk_frozen G3.out 0
         have s1 := blk_frozen G3.out 1
         have s2 := blk_frozen G3.out 2
         have s3 := blk_frozen G3.out 3
         have s4 := blk_frozen G3.out 4
         obtain ⟨j0, j1, j2, j3, q0, q1, q2, q3⟩ := four GX3.out
         have nx : g ≠ gx := NE.out
         have nx' : gx ≠ g := NE.out.symm)
      | (go_at_call 69; ((with_reducible refine (withyref21_request.calls c_ _ _ (by rw [rrequest_eq, RQ.out])).mono ?_); rintro e w' ⟨rfl, ⟨nd, rfl⟩⟩))
      | (go_at_call 69; ((with_reducible refine (withyref21_request.calls m.ask.f0 _ _ (by rw [rrequest_eq, RA.out])).mono ?_); rintro e w' ⟨rfl, ⟨na, rfl⟩⟩)))
    go_quiet (fail)
    go_wp2
    go_ret2
    have hU : Upd w ((((((w3.drewN (nd + nq)).setCell ⟨g, 0, none⟩ (.bool false)).setCell ⟨g, 1, none⟩ (.int .i64 c_)).setCell ⟨g, 2, none⟩ (.int .i64 i)).setCell ⟨g, 3, none⟩ (.int .i64 a)).setCell ⟨g, 4, none⟩ (.slice B os.length d)) g :=
      (((((HU3.out.drewN _).set g 0 (.inl rfl) _).set g 1 (.inl rfl) _).set g 2 (.inl rfl) _).set g 3 (.inl rfl) _).set g 4 (.inl rfl) _
    refine RfBaps.none (m := { m with left := 0, last := ⟨c_, i, a, os⟩ }) ?_ hU
    exact RfAt.turn (m := { m with left := 0, last := ⟨c_, i, a, os⟩ }) (p := false) (lr := lr) (decide_eq_false (by show ¬ (0 : Int) < 0; decide)) (fun h => absurd h (by show ¬ (0 : Int) < 0; decide)) (blk_put (blk_put (blk_put (blk_put (blk_put (blk_drewN G3.out (nd + nq)) 0 _ rfl) 1 _ rfl) 2 _ rfl) 3 _ rfl) 4 _ rfl) HS.out HO.out hU HK.out
theorem rtake_calls (g : Nat) (ok : Nat → Prop) (m : Tk) (c i a : Int) (B : Option Addr) (d : Nat) (os : List S46) (yes : Bool) (w : World) (h : RfAt w g ok m) (hok : ∀ k, ok k → k ≠ g) (hm : m.Ok) (ho : Sees w ok B d os) (hz : os.all (fun o => decide (o.f1.size ≤ 140737488351232)) = true) (hn : os.length < 5864062014805) :
    Calls Try.prog 60 #[.pointer (some ⟨g, 0, none⟩), .agg #[.int .i64 c, .int .i64 i, .int .i64 a, .slice B os.length d], .bool yes] w (RfBaps w g ok (takeS m ⟨c, i, a, os⟩ yes).1 (takeS m ⟨c, i, a, os⟩ yes).2.1 (takeS m ⟨c, i, a, os⟩ yes).2.2) := by
  obtain ⟨er, hp⟩ : ∃ er, (bapS c i a os).2 = er := ⟨_, rfl⟩
  have l0 := hm.left0
  have k0 := hm.code0
  have k9 := hm.code1
  unfold takeS
  simp only
  rw [hp]
  by_cases he : er = 0
  · rw [if_neg (fun h1 => h1 he)]
    by_cases h7 : c = 7
    · have hq : ¬ reqB c = true := by rw [h7]; decide
      rw [if_neg hq, if_pos h7]
      exact rtake_status g ok m c i a B d os er yes w h hok ho hz hn hp he h7
    · cases hq : reqB c with
      | true =>
        rw [if_pos rfl]
        have hc : 0 ≤ c ∧ c ≤ 255 := by
          unfold reqB at hq
          simp at hq
          omega
        unfold requestS
        by_cases hl : 0 < m.left
        · cases hr : reqB m.ask.f0 with
          | true =>
            rw [if_pos ⟨hl, rfl⟩]
            cases hx : crossB m.fav m.ask.f0 c with
            | true =>
              rw [if_pos rfl]
              cases yes with
              | true => exact rtake_wins_true g ok m c i a B d os er w h hok ho hz hn hp hc.1 hc.2 he h7 hq hl hr hx
              | false => exact rtake_wins_false g ok m c i a B d os er w h hok ho hz hn hp hc.1 hc.2 he h7 hq hl hr hx
            | false =>
              rw [if_neg (by decide)]
              cases yes with
              | true => exact rtake_gives_true g ok m c i a B d os er w h hok ho hz hn hp hc.1 hc.2 he h7 hq hl hr hx
              | false => exact rtake_gives_false g ok m c i a B d os er w h hok ho hz hn hp hc.1 hc.2 he h7 hq hl hr hx
          | false =>
            rw [if_neg (by rintro ⟨_, h1⟩; cases h1)]
            cases yes with
            | true => exact rtake_stat_true g ok m c i a B d os er w h hok ho hz hn hp hc.1 hc.2 he h7 hq hl hr
            | false => exact rtake_stat_false g ok m c i a B d os er w h hok ho hz hn hp hc.1 hc.2 he h7 hq hl hr
        · rw [if_neg (fun h1 => hl h1.1)]
          cases yes with
          | true => exact rtake_idle_true g ok m c i a B d os er w h hok ho hz hn hp hc.1 hc.2 he h7 hq (by omega)
          | false => exact rtake_idle_false g ok m c i a B d os er w h hok ho hz hn hp hc.1 hc.2 he h7 hq (by omega)
      | false =>
        rw [if_neg (by decide), if_neg h7]
        by_cases hl : 0 < m.left
        · by_cases hc : c = m.ask.f0 + 1
          · by_cases hi : i = m.ask.f1
            · rw [if_pos ⟨hl, hc, hi⟩]; exact rtake_ends g ok m c i a B d os er yes w h hok ho hz hn hp k0 (by omega) he h7 hq hl hc hi
            · rw [if_neg (fun h1 => hi h1.2.2)]; exact rtake_id g ok m c i a B d os er yes w h hok ho hz hn hp k0 (by omega) he h7 hq hl hc hi
          · rw [if_neg (fun h1 => hc h1.2.1)]; exact rtake_code g ok m c i a B d os er yes w h hok ho hz hn hp k0 (by omega) he h7 hq hl hc
        · rw [if_neg (fun h1 => hl h1.1)]; exact rtake_noidle g ok m c i a B d os er yes w h hok ho hz hn hp he h7 hq (by omega)
  · rw [if_pos he]; exact rtake_form g ok m c i a B d os er yes w h hok ho hz hn hp he
end Go.Proofs.Ytbdlkcgaobkdcaa.P
end

/- The walk of the law TalkIds: each round asks, and asks once more; no condition. -/
import Derived.Test.YtbdlkcgaobkdcaaAwakeT
import Derived.Test.YtbdlkcgaobkdcaaMask
import Derived.Deep.LoopGhost
set_option linter.unusedVariables false
set_option linter.unusedSimpArgs false
namespace Go.Proofs.Ytbdlkcgaobkdcaa.P
open Go.RowKit Go.Proofs.YtbdlkcgaobkdcaaW.PrintWords Go.Proofs.YtbdlkcgaobkdcaaW.PrintLast Go.Proofs.YtbdlkcgaobkdcaaW.PrintMore
attribute [local go_sem] max2_int min2_int max_two min_two max_three min_three max_four min_four

/-- A request without options is always one. -/
theorem ask_plain {m : Tk} (hm : m.Ok) {c j : Int} (hc : reqB c = true ∨ c = 7) (h1 : 1 ≤ c) (h8 : c ≤ 8) (h0 : m.left = 0) (hj : nextId m.id = j) : askS m c [] = ({ m with id := j, ask := ⟨c, j, 0, []⟩, left := m.tries }, ⟨c, j, 0, []⟩, 0) := by
  rw [ask_go hc (bap_fine (may_of h1 h8 (by unfold nextId; omega) (by unfold nextId; omega)) (Int.le_refl _) (by omega) (fun _ => rfl) rfl (by decide)) h0, hj]
theorem again_once {m : Tk} (h : m.left = 1) : againS m = ({ m with left := 0 }, bp0, 2202) := by
  unfold againS
  rw [if_neg (by omega), if_pos h]
set_option maxHeartbeats 8000000 in
set_option maxRecDepth 100000 in
theorem talkIds_calls (many : Int) (w : World) : Calls Try.prog 8 #[.int .i64 many] w fun e w' => e = .returned (.bool true) ∧ Below w.heap.size w w' := by
  have hu56 := Try.underlying56
  obtain ⟨kk, hkk⟩ : ∃ kk, kk = many % 512 := ⟨_, rfl⟩
  have hand : bits .and .i64 many 511 = kk := by rw [mask511, hkk]
  have k0 : 0 ≤ kk := by omega
  have k9 : kk ≤ 511 := by omega
  clear hkk
  go_enter Try.func8, Try.ntmps8
  go_wp2_with (first
    | (go_at_call 41; refine (awake22 _).mono ?_; rintro e w0 ⟨rfl, hb⟩; have B0 := Aside0.mk hb; clear hb)
    | (go_at_call 42; ((with_reducible refine (new_in true 1 _ (by decide) (by decide)).mono ?_); rintro e w1 ⟨g, rfl, hg, hl, hT, hb⟩)
       have T0 := Aside0.mk (hT (fun k => k = g) rfl (fun k hk => by rw [hk]; exact hl))
       have HG := Aside0.mk (show w.heap.size ≤ g from Nat.le_trans B0.out.size hg)
       have B1 := Aside0.mk (below_step B0.out hb)
       clear hg hl hT hb B0))
  go_loopg [6] 512 (fun gg s6 wr => ∃ (i : Int) (m : Tk), 1 ≤ i ∧ i ≤ kk + 1 ∧ kk + 1 - i ≤ gg ∧ s6 = .int .i64 i ∧ Aside0 (TkIn (fun k => k = g) wr g m) ∧ Aside0 (m.left = 0 ∧ m.tries = 1 ∧ m.id = (i - 1) % 256) ∧ Aside0 (Below w.heap.size w wr))
  case atStart => exact ⟨1, newS true 1, by omega, by omega, by omega, rfl, ⟨T0.out⟩, ⟨rfl, rfl, rfl⟩, ⟨B1.out⟩⟩
  case round =>
    clear T0 B1
    obtain ⟨i, m, hi0, hi1, hgg, rfl, T, P, B⟩ := hrel
    obtain ⟨j, hj⟩ : ∃ j, j = i % 256 := ⟨_, rfl⟩
    have hb : bits .and .i64 i 255 = j := by rw [mask255, hj]
    have EQ := Aside0.mk (ask_plain (c := 1) (j := j) T.out.fine (.inl rfl) (by decide) (by decide) P.out.1 (by unfold nextId; rw [P.out.2.2, hj]; omega))
    have EA := Aside0.mk (again_once (m := { m with id := j, ask := ⟨1, j, 0, []⟩, left := m.tries }) P.out.2.1)
    have PT := P
    clear P
    have HJ := Aside0.mk hj
    clear hj
    by_cases hlt : i ≤ kk
    · have c0 : decide (i ≤ kk) = true := decide_eq_true hlt
      go_wp2_with (first
        | (go_at_call 29; ((with_reducible refine (withylaw0_Num.calls _ _ _ rfl).mono ?_); rintro e w' ⟨rfl, ⟨nd, rfl⟩⟩))
        | (go_at_call 43; ((with_reducible refine (ask_inN (code := 1) (os := []) (X := fun k => k = g) (m := m) ?p1 (Kd.C_nil _ _) (by decide) EQ.out (n := 0) rfl).mono ?_); (case p1 => repeat (first | exact T.out | apply TkIn.alloc | apply TkIn.drewN | apply TkIn.drew)); rintro e w2 ⟨A1, c1, rfl, hs, hT, hU⟩)
           have T1 := Aside0.mk hT
           have B1 := Aside0.mk (below_upd (by repeat (first | exact B.out | apply below_alloc | apply pw_below_drewN | apply below_drew1)) hU HG.out)
           clear hT hU hs T B)
        | (go_at_call 44; ((with_reducible refine (again_in (X := fun k => k = g) ?p2 EA.out).mono ?_); (case p2 => repeat (first | exact T1.out | apply TkIn.alloc | apply TkIn.drewN | apply TkIn.drew)); rintro e w3 ⟨A2, c2, rfl, hs, hT, hU⟩)
           have T2 := Aside0.mk hT
           have B2 := Aside0.mk (below_upd (by repeat (first | exact B1.out | apply below_alloc | apply pw_below_drewN | apply below_drew1)) hU HG.out)
           clear hT hU hs T1 B1)
        | (go_at_call 45; ((with_reducible refine (pending_in (X := fun k => k = g) (q := false) (m := { m with id := j, ask := ⟨1, j, 0, []⟩, left := 0 }) ?p3 rfl).mono ?_); (case p3 => repeat (first | exact T2.out | apply TkIn.alloc | apply TkIn.drewN | apply TkIn.drew)); rintro e w' ⟨rfl, rfl⟩)))
      go_roundg (kk - i).toNat
      case measure => omega
      case rel => exact ⟨i + 1, { m with id := j, ask := ⟨1, j, 0, []⟩, left := 0 }, by omega, by omega, by omega, by go_num, ⟨by repeat (first | exact T2.out | apply TkIn.alloc | apply TkIn.drewN | apply TkIn.drew)⟩, ⟨rfl, PT.out.2.1, by have := HJ.out; simp only; omega⟩, ⟨by repeat (first | exact B2.out | apply below_alloc | apply pw_below_drewN | apply below_drew1)⟩⟩
    · have c0 : decide (i ≤ kk) = false := decide_eq_false hlt
      go_wp2_with (first
        | (go_at_call 29; ((with_reducible refine (withylaw0_Num.calls _ _ _ rfl).mono ?_); rintro e w' ⟨rfl, ⟨nd, rfl⟩⟩)))
      go_ret
      exact ⟨rfl, by repeat (first | exact B.out | apply below_alloc | apply pw_below_drewN | apply below_drew1)⟩
#print axioms talkIds_calls
end Go.Proofs.Ytbdlkcgaobkdcaa.P

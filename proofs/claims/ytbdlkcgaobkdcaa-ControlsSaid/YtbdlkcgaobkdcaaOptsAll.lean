/- The walk of the law OptsAll: every test decided ahead by the contracts; the law's own loop from behind against firstAt. -/
import Derived.Test.YtbdlkcgaobkdcaaKeptO
import Derived.Test.YtbdlkcgaobkdcaaUnopts
import Derived.Test.YtbdlkcgaobkdcaaPx13
import Derived.Test.YtbdlkcgaobkdcaaPx2
import Derived.Test.YtbdlkcgaobkdcaaHFind
import Derived.Test.YtbdlkcgaobkdcaaHRef
import Derived.Test.YtbdlkcgaobkdcaaPure4
set_option linter.unusedVariables false
set_option linter.unusedSimpArgs false
namespace Go.Proofs.Ytbdlkcgaobkdcaa.P
open Go.RowKit Go.Proofs.YtbdlkcgaobkdcaaW.PrintWords Go.Proofs.YtbdlkcgaobkdcaaW.PrintLast Go.Proofs.YtbdlkcgaobkdcaaW.PrintMore
attribute [local go_sem] max2_int min2_int max_two min_two max_three min_three max_four min_four
attribute [local go_sem high] eqA46

/-- The first that is p among those from m on. -/
def fromIdx (p : S46 → Bool) (l : List S46) (m : Nat) : Int := if firstAt p (l.drop m) = -1 then -1 else m + firstAt p (l.drop m)
theorem firstAt_nil (p : S46 → Bool) : firstAt p [] = -1 := rfl
theorem firstAt_cons (p : S46 → Bool) (x : S46) (l : List S46) : firstAt p (x :: l) = if p x = true then 0 else if firstAt p l = -1 then -1 else firstAt p l + 1 := by
  unfold firstAt
  rw [List.findIdx_cons]
  cases hx : p x with
  | true => simp
  | false =>
    simp only [cond_false, List.length_cons]
    by_cases h : List.findIdx p l < l.length
    · rw [if_pos (by omega), if_pos h, if_neg (by simp), if_neg (by omega)]; omega
    · rw [if_neg (by omega), if_neg h, if_neg (by simp), if_pos rfl]
theorem fromIdx_end (p : S46 → Bool) (l : List S46) : fromIdx p l l.length = -1 := by
  unfold fromIdx
  rw [List.drop_length, firstAt_nil, if_pos rfl]
theorem fromIdx_zero (p : S46 → Bool) (l : List S46) : fromIdx p l 0 = firstAt p l := by
  unfold fromIdx
  rw [List.drop_zero]
  by_cases h : firstAt p l = -1
  · rw [if_pos h, h]
  · rw [if_neg h]; omega
theorem firstAt_ge (p : S46 → Bool) (l : List S46) : -1 ≤ firstAt p l := by
  unfold firstAt
  split <;> omega
theorem fromIdx_hit (p : S46 → Bool) (l : List S46) (m : Nat) (hm : m < l.length) (h : p l[m] = true) : fromIdx p l m = m := by
  unfold fromIdx
  rw [List.drop_eq_getElem_cons hm, firstAt_cons, if_pos h, if_neg (by decide)]
  omega
theorem fromIdx_miss (p : S46 → Bool) (l : List S46) (m : Nat) (hm : m < l.length) (h : p l[m] = false) : fromIdx p l m = fromIdx p l (m + 1) := by
  unfold fromIdx
  have q := firstAt_cons p l[m] (l.drop (m + 1))
  rw [h, if_neg (by decide)] at q
  rw [List.drop_eq_getElem_cons hm]
  have := firstAt_ge p (l.drop (m + 1))
  by_cases e : firstAt p (l.drop (m + 1)) = -1
  · rw [if_pos e] at q
    rw [q, if_pos rfl, if_pos e]
  · rw [if_neg e] at q
    rw [q, if_neg (by omega), if_neg e]
    omega

/-! SpoilOpts answers for every list. -/
theorem spoil_loop (d : Nat) : ∀ (k : Nat) (l : List S46) (i : Nat), l.length - i ≤ d → i ≤ l.length → l.length ≤ 1000000 → d < k → ∃ r, withylaw0_SpoilOpts.l0 k l (i : Int) = some r := by
  induction d with
  | zero =>
    intro k l i h0 hi hl hk
    obtain ⟨k, rfl⟩ : ∃ m, k = m + 1 := ⟨k - 1, by omega⟩
    simp only [withylaw0_SpoilOpts.l0]
    rw [if_neg (by omega)]
    exact ⟨_, rfl⟩
  | succ d ih =>
    intro k l i h0 hi hl hk
    obtain ⟨k, rfl⟩ : ∃ m, k = m + 1 := ⟨k - 1, by omega⟩
    simp only [withylaw0_SpoilOpts.l0]
    by_cases c : i < l.length
    · have e : wrap64 ((i : Int) + 1) = ((i + 1 : Nat) : Int) := by rw [wrap64_of (by omega) (by omega)]; omega
      rw [if_pos (by omega), if_pos (by omega), e]
      clear e
      exact ih k _ (i + 1) (by rw [List.length_set]; omega) (by rw [List.length_set]; omega) (by rw [List.length_set]; omega) (by omega)
    · rw [if_neg (by omega)]
      exact ⟨_, rfl⟩
theorem spoil_some (l : List S46) (hl : l.length ≤ 1000000) : ∃ r, withylaw0_SpoilOpts.f (l.length + 1) l = some r := spoil_loop l.length (l.length + 1) l 0 (by omega) (by omega) hl (by omega)
/-- What SpoilOpts writes on: the row's own block alone. -/
theorem spoil_calls (v : Value) (l : List S46) (base : Nat) (w : World) (hl : l.length ≤ 1000000) (hR : Kd.R k46 46 w base (fun _ => True) v l) (w0 : World) (hw0 : base = w0.heap.size) (hB : Below w0.heap.size w0 w) :
    Calls Try.prog 39 #[v] w fun e w' => e = .returned (.tuple #[]) ∧ Below w0.heap.size w0 w' ∧ Kept w w' (fun k => some k = v.ownBlock) := by
  obtain ⟨r, hr⟩ := spoil_some l hl
  subst hw0
  exact (withylaw0_SpoilOpts.calls (l.length + 1) (fun k => some k = v.ownBlock) v l r w0 w hB (Kd.R_tight rfl hR) hr).mono fun e w' ⟨h1, _, h2, h3⟩ => ⟨h1, h2, h3⟩
theorem putS_size (l : List S46) : (putS l).1.size ≤ 2048 := by
  rcases putS_cases l with h | ⟨h, _⟩
  · have := get_put l (putS l).1 (by rw [← h])
    exact this.2.2.1
  · rw [h]; decide
set_option maxHeartbeats 8000000 in
set_option maxRecDepth 100000 in
theorem optsAll_calls (A0 : Option Addr) (c0 : Nat) (l0 : List S46) (s : ByteArray) (kind : Int) (w : World) (hr0 : Kd.C k46 w A0 l0.length l0) (hc0 : l0.length ≤ c0) (hd : l0.all (fun o => decide (o.f1.size ≤ 140737488351232)) = true) (hn : l0.length < 5864062014800) :
    Calls Try.prog 6 #[.slice A0 l0.length c0, .string s, .int .i64 kind] w fun e w' => e = .returned (.bool true) ∧ Below w.heap.size w w' := by
  have hu46 := Try.underlying46
  have HR0 := Aside0.mk hr0
  have HC0 := Aside0.mk hc0
  have HD := Aside0.mk hd
  have HN := Aside0.mk hn
  have hbig : l0.length ≤ 9223372036854775806 := by omega
  clear hr0 hc0 hd
  have S1 : Aside0 True := ⟨trivial⟩
  obtain ⟨t1, ht1⟩ : ∃ t, putS l0 = t := ⟨_, rfl⟩
  obtain ⟨p1, e1⟩ := t1
  obtain ⟨t2, ht2⟩ : ∃ t, getS s = t := ⟨_, rfl⟩
  obtain ⟨os, e2⟩ := t2
  have hos : os.length ≤ 2048 := by have := getS_len s; rw [ht2] at this; exact this
  have HP := Aside0.mk ht1
  have HG := Aside0.mk ht2
  have HO := Aside0.mk hos
  clear ht1 ht2 hos
  go_enter Try.func6, Try.ntmps6
  go_wp2_with (first
    | (go_at_call 31; refine (lend_calls A0 c0 l0 _ HR0.out HC0.out HN.out).mono ?_; rintro e w1 ⟨A, c, rfl, hL, hb⟩; have HL := Aside0.mk hL; have HB := Aside0.mk hb; clear hL hb)
    | (go_at_call 32; refine (opts_Put.calls A c l0 p1 e1 _ (lent_C (by have := (Kd.R_reads' HL.out).2.2; simpa using this)) (by have := (Kd.R_reads' HL.out).2.1; omega) (congrArg some HP.out)).mono ?_; rintro e w2 ⟨rfl, hb⟩; have n0 := Aside0.mk (Kd.R_below HL.out hb); have n1 := Aside0.mk (below_step HB.out hb); clear HL HB hb; have HL := n0; have HB := n1; clear n0 n1)
    | (go_at_call 33; refine (withyref1_Opts.calls A0 c0 l0 p1 e1 _ (Kd.C_below HR0.out HB.out) HC0.out (by unfold withyref1_Opts.f; rw [if_pos HD.out, HP.out])).mono ?_; rintro e w3 ⟨rfl, hb⟩; have n0 := Aside0.mk (Kd.R_below HL.out hb); have n1 := Aside0.mk (below_step HB.out hb); clear HL HB hb; have HL := n0; have HB := n1; clear n0 n1)
    | (go_at_call 34; clear S1; refine (get_calls s _).mono ?_; rw [HG.out]; rintro e w4 ⟨vc, rfl, hv, hb⟩; obtain ⟨Ac, cc, rfl⟩ := Kd.R_slice hv; have n0 := Aside0.mk (Kd.R_below HL.out hb); have n1 := Aside0.mk (below_step HB.out hb); have HVc := Aside0.mk (Kd.R_lower hv (below_size HB.out)); clear HL HB hb hv; have HL := n0; have HB := n1; clear n0 n1)
    | (go_at_call 34; refine (get_calls s _).mono ?_; rw [HG.out]; rintro e w5 ⟨vd, rfl, hv, hb⟩; obtain ⟨Ad, cd, rfl⟩ := Kd.R_slice hv; have HVd := Aside0.mk (Kd.R_new' hv (Kd.R_lt HVc.out)); have n0 := Aside0.mk (Kd.R_below HL.out hb); have n1 := Aside0.mk (below_step HB.out hb); have n2 := Aside0.mk (Kd.R_below HVc.out hb); clear HL HB hb hv HVc; have HL := n0; have HB := n1; have HVc := n2; clear n0 n1 n2)
    | (go_at_call 35; refine (unopts_calls s _).mono ?_; rw [HG.out]; rintro e w6 ⟨vo, rfl, hv, hb⟩; obtain ⟨Ao, co, rfl⟩ := Kd.R_slice hv; have HVo := Aside0.mk (Kd.R_new' hv (Kd.R_lt HVc.out)); have n0 := Aside0.mk (Kd.R_below HL.out hb); have n1 := Aside0.mk (below_step HB.out hb); have n2 := Aside0.mk (Kd.R_below HVc.out hb); have n3 := Aside0.mk (Kd.R_below HVd.out hb); clear HL HB hb hv HVc HVd; have HL := n0; have HB := n1; have HVc := n2; have HVd := n3; clear n0 n1 n2 n3))
  have hw0 : IntKind.i64.wrap ((l0.length : Int) - 1) = (l0.length : Int) - 1 := by rw [IntKind.wrap_i64]; omega
  go_loopg [18, 19] l0.length (fun gg s18 s19 wr => ∃ (m : Nat) (z : Int), m ≤ l0.length ∧ m ≤ gg ∧ z + 1 = m ∧ s19 = .int .i64 z ∧ s18 = .int .i64 (fromIdx (fun o => o.f0 == kind) l0 m) ∧ Aside0 (Below w6.heap.size w6 wr))
  case atStart => exact ⟨l0.length, (l0.length : Int) - 1, Nat.le_refl _, Nat.le_refl _, by omega, by first | rfl | (simp [hw0]; done) | go_num, by rw [fromIdx_end]; try rfl, ⟨Below.refl _ _⟩⟩
  case round =>
    obtain ⟨m, z, hm, hg, hz, rfl, rfl, BW⟩ := hrel
    by_cases h0 : 0 < m
    · have z0 : 0 ≤ z := by omega
      have z1 : z < (l0.length : Int) := by omega
      obtain ⟨ad, e, hx0, hx1⟩ := at_T46 (Kd.C_below HR0.out (below_step HB.out BW.out)) z z0 z1
      have hlt : m - 1 < l0.length := by omega
      have hz' : z = ((m - 1 : Nat) : Int) := by omega
      have hr : rd_T46 l0 z = l0[m - 1]'hlt := (congrArg (rd_T46 l0) hz').trans (rd_get l0 (m - 1) hlt)
      rw [hr] at hx0 hx1
      cases e
      generalize hy : l0[m - 1]'hlt = y at hx0 hx1
      have B := Aside0.mk hy
      clear hy hr hz'
      have p0 := eq_true z0
      have p1 := eq_true z1
      have p2 : decide (0 ≤ z) = true := decide_eq_true z0
      have hw : IntKind.i64.wrap (z - 1) = z - 1 := by rw [IntKind.wrap_i64]; omega
      cases hq : (y.f0 == kind) with
      | true =>
        have HQ := Aside0.mk hq
        go_wp2
        go_roundg (m - 1)
        case measure => omega
        case rel =>
          refine ⟨m - 1, z - 1, by omega, by omega, by omega, by first | rfl | (simp [hw]; done) | go_num, ?_, BW⟩
          rw [fromIdx_hit _ _ _ (by omega) (by rw [B.out]; exact HQ.out), show z = ((m - 1 : Nat) : Int) by omega]
          try rfl
      | false =>
        have HQ := Aside0.mk hq
        go_wp2
        go_roundg (m - 1)
        case measure => omega
        case rel =>
          refine ⟨m - 1, z - 1, by omega, by omega, by omega, by first | rfl | (simp [hw]; done) | go_num, ?_, BW⟩
          rw [fromIdx_miss _ _ (m - 1) (by omega) (by rw [B.out]; exact HQ.out), show m - 1 + 1 = m by omega]
          try rfl
    · obtain rfl : m = 0 := by omega
      obtain rfl : z = -1 := by omega
      rw [fromIdx_zero]
      have S2 : Aside0 True := ⟨trivial⟩
      go_wp2_with (first
        | (go_at_call 29; refine (withylaw0_Num.calls _ _ _ rfl).mono ?_; rintro e w' ⟨rfl, ⟨nd, rfl⟩⟩; skip)
        | (go_at_call 36; clear S2; refine (withylaw0_SameOpts.calls (os.length + 1) Ac cc os Ao co os true _ (Kd.R_reads' (Kd.R_below HVc.out (by (with_reducible repeat (first | exact BW.out | apply pw_below_drewN | apply below_drew1))))).2.2 (Kd.R_reads' HVc.out).2.1 (Kd.R_reads' (Kd.R_below HVo.out (by (with_reducible repeat (first | exact BW.out | apply pw_below_drewN | apply below_drew1))))).2.2 (Kd.R_reads' HVo.out).2.1 (by have := HO.out; rw [same_eq os os _ (by omega) (by omega), sameL_refl])).mono ?_; rintro e w' ⟨rfl, ⟨nd, rfl⟩⟩; skip)
        | (go_at_call 37; go_loud (refine (opts_Find.calls kind A c l0 _ _ (Kd.C_below (lent_C (show Kd.C k46 _ A (l0.length + 2) (l0 ++ [mark46, mark46]) by have := (Kd.R_reads' HL.out).2.2; simpa using this)) (by (with_reducible repeat (first | exact BW.out | apply pw_below_drewN | apply below_drew1)))) (by have := (Kd.R_reads' HL.out).2.1; omega) rfl).mono ?_; rintro e w' ⟨rfl, hb⟩; have n0 := Aside0.mk (below_step (by (with_reducible repeat (first | exact BW.out | apply pw_below_drewN | apply below_drew1))) hb); clear BW hb; have BW := n0; clear n0))
        | (go_at_call 38; refine (kept_calls A c A0 c0 l0 _ (Kd.C_below (show Kd.C k46 _ A (l0.length + 2) (l0 ++ [mark46, mark46]) by have := (Kd.R_reads' HL.out).2.2; simpa using this) (by (with_reducible repeat (first | exact BW.out | apply pw_below_drewN | apply below_drew1)))) (by have := (Kd.R_reads' HL.out).2.1; omega) (Kd.C_below HR0.out (below_step HB.out (by (with_reducible repeat (first | exact BW.out | apply pw_below_drewN | apply below_drew1))))) HC0.out (by have := HN.out; omega)).mono ?_; rintro e w' ⟨rfl, ⟨nd, rfl⟩⟩; skip)
        | (go_at_call 39; refine (spoil_calls (.slice Ac os.length cc) os w.heap.size _ (by have := HO.out; omega) (Kd.R_below HVc.out (by (with_reducible repeat (first | exact BW.out | apply pw_below_drewN | apply below_drew1)))) w rfl (below_step HB.out (by (with_reducible repeat (first | exact BW.out | apply pw_below_drewN | apply below_drew1))))).mono ?_; rintro e w7 ⟨rfl, hb, hk⟩; have H7 := Aside0.mk hb; have HVd7 := Aside0.mk (Kd.R_kept (Kd.R_below HVd.out (by (with_reducible repeat (first | exact BW.out | apply pw_below_drewN | apply below_drew1)))) hk (fun k h => h.2)); have HVo7 := Aside0.mk (Kd.R_kept (Kd.R_below HVo.out (by (with_reducible repeat (first | exact BW.out | apply pw_below_drewN | apply below_drew1)))) hk (fun k h => h.2)); clear BW hb hk HB HL HVc HVd HVo)
        | (go_at_call 36; refine (withylaw0_SameOpts.calls (os.length + 1) Ad cd os Ao co os true _ (Kd.R_reads' HVd7.out).2.2 (Kd.R_reads' HVd7.out).2.1 (Kd.R_reads' HVo7.out).2.2 (Kd.R_reads' HVo7.out).2.1 (by have := HO.out; rw [same_eq os os _ (by omega) (by omega), sameL_refl])).mono ?_; rintro e w' ⟨rfl, ⟨nd, rfl⟩⟩; skip)
        | (go_at_call 40; refine (withylaw4_awake.calls 5000 true _ (awake4 5000 (by omega))).mono ?_; rintro e w' ⟨rfl, hb⟩; have n0 := Aside0.mk (below_step (by (with_reducible repeat (first | exact H7.out | apply pw_below_drewN | apply below_drew1))) hb); clear H7 hb; have H7 := n0; clear n0))
      go_ret
      exact ⟨rfl, by (with_reducible repeat (first | exact H7.out | apply pw_below_drewN | apply below_drew1))⟩
#print axioms optsAll_calls
end Go.Proofs.Ytbdlkcgaobkdcaa.P

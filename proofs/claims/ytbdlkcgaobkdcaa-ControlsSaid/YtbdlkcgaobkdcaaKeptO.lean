/- KeptOpts, at what LendOpts lent: the room behind the slice is read by a cut beyond its length. -/
import Derived.Test.YtbdlkcgaobkdcaaLend
import Derived.Test.YtbdlkcgaobkdcaaSpec
namespace Go.Proofs.Ytbdlkcgaobkdcaa.P
open Go.RowKit Go.Proofs.YtbdlkcgaobkdcaaW.PrintWords Go.Proofs.YtbdlkcgaobkdcaaW.PrintLast Go.Proofs.YtbdlkcgaobkdcaaW.PrintMore
attribute [local go_sem] max2_int min2_int max_two min_two max_three min_three max_four min_four
attribute [local go_sem high] eqA46
set_option linter.unusedVariables false
set_option linter.unusedSimpArgs false

theorem cut_within {P : Program} (t e : TypeId) (kh : IntKind) {i : TypeInfo} (ht : P.underlying t = some (.slice e)) (hi : P.info? e = some i) (A : Option Addr) (n c m : Nat) (j : Int) (h0 : j = (m : Int)) (hc : m ≤ c) :
    ∀ W : World, (Instr.slice t (.slice A n c) none (some (.int kh j)) none).run P W = .ok (.slice A m c) W := by
  intro W
  have hel : P.elem t = e := by simp [Program.elem, ht]
  have hu : P.underlying t = some (.slice (P.elem t)) := by rw [hel]; exact ht
  have ha : (A.map fun x => x.add 0) = A := by cases A <;> simp [Addr.add]
  rw [run_slice_h W t A n c hu kh j (by omega) (by omega), hel]
  simp [sizeOf, typeInfo, hi, sliced, Result.andThen, ha, h0]
theorem lent_C {w : World} {A : Option Addr} {l : List S46} (h : Kd.C k46 w A (l.length + 2) (l ++ [mark46, mark46])) : Kd.C k46 w A l.length l := by
  have h' : Kd.C k46 w A (l ++ [mark46, mark46]).length (l ++ [mark46, mark46]) := by simpa using h
  have := Kd.C_take (m := l.length) h' (by simp)
  simpa using this
set_option maxHeartbeats 8000000 in
set_option maxRecDepth 100000 in
theorem kept_calls (A : Option Addr) (c : Nat) (A1 : Option Addr) (c1 : Nat) (l : List S46) (w : World) (hF : Kd.C k46 w A (l.length + 2) (l ++ [mark46, mark46])) (hc : l.length + 2 ≤ c) (hr1 : Kd.C k46 w A1 l.length l) (hc1 : l.length ≤ c1)
    (hl : l.length < 5864062014805) : Calls Try.prog 38 #[.slice A l.length c, .slice A1 l.length c1] w fun e w' => e = .returned (.bool true) ∧ Drawn0 w w' := by
  have hu46 := Try.underlying46
  have hsame := withylaw0_SameOpts.calls (l.length + 1) A c l A1 c1 l true w (lent_C hF) (by omega) hr1 hc1 (by rw [same_eq l l _ (by omega) (by omega), sameL_refl])
  obtain ⟨i0, hi0, _, _, _⟩ := info_parts info46
  obtain ⟨m, hm⟩ : ∃ m : Nat, m = l.length + 2 := ⟨_, rfl⟩
  obtain ⟨j, hj⟩ : ∃ j : Int, j = (l.length : Int) + 1 := ⟨_, rfl⟩
  obtain ⟨q, hq⟩ : ∃ q : Int, q = (l.length : Int) + 2 := ⟨_, rfl⟩
  have hwq : IntKind.i64.wrap ((l.length : Int) + 2) = q := by rw [IntKind.wrap_i64]; omega
  have hwj : IntKind.i64.wrap ((l.length : Int) + 1) = j := by rw [IntKind.wrap_i64]; omega
  have hcut := cut_within (P := Try.prog) 35 46 .i64 Try.underlying35 hi0 A l.length c m q (by omega) (by omega)
  have hF2 := hF
  rw [← hm] at hF2
  obtain ⟨ad, e, hx0, hx1⟩ := at_T46 hF2 (l.length : Int) (by omega) (by omega)
  obtain ⟨ad', e', hy0, hy1⟩ := at_T46 hF2 j (by omega) (by omega)
  cases e
  cases e'
  have v0 : rd_T46 (l ++ [mark46, mark46]) (l.length : Int) = mark46 := by rw [rd_at _ _ (by simp)]; simp
  have v1 : rd_T46 (l ++ [mark46, mark46]) j = mark46 := by rw [hj, show (l.length : Int) + 1 = ((l.length + 1 : Nat) : Int) by omega, rd_at _ _ (by simp)]; simp
  rw [v0] at hx0 hx1
  rw [v1] at hy0 hy1
  simp only [mark46] at hx0 hx1 hy0 hy1
  (try simp only [Go.IntWalk.toNatUp] at hx0)
  (try simp only [Go.IntWalk.toNatUp] at hx1)
  have p0 : (0 ≤ (l.length : Int)) = True := eq_true (by omega)
  have p1 : ((l.length : Int) < (m : Int)) = True := eq_true (by omega)
  have p2 : (0 ≤ j) = True := eq_true (by omega)
  have p3 : (j < (m : Int)) = True := eq_true (by omega)
  have p4 : (l.length < m) = True := eq_true (by omega)
  clear hm hj hq hF hF2 v0 v1
  go_enter Try.func38, Try.ntmps38
  go_wp2_with (go_at_call 36; refine hsame.mono ?_; rintro e w' ⟨rfl, ⟨nd, rfl⟩⟩)
  go_ret
  exact ⟨by first | rfl | (simp; done) | (simp [*]; done), by repeat (first | exact Drawn0.refl _ | apply Drawn0.step)⟩
#print axioms kept_calls
end Go.Proofs.Ytbdlkcgaobkdcaa.P

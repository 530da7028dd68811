/- What slices.IndexFunc, slices.ContainsFunc and opts.Find do with a row of options: the place of the first of which the test holds, or -1; no condition beyond a row that can be read. -/
import Derived.Test.YtbdlkcgaobkdcaaPx0
import Derived.Shelf.Abstract
set_option linter.unusedVariables false
set_option linter.unusedSimpArgs false
namespace Go.Proofs.Ytbdlkcgaobkdcaa.P
open Go.RowKit Go.Proofs.YtbdlkcgaobkdcaaW.PrintWords Go.Proofs.YtbdlkcgaobkdcaaW.PrintLast Go.Proofs.YtbdlkcgaobkdcaaW.PrintMore

/-- The place of the first of which p holds; -1: none. -/
def firstAt (p : S46 → Bool) (l : List S46) : Int := if l.findIdx p < l.length then (l.findIdx p : Int) else -1

theorem firstAt_hit (p : S46 → Bool) (l : List S46) (k : Nat) (hk : k < l.length) (h : p l[k] = true) (ha : ∀ j, ∀ hj : j < l.length, j < k → p l[j] = false) : firstAt p l = k := by
  have e : l.findIdx p = k := (List.findIdx_eq hk).2 ⟨h, fun j hj => ha j (by omega) hj⟩
  unfold firstAt
  rw [e, if_pos hk]
theorem firstAt_miss (p : S46 → Bool) (l : List S46) (ha : ∀ j, ∀ hj : j < l.length, p l[j] = false) : firstAt p l = -1 := by
  have e : l.findIdx p = l.length := List.findIdx_eq_length.2 (fun x hx => by
    obtain ⟨j, hj, rfl⟩ := List.mem_iff_getElem.1 hx
    exact ha j hj)
  unfold firstAt
  rw [e, if_neg (Nat.lt_irrefl _)]
theorem rd_get (l : List S46) (k : Nat) (hk : k < l.length) : rd_T46 l (k : Int) = l[k] := by
  unfold rd_T46
  rw [Int.toNat_natCast, List.getD_eq_getElem?_getD, List.getElem?_eq_getElem hk]
  rfl

set_option maxHeartbeats 2000000 in
theorem indexFunc_any (p : S46 → Bool) (g : Nat) (lb : Array Value) (eg : ∀ args w, (callFunc g args).run Try.prog w = .ok (.enter g args) w) (A : Option Addr) (c : Nat) (l : List S46) (w : World)
    (hr : Kd.C k46 w A l.length l) (hp : ∀ (W : World) (x : S46), Below w.heap.size w W → Calls Try.prog g (#[.agg #[.int .i64 x.f0, .string x.f1]] ++ lb) W fun e w' => e = .returned (.bool (p x)) ∧ Below w.heap.size w w') :
    Calls Try.prog 77 #[.slice A l.length c, .func (.func g) #[] lb] w fun e w' => e = .returned (.int .i64 (firstAt p l)) ∧ Below w.heap.size w w' := by
  have hu46 := Try.underlying46
  have HR := Aside0.mk hr
  have HP := Aside0.mk hp
  have hbig : l.length ≤ 9223372036854775807 := hr.2.1
  clear hr hp
  go_enter Try.func77, Try.ntmps77
  go_wp2
  go_loopg [5, 8] l.length (fun gg _ s8 wr => ∃ kk : Nat, kk ≤ l.length ∧ l.length - kk ≤ gg ∧ s8 = .int .i64 kk ∧ Aside0 (Below w.heap.size w wr) ∧ Aside0 (∀ j, ∀ hj : j < l.length, j < kk → p l[j] = false))
  case atStart => exact ⟨0, Nat.zero_le _, by omega, rfl, ⟨Below.refl _ w⟩, ⟨fun j _ hj => absurd hj (Nat.not_lt_zero _)⟩⟩
  case round =>
    obtain ⟨kk, hkk, hg, rfl, BW, FF⟩ := hrel
    by_cases hlt : kk < l.length
    · have hltz : (kk : Int) < (l.length : Int) := by omega
      obtain ⟨ad, e, hx0, hx1⟩ := at_T46 (Kd.C_below HR.out BW.out) (kk : Int) (by omega) hltz
      rw [rd_get l kk hlt] at hx0 hx1
      have hcall := HP.out wr l[kk] BW.out
      have hpx : Aside0 (p l[kk] = p l[kk]) := ⟨rfl⟩
      cases e
      rw [Int.toNat_natCast] at hx0 hx1
      generalize hy : l[kk] = y at hx0 hx1 hcall
      have B := Aside0.mk hy
      clear hy hpx
      cases hq : p y with
      | true =>
        rw [hq] at hcall
        have HQ := Aside0.mk hq
        clear hq
        go_wp2_with (go_at_fn g; refine hcall.mono ?_; rintro e w' ⟨rfl, hb'⟩)
        go_ret
        refine ⟨?_, hb'⟩
        rw [firstAt_hit p l kk hlt (by rw [B.out]; exact HQ.out) FF.out]
        rfl
      | false =>
        rw [hq] at hcall
        have HQ := Aside0.mk hq
        clear hq
        go_wp2_with (go_at_fn g; refine hcall.mono ?_; rintro e w' ⟨rfl, hb'⟩)
        go_roundg (l.length - (kk + 1))
        case measure => omega
        case rel =>
          refine ⟨kk + 1, by omega, by omega, by go_num, ⟨hb'⟩, ⟨fun j hj hj2 => ?_⟩⟩
          by_cases e : j = kk
          · subst e
            rw [B.out]; exact HQ.out
          · exact FF.out j hj (by omega)
    · have hltz : ¬ (kk : Int) < (l.length : Int) := by omega
      have hkl : Aside0 (kk = l.length) := ⟨by omega⟩
      go_wp2
      go_ret
      refine ⟨?_, BW.out⟩
      rw [firstAt_miss p l (fun j hj => FF.out j hj (by have := hkl.out; omega))]
      rfl

set_option maxHeartbeats 2000000 in
theorem containsFunc_any (p : S46 → Bool) (g : Nat) (lb : Array Value) (eg : ∀ args w, (callFunc g args).run Try.prog w = .ok (.enter g args) w) (A : Option Addr) (c : Nat) (l : List S46) (w : World)
    (hr : Kd.C k46 w A l.length l) (hp : ∀ (W : World) (x : S46), Below w.heap.size w W → Calls Try.prog g (#[.agg #[.int .i64 x.f0, .string x.f1]] ++ lb) W fun e w' => e = .returned (.bool (p x)) ∧ Below w.heap.size w w') :
    Calls Try.prog 72 #[.slice A l.length c, .func (.func g) #[] lb] w fun e w' => e = .returned (.bool (decide (0 ≤ firstAt p l))) ∧ Below w.heap.size w w' := by
  have hcon := indexFunc_any p g lb eg A c l w hr hp
  clear hr hp
  go_enter Try.func72, Try.ntmps72
  go_wp2_with (go_at_call 77; refine hcon.mono ?_; rintro e w' ⟨rfl, hb'⟩)
  go_ret
  exact ⟨rfl, hb'⟩

/-- opts.Find's test: the kind is the one that was handed in. -/
theorem find_test (kind : Int) (B : Nat) (w : World) (hB : B < w.heap.size) (hcell : w.cell? ⟨B, 0, none⟩ = some (.int .i64 kind)) (W : World) (x : S46) (hb : Below w.heap.size w W) :
    Calls Try.prog 78 (#[.agg #[.int .i64 x.f0, .string x.f1]] ++ #[.pointer (some ⟨B, 0, none⟩)]) W fun e w' => e = .returned (.bool (x.f0 == kind)) ∧ Below w.heap.size w w' := by
  have hc : W.cell? ⟨B, 0, none⟩ = some (.int .i64 kind) := (hb.cell (p := ⟨B, 0, none⟩) hB).trans hcell
  have hBW : B < W.heap.size := Nat.lt_of_lt_of_le hB hb.size
  have hne : B ≠ W.heap.size := by omega
  have HB := Aside0.mk hb
  clear hcell hB hb
  have hu46 := Try.underlying46
  show Calls Try.prog 78 #[.agg #[.int .i64 x.f0, .string x.f1], .pointer (some ⟨B, 0, none⟩)] W _
  go_enter Try.func78, Try.ntmps78
  go_wp2
  go_ret
  exact ⟨rfl, HB.out.alloc HB.out.size _⟩

def opts_Find.f (a0 : Int) (l1 : List S46) : Option Int := some (firstAt (fun x => x.f0 == a0) l1)
set_option maxHeartbeats 2000000 in
theorem opts_Find.calls (a0 : Int) (A1 : Option Addr) (c1 : Nat) (l1 : List (S46)) (r : Int) (w : World) (hr1 : Kd.C k46 w A1 l1.length l1) (hc1 : l1.length ≤ c1) (h : opts_Find.f a0 l1 = some r) :
    Calls Try.prog 37 #[.int .i64 a0, .slice A1 l1.length c1] w fun e w' => e = .returned (.int .i64 r) ∧ Below w.heap.size w w' := by
  obtain rfl := Option.some.inj h
  have eg : ∀ args w, (callFunc 78 args).run Try.prog w = .ok (.enter 78 args) w := enters_of Try.func78 (by kernel_rfl) rfl
  have hcon := indexFunc_any (fun x => x.f0 == a0) 78 #[.pointer (some ⟨w.heap.size, 0, none⟩)] eg A1 c1 l1 (w.alloc (.cells #[.int .i64 a0] 3)) (Kd.C_below hr1 (below_alloc (Below.refl _ w) _))
    (find_test a0 w.heap.size _ (by simp) (by simp))
  clear eg hr1 hc1 h
  generalize firstAt (fun x => x.f0 == a0) l1 = r at hcon ⊢
  go_enter Try.func37, Try.ntmps37
  go_wp2_with (go_at_call 77; refine hcon.mono ?_; rintro e w' ⟨rfl, hb'⟩)
  go_ret
  exact ⟨rfl, ((Below.refl _ w).alloc (Nat.le_refl _) _).trans (hb'.mono (by simp))⟩
#print axioms opts_Find.calls
end Go.Proofs.Ytbdlkcgaobkdcaa.P

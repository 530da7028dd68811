/- What the law TalkOthers needs: responses of none or of another exchange end nothing, the right one does; condition: the size that every list has. -/
import Derived.Test.YtbdlkcgaobkdcaaTalkQ
import Derived.Deep.RegionHeld3
set_option linter.unusedVariables false
set_option linter.unusedSimpArgs false
namespace Go.Proofs.Ytbdlkcgaobkdcaa.P
open Go.RowKit Go.Proofs.YtbdlkcgaobkdcaaW.PrintWords Go.Proofs.YtbdlkcgaobkdcaaW.PrintLast Go.Proofs.YtbdlkcgaobkdcaaW.PrintMore
attribute [local go_sem] max2_int min2_int max_two min_two max_three min_three max_four min_four

theorem cut_at {P : Program} (t e : TypeId) {i : TypeInfo} (ht : P.underlying t = some (.slice e)) (hi : P.info? e = some i) (A : Option Addr) (n c m : Nat) (j : Int) (h0 : j = (m : Int)) (hc : m ≤ c) :
    ∀ W : World, (Instr.slice t (.slice A n c) none (some (.int .i64 j)) none).run P W = .ok (.slice A m c) W := by
  intro W
  have hel : P.elem t = e := by simp [Program.elem, ht]
  have hu : P.underlying t = some (.slice (P.elem t)) := by rw [hel]; exact ht
  have ha : (A.map fun x => x.add 0) = A := by cases A <;> simp [Addr.add]
  rw [run_slice_h W t A n c hu .i64 j (by omega) (by omega), hel]
  simp [sizeOf, typeInfo, hi, sliced, Result.andThen, ha, h0]
/-- Options that came in lie in old blocks. -/
theorem sees_came {w : World} {A : Option Addr} {c : Nat} {l : List S46} (h : Kd.C k46 w A l.length l) (hc : l.length ≤ c) : Sees w (fun k => k < w.heap.size) A c l :=
  ⟨hc, Kd.C_F (Kd.heap_iso _ (Kd.heap_pair (Kd.heap_int _) Kd.heap_string)) h⟩
theorem sees_first {w : World} {ok : Nat → Prop} {A : Option Addr} {c : Nat} {o : S46} {l : List S46} (h : Sees w ok A c (o :: l)) : Sees w ok A c [o] :=
  ⟨Nat.le_trans (by simp) h.cap, fun W' hW => by have := Kd.C_take (m := 1) (h.row W' hW) (by simp); simpa using this⟩
def ot_m (c : Int) : Tk := { newS true 5 with id := 1, ask := ⟨c, 1, 0, []⟩, left := 5 }
def ot_e (c a : Int) (os : List S46) : Tk := { ot_m c with left := 0, last := ⟨c + 1, 1, a, os⟩ }
def ot_f (c a : Int) (os : List S46) : Tk := { ot_e c a os with id := 2, ask := ⟨c, 2, 0, []⟩, left := 5 }
theorem ot_ask (j : Int) (h0 : 0 ≤ j) (h4 : j < 4) : askS (newS true 5) (code3 j) [] = (ot_m (code3 j), ⟨code3 j, 1, 0, []⟩, 0) :=
  ask_plain (j := 1) (new_Ok true 5 (by decide) (by decide)) (code4_ask h0 h4).1 (code4_ask h0 h4).2.1 (by have := (code4_ask h0 h4).2.2; omega) rfl rfl
theorem code4_even {j : Int} (h0 : 0 ≤ j) (h3 : j < 4) : ((code3 j + 1) % 2 == 0) = true ∧ reqB (code3 j + 1) = false ∧ code3 j + 1 ≠ 7 := by
  have : j = 0 ∨ j = 1 ∨ j = 2 ∨ j = 3 := by omega
  rcases this with rfl | rfl | rfl | rfl <;> decide
theorem ot_bap {j i a : Int} {os : List S46} (h0 : 0 ≤ j) (h4 : j < 4) (i0 : 0 ≤ i) (i9 : i ≤ 255) (a0 : 0 ≤ a) (a9 : a ≤ 255) (hp : (putS os).2 = 0) (hs : (putS os).1.size ≤ 2043) : (bapS (code3 j + 1) i a os).2 = 0 := by
  have e := code4_even h0 h4
  have r := (code4_ask h0 h4).2
  exact bap_fine (may_of (by omega) (by omega) i0 i9) a0 a9 (fun h => by rw [e.1] at h; cases h) hp hs
theorem ot_take1 (j i : Int) (h0 : 0 ≤ j) (h4 : j < 4) (i0 : 0 ≤ i) (i9 : i ≤ 255) (hi : i ≠ 1) : takeS (ot_m (code3 j)) ⟨code3 j + 1, i, 0, []⟩ true = (ot_m (code3 j), [], 0) :=
  take_other (show (bapS (code3 j + 1) i 0 []).2 = 0 from ot_bap h0 h4 i0 i9 (by omega) (by omega) rfl (by decide)) (code4_even h0 h4).2.1 (code4_even h0 h4).2.2 (fun h => hi h.2.2)
theorem ot_take2 (j k : Int) (h0 : 0 ≤ j) (h4 : j < 4) (k0 : 0 ≤ k) (k4 : k < 4) (hk : k ≠ j) : takeS (ot_m (code3 j)) ⟨code3 k + 1, 1, 0, []⟩ true = (ot_m (code3 j), [], 0) :=
  take_other (show (bapS (code3 k + 1) 1 0 []).2 = 0 from ot_bap k0 k4 (by omega) (by omega) (by omega) (by omega) rfl (by decide)) (code4_even k0 k4).2.1 (code4_even k0 k4).2.2 (fun h => hk (by have h2 : code3 k + 1 = code3 j + 1 := h.2.1; unfold code3 at h2; omega))
theorem ot_take3 (j a : Int) (os : List S46) (h0 : 0 ≤ j) (h4 : j < 4) (a0 : 0 ≤ a) (a9 : a ≤ 255) (hp : (putS os).2 = 0) (hs : (putS os).1.size ≤ 2043) : takeS (ot_m (code3 j)) ⟨code3 j + 1, 1, a, os⟩ false = (ot_e (code3 j) a os, [], 0) :=
  take_mine (show (bapS (code3 j + 1) 1 a os).2 = 0 from ot_bap h0 h4 (by omega) (by omega) a0 a9 hp hs) (code4_even h0 h4).2.1 (code4_even h0 h4).2.2 (by show (0 : Int) < 5; omega) rfl rfl
theorem ot_ask2 (j a : Int) (os : List S46) (h0 : 0 ≤ j) (h4 : j < 4) : askS (ot_e (code3 j) a os) (code3 j) [] = (ot_f (code3 j) a os, ⟨code3 j, 2, 0, []⟩, 0) := by
  have r := (code4_ask h0 h4)
  rw [ask_go r.1 (bap_plain r.2.1 (by omega) (by show (0 : Int) ≤ nextId 1; decide) (by show nextId 1 ≤ (255 : Int); decide) (by omega) (by omega) (fun _ => rfl)) rfl]
  rfl
theorem sameBap_last {w : World} {A A' : Option Addr} {k k' n : Nat} {m : Tk} {c a : Int} {os : List S46} (hm : m.last = ⟨c, 1, a, os⟩) (h : Kd.C k46 w A m.last.f3.length m.last.f3) (hk : m.last.f3.length ≤ k) (h' : Kd.C k46 w A' os.length os) (hk' : os.length ≤ k') (hn : n = os.length) (hl : os.length ≤ 2048) :
    Calls Try.prog 56 #[.agg #[.int .i64 m.last.f0, .int .i64 m.last.f1, .int .i64 m.last.f2, .slice A m.last.f3.length k], .agg #[.int .i64 c, .int .i64 1, .int .i64 a, .slice A' n k']] w fun e w' => e = .returned (.bool true) ∧ Below w.heap.size w w' := by
  subst hn
  rw [hm] at h hk ⊢
  exact withylaw0_SameBap.calls 3000 c 1 a A k os c 1 a A' k' os true w h hk h' hk' (sameBap_same 3000 c 1 a os (by omega) (by omega))
theorem tmod255 (n : Int) : 0 ≤ Int.tmod (IntKind.u64.wrap n) 255 ∧ Int.tmod (IntKind.u64.wrap n) 255 < 255 := by
  rw [IntKind.wrap_u64, Int.tmod_eq_emod_of_nonneg (by omega)]
  omega
theorem next4 (n : Int) : Int.tmod (IntKind.u64.wrap (IntKind.u64.wrap n + 1)) 4 = (Int.tmod (IntKind.u64.wrap n) 4 + 1) % 4 := by
  rw [IntKind.wrap_u64, IntKind.wrap_u64, Int.tmod_eq_emod_of_nonneg (by omega), Int.tmod_eq_emod_of_nonneg (by omega)]
  omega
theorem code4_at {w : World} {g : Nat} (j : Int) (h0 : 0 ≤ j) (h3 : j < 4) (h : w.heap[g]? = some (.cells #[.int .i64 1, .int .i64 3, .int .i64 5, .int .i64 7] 3 (0, 0))) : w.cell? ⟨g, j.toNat, none⟩ = some (.int .i64 (code3 j)) := by
  rw [blk_cell h]
  have : j = 0 ∨ j = 1 ∨ j = 2 ∨ j = 3 := by omega
  rcases this with rfl | rfl | rfl | rfl <;> rfl
theorem opt_cells {w : World} {ad : Addr} {o : S46} {l : List S46} (h : Kd.C k46 w (some ad) (l.length + 1) (o :: l)) : w.cell? ad = some (.int .i64 o.f0) ∧ w.cell? ⟨ad.block, ad.off + 1, none⟩ = some (.string o.f1) := by
  obtain ⟨ad', e, h0, h1⟩ := at_T46 h 0 (by omega) (by omega)
  cases e
  have e0 : ad.add ((0 : Int).toNat * 2) = ad := by cases ad; simp [Addr.add]
  rw [e0] at h0 h1
  exact ⟨h0, h1⟩
theorem one_fits (o : S46) (h0 : 0 ≤ o.f0) (h1 : o.f0 < 256) (h2 : (o.f1.size : Int) ≤ 253) : (putS [o]).2 = 0 ∧ (putS [o]).1.size ≤ 2043 := by
  have hb : [o].any badKind = false := by
    simp only [List.any_cons, List.any_nil, badKind]
    rw [decide_eq_false (by omega), decide_eq_false (by omega)]
    rfl
  have hp : putL [] [o] = some (optBytes o) := by
    simp only [putL]
    rw [if_neg (by simp; omega)]
    rfl
  unfold putS
  rw [hb, if_neg (by decide), hp]
  refine ⟨rfl, ?_⟩
  show (optBytes o).toArray.size ≤ 2043
  have : o.f1.data.size = o.f1.size := rfl
  simp [optBytes]
  omega
end Go.Proofs.Ytbdlkcgaobkdcaa.P

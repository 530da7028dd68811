/- The walk of the law Controls, what the document's own answer comes to, and the plain laws of layer 5; conditions: the sizes that every row has. -/
import Derived.Test.YtbdlkcgaobkdcaaPx16
import Derived.Test.YtbdlkcgaobkdcaaHCtl
import Derived.Test.YtbdlkcgaobkdcaaSpec
import Derived.Test.YtbdlkcgaobkdcaaMask
import Derived.Test.YtbdlkcgaobkdcaaPx17
import Derived.Test.YtbdlkcgaobkdcaaHGet
import Derived.Test.YtbdlkcgaobkdcaaUnopts
import Derived.Test.YtbdlkcgaobkdcaaSpec5
import Derived.Test.YtbdlkcgaobkdcaaPx18
import Derived.Test.YtbdlkcgaobkdcaaPx19
import Derived.Test.YtbdlkcgaobkdcaaOptsAll
set_option linter.unusedVariables false
set_option linter.unusedSimpArgs false
section
namespace Go.Proofs.Ytbdlkcgaobkdcaa.P
open Go.RowKit Go.Proofs.YtbdlkcgaobkdcaaW.PrintWords Go.Proofs.YtbdlkcgaobkdcaaW.PrintLast

theorem strOf_append (a b : List Int) : strOfNums a ++ strOfNums b = strOfNums (a ++ b) := by
  apply bytes_ext
  rw [ByteArray.data_append, Array.toList_append]
  simp [strOfNums]
theorem two_eq (n : Int) (h0 : 0 ≤ n) (h1 : n < 65536) : withyref1_two.f n = some (strOfNums [n / 256, n % 256]) := by
  unfold withyref1_two.f
  rw [mask255, mask255, Int.emod_emod_of_dvd _ (by decide), Int.emod_emod_of_dvd _ (by decide), Int.emod_eq_of_lt (show 0 ≤ n / 256 by omega) (by omega)]
/-- The last step: the four bytes and what they carry. -/
theorem ref_body (c i : Int) (b : ByteArray) (hc : 0 ≤ c ∧ c ≤ 255) (hi : 0 ≤ i ∧ i ≤ 255) (hb : b.size ≤ 140737488351232) :
    (if (wrap64 ((b.size : Int) + 4)) > 2048 then (some ((⟨#[]⟩ : ByteArray), (503 : Int))) else ((some (([c % 256, i % 256] : List Int) : List Int)).bind fun y252 => ((withyref1_two.f (wrap64 ((b.size : Int) + 4))).bind fun t255 => (if (strOfNums y252).size + t255.size ≤ 9223372036854775807 then (if ((strOfNums y252) ++ t255).size + b.size ≤ 9223372036854775807 then (some (((strOfNums y252) ++ t255) ++ b, 0)) else (none)) else (none))))) =
    if 2048 < 4 + b.size then some (⟨#[]⟩, 503) else some (strOfNums [c, i, (4 + (b.size : Int)) / 256, (4 + (b.size : Int)) % 256] ++ b, 0) := by
  have hw : wrap64 ((b.size : Int) + 4) = 4 + (b.size : Int) := by rw [wrap64_of (by omega) (by omega)]; omega
  rw [hw]
  clear hw
  by_cases h : 2048 < 4 + b.size
  · rw [if_pos (by omega), if_pos h]
  · rw [if_neg (by omega), if_neg h, two_eq _ (by omega) (by omega)]
    simp only [Option.bind_some]
    have z : ∀ x y : Int, (strOfNums [x, y]).size = 2 := fun x y => by simp [strOfNums]; rfl
    rw [Int.emod_eq_of_lt hc.1 (show c < 256 by omega), Int.emod_eq_of_lt hi.1 (show i < 256 by omega), if_pos (by rw [z, z]; decide), strOf_append]
    have z4 : ∀ x y u v : Int, (strOfNums ([x, y] ++ [u, v])).size = 4 := fun x y u v => by simp [strOfNums]; rfl
    rw [if_pos (by rw [z4]; omega)]
    rfl
theorem refCtl_eq (k : Nat) (hk : 3 ≤ k) (c i : Int) (l : List S46) (d : ByteArray) (hl : l.all (fun o => decide (o.f1.size ≤ 140737488351232)) = true) (hd : d.size ≤ 140737488351232) : withyref1_Control.f k c i l d = some (ctlS c i l d) := by
  obtain ⟨k, rfl⟩ : ∃ m, k = m + 1 + 1 + 1 := ⟨k - 3, by omega⟩
  unfold withyref1_Control.f ctlS
  have bad : octB c = false ∨ octB i = false → (some ((⟨#[]⟩ : ByteArray), (501 : Int))) = some (if octB c = false ∨ octB i = false then (⟨#[]⟩, 501) else if (putS l).2 ≠ 0 ∨ (confB c = false ∧ 0 < l.length) ∨ (confB c = true ∧ 0 < d.size) then (⟨#[]⟩, 502) else if 2048 < 4 + ((putS l).1.size + d.size) then (⟨#[]⟩, 503)
      else (strOfNums [c, i, (4 + (((putS l).1.size : Int) + (d.size : Int))) / 256, (4 + (((putS l).1.size : Int) + (d.size : Int))) % 256] ++ ((putS l).1 ++ d), 0)) := fun h => by rw [if_pos h]
  by_cases h1 : c < 0
  · rw [if_pos h1]
    simp only [withyref1_Control.j0, if_true]
    exact bad (.inl (by unfold octB; simp; omega))
  · rw [if_neg h1]
    by_cases h2 : c > 255
    · rw [if_pos h2]
      simp only [withyref1_Control.j0, if_true]
      exact bad (.inl (by unfold octB; simp; omega))
    · rw [if_neg h2]
      by_cases h3 : i < 0
      · rw [if_pos h3]
        simp only [withyref1_Control.j0, if_true]
        exact bad (.inr (by unfold octB; simp; omega))
      · rw [if_neg h3]
        by_cases h4 : i > 255
        · rw [decide_eq_true h4]
          simp only [withyref1_Control.j0, if_true]
          exact bad (.inr (by unfold octB; simp; omega))
        · rw [decide_eq_false h4]
          have o1 : octB c = true := by unfold octB; simp; omega
          have o2 : octB i = true := by unfold octB; simp; omega
          clear bad
          rw [if_neg (by rw [o1, o2]; simp)]
          have e0 : withyref1_Opts.f l = some (putS l) := by unfold withyref1_Opts.f; rw [if_pos hl]
          have hput : (putS l).1.size ≤ 2048 := putS_len l
          have app : ∀ (b : ByteArray), b.size = (putS l).1.size + d.size → b = (putS l).1 ++ d → (if 2048 < 4 + b.size then some ((⟨#[]⟩ : ByteArray), (503 : Int)) else some (strOfNums [c, i, (4 + (b.size : Int)) / 256, (4 + (b.size : Int)) % 256] ++ b, 0)) =
              some (if 2048 < 4 + ((putS l).1.size + d.size) then (⟨#[]⟩, 503) else (strOfNums [c, i, (4 + (((putS l).1.size : Int) + (d.size : Int))) / 256, (4 + (((putS l).1.size : Int) + (d.size : Int))) % 256] ++ ((putS l).1 ++ d), 0)) := by
            intro b hb hbe
            rw [hb, hbe]
            by_cases q : 2048 < 4 + ((putS l).1.size + d.size)
            · rw [if_pos q, if_pos q]
            · rw [if_neg q, if_neg q]
              rw [show (((putS l).1.size + d.size : Nat) : Int) = ((putS l).1.size : Int) + (d.size : Int) by omega]
          cases hcf : confB c with
          | true =>
            have hcb : 1 ≤ c ∧ c ≤ 4 := by unfold confB at hcf; simpa using hcf
            simp only [withyref1_Control.j0]
            rw [if_neg (by decide), if_pos hcb.1, decide_eq_true hcb.2]
            simp only [withyref1_Control.j1, if_true]
            rw [e0, Option.bind_some]
            by_cases hp : (putS l).2 = 0
            · rw [if_pos hp]
              simp only [withyref1_Control.j2]
              by_cases hdz : d.size = 0
              · obtain rfl : d = ⟨#[]⟩ := by
                  apply bytes_ext
                  exact List.eq_nil_of_length_eq_zero (by rw [size_eq]; exact hdz)
                rw [if_neg (by rw [toList_eq]; decide), ref_body c i (putS l).1 ⟨by omega, by omega⟩ ⟨by omega, by omega⟩ (by omega)]
                rw [if_neg (show ¬ ((putS l).2 ≠ 0 ∨ (true = false ∧ 0 < l.length) ∨ (True ∧ 0 < (⟨#[]⟩ : ByteArray).size)) by rintro (h | ⟨h, _⟩ | ⟨_, h⟩); exact h hp; cases h; exact absurd h (by decide))]
                exact app _ rfl (by apply bytes_ext; rw [ByteArray.data_append, Array.toList_append]; simp)
              · rw [if_pos (by rw [toList_eq]; simp; intro h; apply hdz; rw [← size_eq]; simp [h]), if_pos (.inr (.inr ⟨trivial, by omega⟩))]
            · rw [if_neg hp]
              simp only [withyref1_Control.j2, if_true]
              rw [if_pos (.inl hp)]
          | false =>
            have hcb : ¬ (1 ≤ c ∧ c ≤ 4) := by intro h; unfold confB at hcf; simp [h.1, h.2] at hcf
            have hj : ∀ x : Option (ByteArray × Int), (if (l.length : Int) > 0 then (some ((⟨#[]⟩ : ByteArray), 502)) else (if (wrap64 ((d.size : Int) + 4)) > 2048 then (some ((⟨#[]⟩ : ByteArray), 503)) else ((some (([c % 256, i % 256] : List Int) : List Int)).bind fun y252 => ((withyref1_two.f (wrap64 ((d.size : Int) + 4))).bind fun t255 => (if (strOfNums y252).size + t255.size ≤ 9223372036854775807 then (if ((strOfNums y252) ++ t255).size + d.size ≤ 9223372036854775807 then (some (((strOfNums y252) ++ t255) ++ d, 0)) else (none)) else (none)))))) = x →
                withyref1_Control.j0 (k + 1 + 1 + 1) false c i l d = x := by
              intro x hx
              simp only [withyref1_Control.j0]
              rw [if_neg (by decide)]
              by_cases g : c ≥ 1
              · rw [if_pos g, decide_eq_false (by omega)]
                simp only [withyref1_Control.j1]
                rw [if_neg (by decide)]
                exact hx
              · rw [if_neg g]
                simp only [withyref1_Control.j1]
                rw [if_neg (by decide)]
                exact hx
            apply hj
            by_cases hln : 0 < l.length
            · rw [if_pos (by omega), if_pos (.inr (.inl ⟨rfl, hln⟩))]
            · obtain rfl : l = [] := List.eq_nil_of_length_eq_zero (by omega)
              rw [if_neg (by simp), ref_body c i d ⟨by omega, by omega⟩ ⟨by omega, by omega⟩ hd]
              rw [if_neg (show ¬ ((putS ([] : List S46)).2 ≠ 0 ∨ (false = false ∧ 0 < ([] : List S46).length) ∨ (false = true ∧ 0 < d.size)) by rintro (h | ⟨_, h⟩ | ⟨h, _⟩); exact h rfl; exact hln h; cases h)]
              exact app d (Nat.zero_add _).symm (by rw [show putS [] = (⟨#[]⟩, 0) from rfl]; apply bytes_ext; rw [ByteArray.data_append, Array.toList_append]; simp)
end Go.Proofs.Ytbdlkcgaobkdcaa.P
end
section
namespace Go.Proofs.Ytbdlkcgaobkdcaa.P
open Go.RowKit Go.Proofs.YtbdlkcgaobkdcaaW.PrintWords Go.Proofs.YtbdlkcgaobkdcaaW.PrintLast

theorem bt_wrap5 (s : ByteArray) (i : Int) : wrap64 (bt s i) = bt s i := by
  have := bt_range s i
  exact wrap64_of (by omega) (by omega)
theorem un_j1 (k : Nat) (hk : 2050 < k) (s : ByteArray) (n c i : Int) (b : Bool) (hb : confB c = b) (h4 : 4 ≤ n) (hn : n ≤ (s.size : Int)) :
    withyref1_Uncontrol.j1 k s n b c i ⟨#[]⟩ = some (if confB c = false then (c, i, [], s.extract 4 n.toNat, 0) else if (getS (s.extract 4 n.toNat)).2 = 0 then (c, i, (getS (s.extract 4 n.toNat)).1, ⟨#[]⟩, 0) else (0, 0, [], ⟨#[]⟩, 502)) := by
  obtain ⟨k, rfl⟩ : ∃ m, k = m + 1 := ⟨k - 1, by omega⟩
  subst hb
  simp only [withyref1_Uncontrol.j1]
  rw [if_pos h4, if_pos hn, if_pos h4, if_pos hn, unopts_eq _ k (by omega), Option.bind_some]
  cases hcf : confB c with
  | false => rfl
  | true =>
    rw [if_pos rfl]
    by_cases e : (getS (s.extract 4 n.toNat)).2 = 0
    · rw [if_pos e, if_pos e]; rfl
    · rw [if_neg e, if_neg e]; rfl
theorem uncontrol_eq (s : ByteArray) (k : Nat) (hk : 2055 < k) : withyref1_Uncontrol.f k s = some (getC s) := by
  obtain ⟨k, rfl⟩ : ∃ m, k = m + 1 := ⟨k - 1, by omega⟩
  unfold withyref1_Uncontrol.f getC
  by_cases c0 : s.size < 4
  · rw [if_pos (by omega), if_pos c0]
  · have b2 := bt_range s 2
    have b3 := bt_range s 3
    rw [if_neg (by omega), if_pos (by omega), if_pos (by omega), if_neg c0, bt_wrap5, bt_wrap5]
    have e1 : wrap64 (bt s 2 * 256) = bt s 2 * 256 := wrap64_of (by omega) (by omega)
    have e2 : wrap64 (bt s 2 * 256 + bt s 3) = bt s 2 * 256 + bt s 3 := wrap64_of (by omega) (by omega)
    rw [e1, e2]
    clear e1 e2
    generalize hn : bt s 2 * 256 + bt s 3 = n
    have hn0 : 0 ≤ n := by omega
    by_cases c1 : n < 4
    · rw [if_pos c1, if_pos (.inl c1)]
      simp only [withyref1_Uncontrol.j0, if_true]
    · rw [if_neg c1]
      by_cases c2 : (s.size : Int) < n
      · rw [decide_eq_true (show n > (s.size : Int) from c2), if_pos (.inr c2)]
        simp only [withyref1_Uncontrol.j0, if_true]
      · rw [decide_eq_false (show ¬ n > (s.size : Int) from c2), if_neg (by rintro (h | h); exact c1 h; exact c2 h)]
        simp only [withyref1_Uncontrol.j0]
        rw [if_neg (by decide)]
        by_cases c3 : 2048 < n
        · rw [if_pos c3, if_pos c3]
        · rw [if_neg c3, if_neg c3, if_pos (by omega), if_pos (by omega), bt_wrap5, bt_wrap5]
          by_cases g : bt s 0 ≥ 1
          · rw [if_pos g]
            exact un_j1 k (by omega) s n (bt s 0) (bt s 1) _ (by unfold confB; rw [decide_eq_true (show 1 ≤ bt s 0 from g), Bool.true_and]) (by omega) (by omega)
          · rw [if_neg g]
            exact un_j1 k (by omega) s n (bt s 0) (bt s 1) _ (by unfold confB; rw [decide_eq_false (show ¬ 1 ≤ bt s 0 from g), Bool.false_and]) (by omega) (by omega)
end Go.Proofs.Ytbdlkcgaobkdcaa.P
end
section
namespace Go.Proofs.Ytbdlkcgaobkdcaa.P
open Go.RowKit Go.Proofs.YtbdlkcgaobkdcaaW.PrintWords Go.Proofs.YtbdlkcgaobkdcaaW.PrintLast

theorem samePacket_refl (k : Nat) (c i : Int) (os : List S46) (d : ByteArray) (hm : os.length ≤ 9223372036854775806) (hk : os.length < k) : withylaw0_SamePacket.f k c i os d c i os d = some true := by
  unfold withylaw0_SamePacket.f
  rw [if_pos rfl, if_pos rfl, if_pos rfl, same_eq os os k hm hk, sameL_refl]
  rfl
theorem awake5_put : ctlS 1 7 [(⟨1, (⟨#[97, 98]⟩ : ByteArray)⟩ : S46)] (⟨#[]⟩ : ByteArray) = (⟨#[1, 7, 0, 8, 1, 4, 97, 98]⟩, 0) := by decide +kernel
theorem awake5_put' : ctlS 9 0 [(⟨1, (⟨#[97, 98]⟩ : ByteArray)⟩ : S46)] (⟨#[]⟩ : ByteArray) = (⟨#[]⟩, 502) := by decide +kernel
theorem awake5 (k : Nat) (hk : 1 < k) : withylaw5_awake.f k = some true := by
  unfold withylaw5_awake.f control_Put.f control_Get.f
  have z0 : (⟨#[]⟩ : ByteArray).size ≤ 140737488351232 := by decide
  simp only [Option.bind_some, if_pos z0, awake5_put, awake5_put']
  have hsz : (⟨#[1, 7, 0, 8, 1, 4, 97, 98]⟩ : ByteArray).size + 3 ≤ 9223372036854775807 := by decide
  rw [if_pos hsz, ctl_back awake5_put]
  have hs : getC (⟨#[1]⟩ : ByteArray) = (0, 0, [], ⟨#[]⟩, 500) := by
    unfold getC
    rw [if_pos (by decide)]
  have ht : (⟨#[1, 7, 0, 8, 1, 4, 97, 98]⟩ : ByteArray).toList = [1, 7, 0, 8, 1, 4, 97, 98] := by rw [toList_eq]
  rw [hs, if_pos ht]
  simp only [withylaw0_Num.f, Option.bind_some, if_true]
  rw [samePacket_refl k 1 7 _ _ (by simp) (by simp; omega)]
  rfl
end Go.Proofs.Ytbdlkcgaobkdcaa.P
end
section
namespace Go.Proofs.Ytbdlkcgaobkdcaa.P
open Go.RowKit Go.Proofs.YtbdlkcgaobkdcaaW.PrintWords Go.Proofs.YtbdlkcgaobkdcaaW.PrintLast Go.Proofs.YtbdlkcgaobkdcaaW.PrintMore
attribute [local go_sem] max2_int min2_int max_two min_two max_three min_three max_four min_four
attribute [local go_sem high] eqA46

theorem getC_len (s : ByteArray) : (getC s).2.2.1.length ≤ 2048 := by
  unfold getC
  repeat' split
  all_goals first | (simp; done) | exact getS_len _ | (have := getS_len; simp_all)
theorem four5 {w : World} {g : Nat} {a b c d : Value} {t : TypeId} (h : w.heap[g]? = some (.cells #[a, b, c, d] t (0, 0))) : w.cell? ⟨g, 0, none⟩ = some a ∧ w.cell? ⟨g, 1, none⟩ = some b ∧ w.cell? ⟨g, 2, none⟩ = some c ∧ w.cell? ⟨g, 3, none⟩ = some d ∧
    w.frozen? ⟨g, 0, none⟩ = false ∧ w.frozen? ⟨g, 1, none⟩ = false ∧ w.frozen? ⟨g, 2, none⟩ = false ∧ w.frozen? ⟨g, 3, none⟩ = false :=
  ⟨(blk_cell h 0).trans rfl, (blk_cell h 1).trans rfl, (blk_cell h 2).trans rfl, (blk_cell h 3).trans rfl, blk_frozen h 0, blk_frozen h 1, blk_frozen h 2, blk_frozen h 3⟩
set_option maxHeartbeats 8000000 in
set_option maxRecDepth 100000 in
theorem controls_calls (c i : Int) (A0 : Option Addr) (c0 : Nat) (l0 : List S46) (d s : ByteArray) (w : World) (hr0 : Kd.C k46 w A0 l0.length l0) (hc0 : l0.length ≤ c0) (hall : l0.all (fun o => decide (o.f1.size ≤ 140737488351232)) = true) (hd : d.size ≤ 140737488351232) (hn : l0.length < 5864062014800) :
    Calls Try.prog 12 #[.agg #[.int .i64 c, .int .i64 i, .slice A0 l0.length c0, .string d], .string s] w fun e w' => e = .returned (.bool true) ∧ Below w.heap.size w w' := by
  have hu46 := Try.underlying46
  have hu69 := Try.underlying69
  have HR0 := Aside0.mk hr0
  have HC0 := Aside0.mk hc0
  have HN := Aside0.mk hn
  obtain ⟨⟨p1, e1⟩, ht1⟩ : ∃ t, ctlS c i l0 d = t := ⟨_, rfl⟩
  obtain ⟨⟨gc, gi, os, gd, e2⟩, ht2⟩ : ∃ t, getC s = t := ⟨_, rfl⟩
  have HP1 := Aside0.mk (show control_Put.f c i l0 d = some (p1, e1) by unfold control_Put.f; rw [if_pos hd, ht1])
  have HP2 := Aside0.mk (show withyref1_Control.f 3 c i l0 d = some (p1, e1) by rw [refCtl_eq 3 (by omega) c i l0 d hall hd, ht1])
  have HG1 := Aside0.mk (show control_Get.f s = some (gc, gi, os, gd, e2) by unfold control_Get.f; rw [ht2])
  have HG2 := Aside0.mk (show withyref1_Uncontrol.f 5000 s = some (gc, gi, os, gd, e2) by rw [uncontrol_eq s 5000 (by omega), ht2])
  have hol : os.length ≤ 2048 := by have := getC_len s; rw [ht2] at this; exact this
  have HOL := Aside0.mk (show os.length ≤ 1000000 by omega)
  have HSM := Aside0.mk (samePacket_refl (os.length + 1) gc gi os gd (by omega) (by omega))
  clear hr0 hc0 hall hd ht1 ht2 hol
  have HB := Aside0.mk (Below.refl w.heap.size w)
  have S1 : Aside0 True := ⟨trivial⟩
  go_enter Try.func12, Try.ntmps12
  go_wp2_with (first
    | ((with_reducible refine gate_dst (N := 2) rfl ?_); refine box_event ?hg (N := 2) ?hd (cs := #[.int .i64 c, .int .i64 i, .slice A0 l0.length c0, .string d]) (t := 69) ?hr ?_; (case hd => rfl); (case hg => rfl); (case hr => first | (go_simp; done) | (go_simp; rfl)); intro g0 hg w1 hbox hb
       have GE := Aside0.mk (show w.heap.size ≤ g0 by rw [hg]; exact Nat.le_refl _)
       have B0 := Aside0.mk hbox
       have n0 := Aside0.mk (below_step HB.out hb)
       clear HB hg
       have HB := n0
       clear n0
       obtain ⟨z0, z1, z2, z3, _, _, _, _⟩ := four5 hbox
       have zz2 : ∀ o, (w1.alloc o).cell? ⟨g0, 2, none⟩ = some (.slice A0 l0.length c0) := fun o => (blk_cell (blk_alloc hbox o) 2).trans rfl
       clear hbox hb)
    | (go_at_call 31; ((refine (lend_calls A0 c0 l0 _ (Kd.C_below HR0.out (by repeat (first | exact HB.out | apply below_alloc | apply pw_below_drewN | apply below_drew1))) HC0.out HN.out).mono ?_); rintro e w3 ⟨A, cc, rfl, hL, hb⟩)
       obtain ⟨g1, hg1⟩ : ∃ g1, g1 = w1.heap.size := ⟨_, rfl⟩
       have NB : g0 ≠ g1 := by have := blk_lt B0.out; omega
       have NB' : g1 ≠ g0 := NB.symm
       have B1 := Aside0.mk (show w3.heap[g1]? = some (.cells #[.int .i64 c, .int .i64 i, .slice A0 l0.length c0, .string d] 69 (0, 0)) from blk_below (by rw [hg1]; exact heap_alloc_new _ _) hb)
       have n_B0 := Aside0.mk (show w3.heap[g0]? = some (.cells #[.int .i64 c, .int .i64 i, .slice A0 l0.length c0, .string d] 69 (0, 0)) from blk_below (blk_alloc B0.out _) hb)
       clear B0
       have B0 := n_B0
       clear n_B0
       have HL := Aside0.mk (show Kd.R k46 46 w3 w.heap.size (fun k => g1 < k) (.slice A (l0.length + 2) cc) (l0 ++ [mark46, mark46]) from Kd.R_lower (Kd.R_mono (Kd.R_bound hL) (fun k hk => by have := hk.2.1; simp at this; omega)) (by have := HB.out.size; simp; omega))
       have n0 := Aside0.mk (below_step (by repeat (first | exact HB.out | apply below_alloc | apply pw_below_drewN | apply below_drew1)) hb)
       have G1E := Aside0.mk (show w.heap.size ≤ g1 by rw [hg1]; exact HB.out.size)
       rw [← hg1]
       clear HB hL hb hg1 z0 z1 z2 z3 zz2
       have HB := n0
       clear n0
       obtain ⟨y0, y1, y2, y3, q0, q1, q2, q3⟩ := four5 B1.out
       obtain ⟨z0, z1, z2, z3, _, _, _, _⟩ := four5 B0.out)
    | (go_at_call 47; ((with_reducible refine (control_Put.calls c i A cc l0 d p1 e1 _ ?pC ?pc HP1.out).mono ?_); (case pC => exact lent_C (by have q_ := (Kd.R_reads' (Kd.R_far (p := ⟨g1, 2, none⟩) HL.out (fun k hk => by simp only; omega) (.slice A l0.length cc))).2.2; simpa using q_)); (case pc => have q_ := (Kd.R_reads' HL.out).2.1; omega); rintro e w4 ⟨rfl, hb⟩)
       have n_B0 := Aside0.mk (show w4.heap[g0]? = some (.cells #[.int .i64 c, .int .i64 i, .slice A0 l0.length c0, .string d] 69 (0, 0)) from blk_below (blk_far B0.out NB _) hb)
       have n_B1 := Aside0.mk (show w4.heap[g1]? = some (.cells #[.int .i64 c, .int .i64 i, .slice A l0.length cc, .string d] 69 (0, 0)) from blk_below (blk_put B1.out 2 _ rfl) hb)
       have n_HL := Aside0.mk (Kd.R_below (Kd.R_far (p := ⟨g1, 2, none⟩) HL.out (fun k hk => by simp only; omega) (.slice A l0.length cc)) hb)
       have n_HB := Aside0.mk (below_step (below_set2 g1 2 HB.out G1E.out _) hb)
       clear B0 B1 HL HB hb z0 z1 z2 z3 y0 y1 y2 y3 q0 q1 q2 q3
       have B0 := n_B0
       have B1 := n_B1
       have HL := n_HL
       have HB := n_HB
       clear n_B0 n_B1 n_HL n_HB
       obtain ⟨z0, z1, z2, z3, _, _, _, _⟩ := four5 B0.out)
    | (go_at_call 48; ((with_reducible refine (withyref1_Control.calls 3 c i A0 c0 l0 d p1 e1 _ (Kd.C_below HR0.out HB.out) HC0.out HP2.out).mono ?_); rintro e w5 ⟨rfl, hb⟩)
       have n_B0 := Aside0.mk (show w5.heap[g0]? = some (.cells #[.int .i64 c, .int .i64 i, .slice A0 l0.length c0, .string d] 69 (0, 0)) from blk_below (by repeat (first | exact B0.out | apply blk_alloc | apply blk_drewN)) hb)
       have n_B1 := Aside0.mk (show w5.heap[g1]? = some (.cells #[.int .i64 c, .int .i64 i, .slice A l0.length cc, .string d] 69 (0, 0)) from blk_below (by repeat (first | exact B1.out | apply blk_alloc | apply blk_drewN)) hb)
       have n_HL := Aside0.mk (Kd.R_below (show Kd.R k46 46 _ _ _ _ _ by repeat (first | exact HL.out | apply Kd.R_alloc | apply Kd.R_drewN)) hb)
       have n_HB := Aside0.mk (below_step (by repeat (first | exact HB.out | apply below_alloc | apply pw_below_drewN | apply below_drew1)) hb)
       clear B0 B1 HL HB hb z0 z1 z2 z3
       have B0 := n_B0
       have B1 := n_B1
       have HL := n_HL
       have HB := n_HB
       clear n_B0 n_B1 n_HL n_HB)
    | (go_at_call 49; clear S1; ((with_reducible refine (control_Get.calls s gc gi os gd e2 _ HG1.out).mono ?_); rintro e w6 ⟨vc, rfl, hR, hb⟩)
       obtain ⟨Ac, kc, rfl⟩ := Kd.R_slice hR
       have n_B0 := Aside0.mk (show w6.heap[g0]? = some (.cells #[.int .i64 c, .int .i64 i, .slice A0 l0.length c0, .string d] 69 (0, 0)) from blk_below (by repeat (first | exact B0.out | apply blk_alloc | apply blk_drewN)) hb)
       have n_B1 := Aside0.mk (show w6.heap[g1]? = some (.cells #[.int .i64 c, .int .i64 i, .slice A l0.length cc, .string d] 69 (0, 0)) from blk_below (by repeat (first | exact B1.out | apply blk_alloc | apply blk_drewN)) hb)
       have n_HL := Aside0.mk (Kd.R_below (show Kd.R k46 46 _ _ _ _ _ by repeat (first | exact HL.out | apply Kd.R_alloc | apply Kd.R_drewN)) hb)
       have n_HB := Aside0.mk (below_step (by repeat (first | exact HB.out | apply below_alloc | apply pw_below_drewN | apply below_drew1)) hb)
       have HVc := Aside0.mk (Kd.R_lower hR (show w.heap.size ≤ _ from (show Below w.heap.size w _ by repeat (first | exact HB.out | apply below_alloc | apply pw_below_drewN | apply below_drew1)).size))
       clear hR
       clear B0 B1 HL HB hb 
       have B0 := n_B0
       have B1 := n_B1
       have HL := n_HL
       have HB := n_HB
       clear n_B0 n_B1 n_HL n_HB)
    | (go_at_call 49; ((with_reducible refine (control_Get.calls s gc gi os gd e2 _ HG1.out).mono ?_); rintro e w7 ⟨vd, rfl, hR, hb⟩)
       obtain ⟨Ad, kd, rfl⟩ := Kd.R_slice hR
       obtain ⟨g10, hg10⟩ : ∃ g10, g10 = w6.heap.size := ⟨_, rfl⟩
       rw [← hg10]
       have B10 := Aside0.mk (show w7.heap[g10]? = some (.cells #[.int .i64 gc, .int .i64 gi, .slice Ac os.length kc, .string gd] 69 (0, 0)) from blk_below (by rw [hg10]; exact heap_alloc_new _ _) hb)
       have n_B0 := Aside0.mk (show w7.heap[g0]? = some (.cells #[.int .i64 c, .int .i64 i, .slice A0 l0.length c0, .string d] 69 (0, 0)) from blk_below (by repeat (first | exact B0.out | apply blk_alloc | apply blk_drewN)) hb)
       have n_B1 := Aside0.mk (show w7.heap[g1]? = some (.cells #[.int .i64 c, .int .i64 i, .slice A l0.length cc, .string d] 69 (0, 0)) from blk_below (by repeat (first | exact B1.out | apply blk_alloc | apply blk_drewN)) hb)
       have n_HL := Aside0.mk (Kd.R_below (show Kd.R k46 46 _ _ _ _ _ by repeat (first | exact HL.out | apply Kd.R_alloc | apply Kd.R_drewN)) hb)
       have n_HVc := Aside0.mk (Kd.R_below (show Kd.R k46 46 _ _ _ _ _ by repeat (first | exact HVc.out | apply Kd.R_alloc | apply Kd.R_drewN)) hb)
       have n_HB := Aside0.mk (below_step (by repeat (first | exact HB.out | apply below_alloc | apply pw_below_drewN | apply below_drew1)) hb)
       have HVd := Aside0.mk (Kd.R_lower (Kd.R_new' hR (Kd.R_lt (Kd.R_alloc HVc.out _))) (show w.heap.size ≤ _ from (show Below w.heap.size w _ by repeat (first | exact HB.out | apply below_alloc | apply pw_below_drewN | apply below_drew1)).size))
       clear hR hg10
       clear B0 B1 HL HVc HB hb 
       have B0 := n_B0
       have B1 := n_B1
       have HL := n_HL
       have HVc := n_HVc
       have HB := n_HB
       clear n_B0 n_B1 n_HL n_HVc n_HB)
    | (go_at_call 50; ((with_reducible refine (withyref1_Uncontrol.calls 5000 s gc gi os gd e2 _ HG2.out).mono ?_); rintro e w8 ⟨vo, rfl, hR, hb⟩)
       obtain ⟨Ao, ko, rfl⟩ := Kd.R_slice hR
       obtain ⟨g12, hg12⟩ : ∃ g12, g12 = w7.heap.size := ⟨_, rfl⟩
       rw [← hg12]
       have B12 := Aside0.mk (show w8.heap[g12]? = some (.cells #[.int .i64 gc, .int .i64 gi, .slice Ad os.length kd, .string gd] 69 (0, 0)) from blk_below (by rw [hg12]; exact heap_alloc_new _ _) hb)
       have n_B0 := Aside0.mk (show w8.heap[g0]? = some (.cells #[.int .i64 c, .int .i64 i, .slice A0 l0.length c0, .string d] 69 (0, 0)) from blk_below (by repeat (first | exact B0.out | apply blk_alloc | apply blk_drewN)) hb)
       have n_B1 := Aside0.mk (show w8.heap[g1]? = some (.cells #[.int .i64 c, .int .i64 i, .slice A l0.length cc, .string d] 69 (0, 0)) from blk_below (by repeat (first | exact B1.out | apply blk_alloc | apply blk_drewN)) hb)
       have n_B10 := Aside0.mk (show w8.heap[g10]? = some (.cells #[.int .i64 gc, .int .i64 gi, .slice Ac os.length kc, .string gd] 69 (0, 0)) from blk_below (by repeat (first | exact B10.out | apply blk_alloc | apply blk_drewN)) hb)
       have n_HL := Aside0.mk (Kd.R_below (show Kd.R k46 46 _ _ _ _ _ by repeat (first | exact HL.out | apply Kd.R_alloc | apply Kd.R_drewN)) hb)
       have n_HVc := Aside0.mk (Kd.R_below (show Kd.R k46 46 _ _ _ _ _ by repeat (first | exact HVc.out | apply Kd.R_alloc | apply Kd.R_drewN)) hb)
       have n_HVd := Aside0.mk (Kd.R_below (show Kd.R k46 46 _ _ _ _ _ by repeat (first | exact HVd.out | apply Kd.R_alloc | apply Kd.R_drewN)) hb)
       have n_HB := Aside0.mk (below_step (by repeat (first | exact HB.out | apply below_alloc | apply pw_below_drewN | apply below_drew1)) hb)
       have HVo := Aside0.mk (Kd.R_lower (Kd.R_new' hR (Kd.R_lt (Kd.R_alloc HVc.out _))) (show w.heap.size ≤ _ from (show Below w.heap.size w _ by repeat (first | exact HB.out | apply below_alloc | apply pw_below_drewN | apply below_drew1)).size))
       clear hR hg12
       clear B0 B1 B10 HL HVc HVd HB hb 
       have B0 := n_B0
       have B1 := n_B1
       have B10 := n_B10
       have HL := n_HL
       have HVc := n_HVc
       have HVd := n_HVd
       have HB := n_HB
       clear n_B0 n_B1 n_B10 n_HL n_HVc n_HVd n_HB
       have z0 : ∀ o, (w8.alloc o).cell? ⟨g10, 0, none⟩ = some (.int .i64 gc) := fun o => (blk_cell (blk_alloc B10.out o) 0).trans rfl
       have z1 : ∀ o, (w8.alloc o).cell? ⟨g10, 1, none⟩ = some (.int .i64 gi) := fun o => (blk_cell (blk_alloc B10.out o) 1).trans rfl
       have z2 : ∀ o, (w8.alloc o).cell? ⟨g10, 2, none⟩ = some (.slice Ac os.length kc) := fun o => (blk_cell (blk_alloc B10.out o) 2).trans rfl
       have z3 : ∀ o, (w8.alloc o).cell? ⟨g10, 3, none⟩ = some (.string gd) := fun o => (blk_cell (blk_alloc B10.out o) 3).trans rfl)
    | (go_at_call 29; ((with_reducible refine (withylaw0_Num.calls _ _ _ rfl).mono ?_); rintro e w' ⟨rfl, ⟨nd, rfl⟩⟩))
    | (go_at_call 51; ((with_reducible refine (withylaw0_SamePacket.calls (os.length + 1) gc gi Ac kc os gd gc gi Ao ko os gd true _ ?s11 (Kd.R_reads' HVc.out).2.1 ?s12 (Kd.R_reads' HVo.out).2.1 HSM.out).mono ?_); (case s11 => exact (show Kd.C k46 _ _ _ _ from (Kd.R_reads' (show Kd.R k46 46 _ _ _ (.slice _ os.length _) os by repeat (first | exact HVc.out | apply Kd.R_alloc | apply Kd.R_drewN))).2.2)); (case s12 => exact (show Kd.C k46 _ _ _ _ from (Kd.R_reads' (show Kd.R k46 46 _ _ _ (.slice _ os.length _) os by repeat (first | exact HVo.out | apply Kd.R_alloc | apply Kd.R_drewN))).2.2)); rintro e w9 ⟨rfl, hb⟩)
       obtain ⟨g14, hg14⟩ : ∃ g14, g14 = w8.heap.size := ⟨_, rfl⟩
       rw [← hg14]
       have B14 := Aside0.mk (show w9.heap[g14]? = some (.cells #[.int .i64 gc, .int .i64 gi, .slice Ao os.length ko, .string gd] 69 (0, 0)) from blk_below (by rw [hg14]; repeat (first | exact heap_alloc_new _ _ | apply blk_drewN)) hb)
       have n_B0 := Aside0.mk (show w9.heap[g0]? = some (.cells #[.int .i64 c, .int .i64 i, .slice A0 l0.length c0, .string d] 69 (0, 0)) from blk_below (by repeat (first | exact B0.out | apply blk_alloc | apply blk_drewN)) hb)
       have n_B1 := Aside0.mk (show w9.heap[g1]? = some (.cells #[.int .i64 c, .int .i64 i, .slice A l0.length cc, .string d] 69 (0, 0)) from blk_below (by repeat (first | exact B1.out | apply blk_alloc | apply blk_drewN)) hb)
       have n_B10 := Aside0.mk (show w9.heap[g10]? = some (.cells #[.int .i64 gc, .int .i64 gi, .slice Ac os.length kc, .string gd] 69 (0, 0)) from blk_below (by repeat (first | exact B10.out | apply blk_alloc | apply blk_drewN)) hb)
       have n_B12 := Aside0.mk (show w9.heap[g12]? = some (.cells #[.int .i64 gc, .int .i64 gi, .slice Ad os.length kd, .string gd] 69 (0, 0)) from blk_below (by repeat (first | exact B12.out | apply blk_alloc | apply blk_drewN)) hb)
       have n_HL := Aside0.mk (Kd.R_below (show Kd.R k46 46 _ _ _ _ _ by repeat (first | exact HL.out | apply Kd.R_alloc | apply Kd.R_drewN)) hb)
       have n_HVc := Aside0.mk (Kd.R_below (show Kd.R k46 46 _ _ _ _ _ by repeat (first | exact HVc.out | apply Kd.R_alloc | apply Kd.R_drewN)) hb)
       have n_HVd := Aside0.mk (Kd.R_below (show Kd.R k46 46 _ _ _ _ _ by repeat (first | exact HVd.out | apply Kd.R_alloc | apply Kd.R_drewN)) hb)
       have n_HVo := Aside0.mk (Kd.R_below (show Kd.R k46 46 _ _ _ _ _ by repeat (first | exact HVo.out | apply Kd.R_alloc | apply Kd.R_drewN)) hb)
       have n_HB := Aside0.mk (below_step (by repeat (first | exact HB.out | apply below_alloc | apply pw_below_drewN | apply below_drew1)) hb)
       clear hg14
       clear B0 B1 B10 B12 HL HVc HVd HVo HB hb z0 z1 z2 z3
       have B0 := n_B0
       have B1 := n_B1
       have B10 := n_B10
       have B12 := n_B12
       have HL := n_HL
       have HVc := n_HVc
       have HVd := n_HVd
       have HVo := n_HVo
       have HB := n_HB
       clear n_B0 n_B1 n_B10 n_B12 n_HL n_HVc n_HVd n_HVo n_HB
       obtain ⟨_, _, r2, _, _, _, _, _⟩ := four5 B0.out
       obtain ⟨_, _, y2, _, _, _, _, _⟩ := four5 B1.out
       obtain ⟨_, _, z2, _, _, _, _, _⟩ := four5 B10.out)
    | (go_at_call 38; ((with_reducible refine (kept_calls A cc A0 c0 l0 _ ?k1 ?k2 ?k3 HC0.out ?k4).mono ?_); (case k1 => refine Kd.C_drewN ?_ _; have q_ := (Kd.R_reads' HL.out).2.2; simpa using q_); (case k2 => have q_ := (Kd.R_reads' HL.out).2.1; omega); (case k3 => exact Kd.C_below HR0.out (by repeat (first | exact HB.out | apply below_alloc | apply pw_below_drewN | apply below_drew1))); (case k4 => have := HN.out; omega); rintro e w' ⟨rfl, ⟨nd, rfl⟩⟩))
    | (go_at_call 39; ((with_reducible refine (spoil_calls (.slice Ac os.length kc) os w.heap.size _ HOL.out ?m1 w rfl ?m2).mono ?_); (case m1 => repeat (first | exact HVc.out | apply Kd.R_drewN)); (case m2 => exact (by repeat (first | exact HB.out | apply below_alloc | apply pw_below_drewN | apply below_drew1))); rintro e w10 ⟨rfl, hb, hk⟩)
       have C12 := Aside0.mk (show w10.heap[g12]? = some (.cells #[.int .i64 gc, .int .i64 gi, .slice Ad os.length kd, .string gd] 69 (0, 0)) from blk_kept (by repeat (first | exact B12.out | apply blk_alloc | apply blk_drewN)) hk (fun he => Kd.R_ne HVc.out B12.out (by decide) he))
       have C14 := Aside0.mk (show w10.heap[g14]? = some (.cells #[.int .i64 gc, .int .i64 gi, .slice Ao os.length ko, .string gd] 69 (0, 0)) from blk_kept (by repeat (first | exact B14.out | apply blk_alloc | apply blk_drewN)) hk (fun he => Kd.R_ne HVc.out B14.out (by decide) he))
       have n_HVd := Aside0.mk (Kd.R_kept (show Kd.R k46 46 (w9.drewN _) w.heap.size (fun k => True ∧ some k ≠ (Value.slice Ac os.length kc).ownBlock) (.slice Ad os.length kd) os by repeat (first | exact HVd.out | apply Kd.R_drewN)) hk (fun k h => h.2))
       have n_HVo := Aside0.mk (Kd.R_kept (show Kd.R k46 46 (w9.drewN _) w.heap.size (fun k => True ∧ some k ≠ (Value.slice Ac os.length kc).ownBlock) (.slice Ao os.length ko) os by repeat (first | exact HVo.out | apply Kd.R_drewN)) hk (fun k h => h.2))
       have n_HB := Aside0.mk hb
       clear HB HL HVc HVd HVo B0 B1 B10 B12 B14 hb hk r2 y2 z2
       have HB := n_HB
       have HVd := n_HVd
       have HVo := n_HVo
       clear n_HB n_HVd n_HVo
       obtain ⟨z0, z1, z2, z3, _, _, _, _⟩ := four5 C12.out
       obtain ⟨y0, y1, y2, y3, _, _, _, _⟩ := four5 C14.out)
    | (go_at_call 51; ((with_reducible refine (withylaw0_SamePacket.calls (os.length + 1) gc gi Ad kd os gd gc gi Ao ko os gd true _ ?s21 (Kd.R_reads' HVd.out).2.1 ?s22 (Kd.R_reads' HVo.out).2.1 HSM.out).mono ?_); (case s21 => exact (show Kd.C k46 _ _ _ _ from (Kd.R_reads' (show Kd.R k46 46 _ _ _ (.slice _ os.length _) os by repeat (first | exact HVd.out | apply Kd.R_alloc | apply Kd.R_drewN))).2.2)); (case s22 => exact (show Kd.C k46 _ _ _ _ from (Kd.R_reads' (show Kd.R k46 46 _ _ _ (.slice _ os.length _) os by repeat (first | exact HVo.out | apply Kd.R_alloc | apply Kd.R_drewN))).2.2)); rintro e w11 ⟨rfl, hb⟩)
       have n_HB := Aside0.mk (below_step HB.out hb)
       clear HB hb
       have HB := n_HB
       clear n_HB)
    | (go_at_call 52; ((with_reducible refine (withylaw5_awake.calls 5000 true _ (awake5 5000 (by omega))).mono ?_); rintro e w12 ⟨rfl, hb⟩); have n_HB := Aside0.mk (below_step HB.out hb); clear HB hb; have HB := n_HB; clear n_HB))
  go_ret
  exact ⟨rfl, by repeat (first | exact HB.out | apply below_alloc | apply pw_below_drewN | apply below_drew1)⟩
end Go.Proofs.Ytbdlkcgaobkdcaa.P
end

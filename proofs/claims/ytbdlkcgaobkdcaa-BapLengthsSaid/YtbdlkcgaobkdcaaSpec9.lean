/- Plain laws on datagrams as bytes: what the written bapmsg.Get comes to, and that there and back is the same; no program in sight beyond that function's own Lean function. -/
import Derived.Test.YtbdlkcgaobkdcaaSpec5
import Derived.Test.YtbdlkcgaobkdcaaHBap
import Derived.Test.YtbdlkcgaobkdcaaPx27
set_option linter.unusedVariables false
set_option linter.unusedSimpArgs false
namespace Go.Proofs.Ytbdlkcgaobkdcaa.P
open Go.RowKit Go.Proofs.YtbdlkcgaobkdcaaW.PrintWords Go.Proofs.YtbdlkcgaobkdcaaW.PrintLast

theorem bt_wrap (s : ByteArray) (i : Int) : wrap64 (bt s i) = bt s i := by
  have := bt_range s i
  exact wrap64_of (by omega) (by omega)
theorem or_bytes (x y : Int) (hx : 0 ≤ x ∧ x ≤ 255) (hy : 0 ≤ y ∧ y ≤ 255) : Go.bits .or .i64 (wrap64 (x * 256)) y = x * 256 + y := by
  obtain ⟨a, rfl⟩ := Int.eq_ofNat_of_zero_le hx.1
  obtain ⟨b, rfl⟩ := Int.eq_ofNat_of_zero_le hy.1
  rw [wrap64_of (by omega) (by omega), show (a : Int) * 256 = ((a * 256 : Nat) : Int) by omega, or_nat _ _ (by omega) (by omega)]
  have e := Nat.shiftLeft_add_eq_or_of_lt (show b < 2 ^ 8 by omega) a
  rw [Nat.shiftLeft_eq] at e
  have e' : a * 256 + b = a * 256 ||| b := e
  rw [← e']
  omega
theorem may_eq (c i : Int) : bapmsg_head_may.f c i = some (mayB c i) := by
  unfold bapmsg_head_may.f mayB
  by_cases h1 : 1 ≤ c
  · by_cases h2 : c ≤ 8
    · by_cases h3 : 0 ≤ i
      · simp [h1, h2, h3]
      · simp [h1, h2, h3]
    · simp [h1, h2]
  · simp [h1]
theorem resp_eq (c i : Int) (hc : 0 ≤ c) : bapmsg_head_response.f c i = some (c % 2 == 0) := by
  unfold bapmsg_head_response.f
  rw [Int.tmod_eq_emod_of_nonneg hc]
def getB (s : ByteArray) : Int × Int × Int × List S46 × Int :=
  if s.size < 4 then (0, 0, 0, [], 900)
  else if mayB (bt s 0) (bt s 1) = false ∨ bt s 2 * 256 + bt s 3 < (if (bt s 0 % 2 == 0) = true then 5 else 4) ∨ (s.size : Int) < bt s 2 * 256 + bt s 3 then (0, 0, 0, [], 900)
  else if 2048 < bt s 2 * 256 + bt s 3 then (0, 0, 0, [], 901)
  else if (getS (s.extract (if (bt s 0 % 2 == 0) = true then 5 else 4) (bt s 2 * 256 + bt s 3).toNat)).2 = 0 then
    (bt s 0, bt s 1, (if (bt s 0 % 2 == 0) = true then bt s 4 else 0), (getS (s.extract (if (bt s 0 % 2 == 0) = true then 5 else 4) (bt s 2 * 256 + bt s 3).toNat)).1, 0)
  else (0, 0, 0, [], 900)
theorem getB_j2 (k : Nat) (hk : 2049 < k) (s : ByteArray) (n least c i a : Int) (h0 : 0 ≤ least) (h1 : least ≤ n) (h2 : n ≤ (s.size : Int)) :
    bapmsg_Get.j2 k s n least c i a = some (if 2048 < n then (0, 0, 0, [], 901) else if (getS (s.extract least.toNat n.toNat)).2 = 0 then (c, i, a, (getS (s.extract least.toNat n.toNat)).1, 0) else (0, 0, 0, [], 900)) := by
  obtain ⟨k, rfl⟩ : ∃ m, k = m + 1 := ⟨k - 1, by omega⟩
  simp only [bapmsg_Get.j2]
  by_cases c1 : 2048 < n
  · rw [if_pos (by omega), if_pos c1]
  · rw [if_neg (by omega), if_pos h0, if_pos h1, if_pos h2, if_neg c1, get_eq _ k (by omega)]
    simp only [Option.bind_some]
    split <;> rfl
theorem getB_j1 (k : Nat) (hk : 2050 < k) (s : ByteArray) (n least c i : Int) (hc : 0 ≤ c) (h0 : least = if (c % 2 == 0) = true then 5 else 4) (h1 : least ≤ n) (h2 : n ≤ (s.size : Int)) :
    bapmsg_Get.j1 k s n least false c i 0 = some (if 2048 < n then (0, 0, 0, [], 901) else if (getS (s.extract least.toNat n.toNat)).2 = 0 then (c, i, (if (c % 2 == 0) = true then bt s 4 else 0), (getS (s.extract least.toNat n.toNat)).1, 0) else (0, 0, 0, [], 900)) := by
  obtain ⟨k, rfl⟩ : ∃ m, k = m + 1 := ⟨k - 1, by omega⟩
  simp only [bapmsg_Get.j1]
  rw [if_neg (by decide), resp_eq c i hc]
  simp only [Option.bind_some]
  cases hr : (c % 2 == 0) with
  | true =>
    rw [hr, if_pos rfl] at h0
    rw [if_pos rfl, if_pos (by omega), bt_wrap, getB_j2 k (by omega) s n least c i _ (by omega) h1 h2]
    simp
  | false =>
    rw [hr, if_neg (by decide)] at h0
    rw [if_neg (by decide), getB_j2 k (by omega) s n least c i _ (by omega) h1 h2]
    simp
theorem getB_j1_bad (k : Nat) (hk : 0 < k) (s : ByteArray) (n least c i : Int) : bapmsg_Get.j1 k s n least true c i 0 = some (0, 0, 0, [], 900) := by
  obtain ⟨k, rfl⟩ : ∃ m, k = m + 1 := ⟨k - 1, by omega⟩
  simp only [bapmsg_Get.j1]
  rfl
theorem getB_j0 (k : Nat) (hk : 2051 < k) (s : ByteArray) (n least c i : Int) (hc : 0 ≤ c) (h0 : least = if (c % 2 == 0) = true then 5 else 4) :
    bapmsg_Get.j0 k s n least c i 0 = some (if mayB c i = false ∨ n < least ∨ (s.size : Int) < n then (0, 0, 0, [], 900) else if 2048 < n then (0, 0, 0, [], 901) else if (getS (s.extract least.toNat n.toNat)).2 = 0 then (c, i, (if (c % 2 == 0) = true then bt s 4 else 0), (getS (s.extract least.toNat n.toNat)).1, 0) else (0, 0, 0, [], 900)) := by
  obtain ⟨k, rfl⟩ : ∃ m, k = m + 1 := ⟨k - 1, by omega⟩
  simp only [bapmsg_Get.j0]
  rw [may_eq]
  simp only [Option.bind_some]
  cases hm : mayB c i with
  | false => rw [if_neg (by decide), getB_j1_bad k (by omega), if_pos (.inl rfl)]
  | true =>
    rw [if_pos rfl]
    by_cases c1 : n < least
    · rw [if_pos c1, getB_j1_bad k (by omega), if_pos (.inr (.inl c1))]
    · rw [if_neg c1]
      by_cases c2 : (s.size : Int) < n
      · rw [decide_eq_true (show n > (s.size : Int) by omega), getB_j1_bad k (by omega), if_pos (.inr (.inr c2))]
      · have hh : ¬ (true = false ∨ n < least ∨ (s.size : Int) < n) := by
          rintro (h | h | h)
          · cases h
          · exact c1 h
          · exact c2 h
        rw [if_neg hh, decide_eq_false (show ¬ n > (s.size : Int) by omega), getB_j1 k (by omega) s n least c i hc h0 (by omega) (by omega)]
theorem getB_eq (s : ByteArray) (k : Nat) (hk : 2051 < k) : bapmsg_Get.f k s = some (getB s) := by
  unfold bapmsg_Get.f getB
  by_cases c0 : s.size < 4
  · rw [if_pos (by omega), if_pos c0]
  · have b0 := bt_range s 0
    have b2 := bt_range s 2
    have b3 := bt_range s 3
    rw [if_neg (by omega), if_pos (by omega), if_pos (by omega), if_pos (by omega), if_pos (by omega), if_neg c0, bt_wrap, bt_wrap, bt_wrap, bt_wrap, or_bytes _ _ b2 b3, resp_eq _ _ b0.1]
    simp only [Option.bind_some]
    cases hr : (bt s 0 % 2 == 0) with
    | true =>
      rw [if_pos rfl, getB_j0 k hk s _ (4 + 1) _ _ b0.1 (by rw [hr]; rfl), hr]
      rfl
    | false =>
      rw [if_neg (by decide), getB_j0 k hk s _ 4 _ _ b0.1 (by rw [hr]; rfl), hr]
      rfl
/-! ### there and back -/
theorem mayB_of {c i : Int} (h : mayB c i = true) : 1 ≤ c ∧ c ≤ 8 ∧ 0 ≤ i ∧ i ≤ 255 := by
  unfold mayB at h
  simp at h
  exact h
theorem mayB_mk {c i : Int} (h0 : 1 ≤ c) (h1 : c ≤ 8) (h2 : 0 ≤ i) (h3 : i ≤ 255) : mayB c i = true := by
  unfold mayB
  simp [h0, h1, h2, h3]
theorem mayB_no {c i : Int} (h : c < 1 ∨ 8 < c) : mayB c i = false := by
  unfold mayB
  rcases h with h | h
  · rw [decide_eq_false (by omega)]; rfl
  · rw [decide_eq_false (show ¬ c ≤ 8 by omega)]; simp
/-- The answer's byte: of responses alone. -/
def ansL (c a : Int) : List UInt8 := if (c % 2 == 0) = true then [UInt8.ofNat a.toNat] else []
theorem bap_parts {c i a : Int} {os : List S46} {s : ByteArray} (h : bapS c i a os = (s, 0)) :
    mayB c i = true ∧ 0 ≤ a ∧ a ≤ 255 ∧ ((c % 2 == 0) = false → a = 0) ∧ (putS os).2 = 0 ∧ (ansL c a).length + (putS os).1.size ≤ 2044 ∧
      s = mk (head4 c i ((4 + (((ansL c a).length : Int) + ((putS os).1.size : Int))) / 256) ((4 + (((ansL c a).length : Int) + ((putS os).1.size : Int))) % 256) (ansL c a ++ (putS os).1.data.toList)) := by
  unfold bapS at h
  by_cases c1 : mayB c i = false ∨ a < 0 ∨ 255 < a ∨ ((c % 2 == 0) = false ∧ a ≠ 0) ∨ (putS os).2 ≠ 0
  · rw [if_pos c1] at h; simp at h
  · rw [if_neg c1] at h
    have hm : mayB c i = true := by
      cases hm : mayB c i with
      | true => rfl
      | false => exact absurd (.inl hm) c1
    have h0 : 0 ≤ a := by
      apply Classical.byContradiction
      intro hh
      exact c1 (.inr (.inl (by omega)))
    have h1 : a ≤ 255 := by
      apply Classical.byContradiction
      intro hh
      exact c1 (.inr (.inr (.inl (by omega))))
    have h2 : (c % 2 == 0) = false → a = 0 := fun hc => by
      apply Classical.byContradiction
      intro hh
      exact c1 (.inr (.inr (.inr (.inl ⟨hc, hh⟩))))
    have h3 : (putS os).2 = 0 := by
      apply Classical.byContradiction
      intro hh
      exact c1 (.inr (.inr (.inr (.inr hh))))
    refine ⟨hm, h0, h1, h2, h3, ?_⟩
    unfold ansL
    cases hr : (c % 2 == 0) with
    | true =>
      rw [hr, if_pos rfl] at h
      rw [if_pos rfl]
      by_cases c3 : 2048 < 4 + (1 + (putS os).1.size)
      · rw [if_pos c3] at h; simp at h
      · rw [if_neg c3, head4_eq, Prod.mk.injEq] at h
        refine ⟨by simp; omega, ?_⟩
        rw [← h.1, ByteArray.data_append, Array.toList_append]
        rfl
    | false =>
      rw [hr, if_neg (by decide)] at h
      rw [if_neg (by decide)]
      by_cases c3 : 2048 < 4 + (putS os).1.size
      · rw [if_pos c3] at h; simp at h
      · rw [if_neg c3, head4_eq, Prod.mk.injEq] at h
        refine ⟨by simp; omega, ?_⟩
        rw [← h.1]
        simp
theorem getB_head (a b c d : Int) (t : List UInt8) (ha : 0 ≤ a ∧ a ≤ 255) (hb : 0 ≤ b ∧ b ≤ 255) (hc : 0 ≤ c ∧ c ≤ 255) (hd : 0 ≤ d ∧ d ≤ 255) (n : Nat) (hn : c * 256 + d = (n : Int) + 4) :
    getB (mk (head4 a b c d t)) = if mayB a b = false ∨ n < (if (a % 2 == 0) = true then 1 else 0) ∨ t.length < n then (0, 0, 0, [], 900) else if 2044 < n then (0, 0, 0, [], 901)
      else if (getS (mk ((t.take n).drop (if (a % 2 == 0) = true then 1 else 0)))).2 = 0 then (a, b, (if (a % 2 == 0) = true then ((t.getD 0 0).toNat : Int) else 0), (getS (mk ((t.take n).drop (if (a % 2 == 0) = true then 1 else 0)))).1, 0) else (0, 0, 0, [], 900) := by
  unfold getB
  rw [head4_0 ha.1 ha.2, head4_1 hb.1 hb.2, head4_2 hc.1 hc.2, head4_3 hd.1 hd.2, size_mk, head4_length, hn, if_neg (by omega), show ((n : Int) + 4).toNat = n + 4 by omega]
  have h4 : bt (mk (head4 a b c d t)) 4 = ((t.getD 0 0).toNat : Int) := bt_mk (head4 a b c d t) 4
  have he : ∀ q : Nat, (mk (head4 a b c d t)).extract (q + 4) (n + 4) = mk ((t.take n).drop q) := fun q => by
    rw [extract_mk]
    have : (head4 a b c d t).take (n + 4) = head4 a b c d (t.take n) := rfl
    rw [this]
    rfl
  cases hr : (a % 2 == 0) with
  | true =>
    simp only [if_true]
    rw [h4, show (5 : Nat) = 1 + 4 from rfl, he 1]
    by_cases c1 : mayB a b = false ∨ n < 1 ∨ t.length < n
    · rw [if_pos c1, if_pos (c1.imp_right (fun h => h.imp (fun h => by omega) (fun h => by omega)))]
    · rw [if_neg c1, if_neg (fun hh => c1 (hh.imp_right (fun h => h.imp (fun h => by omega) (fun h => by omega))))]
      by_cases c2 : 2044 < n
      · rw [if_pos c2, if_pos (by omega)]
      · rw [if_neg c2, if_neg (by omega)]
  | false =>
    simp only [Bool.false_eq_true, if_false]
    rw [show (4 : Nat) = 0 + 4 from rfl, he 0]
    by_cases c1 : mayB a b = false ∨ n < 0 ∨ t.length < n
    · rw [if_pos c1, if_pos (c1.imp_right (fun h => h.imp (fun h => by omega) (fun h => by omega)))]
    · rw [if_neg c1, if_neg (fun hh => c1 (hh.imp_right (fun h => h.imp (fun h => by omega) (fun h => by omega))))]
      by_cases c2 : 2044 < n
      · rw [if_pos c2, if_pos (by omega)]
      · rw [if_neg c2, if_neg (by omega)]
theorem getB_short (a b c d : Int) (t : List UInt8) (hc : 0 ≤ c ∧ c ≤ 255) (hd : 0 ≤ d ∧ d ≤ 255) (hn : c * 256 + d < 4) : getB (mk (head4 a b c d t)) = (0, 0, 0, [], 900) := by
  unfold getB
  rw [size_mk, head4_length, head4_2 hc.1 hc.2, head4_3 hd.1 hd.2, if_neg (by omega), if_pos (.inr (.inl (by split <;> omega)))]
theorem bap_back {c i a : Int} {os : List S46} {s : ByteArray} (h : bapS c i a os = (s, 0)) (more : ByteArray) : getB (s ++ more) = (c, i, a, os, 0) := by
  obtain ⟨h1, h2, h3, h4, h5, h6, rfl⟩ := bap_parts h
  obtain ⟨m1, m2, m3, m4⟩ := mayB_of h1
  have hm : ∀ l : List UInt8, mk l ++ more = mk (l ++ more.data.toList) := fun l => append_mk l more.data.toList
  have hp := data_length (putS os).1
  have hT : ((ansL c a ++ (putS os).1.data.toList) ++ more.data.toList).take ((ansL c a).length + (putS os).1.size) = ansL c a ++ (putS os).1.data.toList := by
    rw [List.take_append_of_le_length (by rw [List.length_append]; omega), List.take_of_length_le (by rw [List.length_append]; omega)]
  rw [hm, head4_append, getB_head c i _ _ _ ⟨by omega, by omega⟩ ⟨m3, m4⟩ (by omega) (by omega) ((ansL c a).length + (putS os).1.size) (by omega), hT]
  have hl : ¬ ((ansL c a ++ (putS os).1.data.toList) ++ more.data.toList).length < (ansL c a).length + (putS os).1.size := by rw [List.length_append, List.length_append]; omega
  have e : mk (putS os).1.data.toList = (putS os).1 := rfl
  rcases hp2 : putS os with ⟨p, e2⟩
  rw [hp2] at h5 e h6 hl
  simp only at h5 e h6 hl
  subst h5
  have hg := (get_put os p hp2).1
  unfold ansL at *
  cases hr : (c % 2 == 0) with
  | true =>
    rw [hr] at hl h6
    simp only [if_true] at hl h6 ⊢
    rw [if_neg (by rintro (h | h | h); rw [h1] at h; cases h; simp at h; exact hl h), if_neg (by omega)]
    have ed : ([UInt8.ofNat a.toNat] ++ p.data.toList).drop 1 = p.data.toList := rfl
    have ea : (([UInt8.ofNat a.toNat] ++ p.data.toList) ++ more.data.toList).getD 0 0 = UInt8.ofNat a.toNat := rfl
    rw [ed, ea, e, hg, byte_of h2 h3]
    rfl
  | false =>
    rw [hr] at hl h6
    simp only [Bool.false_eq_true, if_false] at hl h6 ⊢
    rw [if_neg (by rintro (h | h | h); rw [h1] at h; cases h; simp at h; exact hl h), if_neg (by omega), List.drop_zero, List.nil_append, e, hg, h4 hr]
    rfl
theorem bap_size {c i a : Int} {os : List S46} {s : ByteArray} (h : bapS c i a os = (s, 0)) : 4 ≤ s.size ∧ s.size ≤ 2048 := by
  obtain ⟨h1, h2, h3, h4, h5, h6, rfl⟩ := bap_parts h
  have hp := data_length (putS os).1
  rw [size_mk, head4_length, List.length_append]
  omega
theorem bap_cut {c i a : Int} {os : List S46} {s : ByteArray} (h : bapS c i a os = (s, 0)) (m : Nat) (hm : m + 1 = s.size) : (getB (s.extract 0 m)).2.2.2.2 = 900 := by
  obtain ⟨h1, h2, h3, h4, h5, h6, rfl⟩ := bap_parts h
  obtain ⟨m1, m2, m3, m4⟩ := mayB_of h1
  have hp := data_length (putS os).1
  rw [size_mk, head4_length, List.length_append] at hm
  rw [extract_mk, List.drop_zero]
  generalize hA : (ansL c a).length = z at *
  generalize hT : ansL c a ++ (putS os).1.data.toList = T at *
  have hTl : T.length = z + (putS os).1.size := by rw [← hT, List.length_append]; omega
  by_cases hs : m < 4
  · unfold getB
    rw [size_mk, List.length_take, if_pos (by omega)]
  · have e : (head4 c i ((4 + ((z : Int) + ((putS os).1.size : Int))) / 256) ((4 + ((z : Int) + ((putS os).1.size : Int))) % 256) T).take m = head4 c i ((4 + ((z : Int) + ((putS os).1.size : Int))) / 256) ((4 + ((z : Int) + ((putS os).1.size : Int))) % 256) (T.take (m - 4)) := by
      obtain ⟨q, rfl⟩ : ∃ q, m = q + 4 := ⟨m - 4, by omega⟩
      rfl
    rw [e, getB_head c i _ _ _ ⟨by omega, by omega⟩ ⟨m3, m4⟩ (by omega) (by omega) (z + (putS os).1.size) (by omega), if_pos (.inr (.inr (by rw [List.length_take]; omega)))]
theorem bap_err {c i a : Int} {os : List S46} (h : (bapS c i a os).2 ≠ 0) : (bapS c i a os).1 = ⟨#[]⟩ := by
  unfold bapS at h ⊢
  split
  · rfl
  · rename_i c1
    rw [if_neg c1] at h
    split
    · rename_i c2
      rw [if_pos c2] at h
      split
      · rfl
      · rename_i c3
        rw [if_neg c3] at h
        exact absurd rfl h
    · rename_i c2
      rw [if_neg c2] at h
      split
      · rfl
      · rename_i c3
        rw [if_neg c3] at h
        exact absurd rfl h
#print axioms getB_eq
#print axioms bap_back
#print axioms bap_cut
end Go.Proofs.Ytbdlkcgaobkdcaa.P

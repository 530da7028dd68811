/- Plain laws on packets as bytes: there and back is the same, whatever stands behind; one byte fewer is refused; no program in sight. -/
import Derived.Test.YtbdlkcgaobkdcaaHGet
set_option linter.unusedVariables false
set_option linter.unusedSimpArgs false
namespace Go.Proofs.Ytbdlkcgaobkdcaa.P
open Go.RowKit Go.Proofs.YtbdlkcgaobkdcaaW.PrintWords Go.Proofs.YtbdlkcgaobkdcaaW.PrintLast

theorem octB_of {c : Int} (h : octB c = true) : 0 ≤ c ∧ c ≤ 255 := by
  unfold octB at h
  simp at h
  exact h
theorem octB_mk {c : Int} (h0 : 0 ≤ c) (h1 : c ≤ 255) : octB c = true := by
  unfold octB
  simp [h0, h1]
theorem octB_no {c : Int} (h : c < 0 ∨ 255 < c) : octB c = false := by
  unfold octB
  rcases h with h | h
  · rw [decide_eq_false (by omega)]; rfl
  · rw [decide_eq_false (show ¬ c ≤ 255 by omega)]; simp
theorem confB_of {c : Int} (h : confB c = true) : 1 ≤ c ∧ c ≤ 4 := by
  unfold confB at h
  simp at h
  exact h
theorem confB_mk {c : Int} (h0 : 1 ≤ c) (h1 : c ≤ 4) : confB c = true := by
  unfold confB
  simp [h0, h1]
theorem confB_no {c : Int} (h : c < 1 ∨ 4 < c) : confB c = false := by
  unfold confB
  rcases h with h | h
  · rw [decide_eq_false (by omega)]; rfl
  · rw [decide_eq_false (show ¬ c ≤ 4 by omega)]; simp
theorem empty_of {d : ByteArray} (h : d.size = 0) : d = ⟨#[]⟩ := by
  apply bytes_ext
  exact List.eq_nil_of_length_eq_zero (by rw [data_length]; exact h)
theorem ne_nil_of {d : ByteArray} (h : 0 < d.size) : ¬ d.toList = [] := by
  intro e
  rw [toList_eq] at e
  have := data_length d
  rw [e] at this
  simp at this
  omega
theorem toList_nil_iff (d : ByteArray) : d.toList = [] ↔ d.size = 0 := by
  rw [toList_eq, ← data_length]
  exact List.length_eq_zero_iff.symm
/-- A head of four bytes, and what stands behind. -/
def head4 (a b c d : Int) (t : List UInt8) : List UInt8 := UInt8.ofNat a.toNat :: UInt8.ofNat b.toNat :: UInt8.ofNat c.toNat :: UInt8.ofNat d.toNat :: t
theorem head4_eq (a b c d : Int) (t : ByteArray) : strOfNums [a, b, c, d] ++ t = mk (head4 a b c d t.data.toList) := by
  apply bytes_ext
  rw [ByteArray.data_append, Array.toList_append]
  rfl
theorem head4_append (a b c d : Int) (t u : List UInt8) : head4 a b c d t ++ u = head4 a b c d (t ++ u) := rfl
theorem head4_length (a b c d : Int) (t : List UInt8) : (head4 a b c d t).length = t.length + 4 := rfl
theorem byte_of {x : Int} (h0 : 0 ≤ x) (h1 : x ≤ 255) : ((UInt8.ofNat x.toNat).toNat : Int) = x := by
  rw [u8_of _ (by omega)]
  omega
theorem head4_0 {a b c d : Int} {t : List UInt8} (h0 : 0 ≤ a) (h1 : a ≤ 255) : bt (mk (head4 a b c d t)) 0 = a := (bt_mk _ 0).trans (byte_of h0 h1)
theorem head4_1 {a b c d : Int} {t : List UInt8} (h0 : 0 ≤ b) (h1 : b ≤ 255) : bt (mk (head4 a b c d t)) 1 = b := (bt_mk _ 1).trans (byte_of h0 h1)
theorem head4_2 {a b c d : Int} {t : List UInt8} (h0 : 0 ≤ c) (h1 : c ≤ 255) : bt (mk (head4 a b c d t)) 2 = c := (bt_mk _ 2).trans (byte_of h0 h1)
theorem head4_3 {a b c d : Int} {t : List UInt8} (h0 : 0 ≤ d) (h1 : d ≤ 255) : bt (mk (head4 a b c d t)) 3 = d := (bt_mk _ 3).trans (byte_of h0 h1)
theorem head4_extract (a b c d : Int) (t : List UInt8) (n : Nat) : (mk (head4 a b c d t)).extract 4 (n + 4) = mk (t.take n) := by
  rw [extract_mk]
  rfl
/-- What Get answers at a head and what stands behind. -/
theorem getC_head (a b c d : Int) (t : List UInt8) (ha : 0 ≤ a ∧ a ≤ 255) (hb : 0 ≤ b ∧ b ≤ 255) (hc : 0 ≤ c ∧ c ≤ 255) (hd : 0 ≤ d ∧ d ≤ 255) (n : Nat) (hn : c * 256 + d = (n : Int) + 4) :
    getC (mk (head4 a b c d t)) = if t.length < n then (0, 0, [], ⟨#[]⟩, 501) else if 2044 < n then (0, 0, [], ⟨#[]⟩, 503) else if confB a = false then (a, b, [], mk (t.take n), 0)
      else if (getS (mk (t.take n))).2 = 0 then (a, b, (getS (mk (t.take n))).1, ⟨#[]⟩, 0) else (0, 0, [], ⟨#[]⟩, 502) := by
  unfold getC
  rw [head4_0 ha.1 ha.2, head4_1 hb.1 hb.2, head4_2 hc.1 hc.2, head4_3 hd.1 hd.2, size_mk, head4_length, hn, if_neg (by omega), show ((n : Int) + 4).toNat = n + 4 by omega, head4_extract]
  by_cases c1 : t.length < n
  · rw [if_pos c1, if_pos (.inr (by omega))]
  · rw [if_neg c1, if_neg (by omega)]
    by_cases c2 : 2044 < n
    · rw [if_pos c2, if_pos (by omega)]
    · rw [if_neg c2, if_neg (by omega)]
theorem getC_short (a b c d : Int) (t : List UInt8) (hc : 0 ≤ c ∧ c ≤ 255) (hd : 0 ≤ d ∧ d ≤ 255) (hn : c * 256 + d < 4) : getC (mk (head4 a b c d t)) = (0, 0, [], ⟨#[]⟩, 501) := by
  unfold getC
  rw [size_mk, head4_length, head4_2 hc.1 hc.2, head4_3 hd.1 hd.2, if_neg (by omega), if_pos (.inl hn)]

/-- A packet that is written: what is known of it. -/
theorem ctl_parts {c i : Int} {os : List S46} {d s : ByteArray} (h : ctlS c i os d = (s, 0)) :
    octB c = true ∧ octB i = true ∧ (putS os).2 = 0 ∧ (confB c = false → os = []) ∧ (confB c = true → d = ⟨#[]⟩) ∧ (putS os).1.size + d.size ≤ 2044 ∧
      s = mk (head4 c i ((4 + (((putS os).1.size : Int) + (d.size : Int))) / 256) ((4 + (((putS os).1.size : Int) + (d.size : Int))) % 256) ((putS os).1.data.toList ++ d.data.toList)) := by
  unfold ctlS at h
  by_cases c1 : octB c = false ∨ octB i = false
  · rw [if_pos c1] at h; simp at h
  · rw [if_neg c1] at h
    by_cases c2 : (putS os).2 ≠ 0 ∨ (confB c = false ∧ 0 < os.length) ∨ (confB c = true ∧ 0 < d.size)
    · rw [if_pos c2] at h; simp at h
    · rw [if_neg c2] at h
      by_cases c3 : 2048 < 4 + ((putS os).1.size + d.size)
      · rw [if_pos c3] at h; simp at h
      · rw [if_neg c3, head4_eq, Prod.mk.injEq] at h
        refine ⟨?_, ?_, ?_, fun hc => ?_, fun hc => ?_, by omega, ?_⟩
        · cases ho : octB c with
          | true => rfl
          | false => exact absurd (.inl ho) c1
        · cases ho : octB i with
          | true => rfl
          | false => exact absurd (.inr ho) c1
        · apply Classical.byContradiction
          intro hh
          exact c2 (.inl hh)
        · apply List.eq_nil_of_length_eq_zero
          apply Classical.byContradiction
          intro hh
          exact c2 (.inr (.inl ⟨hc, by omega⟩))
        · apply empty_of
          apply Classical.byContradiction
          intro hh
          exact c2 (.inr (.inr ⟨hc, by omega⟩))
        · rw [← h.1, ByteArray.data_append, Array.toList_append]
theorem putS_nil : putS [] = (⟨#[]⟩, 0) := rfl
/-- There and back, whatever stands behind. -/
theorem ctl_back {c i : Int} {os : List S46} {d s : ByteArray} (h : ctlS c i os d = (s, 0)) (more : ByteArray) : getC (s ++ more) = (c, i, os, d, 0) := by
  obtain ⟨h1, h2, h3, h4, h5, h6, rfl⟩ := ctl_parts h
  have hm : ∀ l : List UInt8, mk l ++ more = mk (l ++ more.data.toList) := fun l => append_mk l more.data.toList
  have hp := data_length (putS os).1
  have hd := data_length d
  rw [hm, head4_append, getC_head c i _ _ _ (octB_of h1) (octB_of h2) (by omega) (by omega) ((putS os).1.size + d.size) (by omega), if_neg (by rw [List.length_append, List.length_append]; omega), if_neg (by omega)]
  have ht : (((putS os).1.data.toList ++ d.data.toList) ++ more.data.toList).take ((putS os).1.size + d.size) = (putS os).1.data.toList ++ d.data.toList := by
    rw [List.take_append_of_le_length (by rw [List.length_append]; omega), List.take_of_length_le (by rw [List.length_append]; omega)]
  rw [ht]
  cases hc : confB c with
  | false =>
    obtain rfl := h4 hc
    rw [if_pos rfl]
    rfl
  | true =>
    obtain rfl := h5 hc
    rw [if_neg (by decide)]
    have e : mk ((putS os).1.data.toList ++ (⟨#[]⟩ : ByteArray).data.toList) = (putS os).1 := by
      apply bytes_ext
      simp [data_mk]
    rcases hp2 : putS os with ⟨p, e2⟩
    rw [hp2] at h3 e
    simp only at h3 e
    subst h3
    rw [e, (get_put os p hp2).1]
    rfl
theorem ctl_size {c i : Int} {os : List S46} {d s : ByteArray} (h : ctlS c i os d = (s, 0)) : 4 ≤ s.size ∧ s.size ≤ 2048 := by
  obtain ⟨h1, h2, h3, h4, h5, h6, rfl⟩ := ctl_parts h
  have hp := data_length (putS os).1
  have hd := data_length d
  rw [size_mk, head4_length, List.length_append]
  omega
/-- One byte fewer is refused. -/
theorem ctl_cut {c i : Int} {os : List S46} {d s : ByteArray} (h : ctlS c i os d = (s, 0)) (m : Nat) (hm : m + 1 = s.size) : (getC (s.extract 0 m)).2.2.2.2 = 500 ∨ (getC (s.extract 0 m)).2.2.2.2 = 501 := by
  obtain ⟨h1, h2, h3, h4, h5, h6, rfl⟩ := ctl_parts h
  have hp := data_length (putS os).1
  have hd := data_length d
  rw [size_mk, head4_length, List.length_append] at hm
  rw [extract_mk, List.drop_zero]
  generalize hT : (putS os).1.data.toList ++ d.data.toList = T at *
  have hTl : T.length = (putS os).1.size + d.size := by rw [← hT, List.length_append]; omega
  by_cases hs : m < 4
  · left
    unfold getC
    rw [size_mk, List.length_take, if_pos (by omega)]
  · right
    have e : (head4 c i ((4 + (((putS os).1.size : Int) + (d.size : Int))) / 256) ((4 + (((putS os).1.size : Int) + (d.size : Int))) % 256) T).take m = head4 c i ((4 + (((putS os).1.size : Int) + (d.size : Int))) / 256) ((4 + (((putS os).1.size : Int) + (d.size : Int))) % 256) (T.take (m - 4)) := by
      obtain ⟨q, rfl⟩ : ∃ q, m = q + 4 := ⟨m - 4, by omega⟩
      rfl
    rw [e, getC_head c i _ _ _ (octB_of h1) (octB_of h2) (by omega) (by omega) ((putS os).1.size + d.size) (by omega), if_pos (by rw [List.length_take]; omega)]
theorem ctl_err {c i : Int} {os : List S46} {d : ByteArray} (h : (ctlS c i os d).2 ≠ 0) : (ctlS c i os d).1 = ⟨#[]⟩ := by
  unfold ctlS at h ⊢
  by_cases c1 : octB c = false ∨ octB i = false
  · rw [if_pos c1]
  · rw [if_neg c1] at h ⊢
    by_cases c2 : (putS os).2 ≠ 0 ∨ (confB c = false ∧ 0 < os.length) ∨ (confB c = true ∧ 0 < d.size)
    · rw [if_pos c2]
    · rw [if_neg c2] at h ⊢
      by_cases c3 : 2048 < 4 + ((putS os).1.size + d.size)
      · rw [if_pos c3]
      · rw [if_neg c3] at h
        exact absurd rfl h
theorem ctl_ok_of {c i : Int} {os : List S46} {d : ByteArray} (h1 : octB c = true) (h2 : octB i = true) (h3 : (putS os).2 = 0) (h4 : confB c = false → os = []) (h5 : confB c = true → d = ⟨#[]⟩) (h6 : (putS os).1.size + d.size ≤ 2044) :
    ctlS c i os d = (mk (head4 c i ((4 + (((putS os).1.size : Int) + (d.size : Int))) / 256) ((4 + (((putS os).1.size : Int) + (d.size : Int))) % 256) ((putS os).1.data.toList ++ d.data.toList)), 0) := by
  unfold ctlS
  rw [if_neg (by rw [h1, h2]; simp), if_neg, if_neg (by omega), head4_eq, ByteArray.data_append, Array.toList_append]
  rintro (h | ⟨ha, hb⟩ | ⟨ha, hb⟩)
  · exact h h3
  · rw [h4 ha] at hb; simp at hb
  · rw [h5 ha] at hb; exact absurd hb (by decide)
#print axioms ctl_back
#print axioms ctl_cut
end Go.Proofs.Ytbdlkcgaobkdcaa.P

/- Plain laws on options as bytes: what the written loops of opts.Get, SameOpts come to, and that there and back is the same; no program in sight beyond the loops' own functions. -/
import Derived.Test.YtbdlkcgaobkdcaaPx3
import Derived.Test.YtbdlkcgaobkdcaaPx4
import Derived.Test.YtbdlkcgaobkdcaaHPut
import Derived.Test.YtbdlkcgaobkdcaaMask
set_option linter.unusedVariables false
set_option linter.unusedSimpArgs false
namespace Go.Proofs.Ytbdlkcgaobkdcaa.P
open Go.RowKit Go.Proofs.YtbdlkcgaobkdcaaW.PrintWords Go.Proofs.YtbdlkcgaobkdcaaW.PrintLast

/-! ### bytes -/
def mk (l : List UInt8) : ByteArray := ⟨l.toArray⟩
theorem mk_data (s : ByteArray) : mk s.data.toList = s := rfl
theorem data_mk (l : List UInt8) : (mk l).data.toList = l := rfl
theorem size_mk (l : List UInt8) : (mk l).size = l.length := rfl
theorem size_eq (s : ByteArray) : s.data.toList.length = s.size := data_length s
theorem toList_mk (l : List UInt8) : (mk l).toList = l := by rw [Lib.toList_data]; rfl
theorem toList_eq (s : ByteArray) : s.toList = s.data.toList := Lib.toList_data s
theorem mk_inj {a b : List UInt8} (h : mk a = mk b) : a = b := by
  have := congrArg (fun s : ByteArray => s.data.toList) h
  exact this
theorem bytes_ext {a b : ByteArray} (h : a.data.toList = b.data.toList) : a = b := by
  rw [← mk_data a, ← mk_data b, h]
theorem append_mk (a b : List UInt8) : mk a ++ mk b = mk (a ++ b) := by
  apply bytes_ext
  rw [ByteArray.data_append, Array.toList_append]
  rfl
theorem extract_mk (l : List UInt8) (a b : Nat) : (mk l).extract a b = mk ((l.take b).drop a) := by
  apply bytes_ext
  rw [Lib.extract_data, data_mk, data_mk, List.drop_take]
theorem bt_mk (l : List UInt8) (i : Nat) : bt (mk l) (i : Int) = ((l.getD i 0).toNat : Int) := by
  unfold bt
  by_cases h : i < l.length
  · rw [dif_pos (by rw [size_mk]; simpa using h)]
    rw [List.getD_eq_getElem?_getD, List.getElem?_eq_getElem h]
    rfl
  · rw [dif_neg (by rw [size_mk]; simpa using h), List.getD_eq_getElem?_getD, List.getElem?_eq_none (by omega)]
    rfl
theorem bt_mk0 (l : List UInt8) : bt (mk l) 0 = ((l.getD 0 0).toNat : Int) := bt_mk l 0
theorem bt_mk1 (l : List UInt8) : bt (mk l) 1 = ((l.getD 1 0).toNat : Int) := bt_mk l 1
theorem wrap_byte (b : UInt8) : wrap64 (b.toNat : Int) = b.toNat := by
  have := b.toNat_lt
  unfold wrap64
  omega

/-! ### opts.Get -/
def getL : List UInt8 → Option (List S46)
  | [] => some []
  | [_] => none
  | a :: n :: rest => if n.toNat < 2 ∨ rest.length + 2 < n.toNat then none else (getL (rest.drop (n.toNat - 2))).map fun os => (⟨(a.toNat : Int), mk (rest.take (n.toNat - 2))⟩ : S46) :: os
termination_by l => l.length
decreasing_by simp; omega
def getS (s : ByteArray) : List S46 × Int := if 2048 < s.size then ([], 401) else match getL s.data.toList with
  | none => ([], 400)
  | some os => (os, 0)
def afterGet (out : List S46) : Option (List S46) → List S46 × Int
  | none => ([], 400)
  | some os => (out ++ os, 0)
theorem get_loop (d : Nat) : ∀ (k : Nat) (l : List UInt8) (out : List S46), l.length ≤ d → d < k → out.length + l.length ≤ 4096 → opts_Get.l0 k (mk l) out = some (afterGet out (getL l)) := by
  induction d with
  | zero =>
    intro k l out h0 hk hb
    obtain ⟨k, rfl⟩ : ∃ m, k = m + 1 := ⟨k - 1, by omega⟩
    obtain rfl : l = [] := List.eq_nil_of_length_eq_zero (by omega)
    simp only [opts_Get.l0]
    rw [toList_mk, if_pos rfl, getL]
    simp [afterGet]
  | succ d ih =>
    intro k l out h0 hk hb
    obtain ⟨k, rfl⟩ : ∃ m, k = m + 1 := ⟨k - 1, by omega⟩
    simp only [opts_Get.l0]
    rw [toList_mk, size_mk, bt_mk0, bt_mk1]
    match l, h0, hb with
    | [], _, _ => rw [if_pos rfl, getL]; simp [afterGet]
    | [a], _, _ => rw [if_neg (by simp), if_pos (by simp), getL]; rfl
    | a :: n :: rest, h0, hb =>
      rw [if_neg (by simp), if_neg (by simp; omega), if_pos (by simp; omega)]
      have hn : (a :: n :: rest).getD 1 0 = n := rfl
      have ha : (a :: n :: rest).getD 0 0 = a := rfl
      rw [hn, ha, wrap_byte, wrap_byte, getL]
      simp only [List.length_cons] at h0 hb ⊢
      have hlt := n.toNat_lt
      by_cases c1 : n.toNat < 2
      · rw [if_pos (by omega), if_pos (.inl c1)]; rfl
      · rw [if_neg (by omega)]
        by_cases c2 : rest.length + 2 < n.toNat
        · rw [if_pos (by omega), if_pos (.inr c2)]; rfl
        · rw [if_neg (by omega), if_pos (by omega), if_pos (by omega), if_pos (by omega), if_pos (by omega), if_pos (by omega), if_neg (by omega)]
          rw [extract_mk, extract_mk, Int.toNat_natCast]
          have e1 : ((a :: n :: rest).take (rest.length + 1 + 1)).drop n.toNat = rest.drop (n.toNat - 2) := by
            rw [List.take_of_length_le (by simp), show n.toNat = (n.toNat - 2) + 1 + 1 by omega]
            rfl
          have e2 : ((a :: n :: rest).take n.toNat).drop 2 = rest.take (n.toNat - 2) := by
            rw [show n.toNat = (n.toNat - 2) + 1 + 1 by omega]
            rfl
          rw [e1, e2, ih k _ _ (by rw [List.length_drop]; omega) (by omega) (by rw [List.length_append, List.length_drop]; simp; omega)]
          cases getL (rest.drop (n.toNat - 2)) with
          | none => rfl
          | some os => simp [afterGet]
theorem get_eq (s : ByteArray) (k : Nat) (hk : 2048 < k) : opts_Get.f k s = some (getS s) := by
  unfold opts_Get.f getS
  by_cases c : 2048 < s.size
  · rw [if_pos (by omega), if_pos c]
  · rw [if_neg (by omega), if_neg c]
    have h := get_loop s.data.toList.length k s.data.toList [] (Nat.le_refl _) (by rw [size_eq]; omega) (by rw [size_eq]; simp; omega)
    rw [mk_data] at h
    rw [h]
    cases getL s.data.toList <;> rfl

/-! ### SameOpts -/
theorem S46.ext' {a b : S46} (h0 : a.f0 = b.f0) (h1 : a.f1.toList = b.f1.toList) : a = b := by
  cases a; cases b
  rw [toList_eq, toList_eq] at h1
  simp only at h0 h1
  rw [h0, bytes_ext h1]
def sameL : List S46 → List S46 → Bool
  | [], [] => true
  | a :: xs, b :: ys => (a.f0 == b.f0 && a.f1.toList == b.f1.toList) && sameL xs ys
  | _, _ => false
theorem sameL_iff : ∀ a b : List S46, sameL a b = true ↔ a = b
  | [], [] => by simp [sameL]
  | [], _ :: _ => by simp [sameL]
  | _ :: _, [] => by simp [sameL]
  | a :: xs, b :: ys => by
    rw [sameL, Bool.and_eq_true, Bool.and_eq_true, sameL_iff xs ys]
    constructor
    · rintro ⟨⟨h1, h2⟩, rfl⟩
      have e : a = b := S46.ext' (by simpa using h1) (by simpa using h2)
      rw [e]
    · intro h
      injection h with h1 h2
      subst h1 h2
      simp
theorem sameL_refl (a : List S46) : sameL a a = true := (sameL_iff a a).2 rfl
theorem sameL_len {a b : List S46} (h : a.length ≠ b.length) : sameL a b = false := by
  rw [Bool.eq_false_iff]
  intro hh
  exact h (by rw [(sameL_iff a b).1 hh])
theorem rd_at (l : List S46) (i : Nat) (h : i < l.length) : rd_T46 l (i : Int) = l[i] := rd_get l i h
theorem same_loop (d : Nat) : ∀ (k i : Nat) (a b : List S46), a.length = b.length → a.length ≤ 9223372036854775806 → i ≤ a.length → a.length - i = d → d < k →
    withylaw0_SameOpts.l0 k a b (i : Int) = some (sameL (a.drop i) (b.drop i)) := by
  induction d with
  | zero =>
    intro k i a b hl hm hi hd hk
    obtain ⟨k, rfl⟩ : ∃ m, k = m + 1 := ⟨k - 1, by omega⟩
    simp only [withylaw0_SameOpts.l0]
    rw [if_neg (by omega), List.drop_of_length_le (by omega), List.drop_of_length_le (by omega)]
    rfl
  | succ d ih =>
    intro k i a b hl hm hi hd hk
    obtain ⟨k, rfl⟩ : ∃ m, k = m + 1 := ⟨k - 1, by omega⟩
    simp only [withylaw0_SameOpts.l0]
    have h1 : i < a.length := by omega
    have h2 : i < b.length := by omega
    rw [if_pos (by omega), if_pos (by omega), if_pos (by omega), rd_at a i h1, rd_at b i h2, List.drop_eq_getElem_cons h1, List.drop_eq_getElem_cons h2, sameL]
    have hw : wrap64 ((i : Int) + 1) = ((i + 1 : Nat) : Int) := by rw [wrap64_of (by omega) (by omega)]; rfl
    rw [hw, ih k (i + 1) a b hl hm (by omega) (by omega) (by omega)]
    generalize (a[i].f0 == b[i].f0) = p
    generalize (a[i].f1.toList == b[i].f1.toList) = q
    cases p <;> cases q <;> simp
theorem same_eq (a b : List S46) (k : Nat) (hm : a.length ≤ 9223372036854775806) (hk : a.length < k) : withylaw0_SameOpts.f k a b = some (sameL a b) := by
  unfold withylaw0_SameOpts.f
  by_cases c : a.length = b.length
  · rw [if_pos (by omega)]
    exact same_loop a.length k 0 a b c hm (Nat.zero_le _) rfl hk
  · rw [if_neg (by omega), sameL_len c]

/-! ### there and back -/
theorem optBytes_ne (o : S46) (l : List UInt8) : optBytes o ++ l = UInt8.ofNat o.f0.toNat :: UInt8.ofNat (o.f1.size + 2) :: (o.f1.data.toList ++ l) := rfl
def fits (o : S46) : Prop := 0 ≤ o.f0 ∧ o.f0 ≤ 255 ∧ o.f1.size ≤ 253
theorem badKind_false {o : S46} (h : badKind o = false) : 0 ≤ o.f0 ∧ o.f0 ≤ 255 := by
  unfold badKind at h
  simp at h
  omega
theorem badKind_true {o : S46} (h : badKind o = true) : o.f0 < 0 ∨ 255 < o.f0 := by
  unfold badKind at h
  simp at h
  omega
theorem badKind_of {o : S46} (h : 0 ≤ o.f0 ∧ o.f0 ≤ 255) : badKind o = false := by
  unfold badKind
  simp
  omega
theorem any_bad {l : List S46} (h : ∀ o ∈ l, fits o) : l.any badKind = false := by
  rw [Bool.eq_false_iff]
  intro hh
  obtain ⟨o, ho, hb⟩ := List.any_eq_true.1 hh
  rw [badKind_of ⟨(h o ho).1, (h o ho).2.1⟩] at hb
  cases hb
theorem putL_some : ∀ (l : List S46) (acc bs : List UInt8), putL acc l = some bs → bs = acc ++ l.flatMap optBytes ∧ (∀ o ∈ l, o.f1.size ≤ 253) ∧ (l = [] ∨ bs.length ≤ 2048)
  | [], acc, bs, h => by
    rw [putL] at h
    cases h
    simp
  | o :: os, acc, bs, h => by
    rw [putL] at h
    by_cases c : 253 < o.f1.size ∨ 2048 < acc.length + 2 + o.f1.size
    · rw [if_pos c] at h; cases h
    · rw [if_neg c] at h
      obtain ⟨h1, h2, h3⟩ := putL_some os _ _ h
      refine ⟨by rw [h1]; simp, ?_, ?_⟩
      · intro x hx
        rcases List.mem_cons.1 hx with rfl | hx
        · omega
        · exact h2 x hx
      · refine .inr ?_
        rcases h3 with h3 | h3
        · subst h3
          rw [h1]
          simp [optBytes_length]
          omega
        · exact h3
theorem putL_of : ∀ (l : List S46) (acc : List UInt8), (∀ o ∈ l, o.f1.size ≤ 253) → (acc ++ l.flatMap optBytes).length ≤ 2048 → putL acc l = some (acc ++ l.flatMap optBytes)
  | [], acc, _, _ => by rw [putL]; simp
  | o :: os, acc, h, hl => by
    have e : acc ++ (o :: os).flatMap optBytes = (acc ++ optBytes o) ++ os.flatMap optBytes := by simp
    rw [e] at hl ⊢
    have h1 := h o (List.mem_cons_self ..)
    have h2 : acc.length + (2 + o.f1.size) ≤ 2048 := by
      rw [List.length_append, List.length_append, optBytes_length] at hl
      omega
    rw [putL, if_neg (by omega)]
    exact putL_of os _ (fun x hx => h x (List.mem_cons_of_mem _ hx)) hl
theorem u8_of (n : Nat) (h : n < 256) : (UInt8.ofNat n).toNat = n := by
  rw [UInt8.toNat_ofNat']
  exact Nat.mod_eq_of_lt h
theorem getL_put : ∀ (l : List S46), (∀ o ∈ l, fits o) → getL (l.flatMap optBytes) = some l
  | [], _ => by rw [List.flatMap_nil, getL]
  | o :: os, h => by
    obtain ⟨h0, h1, h2⟩ := h o (List.mem_cons_self ..)
    rw [List.flatMap_cons, optBytes_ne, getL, u8_of _ (by omega), u8_of _ (by omega)]
    have hl : o.f1.data.toList.length = o.f1.size := size_eq _
    rw [if_neg (by rw [List.length_append]; omega), show o.f1.size + 2 - 2 = o.f1.data.toList.length by omega, List.drop_left, List.take_left, getL_put os (fun x hx => h x (List.mem_cons_of_mem _ hx))]
    rw [mk_data, Int.toNat_of_nonneg h0]
    rfl
theorem getL_some (d : Nat) : ∀ (l : List UInt8) (os : List S46), l.length ≤ d → getL l = some os → l = os.flatMap optBytes ∧ ∀ o ∈ os, fits o := by
  induction d with
  | zero =>
    intro l os h0 h
    obtain rfl : l = [] := List.eq_nil_of_length_eq_zero (by omega)
    rw [getL] at h
    cases h
    exact ⟨rfl, fun o ho => by cases ho⟩
  | succ d ih =>
    intro l os h0 h
    match l, h0, h with
    | [], _, h =>
      rw [getL] at h
      cases h
      exact ⟨rfl, fun o ho => by cases ho⟩
    | [_], _, h => rw [getL] at h; cases h
    | a :: n :: rest, h0, h =>
      rw [getL] at h
      simp only [List.length_cons] at h0
      by_cases c : n.toNat < 2 ∨ rest.length + 2 < n.toNat
      · rw [if_pos c] at h; cases h
      · rw [if_neg c] at h
        obtain ⟨os', h1, rfl⟩ := Option.map_eq_some_iff.1 h
        obtain ⟨h2, h3⟩ := ih _ _ (by rw [List.length_drop]; omega) h1
        have hn := n.toNat_lt
        have ha := a.toNat_lt
        have hz : (rest.take (n.toNat - 2)).length = n.toNat - 2 := by rw [List.length_take]; omega
        refine ⟨?_, ?_⟩
        · rw [List.flatMap_cons, optBytes_ne, ← h2]
          simp only [Int.toNat_natCast, data_mk, size_mk, hz]
          rw [show n.toNat - 2 + 2 = n.toNat by omega, List.take_append_drop]
          simp
        · intro o ho
          rcases List.mem_cons.1 ho with rfl | ho
          · exact ⟨by show 0 ≤ (a.toNat : Int); omega, by show (a.toNat : Int) ≤ 255; omega, by show (mk (rest.take (n.toNat - 2))).size ≤ 253; rw [size_mk, hz]; omega⟩
          · exact h3 o ho

/-- What Put writes is read back. -/
theorem get_put (l : List S46) (s : ByteArray) (h : putS l = (s, 0)) : getS s = (l, 0) ∧ s.data.toList = l.flatMap optBytes ∧ s.size ≤ 2048 ∧ (∀ o ∈ l, fits o) := by
  unfold putS at h
  by_cases c : l.any badKind = true
  · rw [if_pos c] at h
    simp at h
  · rw [if_neg c] at h
    cases hp : putL [] l with
    | none => rw [hp] at h; simp at h
    | some bs =>
      rw [hp] at h
      simp only [Prod.mk.injEq, and_true] at h
      subst h
      obtain ⟨h1, h2, h3⟩ := putL_some l [] bs hp
      rw [List.nil_append] at h1
      have hf : ∀ o ∈ l, fits o := fun o ho => by
        have hb : badKind o = false := by
          rw [Bool.eq_false_iff]
          intro hb
          exact c (List.any_eq_true.2 ⟨o, ho, hb⟩)
        exact ⟨(badKind_false hb).1, (badKind_false hb).2, h2 o ho⟩
      have hlen : bs.length ≤ 2048 := by
        rcases h3 with h3 | h3
        · subst h3
          rw [h1]
          simp
        · exact h3
      refine ⟨?_, h1, hlen, hf⟩
      unfold getS
      have e1 : (⟨bs.toArray⟩ : ByteArray).size = bs.length := rfl
      have e2 : (⟨bs.toArray⟩ : ByteArray).data.toList = bs := rfl
      rw [e1, e2, if_neg (by omega), h1, getL_put l hf]
/-- What Get takes is written as it stood. -/
theorem put_get (s : ByteArray) (os : List S46) (h : getS s = (os, 0)) : putS os = (s, 0) := by
  unfold getS at h
  by_cases c : 2048 < s.size
  · rw [if_pos c] at h; simp at h
  · rw [if_neg c] at h
    cases hg : getL s.data.toList with
    | none => rw [hg] at h; simp at h
    | some os' =>
      rw [hg] at h
      simp only [Prod.mk.injEq, and_true] at h
      subst h
      obtain ⟨h1, h2⟩ := getL_some _ _ _ (Nat.le_refl _) hg
      unfold putS
      rw [any_bad h2, if_neg (by decide), putL_of os' [] (fun o ho => (h2 o ho).2.2) (by rw [List.nil_append, ← h1, size_eq]; omega), List.nil_append, ← h1]
theorem getS_cases (s : ByteArray) : (getS s).2 = 0 ∨ ((getS s).1 = [] ∧ ((getS s).2 = 400 ∨ (getS s).2 = 401)) := by
  unfold getS
  split
  · exact .inr ⟨rfl, .inr rfl⟩
  · split
    · exact .inr ⟨rfl, .inl rfl⟩
    · exact .inl rfl
theorem putS_cases (l : List S46) : (putS l).2 = 0 ∨ ((putS l).1 = ⟨#[]⟩ ∧ ((putS l).2 = 400 ∨ (putS l).2 = 401)) := by
  unfold putS
  split
  · exact .inr ⟨rfl, .inl rfl⟩
  · split
    · exact .inr ⟨rfl, .inr rfl⟩
    · exact .inl rfl
theorem flat_len : ∀ os : List S46, os.length ≤ (os.flatMap optBytes).length
  | [] => by simp
  | o :: os => by
    have := flat_len os
    rw [List.flatMap_cons, List.length_append, optBytes_length, List.length_cons]
    omega
theorem getS_len (s : ByteArray) : (getS s).1.length ≤ 2048 := by
  rcases h : getS s with ⟨os, e⟩
  rcases getS_cases s with h0 | ⟨h0, _⟩
  · rw [h] at h0
    simp only at h0
    subst h0
    have h1 := put_get s os h
    obtain ⟨_, h2, h3, _⟩ := get_put os s h1
    have h4 : os.length ≤ (os.flatMap optBytes).length := flat_len os
    rw [← h2, size_eq] at h4
    simp only
    omega
  · rw [h] at h0
    simp only at h0
    simp [h0]
#print axioms get_eq
#print axioms get_put
#print axioms put_get
end Go.Proofs.Ytbdlkcgaobkdcaa.P

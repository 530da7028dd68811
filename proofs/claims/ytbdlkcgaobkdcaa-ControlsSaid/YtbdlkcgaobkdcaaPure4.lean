/- Plain laws of layer 4: what the laws OptsBack, OptsLimits and OptsFind come to, out of the plain laws on options; conditions: the sizes that every row has. -/
import Derived.Test.YtbdlkcgaobkdcaaSpec
import Derived.Test.YtbdlkcgaobkdcaaPx5
import Derived.Test.YtbdlkcgaobkdcaaPx6
import Derived.Test.YtbdlkcgaobkdcaaPx8
set_option linter.unusedVariables false
set_option linter.unusedSimpArgs false
namespace Go.Proofs.Ytbdlkcgaobkdcaa.P
open Go.RowKit Go.Proofs.YtbdlkcgaobkdcaaW.PrintWords Go.Proofs.YtbdlkcgaobkdcaaW.PrintLast

theorem awake4_put : putS [(⟨1, (⟨#[97, 98]⟩ : ByteArray)⟩ : S46), (⟨18, (⟨#[]⟩ : ByteArray)⟩ : S46)] = (⟨#[1, 4, 97, 98, 18, 2]⟩, 0) := by decide +kernel
theorem awake4_put' : putS [(⟨256, (⟨#[]⟩ : ByteArray)⟩ : S46)] = (⟨#[]⟩, 400) := by decide +kernel
theorem awake4_get' : getS (⟨#[1, 1]⟩ : ByteArray) = ([], 400) := by
  have e : getL [1, 1] = none := by rw [getL]; decide
  unfold getS
  rw [if_neg (by decide)]
  have e' : (⟨#[1, 1]⟩ : ByteArray).data.toList = [1, 1] := rfl
  rw [e', e]
theorem awake4 (k : Nat) (hk : 2048 < k) : withylaw4_awake.f k = some true := by
  unfold withylaw4_awake.f opts_Put.f
  rw [awake4_put, awake4_put']
  simp only [Option.bind_some]
  rw [get_eq _ k hk, get_eq _ k hk, (get_put _ _ awake4_put).1, awake4_get', toList_eq]
  simp only [Option.bind_some, withylaw0_Num.f, opts_Find.f]
  decide +kernel

theorem back4_second (k : Nat) (hk : 2049 < k) (a1 : ByteArray) : withylaw4_OptsBack.j0 k a1 = some true := by
  obtain ⟨k, rfl⟩ : ∃ m, k = m + 1 := ⟨k - 1, by omega⟩
  simp only [withylaw4_OptsBack.j0]
  rw [get_eq _ k (by omega)]
  simp only [Option.bind_some, withylaw0_Num.f, opts_Put.f]
  rcases hg : getS a1 with ⟨os, e⟩
  simp only
  rcases getS_cases a1 with h0 | ⟨h0, h1⟩
  · rw [hg] at h0
    simp only at h0
    subst h0
    rw [if_pos rfl, put_get a1 os hg]
    simp
  · rw [hg] at h0 h1
    simp only at h0 h1
    subst h0
    rw [if_neg (by omega)]
    rfl
theorem back4 (k : Nat) (hk : 4096 < k) (l0 : List S46) (a1 : ByteArray) : withylaw4_OptsBack.f k l0 a1 = some true := by
  unfold withylaw4_OptsBack.f
  rw [awake4 k (by omega)]
  simp only [Option.bind_some, if_true, withylaw0_Num.f, opts_Put.f]
  rcases hp : putS l0 with ⟨s, e⟩
  simp only
  by_cases h0 : e = 0
  · subst h0
    obtain ⟨h1, h2, h3, h4⟩ := get_put l0 s hp
    have h5 := getS_len s
    rw [if_pos rfl, get_eq _ k (by omega), h1]
    rw [h1] at h5
    simp only [Option.bind_some, if_true]
    rw [same_eq l0 l0 k (by simp only at h5; omega) (by simp only at h5; omega), sameL_refl]
    simp only [Option.bind_some, if_true]
    exact back4_second k (by omega) a1
  · rw [if_neg h0]
    exact back4_second k (by omega) a1

theorem strOf_len (xs : List Int) : (strOfNums xs).size = xs.length := by
  show (xs.map fun n => UInt8.ofNat n.toNat).toArray.size = xs.length
  simp
theorem put_one (a : Int) (s : ByteArray) : putS [(⟨a, s⟩ : S46)] = if a < 0 ∨ 255 < a then (⟨#[]⟩, 400) else if 253 < s.size then (⟨#[]⟩, 401) else (mk (optBytes ⟨a, s⟩), 0) := by
  unfold putS
  by_cases c : a < 0 ∨ 255 < a
  · have hb : badKind ⟨a, s⟩ = true := by
      unfold badKind
      simp
      omega
    rw [if_pos c]
    simp [hb]
  · have hb : badKind ⟨a, s⟩ = false := badKind_of (by simp only; omega)
    rw [if_neg c]
    simp only [List.any_cons, List.any_nil, hb, Bool.or_false]
    rw [if_neg (by decide), putL]
    by_cases c2 : 253 < s.size
    · rw [if_pos (.inl c2), if_pos c2]
    · rw [if_neg (by simp; omega), if_neg c2, putL]
      rfl
/-! ### Find -/
theorem firstAt_cases (p : S46 → Bool) (l : List S46) : (firstAt p l = -1 ∧ l.findIdx p = l.length) ∨ (∃ i : Nat, firstAt p l = i ∧ i < l.length ∧ l.findIdx p = i) := by
  unfold firstAt
  by_cases h : l.findIdx p < l.length
  · rw [if_pos h]
    exact .inr ⟨_, rfl, h, rfl⟩
  · rw [if_neg h]
    exact .inl ⟨rfl, by have := List.findIdx_le_length (xs := l) (p := p); omega⟩
theorem find4 (k : Nat) (hk : 2048 < k) (l0 : List S46) (a1 : Int) (hl : l0.length * 24 ≤ 140737488351232) : withylaw4_OptsFind.f k l0 a1 = some true := by
  unfold withylaw4_OptsFind.f
  rw [awake4 k hk]
  simp only [Option.bind_some, if_true, opts_Find.f, List.nil_append, List.length_nil, withylaw0_Num.f]
  rw [if_pos (by omega), if_pos (by omega)]
  have hlast : (fun x : S46 => x.f0 == a1) (⟨a1, (⟨#[]⟩ : ByteArray)⟩ : S46) = true := by simp
  rcases firstAt_cases (fun x : S46 => x.f0 == a1) l0 with ⟨h1, h2⟩ | ⟨i, h1, h2, h3⟩
  · have hm : firstAt (fun x : S46 => x.f0 == a1) (l0 ++ [(⟨a1, (⟨#[]⟩ : ByteArray)⟩ : S46)]) = (l0.length : Int) := by
      refine firstAt_hit _ _ l0.length (by simp) (by simp) (fun j hj hlt => ?_)
      have hj' : j < l0.length := hlt
      have e : (l0 ++ [(⟨a1, (⟨#[]⟩ : ByteArray)⟩ : S46)])[j] = l0[j] := List.getElem_append_left hj'
      rw [e]
      exact List.findIdx_eq_length.1 h2 _ (List.getElem_mem hj')
    simp [h1, hm]
  · obtain ⟨hp, hall⟩ := (List.findIdx_eq h2).1 h3
    have hm : firstAt (fun x : S46 => x.f0 == a1) (l0 ++ [(⟨a1, (⟨#[]⟩ : ByteArray)⟩ : S46)]) = (i : Int) := by
      refine firstAt_hit _ _ i (by simp; omega) (by rw [List.getElem_append_left h2]; exact hp) (fun j hj hlt => ?_)
      have hj' : j < l0.length := by omega
      rw [List.getElem_append_left hj']
      exact hall j hlt
    have ht : firstAt (fun x : S46 => x.f0 == a1) (l0.take i) = -1 := by
      refine firstAt_miss _ _ (fun j hj => ?_)
      have hj' : j < i := by rw [List.length_take] at hj; omega
      rw [List.getElem_take]
      exact hall j hj'
    simp only [h1, hm]
    rw [if_neg (by omega), if_pos (by omega), if_pos (by omega), rd_at l0 i h2, if_pos (by simpa using hp), if_pos (by omega), Int.toNat_natCast]
    simp [ht]
#print axioms back4
#print axioms find4
end Go.Proofs.Ytbdlkcgaobkdcaa.P

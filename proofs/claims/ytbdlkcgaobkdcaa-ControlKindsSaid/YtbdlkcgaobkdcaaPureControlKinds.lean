/- The pure statement of the law ControlKinds: codes up to four carry options, others bytes; conditions: the sizes that every row has. -/
import Derived.Test.YtbdlkcgaobkdcaaPure5
import Derived.Test.YtbdlkcgaobkdcaaPx23
import Derived.Test.YtbdlkcgaobkdcaaMask
set_option linter.unusedVariables false
set_option linter.unusedSimpArgs false
namespace Go.Proofs.Ytbdlkcgaobkdcaa.P
open Go.RowKit Go.Proofs.YtbdlkcgaobkdcaaW.PrintWords Go.Proofs.YtbdlkcgaobkdcaaW.PrintLast

theorem flat_pos : ∀ l : List S46, l ≠ [] → 0 < (l.flatMap optBytes).length
  | [], h => absurd rfl h
  | o :: os, _ => by rw [List.flatMap_cons, List.length_append, optBytes_length]; omega
theorem putS_empty {os : List S46} {t : ByteArray} (h : putS os = (t, 0)) : t.size = 0 ↔ os = [] := by
  obtain ⟨_, h2, _, _⟩ := get_put os t h
  constructor
  · intro h0
    apply Classical.byContradiction
    intro hn
    have := flat_pos os hn
    rw [← h2, data_length] at this
    omega
  · rintro rfl
    rw [putS_nil] at h
    injection h with h _
    rw [← h]
    rfl
theorem head4_tail (a b c d : Int) (t : List UInt8) (s : ByteArray) (hs : s = mk (head4 a b c d t)) : s.extract 4 s.size = mk t := by
  subst hs
  rw [size_mk, extract_mk, List.take_length]
  rfl
theorem kinds_j1 (k : Nat) (hk : 0 < k) (os : List S46) (t : ByteArray) (a b : ByteArray × Int) (cf : Bool)
    (h : (cf = true ∧ a.2 = 0 ∧ 4 ≤ a.1.size ∧ a.1.extract 4 a.1.size = t ∧ (b.2 = 0 ↔ t.size = 0)) ∨ (cf = false ∧ b.2 = 0 ∧ 4 ≤ b.1.size ∧ b.1.extract 4 b.1.size = t ∧ (a.2 = 0 ↔ os = []))) :
    withylaw5_ControlKinds.j1 k os t a.1 a.2 b.1 b.2 cf = some true := by
  obtain ⟨k, rfl⟩ : ∃ m, k = m + 1 := ⟨k - 1, by omega⟩
  simp only [withylaw5_ControlKinds.j1, withylaw0_Num.f, Option.bind_some]
  rcases h with ⟨rfl, h1, h2, h3, h4⟩ | ⟨rfl, h1, h2, h3, h4⟩
  · rw [if_pos rfl, h1, if_pos rfl, if_pos (by omega), h3, if_pos rfl]
    by_cases z : t.size = 0
    · have e : t.toList = [] := (toList_nil_iff t).2 z
      simp [h4.2 z, e]
    · have e : ¬ t.toList = [] := fun e => z ((toList_nil_iff t).1 e)
      have z2 : ¬ b.2 = 0 := fun e => z (h4.1 e)
      have q1 : (b.2 == 0) = false := by simpa using z2
      have q2 : (t.toList == []) = false := by simpa using e
      rw [q1, q2]
      rfl
  · rw [if_neg (by decide), h1, if_pos rfl, if_pos (by omega), h3, if_pos rfl]
    by_cases z : os = []
    · simp [h4.2 z, z]
    · have z2 : ¬ a.2 = 0 := fun e => z (h4.1 e)
      have q1 : (a.2 == 0) = false := by simpa using z2
      have q2 : ((os.length : Int) == 0) = false := by
        have : ¬ (os.length : Int) = 0 := fun e => z (List.eq_nil_of_length_eq_zero (by omega))
        simpa using this
      rw [q1, q2]
      rfl
theorem controlKinds_pure (k : Nat) (hk : 10 < k) (a0 a1 : Int) (os : List S46) (hz : ∀ o ∈ os, o.f1.size ≤ 140737488351232) : withylaw5_ControlKinds.f k a0 a1 os = some true := by
  unfold withylaw5_ControlKinds.f withyref1_Opts.f
  have hall : os.all (fun o => decide (o.f1.size ≤ 140737488351232)) = true := List.all_eq_true.2 (fun o ho => decide_eq_true (hz o ho))
  rw [awake5 k (by omega), if_pos hall, mask255, mask255]
  simp only [Option.bind_some, if_true]
  have hskip : withylaw5_ControlKinds.j0 k os (a0 % 256) (a1 % 256) (putS os).1 true = some true := by
    obtain ⟨k, rfl⟩ : ∃ m, k = m + 1 := ⟨k - 1, by omega⟩
    simp [withylaw5_ControlKinds.j0]
  have hl := putS_len os
  by_cases e : (putS os).2 = 0
  · rw [if_pos e, wrap64_of (by omega) (by omega)]
    by_cases c : ((putS os).1.size : Int) + 4 > 2048
    · rw [decide_eq_true c]
      exact hskip
    · rw [decide_eq_false c]
      obtain ⟨k, rfl⟩ : ∃ m, k = m + 1 := ⟨k - 1, by omega⟩
      simp only [withylaw5_ControlKinds.j0, control_Put.f]
      have z0 : (⟨#[]⟩ : ByteArray).size ≤ 140737488351232 := by decide
      rw [if_neg (by decide), if_pos z0, if_pos (by omega)]
      simp only [Option.bind_some]
      have o1 : octB (a0 % 256) = true := octB_mk (by omega) (by omega)
      have o2 : octB (a1 % 256) = true := octB_mk (by omega) (by omega)
      rcases hp : putS os with ⟨t, e2⟩
      rw [hp] at e c hl
      simp only at e c hl
      subst e
      have z1 : (⟨#[]⟩ : ByteArray).size = 0 := rfl
      by_cases hcf : confB (a0 % 256) = true
      · have hb := confB_of hcf
        have ok := ctl_ok_of (os := os) (d := ⟨#[]⟩) o1 o2 (by rw [hp]) (fun h => by rw [hcf] at h; cases h) (fun _ => rfl) (by rw [hp]; simp only; omega)
        have key : withylaw5_ControlKinds.j1 k os t (ctlS (a0 % 256) (a1 % 256) os ⟨#[]⟩).1 (ctlS (a0 % 256) (a1 % 256) os ⟨#[]⟩).2 (ctlS (a0 % 256) (a1 % 256) [] t).1 (ctlS (a0 % 256) (a1 % 256) [] t).2 true = some true := by
          refine kinds_j1 k (by omega) os t _ _ true (.inl ⟨rfl, by rw [ok], by rw [ok, size_mk, head4_length]; omega, ?_, ?_⟩)
          · rw [head4_tail _ _ _ _ _ _ (by rw [ok]), hp]
            apply bytes_ext
            rw [data_mk]
            simp
          · constructor
            · intro h
              apply Classical.byContradiction
              intro hn
              have : (ctlS (a0 % 256) (a1 % 256) [] t).2 = 502 := by
                unfold ctlS
                rw [if_neg (by rw [o1, o2]; simp), if_pos (.inr (.inr ⟨hcf, by omega⟩))]
              omega
            · intro h
              rw [ctl_ok_of o1 o2 rfl (fun _ => rfl) (fun _ => empty_of h) (by rw [putS_nil]; show 0 + t.size ≤ 2044; omega)]
        rw [if_pos (by omega), decide_eq_true (by omega)]
        exact key
      · have hcf' : confB (a0 % 256) = false := by simpa using hcf
        have ok := ctl_ok_of (c := a0 % 256) (i := a1 % 256) (os := []) (d := t) o1 o2 rfl (fun _ => rfl) (fun h => absurd h hcf) (by rw [putS_nil]; show 0 + t.size ≤ 2044; omega)
        have key : withylaw5_ControlKinds.j1 k os t (ctlS (a0 % 256) (a1 % 256) os ⟨#[]⟩).1 (ctlS (a0 % 256) (a1 % 256) os ⟨#[]⟩).2 (ctlS (a0 % 256) (a1 % 256) [] t).1 (ctlS (a0 % 256) (a1 % 256) [] t).2 false = some true := by
          refine kinds_j1 k (by omega) os t _ _ false (.inr ⟨rfl, by rw [ok], by rw [ok, size_mk, head4_length]; omega, ?_, ?_⟩)
          · rw [head4_tail _ _ _ _ _ _ (by rw [ok])]
            apply bytes_ext
            rw [data_mk]
            rfl
          · constructor
            · intro h
              apply Classical.byContradiction
              intro hn
              have : (ctlS (a0 % 256) (a1 % 256) os ⟨#[]⟩).2 = 502 := by
                unfold ctlS
                rw [if_neg (by rw [o1, o2]; simp), if_pos (.inr (.inl ⟨hcf', List.length_pos_iff.2 hn⟩))]
              omega
            · rintro rfl
              rw [ctl_ok_of o1 o2 rfl (fun _ => rfl) (fun _ => rfl) (by rw [putS_nil]; decide)]
        by_cases c1 : a0 % 256 ≥ 1
        · have c2 : ¬ a0 % 256 ≤ 4 := fun h => hcf (confB_mk (by omega) h)
          rw [if_pos c1, decide_eq_false c2]
          exact key
        · rw [if_neg c1]
          exact key
  · rw [if_neg e]
    exact hskip
#print axioms controlKinds_pure
end Go.Proofs.Ytbdlkcgaobkdcaa.P

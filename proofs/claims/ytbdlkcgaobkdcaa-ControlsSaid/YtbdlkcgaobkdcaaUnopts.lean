/- The document's reader of options answers what opts.Get answers: plain Lean, and the contract of withyref1.Unopts. -/
import Derived.Test.YtbdlkcgaobkdcaaPx11
import Derived.Test.YtbdlkcgaobkdcaaSpec
import Derived.Test.YtbdlkcgaobkdcaaMask
set_option linter.unusedVariables false
set_option linter.unusedSimpArgs false
namespace Go.Proofs.Ytbdlkcgaobkdcaa.P
open Go.RowKit Go.Proofs.YtbdlkcgaobkdcaaW.PrintWords Go.Proofs.YtbdlkcgaobkdcaaW.PrintLast

theorem getD_drop' (L : List UInt8) (i j : Nat) : L.getD (i + j) 0 = (L.drop i).getD j 0 := by
  rw [List.getD_eq_getElem?_getD, List.getD_eq_getElem?_getD, List.getElem?_drop]
theorem unopts_loop (L : List UInt8) (hL : L.length ≤ 2048) (d : Nat) : ∀ (k i : Nat) (out : List S46), L.length - i ≤ d → i ≤ L.length → d < k → out.length ≤ i → withyref1_Unopts.l0 k (mk L) out (i : Int) = some (afterGet out (getL (L.drop i))) := by
  induction d with
  | zero =>
    intro k i out h0 hi hk ho
    obtain ⟨k, rfl⟩ : ∃ m, k = m + 1 := ⟨k - 1, by omega⟩
    simp only [withyref1_Unopts.l0]
    rw [size_mk, if_neg (by omega), List.drop_eq_nil_of_le (by omega), getL]
    simp [afterGet]
  | succ d ih =>
    intro k i out h0 hi hk ho
    obtain ⟨k, rfl⟩ : ∃ m, k = m + 1 := ⟨k - 1, by omega⟩
    simp only [withyref1_Unopts.l0]
    have e1 : wrap64 ((i : Int) + 1) = ((i + 1 : Nat) : Int) := by rw [wrap64_of (by omega) (by omega)]; omega
    have e2 : wrap64 ((i : Int) + 2) = ((i + 2 : Nat) : Int) := by rw [wrap64_of (by omega) (by omega)]; omega
    have e3 : wrap64 ((L.length : Int) - i) = ((L.length - i : Nat) : Int) := by rw [wrap64_of (by omega) (by omega)]; omega
    rw [size_mk, e1, e2, e3, bt_mk, bt_mk, show i + 1 = i + 1 from rfl, getD_drop' L i 1]
    have b0 : L.getD i 0 = (L.drop i).getD 0 0 := getD_drop' L i 0
    rw [b0, wrap_byte, wrap_byte]
    clear e1 e2 e3
    have hlen : (L.drop i).length = L.length - i := List.length_drop
    have dd : ∀ m, L.drop (i + m) = (L.drop i).drop m := fun m => by rw [List.drop_drop]
    have tt : ∀ m, (L.take (i + m)).drop (i + 2) = ((L.drop i).drop 2).take (m - 2) := fun m => by
      rw [List.drop_take, dd, show i + m - (i + 2) = m - 2 by omega]
    match hM : L.drop i with
    | [] =>
      rw [hM] at hlen
      simp only [List.length_nil] at hlen
      rw [if_neg (by omega), getL]
      simp [afterGet]
    | [a] =>
      rw [hM] at hlen
      simp only [List.length_cons, List.length_nil] at hlen
      rw [if_pos (by omega), if_pos (by omega), getL]
      rfl
    | a :: n :: rest =>
      rw [hM] at hlen
      simp only [List.length_cons] at hlen
      have hn : (a :: n :: rest).getD 1 0 = n := rfl
      have ha : (a :: n :: rest).getD 0 0 = a := rfl
      rw [if_pos (by omega), if_neg (by omega), if_pos (by omega), if_pos (by omega), hn, ha, getL]
      have hlt := n.toNat_lt
      by_cases c1 : n.toNat < 2
      · rw [if_pos (by omega), if_pos (.inl c1)]; rfl
      · rw [if_neg (by omega)]
        by_cases c2 : rest.length + 2 < n.toNat
        · rw [if_pos (by omega), if_pos (.inr c2)]; rfl
        · have e4 : wrap64 ((i : Int) + (n.toNat : Int)) = ((i + n.toNat : Nat) : Int) := by rw [wrap64_of (by omega) (by omega)]; omega
          rw [e4]
          clear e4
          have g1 : (0 : Int) ≤ (i : Int) := by omega
          have g2 : (0 : Int) ≤ ((i + 2 : Nat) : Int) := by omega
          have g3 : ((i + 2 : Nat) : Int) ≤ ((i + n.toNat : Nat) : Int) := by omega
          have g4 : ((i + n.toNat : Nat) : Int) ≤ (L.length : Int) := by omega
          have g5 : out.length < 5864062014805 := by omega
          rw [if_neg (by omega)]
          simp only [if_pos g1, if_pos g2, if_pos g3, if_pos g4, if_pos g5]
          rw [if_neg (by omega)]
          rw [extract_mk, Int.toNat_natCast, Int.toNat_natCast, tt, hM, ih k _ _ (by omega) (by omega) (by omega) (by rw [List.length_append]; simp; omega), dd, hM]
          have q1 : (a :: n :: rest).drop n.toNat = rest.drop (n.toNat - 2) := by
            rw [show n.toNat = (n.toNat - 2) + 1 + 1 by omega]
            rfl
          have q2 : (a :: n :: rest).drop 2 = rest := rfl
          rw [q1, q2]
          cases getL (rest.drop (n.toNat - 2)) with
          | none => rfl
          | some os => simp [afterGet]
theorem unopts_eq (s : ByteArray) (k : Nat) (hk : 2048 < k) : withyref1_Unopts.f k s = some (getS s) := by
  unfold withyref1_Unopts.f getS
  by_cases c : 2048 < s.size
  · rw [if_pos (by omega), if_pos c]
  · rw [if_neg (by omega), if_neg c]
    have h := unopts_loop s.data.toList (by rw [size_eq]; omega) s.data.toList.length k 0 [] (by omega) (by omega) (by rw [size_eq]; omega) (by simp)
    rw [mk_data] at h
    rw [List.drop_zero] at h
    rw [show ((0 : Nat) : Int) = 0 from rfl] at h
    rw [h]
    cases getL s.data.toList <;> rfl
/-- The contract of the document's reader. -/
theorem unopts_calls (s : ByteArray) (w : World) : Calls Try.prog 35 #[.string s] w fun e w' => ∃ v0_ : Value, e = .returned (.tuple #[v0_, .int .i64 (getS s).2]) ∧ Kd.R k46 46 w' w.heap.size (fun _ => True) v0_ (getS s).1 ∧ Below w.heap.size w w' :=
  withyref1_Unopts.calls 5000 s (getS s).1 (getS s).2 w (unopts_eq s 5000 (by omega))
/-- .. and of opts.Get. -/
theorem get_calls (s : ByteArray) (w : World) : Calls Try.prog 34 #[.string s] w fun e w' => ∃ v0_ : Value, e = .returned (.tuple #[v0_, .int .i64 (getS s).2]) ∧ Kd.R k46 46 w' w.heap.size (fun _ => True) v0_ (getS s).1 ∧ Below w.heap.size w w' :=
  opts_Get.calls 5000 s (getS s).1 (getS s).2 w (get_eq s 5000 (by omega))
#print axioms unopts_calls
end Go.Proofs.Ytbdlkcgaobkdcaa.P

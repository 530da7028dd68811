/- How arguments that are options, a packet or a datagram read; no condition. -/
import Derived.Test.YtbdlkcgaobkdcaaPx0
import Derived.Deep.Slices
import Derived.Deep.Fields
import Derived.ChangeSame
import Derived.SizedLaws
import Derived.WideShapes
import Derived.ProofKit
import Derived.Lib.SmallJoins
import Derived.KernelRfl
set_option linter.unusedVariables false
set_option linter.unusedSimpArgs false
section
namespace Go.Proofs.Ytbdlkcgaobkdcaa.P
open Go.RowKit Go.Proofs.YtbdlkcgaobkdcaaW.PrintWords Go.Proofs.YtbdlkcgaobkdcaaW.PrintLast
open Go.ChangeShapes Go.WideShapes Go.Deep
theorem cells46 : Try.prog.cellsOf 46 = 2 := by kernel_rfl
theorem cells3 : Try.prog.cellsOf 3 = 1 := by kernel_rfl
theorem cells9 : Try.prog.cellsOf 9 = 1 := by kernel_rfl
theorem bytes46 : Try.prog.bytesOf 46 = 24 := by kernel_rfl
section
variable {H : Type} {enc : TypeId × Value → H} {W : World} {base : Nat} {sp : Nat → Bool} {held : Bool}
def optData (o : S46) : DataW H := .agg [.lit (.int .i64 o.f0), .lit (.string o.f1.data.toList)]
set_option maxRecDepth 100000 in
theorem open_opt {fuel : Nat} {cs : List Value} {x : DataW H × List MemPlace} (h : DataW.trod enc Try.prog W base sp held fuel 46 cs = some x) : ∃ o : S46, cs = [.int .i64 o.f0, .string o.f1] ∧ x.1 = optData o := by
  obtain ⟨y0, y1, n, rfl, hl, h0, h1⟩ := trod_struct2 Try.underlying46 h
  rw [cells46] at hl
  match cs, hl with
  | [c0, c1], _ =>
    simp only [cells3, cells9, List.drop_zero, List.take_succ_cons, List.take_zero, List.drop_succ_cons] at h0 h1
    obtain ⟨k, e0, rfl, _⟩ := DataW.trod_int Try.underlying3 h0
    obtain ⟨s, e1, rfl, _⟩ := DataW.trod_string Try.underlying9 h1
    simp only [List.cons.injEq, and_true] at e0 e1
    subst e0 e1
    exact ⟨⟨k, s⟩, rfl, rfl⟩
theorem weights_opt (o : S46) : (optData o : DataW H).weights Try.prog 46 = [o.f1.size] := by
  unfold optData
  simp [DataW.weights, DataW.weightsEach, Try.underlying46]
theorem weightsAll_mem {e : TypeId} : ∀ (l : List (DataW H)) (d : DataW H), d ∈ l → ∀ n ∈ d.weights Try.prog e, n ∈ DataW.weightsAll Try.prog e l
  | [], d, hd, _, _ => by cases hd
  | a :: r, d, hd, n, hn => by
    simp only [DataW.weightsAll, List.mem_append]
    rcases List.mem_cons.1 hd with rfl | hd
    · exact .inl hn
    · exact .inr (weightsAll_mem r d hd n hn)
/-- A row of options as it stands in memory, whatever its spare room. -/
theorem open_opts {fuel : Nat} {cs : List Value} {x : DataW H × List MemPlace} (h : DataW.trod enc Try.prog W base sp held fuel 35 cs = some x) (hw : ∀ n ∈ x.1.weights Try.prog 35, n ≤ reachBytes) :
    ∃ (A : Option Addr) (cap : Nat) (l : List S46), cs = [.slice A l.length cap] ∧ l.length ≤ cap ∧ Kd.C k46 W A l.length l ∧ (∀ o ∈ l, o.f1.size ≤ 140737488351232) ∧ l.length * 24 ≤ 140737488351232 := by
  have hr : reachBytes = 140737488351232 := by decide
  rcases open_slice Try.underlying35 h with ⟨rfl, rfl⟩ | ⟨a, len, cap, m, n, D, Pl, rfl, hb, hl, hm, hmm, rfl, hi⟩
  · exact ⟨none, 0, [], rfl, Nat.le_refl _, ⟨rfl, by simp, fun h => absurd h (by simp)⟩, by simp, by simp⟩
  · rw [cells46] at hi
    have hlm : len ≤ m := by rw [hmm]; split <;> omega
    have key : ∀ i, ∃ o : S46, i < len → (W.cell? (a.add (i * 2 + 0)) = some (.int .i64 o.f0) ∧ W.cell? (a.add (i * 2 + 1)) = some (.string o.f1) ∧ D i = optData o) := by
      intro i
      by_cases c : i < len
      · obtain ⟨cs', hc, ht⟩ := hi i (by omega)
        obtain ⟨o, rfl, ho⟩ := open_opt ht
        obtain ⟨_, _, hat⟩ := World.cells?_some hc
        refine ⟨o, fun _ => ⟨?_, ?_, ho⟩⟩
        · have := hat 0 (by omega)
          rw [Go.Deep.add_add] at this
          exact this
        · have := hat 1 (by omega)
          rw [Go.Deep.add_add] at this
          exact this
      · exact ⟨⟨0, ⟨#[]⟩⟩, fun h => absurd h c⟩
    let f : Nat → S46 := fun i => Classical.choose (key i)
    have hf : ∀ i, i < len → (W.cell? (a.add (i * 2 + 0)) = some (.int .i64 (f i).f0) ∧ W.cell? (a.add (i * 2 + 1)) = some (.string (f i).f1) ∧ D i = optData (f i)) := fun i hi => Classical.choose_spec (key i) hi
    have hlen : ((List.range len).map f).length = len := by simp
    simp only [DataW.weights, Try.underlying35, bytes46, List.length_map, List.length_range, List.mem_cons, List.mem_append] at hw
    have hsz := hw _ (.inl rfl)
    refine ⟨some a, cap, (List.range len).map f, by rw [hlen], by rw [hlen]; exact hl, ⟨by simp, by rw [hlen]; unfold maxLen at hm; omega, fun _ => ⟨a, rfl, fun j p hj => ?_⟩⟩, fun o ho => ?_, by rw [hlen]; omega⟩
    · obtain ⟨hj1, hj2⟩ := List.getElem?_eq_some_iff.1 hj
      rw [List.getElem_map, List.getElem_range] at hj2
      rw [hlen] at hj1
      obtain ⟨h0, h1, _⟩ := hf j hj1
      subst hj2
      refine ⟨_, rfl, k46_mk W (f j), fun i u hu => ?_⟩
      show W.cell? (a.add (j * 2 + i)) = some u
      match i, hu with
      | 0, hu => simp at hu; rw [← hu]; exact h0
      | 1, hu => simp at hu; rw [← hu]; exact h1
      | i + 2, hu => simp at hu
    · obtain ⟨j, hj, rfl⟩ := List.mem_map.1 ho
      rw [List.mem_range] at hj
      have := hw (f j).f1.size (.inr (.inl (weightsAll_mem _ (D j) (List.mem_map.2 ⟨j, List.mem_range.2 hj, rfl⟩) _ (by rw [(hf j hj).2.2, weights_opt]; exact List.mem_cons_self))))
      omega
end
end Go.Proofs.Ytbdlkcgaobkdcaa.P
end
section
namespace Go.Proofs.Ytbdlkcgaobkdcaa.P
open Go.RowKit Go.Proofs.YtbdlkcgaobkdcaaW.PrintWords Go.Proofs.YtbdlkcgaobkdcaaW.PrintLast
open Go.ChangeShapes Go.WideShapes Go.Deep Go.Joins
theorem cells69 : Try.prog.cellsOf 69 = 4 := by kernel_rfl
theorem cells56 : Try.prog.cellsOf 56 = 4 := by kernel_rfl
section
variable {H : Type} {enc : TypeId × Value → H} {W : World} {base b0 : Nat} {sp : Nat → Bool} {held : Bool} {r : Reach}
set_option maxRecDepth 100000 in
theorem open_packet {v : Value} {d : DataW H} {p : List MemPlace} (hv : Value.okWide Try.prog W r b0 69 v) (h : DataW.Trod enc Try.prog W base sp held 69 v d p) (hw : ∀ n ∈ d.weights Try.prog 69, n ≤ reachBytes) :
    ∃ (c i : Int) (A : Option Addr) (cap : Nat) (l : List S46) (s : ByteArray), v = .agg #[.int .i64 c, .int .i64 i, .slice A l.length cap, .string s] ∧ l.length ≤ cap ∧ Kd.C k46 W A l.length l ∧ (∀ o ∈ l, o.f1.size ≤ 140737488351232) ∧ l.length * 24 ≤ 140737488351232 ∧ s.size ≤ 140737488351232 := by
  have hr : reachBytes = 140737488351232 := by decide
  obtain ⟨v0, v1, v2, v3, y0, y1, y2, y3, n, rfl, rfl, _, h0, h1, h2, h3⟩ := open_agg4 Try.underlying69 (by kernel_rfl) cells69 hv h
  simp only [DataW.weights, Try.underlying69] at hw
  obtain ⟨c, e0, rfl, _⟩ := DataW.trod_int Try.underlying3 h0
  obtain ⟨i, e1, rfl, _⟩ := DataW.trod_int Try.underlying3 h1
  obtain ⟨s, e3, rfl, _⟩ := DataW.trod_string Try.underlying9 h3
  simp only [List.map_cons, List.map_nil, DataW.weightsEach, List.mem_append] at hw
  obtain ⟨A, cap, l, e2, hc, hC, hz, hn⟩ := open_opts h2 (fun n hn => hw n (.inr (.inr (.inl hn))))
  simp only [List.cons.injEq, and_true] at e0 e1 e2 e3
  subst e0 e1 e2 e3
  refine ⟨c, i, A, cap, l, s, rfl, hc, hC, hz, hn, ?_⟩
  have := hw s.size (.inr (.inr (.inr (.inl (by simp [DataW.weights])))))
  omega
set_option maxRecDepth 100000 in
theorem open_bap {v : Value} {d : DataW H} {p : List MemPlace} (hv : Value.okWide Try.prog W r b0 56 v) (h : DataW.Trod enc Try.prog W base sp held 56 v d p) (hw : ∀ n ∈ d.weights Try.prog 56, n ≤ reachBytes) :
    ∃ (c i a : Int) (A : Option Addr) (cap : Nat) (l : List S46), v = .agg #[.int .i64 c, .int .i64 i, .int .i64 a, .slice A l.length cap] ∧ l.length ≤ cap ∧ Kd.C k46 W A l.length l ∧ (∀ o ∈ l, o.f1.size ≤ 140737488351232) ∧ l.length * 24 ≤ 140737488351232 := by
  obtain ⟨v0, v1, v2, v3, y0, y1, y2, y3, n, rfl, rfl, _, h0, h1, h2, h3⟩ := open_agg4 Try.underlying56 (by kernel_rfl) cells56 hv h
  simp only [DataW.weights, Try.underlying56] at hw
  obtain ⟨c, e0, rfl, _⟩ := DataW.trod_int Try.underlying3 h0
  obtain ⟨i, e1, rfl, _⟩ := DataW.trod_int Try.underlying3 h1
  obtain ⟨a, e2, rfl, _⟩ := DataW.trod_int Try.underlying3 h2
  simp only [List.map_cons, List.map_nil, DataW.weightsEach, List.mem_append] at hw
  obtain ⟨A, cap, l, e3, hc, hC, hz, hn⟩ := open_opts h3 (fun n hn => hw n (.inr (.inr (.inr (.inl hn)))))
  simp only [List.cons.injEq, and_true] at e0 e1 e2 e3
  subst e0 e1 e2 e3
  exact ⟨c, i, a, A, cap, l, rfl, hc, hC, hz, hn⟩
end
end Go.Proofs.Ytbdlkcgaobkdcaa.P
end

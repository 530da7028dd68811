/- How an argument that is a packet or a datagram by value reads; no condition. -/
import Derived.Test.YtbdlkcgaobkdcaaOpen
import Derived.Lib.SmallJoins
import Derived.KernelRfl
set_option linter.unusedVariables false
set_option linter.unusedSimpArgs false
namespace Go.Proofs.Ytbdlkcgaobkdcaa.P
open Go.RowKit Go.Proofs.YtbdlkcgaobkdcaaW.PrintWords Go.Proofs.YtbdlkcgaobkdcaaW.PrintLast
open Go.ChangeShapes Go.WideShapes Go.Deep Go.Joins
theorem cells69 : Try.prog.cellsOf 69 = 4 := by kernel_rfl
theorem cells56 : Try.prog.cellsOf 56 = 4 := by kernel_rfl
section
variable {H : Type} {enc : TypeId × Value → H} {W : World} {base b0 : Nat} {sp : Nat → Bool} {held : Bool} {r : Reach}
set_option maxRecDepth 100000 in
theorem open_packet {v : Value} {d : DataW H} {p : List MemPlace} (hv : Value.okWide Try.prog W r b0 69 v) (h : DataW.Trod enc Try.prog W base sp held 69 v d p) (hw : ∀ n ∈ d.weights Try.prog 69, n ≤ reachBytes) :
    ∃ (c i : Int) (A : Option Addr) (cap : Nat) (l : List S46) (s : ByteArray), v = .agg #[.int .i64 c, .int .i64 i, .slice A l.length cap, .string s] ∧ l.length ≤ cap ∧ Kd.C k46 W A l.length l ∧ (∀ o ∈ l, o.f1.size ≤ 140737488351232) ∧ l.length * 24 ≤ 140737488351232 ∧ s.size ≤ 140737488351232 := by
  have hr : reachBytes = 140737488351232 := by decide
  obtain ⟨v0, v1, v2, v3, y0, y1, y2, y3, n, rfl, rfl, _, h0, h1, h2, h3⟩ := open_agg4 Try.underlying69 (by kernel_rfl) cells69 hv h
  simp only [DataW.weights, Try.underlying69] at hw
  obtain ⟨c, e0, rfl, _⟩ := DataW.trod_int Try.underlying3 h0
  obtain ⟨i, e1, rfl, _⟩ := DataW.trod_int Try.underlying3 h1
  obtain ⟨s, e3, rfl, _⟩ := DataW.trod_string Try.underlying9 h3
  simp only [List.map_cons, List.map_nil, DataW.weightsEach, List.mem_append] at hw
  obtain ⟨A, cap, l, e2, hc, hC, hz, hn⟩ := open_opts h2 (fun n hn => hw n (.inr (.inr (.inl hn))))
  simp only [List.cons.injEq, and_true] at e0 e1 e2 e3
  subst e0 e1 e2 e3
  refine ⟨c, i, A, cap, l, s, rfl, hc, hC, hz, hn, ?_⟩
  have := hw s.size (.inr (.inr (.inr (.inl (by simp [DataW.weights])))))
  omega
set_option maxRecDepth 100000 in
theorem open_bap {v : Value} {d : DataW H} {p : List MemPlace} (hv : Value.okWide Try.prog W r b0 56 v) (h : DataW.Trod enc Try.prog W base sp held 56 v d p) (hw : ∀ n ∈ d.weights Try.prog 56, n ≤ reachBytes) :
    ∃ (c i a : Int) (A : Option Addr) (cap : Nat) (l : List S46), v = .agg #[.int .i64 c, .int .i64 i, .int .i64 a, .slice A l.length cap] ∧ l.length ≤ cap ∧ Kd.C k46 W A l.length l ∧ (∀ o ∈ l, o.f1.size ≤ 140737488351232) ∧ l.length * 24 ≤ 140737488351232 := by
  obtain ⟨v0, v1, v2, v3, y0, y1, y2, y3, n, rfl, rfl, _, h0, h1, h2, h3⟩ := open_agg4 Try.underlying56 (by kernel_rfl) cells56 hv h
  simp only [DataW.weights, Try.underlying56] at hw
  obtain ⟨c, e0, rfl, _⟩ := DataW.trod_int Try.underlying3 h0
  obtain ⟨i, e1, rfl, _⟩ := DataW.trod_int Try.underlying3 h1
  obtain ⟨a, e2, rfl, _⟩ := DataW.trod_int Try.underlying3 h2
  simp only [List.map_cons, List.map_nil, DataW.weightsEach, List.mem_append] at hw
  obtain ⟨A, cap, l, e3, hc, hC, hz, hn⟩ := open_opts h3 (fun n hn => hw n (.inr (.inr (.inr (.inl hn)))))
  simp only [List.cons.injEq, and_true] at e0 e1 e2 e3
  subst e0 e1 e2 e3
  exact ⟨c, i, a, A, cap, l, rfl, hc, hC, hz, hn⟩
#print axioms open_packet
#print axioms open_bap
end
end Go.Proofs.Ytbdlkcgaobkdcaa.P

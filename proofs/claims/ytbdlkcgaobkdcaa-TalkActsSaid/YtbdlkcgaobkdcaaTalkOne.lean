/- Contracts of slices.Clone and of package bap's New, clone, Pending, Last, Again, and the plain model of exchanges; conditions: a side's state lies in one block of twelve cells, its options are fewer than memory holds. -/
import Derived.Test.YtbdlkcgaobkdcaaPx0
import Derived.Lib.SliceRun
import Derived.Test.YtbdlkcgaobkdcaaHBap
set_option linter.unusedVariables false
set_option linter.unusedSimpArgs false
section
namespace Go.Proofs.Ytbdlkcgaobkdcaa.P
open Go.RowKit Go.Proofs.YtbdlkcgaobkdcaaW.PrintWords Go.Proofs.YtbdlkcgaobkdcaaW.PrintLast Go.Proofs.YtbdlkcgaobkdcaaW.PrintMore
attribute [local go_sem] max2_int min2_int max_two min_two max_three min_three max_four min_four

/-- What a call that hands back one new slice of options leaves. -/
def NewOpts (w : World) (l : List S46) (e : Ending) (w' : World) : Prop := ∃ (A : Option Addr) (c : Nat), e = .returned (.slice A l.length c) ∧ Kd.R k46 46 w' w.heap.size (fun _ => True) (.slice A l.length c) l ∧ Below w.heap.size w w'
set_option maxHeartbeats 8000000 in
set_option maxRecDepth 100000 in
theorem clone_some (ad : Addr) (c0 : Nat) (l0 : List S46) (w : World) (hr0 : Kd.C k46 w (some ad) l0.length l0) (hn : l0.length < 5864062014805) :
    Calls Try.prog 79 #[.slice (some ad) l0.length c0] w (NewOpts w l0) := by
  have HR0 := Aside0.mk hr0
  have HN := Aside0.mk hn
  clear hr0 hn
  have HB := Aside0.mk (Below.refl w.heap.size w)
  have q35 : ∀ (w : World) (a : Option Addr) (n c n' c' : Nat), (binOp .eql 35 (.slice a n c) (.slice none n' c')).run Try.prog w = .ok (.bool a.isNone) w := fun w a n c n' c' => Lib.run_eql_slice_nil w _ _ a n c n' c' Try.underlying35
  go_enter Try.func79, Try.ntmps79
  go_wp2_with (first
    | ((with_reducible refine gate_dst (N := 5) rfl ?_); refine Kd.R_lit k46 _ 46 ?hg (N := 5) ?hd (xs := ([] : List (S46))) (inner := []) (ok := fun _ => True) (okp := fun _ => True) ?hr ?hp (fun _ hk => hk) trivial (Below.refl _ _) (Nat.le_refl _) (by simp) ?_; (case hd => rfl); (case hg => rfl); (case hr => first | (go_simp; done) | (go_simp; rfl)); (case hp => exact (Reps.none _ _)); intro v184 w3 ho4 hb hg_ hnew_; clear hg_ hnew_; have HO := Aside0.mk (Kd.R_lower ho4 (below_size HB.out)); have n1 := Aside0.mk (below_step HB.out hb); clear HB; have HB := n1; clear n1 hb ho4)
    | ((with_reducible refine gate_builtin (b := .append) (xs := #[.tmp 5, .tmp 6]) rfl ?_); at_builtin; refine Kd.R_append_rows k46 (w0 := w) w.heap.size rfl (.tmp 5) (.tmp 6) 35 46 (.agg #[(.int .i64 0), (.string ⟨#[]⟩)]) 24 rfl Try.underlying35 info46 rfl (by decide) (by omega) v184 [] l0 _ _ _ (fun _ => True) (fun _ => False) rfl rfl ?aO ?aR (fun _ _ h => h) (fun _ h => h.elim) ?aF ?aB ?aS ?aL ?_; (case aR => exact Kd.C_below HR0.out HB.out); (case aB => exact HB.out); (case aF => exact (fun _ _ => trivial)); (case aO => exact HO.out); (case aS => exact below_size HB.out); (case aL => have := HN.out; simp; omega); intro v187 w5 ho hb hg hat; rw [List.nil_append] at ho; have n0 := Aside0.mk hb; have n1 := Aside0.mk ho; clear HB HO; have HB := n0; have HO := n1; clear n0 n1 ho hb hg hat))
  go_ret
  obtain ⟨A, c, rfl⟩ := Kd.R_slice HO.out
  exact ⟨A, c, rfl, HO.out, HB.out⟩
set_option maxHeartbeats 8000000 in
theorem clone_nil (c0 : Nat) (w : World) : Calls Try.prog 79 #[.slice none 0 c0] w (NewOpts w []) := by
  have q35 : ∀ (w : World) (a : Option Addr) (n c n' c' : Nat), (binOp .eql 35 (.slice a n c) (.slice none n' c')).run Try.prog w = .ok (.bool a.isNone) w := fun w a n c n' c' => Lib.run_eql_slice_nil w _ _ a n c n' c' Try.underlying35
  go_enter Try.func79, Try.ntmps79
  go_wp2
  go_ret
  exact ⟨none, 0, rfl, Kd.R_nil _ _ _ _ _, Below.refl _ _⟩
theorem clone_calls (A : Option Addr) (c0 : Nat) (l0 : List S46) (w : World) (hr0 : Kd.C k46 w A l0.length l0) (hn : l0.length < 5864062014805) :
    Calls Try.prog 79 #[.slice A l0.length c0] w (NewOpts w l0) := by
  cases A with
  | some ad => exact clone_some ad c0 l0 w hr0 hn
  | none =>
    cases l0 with
    | nil => exact clone_nil c0 w
    | cons x l =>
      have := hr0.2.2 (by simp)
      exact absurd this (by simp)
end Go.Proofs.Ytbdlkcgaobkdcaa.P
end
section
namespace Go.Proofs.Ytbdlkcgaobkdcaa.P
open Go.RowKit Go.Proofs.YtbdlkcgaobkdcaaW.PrintWords Go.Proofs.YtbdlkcgaobkdcaaW.PrintLast

/-- A side's exchanges. -/
structure Tk where
  ask : S56
  left : Int
  fav : Bool
  tries : Int
  id : Int
  last : S56
def bp0 : S56 := ⟨0, 0, 0, []⟩
def newS (fav : Bool) (tries : Int) : Tk := ⟨bp0, 0, fav, tries, 0, bp0⟩
def reqB (c : Int) : Bool := c == 1 || (c == 3 || c == 5)
def crossB (fav : Bool) (mine its : Int) : Bool := if ((mine == 5) == (its == 5)) = true then fav else its == 5
def nextId (i : Int) : Int := (i + 1) % 256
def askS (m : Tk) (code : Int) (os : List S46) : Tk × S56 × Int :=
  if (reqB code = false ∧ code ≠ 7) ∨ (bapS code (nextId m.id) 0 os).2 ≠ 0 then (m, bp0, 2200)
  else if 0 < m.left then (m, bp0, 2201)
  else ({ m with id := nextId m.id, ask := ⟨code, nextId m.id, 0, os⟩, left := m.tries }, ⟨code, nextId m.id, 0, os⟩, 0)
def againS (m : Tk) : Tk × S56 × Int :=
  if m.left = 0 then (m, bp0, 2202)
  else if m.left = 1 then ({ m with left := 0 }, bp0, 2202)
  else ({ m with left := m.left - 1 }, m.ask, 0)
def ansB (yes : Bool) : Int := if yes = true then 0 else 1
def requestS (m : Tk) (b : S56) (yes : Bool) : Tk × S56 :=
  if 0 < m.left ∧ reqB m.ask.f0 = true then
    if crossB m.fav m.ask.f0 b.f0 = true then (m, ⟨b.f0 + 1, b.f1, 1, b.f3⟩)
    else ({ m with left := 0 }, ⟨b.f0 + 1, b.f1, ansB yes, b.f3⟩)
  else (m, ⟨b.f0 + 1, b.f1, ansB yes, b.f3⟩)
def takeS (m : Tk) (b : S56) (yes : Bool) : Tk × List S56 × Int :=
  if (bapS b.f0 b.f1 b.f2 b.f3).2 ≠ 0 then (m, [], 2200)
  else if reqB b.f0 = true then ((requestS m b yes).1, [(requestS m b yes).2], 0)
  else if b.f0 = 7 then (m, [⟨8, b.f1, 0, []⟩], 0)
  else if 0 < m.left ∧ b.f0 = m.ask.f0 + 1 ∧ b.f1 = m.ask.f1 then ({ m with left := 0, last := b }, [], 0)
  else (m, [], 0)
/-- What holds of every state that calls reach. -/
structure Tk.Ok (m : Tk) : Prop where
  left0 : 0 ≤ m.left
  left1 : m.left ≤ m.tries
  tries0 : 1 ≤ m.tries
  tries1 : m.tries ≤ 10
  id0 : 0 ≤ m.id
  id1 : m.id ≤ 255
  code0 : 0 ≤ m.ask.f0
  code1 : m.ask.f0 ≤ 8
  askLen : m.ask.f3.length ≤ 2048
  lastLen : m.last.f3.length ≤ 2048
end Go.Proofs.Ytbdlkcgaobkdcaa.P
end
section
namespace Go.Proofs.Ytbdlkcgaobkdcaa.P
open Go.RowKit Go.Proofs.YtbdlkcgaobkdcaaW.PrintWords Go.Proofs.YtbdlkcgaobkdcaaW.PrintLast Go.Proofs.YtbdlkcgaobkdcaaW.PrintMore
attribute [local go_sem] max2_int min2_int max_two min_two max_three min_three max_four min_four

/-- A side's twelve cells. -/
def tkCells (m : Tk) (u v : Value) : Array Value := #[.int .i64 m.ask.f0, .int .i64 m.ask.f1, .int .i64 m.ask.f2, u, .int .i64 m.left, .bool m.fav, .int .i64 m.tries, .int .i64 m.id, .int .i64 m.last.f0, .int .i64 m.last.f1, .int .i64 m.last.f2, v]
/-- A slice of options that is read, in blocks of ok. -/
structure Sees (w : World) (ok : Nat → Prop) (A : Option Addr) (c : Nat) (l : List S46) : Prop where
  cap : l.length ≤ c
  row : Kd.F k46 w ok A l.length l
theorem Sees.C {w : World} {ok : Nat → Prop} {A : Option Addr} {c : Nat} {l : List S46} (h : Sees w ok A c l) : Kd.C k46 w A l.length l := Kd.F_now h.row
theorem Sees.nil (w : World) (ok : Nat → Prop) (c : Nat) : Sees w ok none c [] := ⟨Nat.zero_le _, Kd.F_nil _ _ _⟩
theorem Sees.mono {w : World} {ok ok' : Nat → Prop} {A : Option Addr} {c : Nat} {l : List S46} (h : Sees w ok A c l) (hk : ∀ k, ok k → ok' k) : Sees w ok' A c l := ⟨h.cap, Kd.F_mono h.row hk⟩
theorem Sees.step {w w' : World} {ok : Nat → Prop} {A : Option Addr} {c : Nat} {l : List S46} (h : Sees w ok A c l) (hm : ∀ k, ok k → k < w.heap.size → w'.heap[k]? = w.heap[k]?) : Sees w' ok A c l := ⟨h.cap, Kd.F_step h.row hm⟩
theorem Sees.of_R {w : World} {B : Nat} {ok : Nat → Prop} {A : Option Addr} {n c : Nat} {l : List S46} (h : Kd.R k46 46 w B ok (.slice A n c) l) : Sees w ok A c l := by
  obtain ⟨rfl, h2, _⟩ := Kd.R_reads' h
  exact ⟨h2, Kd.R_F h⟩
/-- A side's state at block g: its options lie in blocks of ok. -/
def TkAt (w : World) (g : Nat) (ok : Nat → Prop) (m : Tk) : Prop := ∃ (A : Option Addr) (c : Nat) (A' : Option Addr) (c' : Nat),
  w.heap[g]? = some (.cells (tkCells m (.slice A m.ask.f3.length c) (.slice A' m.last.f3.length c')) 122 (0, 0)) ∧ Sees w ok A c m.ask.f3 ∧ Sees w ok A' c' m.last.f3
theorem TkAt.mono {w : World} {g : Nat} {ok ok' : Nat → Prop} {m : Tk} (h : TkAt w g ok m) (hk : ∀ k, ok k → ok' k) : TkAt w g ok' m := by
  obtain ⟨A, c, A', c', h1, h2, h3⟩ := h
  exact ⟨A, c, A', c', h1, h2.mono hk, h3.mono hk⟩
theorem TkAt.lt {w : World} {g : Nat} {ok : Nat → Prop} {m : Tk} (h : TkAt w g ok m) : g < w.heap.size := by
  obtain ⟨A, c, A', c', h1, _⟩ := h
  exact blk_lt h1
theorem TkAt.step {w w' : World} {g : Nat} {ok : Nat → Prop} {m : Tk} (h : TkAt w g ok m) (hg : w'.heap[g]? = w.heap[g]?) (hm : ∀ k, ok k → k < w.heap.size → w'.heap[k]? = w.heap[k]?) : TkAt w' g ok m := by
  obtain ⟨A, c, A', c', h1, h2, h3⟩ := h
  exact ⟨A, c, A', c', hg.trans h1, h2.step hm, h3.step hm⟩
theorem TkAt.below {w w' : World} {g : Nat} {ok : Nat → Prop} {m : Tk} (h : TkAt w g ok m) (hb : Below w.heap.size w w') : TkAt w' g ok m := h.step (hb.block g h.lt) (fun k _ hk => hb.block k hk)
theorem TkAt.kept {w w' : World} {g : Nat} {ok S : Nat → Prop} {m : Tk} (h : TkAt w g ok m) (hk : Kept w w' S) (hg : ¬ S g) (hS : ∀ k, ok k → ¬ S k) : TkAt w' g ok m := h.step (hk.2 g h.lt hg) (fun k ho hlt => hk.2 k hlt (hS k ho))
/-- What a call on the state at g may write: that block and new ones. -/
structure Upd (w w' : World) (g : Nat) : Prop where
  os : w'.os = w.os
  tape : w'.tape = w.tape
  output : w'.output = w.output
  size : w.heap.size ≤ w'.heap.size
  block : ∀ k, k < w.heap.size → k ≠ g → w'.heap[k]? = w.heap[k]?
theorem Upd.refl (w : World) (g : Nat) : Upd w w g := ⟨rfl, rfl, rfl, Nat.le_refl _, fun _ _ _ => rfl⟩
theorem Upd.of_below {w w' : World} (h : Below w.heap.size w w') (g : Nat) : Upd w w' g := ⟨h.os, h.tape, h.output, h.size, fun k hk _ => h.block k hk⟩
theorem Upd.trans {w w' w'' : World} {g : Nat} (h : Upd w w' g) (k : Upd w' w'' g) : Upd w w'' g :=
  ⟨k.os.trans h.os, k.tape.trans h.tape, k.output.trans h.output, Nat.le_trans h.size k.size, fun i hi hg => (k.block i (Nat.lt_of_lt_of_le hi h.size) hg).trans (h.block i hi hg)⟩
theorem Upd.then_below {w w' w'' : World} {g : Nat} (h : Upd w w' g) (k : Below w'.heap.size w' w'') : Upd w w'' g := h.trans (Upd.of_below k g)
theorem Upd.drewN {w w' : World} {g : Nat} (h : Upd w w' g) (n : Nat) : Upd w (w'.drewN n) g := h.then_below (pw_below_drewN (Below.refl _ _) n)
theorem Upd.drew {w w' : World} {g : Nat} (h : Upd w w' g) : Upd w w'.drew g := h.then_below (below_drew (Below.refl _ _))
theorem Upd.alloc {w w' : World} {g : Nat} (h : Upd w w' g) (o : Obj) : Upd w (w'.alloc o) g := h.then_below (below_alloc (Below.refl _ _) o)
/-- A store into the state's block or into a new one. -/
theorem Upd.set {w w' : World} {g : Nat} (h : Upd w w' g) (b j : Nat) (hb : b = g ∨ w.heap.size ≤ b) (u : Value) : Upd w (w'.setCell ⟨b, j, none⟩ u) g :=
  ⟨h.os, h.tape, h.output, by simpa [World.setCell] using h.size, fun i hi hg => (Below.heap_setCell w' ⟨b, j, none⟩ u i (by simp; rintro rfl; rcases hb with hb | hb; exact hg hb; omega)).trans (h.block i hi hg)⟩
theorem Upd.kept {w w' : World} {g : Nat} (h : Upd w w' g) : Kept w w' (fun k => k = g) := ⟨h.size, fun i hi hn => h.block i hi hn⟩
theorem Upd.below {w w' : World} {g B : Nat} (h : Upd w w' g) (hB : B ≤ g) (hw : B ≤ w.heap.size) : Below B w w' := ⟨h.os, h.tape, h.output, h.size, fun k hk => h.block k (by omega) (by omega)⟩
theorem Upd.blk {w w' : World} {g g' : Nat} {o : Obj} (h : Upd w w' g) (hb : w.heap[g']? = some o) (hne : g' ≠ g) : w'.heap[g']? = some o := (h.block g' (blk_lt hb) hne).trans hb
end Go.Proofs.Ytbdlkcgaobkdcaa.P
end
section
namespace Go.Proofs.Ytbdlkcgaobkdcaa.P
open Go.RowKit Go.Proofs.YtbdlkcgaobkdcaaW.PrintWords Go.Proofs.YtbdlkcgaobkdcaaW.PrintLast Go.Proofs.YtbdlkcgaobkdcaaW.PrintMore
attribute [local go_sem] max2_int min2_int max_two min_two max_three min_three max_four min_four

theorem below_set3 {B : Nat} {a w : World} (b o : Nat) (h : Below B a w) (hb : B ≤ b) (u : Value) : Below B a (w.setCell ⟨b, o, none⟩ u) := h.setCell (p := ⟨b, o, none⟩) hb u
theorem R_up {w : World} {B : Nat} {ok : Nat → Prop} {v : Value} {l : List S46} (h : Kd.R k46 46 w B ok v l) : Kd.R k46 46 w B (fun k => B ≤ k) v l := Kd.R_mono (Kd.R_bound h) (fun _ hk => hk.2.1)
theorem four {w : World} {g : Nat} {a b c d : Value} {t : TypeId} (h : w.heap[g]? = some (.cells #[a, b, c, d] t (0, 0))) : w.cell? ⟨g, 0, none⟩ = some a ∧ w.cell? ⟨g, 1, none⟩ = some b ∧ w.cell? ⟨g, 2, none⟩ = some c ∧ w.cell? ⟨g, 3, none⟩ = some d ∧
    w.frozen? ⟨g, 0, none⟩ = false ∧ w.frozen? ⟨g, 1, none⟩ = false ∧ w.frozen? ⟨g, 2, none⟩ = false ∧ w.frozen? ⟨g, 3, none⟩ = false :=
  ⟨(blk_cell h 0).trans rfl, (blk_cell h 1).trans rfl, (blk_cell h 2).trans rfl, (blk_cell h 3).trans rfl, blk_frozen h 0, blk_frozen h 1, blk_frozen h 2, blk_frozen h 3⟩
theorem R_sizes {w : World} {B B' : Nat} {ok : Nat → Prop} {v : Value} {l : List S46} (h : Kd.R k46 46 w B ok v l) (hB : B' ≤ B) : Kd.R k46 46 w B' (fun k => B ≤ k) v l := Kd.R_lower (R_up h) hB
/-- A datagram that a call hands back, with new options. -/
def NewBap (w : World) (c i a : Int) (l : List S46) (e : Ending) (w' : World) : Prop := ∃ (A : Option Addr) (cc : Nat), e = .returned (.agg #[.int .i64 c, .int .i64 i, .int .i64 a, .slice A l.length cc]) ∧ Kd.R k46 46 w' w.heap.size (fun k => w.heap.size ≤ k) (.slice A l.length cc) l ∧ Below w.heap.size w w'
set_option maxHeartbeats 4000000 in
set_option maxRecDepth 100000 in
theorem bclone_calls (c i a : Int) (A : Option Addr) (cc : Nat) (l : List S46) (w : World) (hr : Kd.C k46 w A l.length l) (hc : l.length ≤ cc) (hn : l.length < 5864062014805) :
    Calls Try.prog 80 #[.agg #[.int .i64 c, .int .i64 i, .int .i64 a, .slice A l.length cc]] w (NewBap w c i a l) := by
  have hu56 := Try.underlying56
  have HR := Aside0.mk hr
  have HN := Aside0.mk hn
  clear hr hc hn
  go_enter Try.func80, Try.ntmps80
  go_wp2_with fail
  refine (clone_calls A cc l _ (Kd.C_alloc (Kd.C_alloc HR.out _) _) HN.out).mono ?_
  rintro e1 w1 ⟨A1, c1, rfl, hR, hb⟩
  have g0 : w1.heap[w.heap.size]? = some (.cells #[.int .i64 c, .int .i64 i, .int .i64 a, .slice A l.length cc] 56 (0, 0)) := blk_below (blk_alloc (blk_new w _) _) hb
  have g1 : w1.heap[w.heap.size + 1]? = some (.cells #[.int .i64 0, .int .i64 0, .int .i64 0, .slice none 0 0] 56 (0, 0)) := blk_below (by simpa using blk_new (w.alloc (.cells #[.int .i64 c, .int .i64 i, .int .i64 a, .slice A l.length cc] 56)) (.cells #[.int .i64 0, .int .i64 0, .int .i64 0, .slice none 0 0] 56)) hb
  obtain ⟨k0, k1, k2, k3, f0, f1, f2, f3⟩ := four g0
  obtain ⟨j0, j1, j2, j3, q0, q1, q2, q3⟩ := four g1
  have HRR := Aside0.mk (show Kd.R k46 46 w1 w.heap.size (fun k => w.heap.size + 1 < k) _ _ from Kd.R_mono (R_sizes (B' := w.heap.size) hR (by simp; omega)) (fun k hk => by simp at hk; omega))
  have HB := Aside0.mk (below_then (below_alloc (below_alloc (Below.refl w.heap.size w) (.cells #[.int .i64 c, .int .i64 i, .int .i64 a, .slice A l.length cc] 56)) (.cells #[.int .i64 0, .int .i64 0, .int .i64 0, .slice none 0 0] 56)) (by simp; omega) hb)
  have hz : w.heap.size + 1 < w1.heap.size := by have := hb.size; simp at this; omega
  clear hb hR g0 g1
  go_wp2
  refine bodyPost_ret (v := .agg #[.int .i64 c, .int .i64 i, .int .i64 a, .slice A1 l.length c1]) (by simp [results, Try.results80, go_sem, *]) rfl ⟨_, _, rfl, ?_, ?_⟩
  · refine Kd.R_mono (ok := fun k => w.heap.size + 1 < k) ?_ (fun k hk => by omega)
    repeat (refine Kd.R_far ?_ (fun k hk => by simp only; omega) _)
    exact HRR.out
  · repeat (first | exact HB.out | (refine below_set3 _ _ ?_ (by omega) _))
end Go.Proofs.Ytbdlkcgaobkdcaa.P
end
section
namespace Go.Proofs.Ytbdlkcgaobkdcaa.P
open Go.RowKit Go.Proofs.YtbdlkcgaobkdcaaW.PrintWords Go.Proofs.YtbdlkcgaobkdcaaW.PrintLast Go.Proofs.YtbdlkcgaobkdcaaW.PrintMore
attribute [local go_sem] max2_int min2_int max_two min_two max_three min_three max_four min_four

theorem tk_cells {w : World} {g : Nat} {m : Tk} {u v : Value} (h : w.heap[g]? = some (.cells (tkCells m u v) 122 (0, 0))) :
    w.cell? ⟨g, 0, none⟩ = some (.int .i64 m.ask.f0) ∧ w.cell? ⟨g, 1, none⟩ = some (.int .i64 m.ask.f1) ∧ w.cell? ⟨g, 2, none⟩ = some (.int .i64 m.ask.f2) ∧ w.cell? ⟨g, 3, none⟩ = some u ∧
    w.cell? ⟨g, 4, none⟩ = some (.int .i64 m.left) ∧ w.cell? ⟨g, 5, none⟩ = some (.bool m.fav) ∧ w.cell? ⟨g, 6, none⟩ = some (.int .i64 m.tries) ∧ w.cell? ⟨g, 7, none⟩ = some (.int .i64 m.id) ∧
    w.cell? ⟨g, 8, none⟩ = some (.int .i64 m.last.f0) ∧ w.cell? ⟨g, 9, none⟩ = some (.int .i64 m.last.f1) ∧ w.cell? ⟨g, 10, none⟩ = some (.int .i64 m.last.f2) ∧ w.cell? ⟨g, 11, none⟩ = some v :=
  ⟨(blk_cell h 0).trans rfl, (blk_cell h 1).trans rfl, (blk_cell h 2).trans rfl, (blk_cell h 3).trans rfl, (blk_cell h 4).trans rfl, (blk_cell h 5).trans rfl, (blk_cell h 6).trans rfl, (blk_cell h 7).trans rfl, (blk_cell h 8).trans rfl, (blk_cell h 9).trans rfl, (blk_cell h 10).trans rfl, (blk_cell h 11).trans rfl⟩
theorem tk_free {w : World} {g : Nat} {m : Tk} {u v : Value} (h : w.heap[g]? = some (.cells (tkCells m u v) 122 (0, 0))) (i : Nat) : w.frozen? ⟨g, i, none⟩ = false := blk_frozen h i

/-! New -/
def NewTalk (w : World) (m : Tk) (e : Ending) (w' : World) : Prop := ∃ g : Nat, e = .returned (.tuple #[.pointer (some ⟨g, 0, none⟩), .int .i64 0]) ∧ w.heap.size ≤ g ∧ TkAt w' g (fun _ => False) m ∧ Below w.heap.size w w'
set_option maxHeartbeats 4000000 in
set_option maxRecDepth 100000 in
theorem new_calls (fav : Bool) (tries : Int) (w : World) (h1 : 1 ≤ tries) (h2 : tries ≤ 10) : Calls Try.prog 42 #[.bool fav, .int .i64 tries] w (NewTalk w (newS fav tries)) := by
  have hu122 := Try.underlying122
  have c1 : decide (tries < 1) = false := decide_eq_false (by omega)
  have c2 : decide (10 < tries) = false := decide_eq_false (by omega)
  go_enter Try.func42, Try.ntmps42
  go_wp2
  go_ret2
  exact ⟨w.heap.size, rfl, Nat.le_refl _, ⟨none, 0, none, 0, blk_new w _, Sees.nil _ _ _, Sees.nil _ _ _⟩, below_alloc (Below.refl _ _) _⟩
set_option maxHeartbeats 4000000 in
theorem new_bad (fav : Bool) (tries : Int) (w : World) (h : tries < 1 ∨ 10 < tries) : Calls Try.prog 42 #[.bool fav, .int .i64 tries] w fun e w' => e = .returned (.tuple #[.pointer none, .int .i64 2200]) ∧ w = w' := by
  rcases h with h | h
  · have c1 : decide (tries < 1) = true := decide_eq_true h
    go_enter Try.func42, Try.ntmps42
    go_wp2
    go_ret2
    exact ⟨rfl, rfl⟩
  · have c1 : decide (tries < 1) = false := decide_eq_false (by omega)
    have c2 : decide (10 < tries) = true := decide_eq_true h
    go_enter Try.func42, Try.ntmps42
    go_wp2
    go_ret2
    exact ⟨rfl, rfl⟩

/-! Pending -/
set_option maxHeartbeats 4000000 in
theorem pending_calls (g : Nat) (ok : Nat → Prop) (m : Tk) (w : World) (h : TkAt w g ok m) : Calls Try.prog 45 #[.pointer (some ⟨g, 0, none⟩)] w fun e w' => e = .returned (.bool (decide (0 < m.left))) ∧ w = w' := by
  obtain ⟨A, c, A', c', h1, _, _⟩ := h
  obtain ⟨k0, k1, k2, k3, k4, k5, k6, k7, k8, k9, k10, k11⟩ := tk_cells h1
  clear h1 k0 k1 k2 k3 k5 k6 k7 k8 k9 k10 k11
  have hu122 := Try.underlying122
  have hu120 := Try.underlying120
  go_enter Try.func45, Try.ntmps45
  go_wp2
  go_ret
  exact ⟨rfl, rfl⟩
end Go.Proofs.Ytbdlkcgaobkdcaa.P
end
section
namespace Go.Proofs.Ytbdlkcgaobkdcaa.P
open Go.RowKit Go.Proofs.YtbdlkcgaobkdcaaW.PrintWords Go.Proofs.YtbdlkcgaobkdcaaW.PrintLast Go.Proofs.YtbdlkcgaobkdcaaW.PrintMore
attribute [local go_sem] max2_int min2_int max_two min_two max_three min_three max_four min_four

set_option maxHeartbeats 4000000 in
set_option maxRecDepth 100000 in
theorem last_calls (g : Nat) (ok : Nat → Prop) (m : Tk) (w : World) (h : TkAt w g ok m) (hn : m.last.f3.length < 5864062014805) : Calls Try.prog 63 #[.pointer (some ⟨g, 0, none⟩)] w (NewBap w m.last.f0 m.last.f1 m.last.f2 m.last.f3) := by
  have HT := Aside0.mk h
  have HN := Aside0.mk hn
  clear h hn
  have hu122 := Try.underlying122
  have hu120 := Try.underlying120
  have hu56 := Try.underlying56
  go_enter Try.func63, Try.ntmps63
  go_wp2_with (first
    | ((with_reducible refine gate_dst (N := 2) rfl ?_); refine box_event ?hg (N := 2) ?hd (cs := #[.int .i64 0, .int .i64 0, .int .i64 0, .slice none 0 0]) (t := 56) ?hr ?_; (case hd => rfl); (case hg => rfl); (case hr => first | (go_simp; done) | (go_simp; rfl)); intro gr hg w1 hbox hb
       have GR := Aside0.mk (show w.heap.size ≤ gr by rw [hg]; exact Nat.le_refl _)
       have GL := Aside0.mk (show gr < w1.heap.size from blk_lt hbox)
       obtain ⟨A, c, A', c', h1, hs, hs'⟩ := HT.out.below hb
       obtain ⟨k0, k1, k2, k3, k4, k5, k6, k7, k8, k9, k10, k11⟩ := tk_cells h1
       clear h1 hs k0 k1 k2 k3 k4 k5 k6 k7 hg
       have HS := Aside0.mk hs'
       have HB := Aside0.mk hb
       have HX := Aside0.mk hbox
       clear hs' hb hbox)
    | (go_at_call 80; refine (bclone_calls _ _ _ _ _ _ _ HS.out.C HS.out.cap HN.out).mono ?_; rintro e w2 ⟨A2, c2, rfl, hR, hb⟩
       obtain ⟨j0, j1, j2, j3, q0, q1, q2, q3⟩ := four (blk_below HX.out hb)
       have n0 := Aside0.mk (below_step HB.out hb)
       have HRR := Aside0.mk (R_sizes hR (below_size HB.out))
       have n1 := Aside0.mk (show w1.heap.size ≤ w1.heap.size from Nat.le_refl _)
       clear HB HX hR hb k8 k9 k10 k11
       have HB := n0
       clear n0))
  have hgr := GR.out
  refine bodyPost_ret (v := .agg #[.int .i64 m.last.f0, .int .i64 m.last.f1, .int .i64 m.last.f2, .slice A2 m.last.f3.length c2]) (by simp [results, Try.results63, go_sem, *]) rfl ⟨_, _, rfl, ?_, ?_⟩
  · refine Kd.R_mono (ok := fun k => w1.heap.size ≤ k) ?_ (fun k hk => by have := below_size HB.out; have := GL.out; omega)
    repeat (refine Kd.R_far ?_ (fun k hk => by have := GL.out; simp only; omega) _)
    exact HRR.out
  · repeat (first | exact HB.out | (refine below_set3 _ _ ?_ (by omega) _))
end Go.Proofs.Ytbdlkcgaobkdcaa.P
end
section
namespace Go.Proofs.Ytbdlkcgaobkdcaa.P
open Go.RowKit Go.Proofs.YtbdlkcgaobkdcaaW.PrintWords Go.Proofs.YtbdlkcgaobkdcaaW.PrintLast Go.Proofs.YtbdlkcgaobkdcaaW.PrintMore
attribute [local go_sem] max2_int min2_int max_two min_two max_three min_three max_four min_four

/-- What Ask and Again leave: a datagram with new options, an error, the state at g. -/
def MadeBap (w : World) (g : Nat) (ok : Nat → Prop) (m : Tk) (b : S56) (er : Int) (e : Ending) (w' : World) : Prop := ∃ (A : Option Addr) (cc B : Nat),
  e = .returned (.tuple #[.agg #[.int .i64 b.f0, .int .i64 b.f1, .int .i64 b.f2, .slice A b.f3.length cc], .int .i64 er]) ∧ w.heap.size ≤ B ∧ Kd.R k46 46 w' w.heap.size (fun k => B ≤ k) (.slice A b.f3.length cc) b.f3 ∧
  TkAt w' g (fun k => ok k ∨ (w.heap.size ≤ k ∧ k < B)) m ∧ Upd w w' g
theorem MadeBap.none {w : World} {g : Nat} {ok : Nat → Prop} {m : Tk} {er : Int} {w' : World} (hT : TkAt w' g ok m) (hU : Upd w w' g) :
    MadeBap w g ok m bp0 er (.returned (.tuple #[.agg #[.int .i64 0, .int .i64 0, .int .i64 0, .slice none 0 0], .int .i64 er])) w' :=
  ⟨Option.none, 0, w.heap.size, rfl, Nat.le_refl _, Kd.R_nil _ _ _ _ _, hT.mono (fun _ hk => .inl hk), hU⟩
/-- The state behind stores into its block. -/
theorem TkAt.turn {w w' : World} {g : Nat} {ok : Nat → Prop} {m : Tk} {A A' : Option Addr} {c c' : Nat} (hb : w'.heap[g]? = some (.cells (tkCells m (.slice A m.ask.f3.length c) (.slice A' m.last.f3.length c')) 122 (0, 0)))
    (hs : Sees w ok A c m.ask.f3) (hs' : Sees w ok A' c' m.last.f3) (hU : Upd w w' g) (hok : ∀ k, ok k → k ≠ g) : TkAt w' g ok m :=
  ⟨A, c, A', c', hb, hs.step (fun k ho hk => hU.block k hk (hok k ho)), hs'.step (fun k ho hk => hU.block k hk (hok k ho))⟩

set_option maxHeartbeats 4000000 in
set_option maxRecDepth 100000 in
theorem again_none (g : Nat) (ok : Nat → Prop) (m : Tk) (w : World) (h : TkAt w g ok m) (hok : ∀ k, ok k → k ≠ g) (h0 : m.left = 0) : Calls Try.prog 44 #[.pointer (some ⟨g, 0, none⟩)] w (MadeBap w g ok m bp0 2202) := by
  obtain ⟨A, c, A', c', h1, hs, hs'⟩ := h
  have H1 := Aside0.mk h1
  have HS := Aside0.mk hs
  have HS' := Aside0.mk hs'
  have HK := Aside0.mk hok
  have c0 : (m.left == 0) = true := by rw [h0]; rfl
  clear h0
  clear h1 hs hs' hok
  have hu122 := Try.underlying122
  have hu120 := Try.underlying120
  have hu56 := Try.underlying56
  go_enter Try.func44, Try.ntmps44
  go_wp2_with (first
    | ((with_reducible refine gate_dst (N := 2) rfl ?_); refine box_event ?hg (N := 2) ?hd (cs := #[.int .i64 0, .int .i64 0, .int .i64 0, .slice none 0 0]) (t := 56) ?hr ?_; (case hd => rfl); (case hg => rfl); (case hr => first | (go_simp; done) | (go_simp; rfl)); intro gr hg w1 hbox hb
       have GR := Aside0.mk (show w.heap.size ≤ gr by rw [hg]; exact Nat.le_refl _)
       have GL := Aside0.mk (show gr < w1.heap.size from blk_lt hbox)
       have GX := Aside0.mk hbox
       have G1 := Aside0.mk (blk_below H1.out hb)
       obtain ⟨k0, k1, k2, k3, k4, k5, k6, k7, k8, k9, k10, k11⟩ := tk_cells G1.out
       have s4 := tk_free G1.out 4
       obtain ⟨j0, j1, j2, j3, q0, q1, q2, q3⟩ := four hbox
       have HU := Aside0.mk (Upd.of_below hb g)
       have NE := Aside0.mk (show g ≠ gr by have := blk_lt H1.out; omega)
       clear k5 k6 k7 k8 k9 k10 k11 hg hbox hb))
  have hgr := GR.out
  refine bodyPost_ret (v := .tuple #[.agg #[.int .i64 0, .int .i64 0, .int .i64 0, .slice none 0 0], .int .i64 2202]) (by simp [results, Try.results44, go_sem, *]) rfl ?_
  have hU : Upd w ((((w1.setCell ⟨gr, 0, none⟩ (.int .i64 0)).setCell ⟨gr, 1, none⟩ (.int .i64 0)).setCell ⟨gr, 2, none⟩ (.int .i64 0)).setCell ⟨gr, 3, none⟩ (.slice none 0 0)) g :=
    (((HU.out.set gr 0 (.inr hgr) _).set gr 1 (.inr hgr) _).set gr 2 (.inr hgr) _).set gr 3 (.inr hgr) _
  refine MadeBap.none ?_ hU
  exact TkAt.turn (blk_far (blk_far (blk_far (blk_far G1.out NE.out _) NE.out _) NE.out _) NE.out _) HS.out HS'.out hU HK.out
set_option maxHeartbeats 4000000 in
set_option maxRecDepth 100000 in
theorem again_last (g : Nat) (ok : Nat → Prop) (m : Tk) (w : World) (h : TkAt w g ok m) (hok : ∀ k, ok k → k ≠ g) (h0 : m.left = 1) : Calls Try.prog 44 #[.pointer (some ⟨g, 0, none⟩)] w (MadeBap w g ok { m with left := 0 } bp0 2202) := by
  obtain ⟨A, c, A', c', h1, hs, hs'⟩ := h
  have H1 := Aside0.mk h1
  have HS := Aside0.mk hs
  have HS' := Aside0.mk hs'
  have HK := Aside0.mk hok
  have c0 : (m.left == 0) = false := by rw [h0]; rfl
  have c1 : IntKind.i64.wrap (m.left - 1) = 0 := by rw [h0]; rfl
  clear h0
  clear h1 hs hs' hok
  have hu122 := Try.underlying122
  have hu120 := Try.underlying120
  have hu56 := Try.underlying56
  go_enter Try.func44, Try.ntmps44
  go_wp2_with (first
    | ((with_reducible refine gate_dst (N := 2) rfl ?_); refine box_event ?hg (N := 2) ?hd (cs := #[.int .i64 0, .int .i64 0, .int .i64 0, .slice none 0 0]) (t := 56) ?hr ?_; (case hd => rfl); (case hg => rfl); (case hr => first | (go_simp; done) | (go_simp; rfl)); intro gr hg w1 hbox hb
       have GR := Aside0.mk (show w.heap.size ≤ gr by rw [hg]; exact Nat.le_refl _)
       have GL := Aside0.mk (show gr < w1.heap.size from blk_lt hbox)
       have GX := Aside0.mk hbox
       have G1 := Aside0.mk (blk_below H1.out hb)
       obtain ⟨k0, k1, k2, k3, k4, k5, k6, k7, k8, k9, k10, k11⟩ := tk_cells G1.out
       have s4 := tk_free G1.out 4
       obtain ⟨j0, j1, j2, j3, q0, q1, q2, q3⟩ := four hbox
       have HU := Aside0.mk (Upd.of_below hb g)
       have NE := Aside0.mk (show g ≠ gr by have := blk_lt H1.out; omega)
       clear k5 k6 k7 k8 k9 k10 k11 hg hbox hb))
  have hgr := GR.out
  refine bodyPost_ret (v := .tuple #[.agg #[.int .i64 0, .int .i64 0, .int .i64 0, .slice none 0 0], .int .i64 2202]) (by simp [results, Try.results44, go_sem, *]) rfl ?_
  have hU : Upd w (((((w1.setCell ⟨g, 4, none⟩ (.int .i64 0)).setCell ⟨gr, 0, none⟩ (.int .i64 0)).setCell ⟨gr, 1, none⟩ (.int .i64 0)).setCell ⟨gr, 2, none⟩ (.int .i64 0)).setCell ⟨gr, 3, none⟩ (.slice none 0 0)) g :=
    ((((HU.out.set g 4 (.inl rfl) _).set gr 0 (.inr hgr) _).set gr 1 (.inr hgr) _).set gr 2 (.inr hgr) _).set gr 3 (.inr hgr) _
  refine MadeBap.none (m := { m with left := 0 }) ?_ hU
  exact TkAt.turn (m := { m with left := 0 }) (blk_far (blk_far (blk_far (blk_far (blk_put G1.out 4 _ rfl) NE.out _) NE.out _) NE.out _) NE.out _) HS.out HS'.out hU HK.out
set_option maxHeartbeats 4000000 in
set_option maxRecDepth 100000 in
theorem again_more (g : Nat) (ok : Nat → Prop) (m : Tk) (w : World) (h : TkAt w g ok m) (hok : ∀ k, ok k → k ≠ g) (h0 : 2 ≤ m.left) (h9 : m.left ≤ 10) (hn : m.ask.f3.length < 5864062014805) : Calls Try.prog 44 #[.pointer (some ⟨g, 0, none⟩)] w (MadeBap w g ok { m with left := m.left - 1 } m.ask 0) := by
  obtain ⟨A, c, A', c', h1, hs, hs'⟩ := h
  have H1 := Aside0.mk h1
  have HS := Aside0.mk hs
  have HS' := Aside0.mk hs'
  have HK := Aside0.mk hok
  have HN := Aside0.mk hn
  clear hn
  obtain ⟨l1, hl1⟩ : ∃ l1, l1 = m.left - 1 := ⟨_, rfl⟩
  have c0 : (m.left == 0) = false := by rw [beq_eq_false_iff_ne]; omega
  have c1 : (l1 == 0) = false := by rw [beq_eq_false_iff_ne]; omega
  have c2 : IntKind.i64.wrap (m.left - 1) = l1 := by rw [IntKind.wrap_i64]; omega
  have HL := Aside0.mk hl1
  clear hl1
  clear h1 hs hs' hok
  have hu122 := Try.underlying122
  have hu120 := Try.underlying120
  have hu56 := Try.underlying56
  go_enter Try.func44, Try.ntmps44
  go_wp2_with (first
    | ((with_reducible refine gate_dst (N := 2) rfl ?_); refine box_event ?hg (N := 2) ?hd (cs := #[.int .i64 0, .int .i64 0, .int .i64 0, .slice none 0 0]) (t := 56) ?hr ?_; (case hd => rfl); (case hg => rfl); (case hr => first | (go_simp; done) | (go_simp; rfl)); intro gr hg w1 hbox hb
       have GR := Aside0.mk (show w.heap.size ≤ gr by rw [hg]; exact Nat.le_refl _)
       have GL := Aside0.mk (show gr < w1.heap.size from blk_lt hbox)
       have GX := Aside0.mk hbox
       have G1 := Aside0.mk (blk_below H1.out hb)
       obtain ⟨k0, k1, k2, k3, k4, k5, k6, k7, k8, k9, k10, k11⟩ := tk_cells G1.out
       have s4 := tk_free G1.out 4
       obtain ⟨j0, j1, j2, j3, q0, q1, q2, q3⟩ := four hbox
       have HU := Aside0.mk (Upd.of_below hb g)
       have NE := Aside0.mk (show g ≠ gr by have := blk_lt H1.out; omega)
       clear k5 k6 k7 k8 k9 k10 k11 hg hbox hb)
    | (go_at_call 80; refine (bclone_calls _ _ _ _ _ _ _ (HS.out.step (fun k ho hk => ((HU.out.set g 4 (.inl rfl) _).block k hk (HK.out k ho)))).C HS.out.cap HN.out).mono ?_; rintro e w2 ⟨A2, c2', rfl, hR, hb⟩
       have GX2 := Aside0.mk (blk_below (blk_far GX.out NE.out.symm _) hb)
       obtain ⟨j0, j1, j2, j3, q0, q1, q2, q3⟩ := four GX2.out
       have G2 := Aside0.mk (blk_below (blk_put G1.out 4 _ rfl) hb)
       have n0 := Aside0.mk ((HU.out.set g 4 (.inl rfl) _).then_below hb)
       have HRR := Aside0.mk (Kd.R_lower (R_up hR) (show w.heap.size ≤ _ by have := HU.out.size; simp [World.setCell] at *; omega))
       have SZ := Aside0.mk (show w1.heap.size ≤ _ by have := hb.size; simp [World.setCell] at *; omega)
       clear HU hR hb k0 k1 k2 k3 k4
       have HU := n0
       clear n0))
  have hgr := GR.out
  have hgl := GL.out
  have hsz := SZ.out
  refine bodyPost_ret (v := .tuple #[.agg #[.int .i64 m.ask.f0, .int .i64 m.ask.f1, .int .i64 m.ask.f2, .slice A2 m.ask.f3.length c2'], .int .i64 0]) (by simp [results, Try.results44, go_sem, *]) rfl ?_
  have hU : Upd w ((((w2.setCell ⟨gr, 0, none⟩ (.int .i64 m.ask.f0)).setCell ⟨gr, 1, none⟩ (.int .i64 m.ask.f1)).setCell ⟨gr, 2, none⟩ (.int .i64 m.ask.f2)).setCell ⟨gr, 3, none⟩ (.slice A2 m.ask.f3.length c2')) g :=
    (((HU.out.set gr 0 (.inr hgr) _).set gr 1 (.inr hgr) _).set gr 2 (.inr hgr) _).set gr 3 (.inr hgr) _
  have hw1 : (w1.setCell ⟨g, 4, none⟩ (.int .i64 l1)).heap.size = w1.heap.size := by simp [World.setCell]
  have hl : m.left - 1 = l1 := HL.out.symm
  rw [hl]
  refine ⟨A2, c2', w.heap.size, rfl, Nat.le_refl _, ?_, ?_, hU⟩
  · refine Kd.R_mono (ok := fun k => w1.heap.size ≤ k) ?_ (fun k hk => by omega)
    repeat (refine Kd.R_far ?_ (fun k hk => by simp only; omega) _)
    have := HRR.out
    rw [hw1] at this
    exact this
  · refine TkAt.mono ?_ (fun k hk => .inl hk)
    exact TkAt.turn (m := { m with left := l1 }) (blk_far (blk_far (blk_far (blk_far G2.out NE.out _) NE.out _) NE.out _) NE.out _) HS.out HS'.out hU HK.out
theorem again_calls (g : Nat) (ok : Nat → Prop) (m : Tk) (w : World) (h : TkAt w g ok m) (hok : ∀ k, ok k → k ≠ g) (h0 : 0 ≤ m.left) (h9 : m.left ≤ 10) (hn : m.ask.f3.length < 5864062014805) :
    Calls Try.prog 44 #[.pointer (some ⟨g, 0, none⟩)] w (MadeBap w g ok (againS m).1 (againS m).2.1 (againS m).2.2) := by
  unfold againS
  by_cases c0 : m.left = 0
  · rw [if_pos c0]; exact again_none g ok m w h hok c0
  · rw [if_neg c0]
    by_cases c1 : m.left = 1
    · rw [if_pos c1]; exact again_last g ok m w h hok c1
    · rw [if_neg c1]; exact again_more g ok m w h hok (by omega) h9 hn
end Go.Proofs.Ytbdlkcgaobkdcaa.P
end

/- The law TalkActs: TalkV, TalkW, TalkX, OpenActs, TalkY as one; conditions as in each. -/
import Derived.Test.YtbdlkcgaobkdcaaRefAll
import Derived.Test.YtbdlkcgaobkdcaaAwakeT
import Derived.Test.YtbdlkcgaobkdcaaLendAll
import Derived.Deep.LoopGhost
import Derived.Test.YtbdlkcgaobkdcaaOpens
import Derived.Deep.Strs
import Derived.Test.YtbdlkcgaobkdcaaTalkQ
import Derived.Deep.RegionHeld3
set_option linter.unusedVariables false
set_option linter.unusedSimpArgs false
section
namespace Go.Proofs.Ytbdlkcgaobkdcaa.P
open Go.RowKit Go.Proofs.YtbdlkcgaobkdcaaW.PrintWords Go.Proofs.YtbdlkcgaobkdcaaW.PrintLast Go.Proofs.YtbdlkcgaobkdcaaW.PrintMore

/-- What is written lies in S (or is new). -/
structure Chg (S : Nat → Prop) (w w' : World) : Prop where
  os : w'.os = w.os
  tape : w'.tape = w.tape
  output : w'.output = w.output
  size : w.heap.size ≤ w'.heap.size
  block : ∀ k, k < w.heap.size → ¬ S k → w'.heap[k]? = w.heap[k]?
theorem Chg.of_below {w w' : World} (S : Nat → Prop) (h : Below w.heap.size w w') : Chg S w w' := ⟨h.os, h.tape, h.output, h.size, fun k hk _ => h.block k hk⟩
theorem Chg.of_upd {w w' : World} {g : Nat} (h : Upd w w' g) : Chg (fun k => k = g) w w' := ⟨h.os, h.tape, h.output, h.size, h.block⟩
def okX (g gr : Nat) (k : Nat) : Prop := k ≠ g ∧ k ≠ gr
def okR (g gr B C : Nat) (k : Nat) : Prop := (k < B ∨ C ≤ k) ∧ k ≠ g ∧ k ≠ gr
/-- In the midst of an act: m: the side's state, n: the document's; what they see lies in ok. -/
structure Rd (ok : Nat → Prop) (w0 W : World) (g gr ga : Nat) (m n : Tk) (act : Array Value) (A : Option Addr) (cc : Nat) (l : List S46) : Prop where
  tk : TkAt W g ok m
  rf : RfAt W gr ok n
  hl : Kd.R k46 46 W w0.heap.size ok (.slice A (l.length + 2) cc) (l ++ [mark46, mark46])
  ab : W.heap[ga]? = some (.cells act 89 (0, 0))
  bl : Below w0.heap.size w0 W
  okm : m.Ok
  okn : n.Ok
  hg : w0.heap.size ≤ g
  hr : w0.heap.size ≤ gr
  ne : g ≠ gr
section
variable {ok ok' S : Nat → Prop} {w0 W W' : World} {g gr ga : Nat} {m n : Tk} {act : Array Value} {A : Option Addr} {cc : Nat} {l : List S46}
theorem Rd.mono (h : Rd ok w0 W g gr ga m n act A cc l) (hk : ∀ k, ok k → ok' k) : Rd ok' w0 W g gr ga m n act A cc l := { h with tk := h.tk.mono hk, rf := h.rf.mono hk, hl := Kd.R_mono h.hl hk }
theorem Rd.bound (h : Rd ok w0 W g gr ga m n act A cc l) : Rd (fun k => ok k ∧ k < W.heap.size) w0 W g gr ga m n act A cc l := by
  obtain ⟨B, c, B', c', h1, h2, h3⟩ := h.tk
  obtain ⟨p, lr, D, d, D', d', i0, i1, i2, i3, i4⟩ := h.rf
  exact { h with tk := ⟨B, c, B', c', h1, ⟨h2.cap, Kd.F_bound h2.row⟩, ⟨h3.cap, Kd.F_bound h3.row⟩⟩, rf := ⟨p, lr, D, d, D', d', i0, i1, i2, ⟨i3.cap, Kd.F_bound i3.row⟩, ⟨i4.cap, Kd.F_bound i4.row⟩⟩, hl := Kd.R_mono (Kd.R_bound h.hl) (fun k hk => ⟨hk.1, hk.2.2.1⟩) }
theorem Rd.ltg (h : Rd ok w0 W g gr ga m n act A cc l) : g < W.heap.size := h.tk.lt
theorem Rd.ltr (h : Rd ok w0 W g gr ga m n act A cc l) : gr < W.heap.size := h.rf.lt
theorem Rd.lta (h : Rd ok w0 W g gr ga m n act A cc l) : ga < W.heap.size := blk_lt h.ab
theorem Rd.chg (h : Rd ok w0 W g gr ga m n act A cc l) (c : Chg S W W') (hg : ¬ S g) (hr : ¬ S gr) (ha : ¬ S ga) (hS : ∀ k, ok k → ¬ S k) (h0 : ∀ k, S k → w0.heap.size ≤ k) : Rd ok w0 W' g gr ga m n act A cc l :=
  { h with
    tk := h.tk.step (c.block g h.ltg hg) (fun k ho hk => c.block k hk (hS k ho))
    rf := h.rf.step (c.block gr h.ltr hr) (fun k ho hk => c.block k hk (hS k ho))
    hl := Kd.R_step h.hl (fun k ho hk => c.block k hk (hS k ho))
    ab := (c.block ga h.lta ha).trans h.ab
    bl := h.bl.trans ⟨c.os, c.tape, c.output, c.size, fun k hk => c.block k (Nat.lt_of_lt_of_le hk h.bl.size) (fun hs => by have := h0 k hs; omega)⟩ }
theorem Rd.below (h : Rd ok w0 W g gr ga m n act A cc l) (hb : Below W.heap.size W W') : Rd ok w0 W' g gr ga m n act A cc l :=
  h.chg (S := fun _ => False) (Chg.of_below _ hb) (fun h => h) (fun h => h) (fun h => h) (fun _ _ h => h) (fun _ h => h.elim)
theorem Rd.alloc (h : Rd ok w0 W g gr ga m n act A cc l) (o : Obj) : Rd ok w0 (W.alloc o) g gr ga m n act A cc l := h.below (below_alloc (Below.refl _ _) o)
theorem Rd.drewN (h : Rd ok w0 W g gr ga m n act A cc l) (k : Nat) : Rd ok w0 (W.drewN k) g gr ga m n act A cc l := h.below (pw_below_drewN (Below.refl _ _) k)
theorem Rd.drew (h : Rd ok w0 W g gr ga m n act A cc l) : Rd ok w0 W.drew g gr ga m n act A cc l := h.below (below_drew (Below.refl _ _))
end
/-- The side's call behind: its state turned, what it handed out lies from B to C. -/
theorem Rd.mine {w0 W W' : World} {g gr ga : Nat} {m m' n : Tk} {act : Array Value} {A : Option Addr} {cc : Nat} {l : List S46} {B : Nat} (h : Rd (okX g gr) w0 W g gr ga m n act A cc l) (hga : ga ≠ g) (hm : m'.Ok) (hB : W.heap.size ≤ B)
    (hT : TkAt W' g (fun k => (okX g gr k ∧ k < W.heap.size) ∨ (W.heap.size ≤ k ∧ k < B)) m') (hU : Upd W W' g) : Rd (okR g gr B W'.heap.size) w0 W' g gr ga m' n act A cc l := by
  have hb := h.bound
  have c := Chg.of_upd hU
  have lg := h.ltg
  have lr := h.ltr
  exact { h with
    okm := hm
    tk := hT.mono (fun k hk => by unfold okR; rcases hk with ⟨⟨h1, h2⟩, h3⟩ | ⟨h1, h2⟩; exact ⟨.inl (by omega), h1, h2⟩; exact ⟨.inl h2, by omega, by omega⟩)
    rf := (hb.rf.step (c.block gr lr h.ne.symm) (fun k ho hk => c.block k hk ho.1.1)).mono (fun k hk => ⟨.inl (by have := hk.2; omega), hk.1⟩)
    hl := Kd.R_mono (Kd.R_step hb.hl (fun k ho hk => c.block k hk ho.1.1)) (fun k hk => ⟨.inl (by have := hk.2; omega), hk.1⟩)
    ab := (c.block ga h.lta hga).trans h.ab
    bl := h.bl.trans (hU.below h.hg h.bl.size) }
/-- The document's call behind. -/
theorem Rd.its {w0 W W' : World} {g gr ga : Nat} {m n n' : Tk} {act : Array Value} {A : Option Addr} {cc : Nat} {l : List S46} {B C : Nat} (h : Rd (okR g gr B C) w0 W g gr ga m n act A cc l) (hga : ga ≠ gr) (hm : n'.Ok) (hC : C ≤ W.heap.size)
    (hT : RfAt W' gr (fun k => okR g gr B C k ∨ (W.heap.size ≤ k ∧ k < W'.heap.size)) n') (hU : Upd W W' gr) : Rd (okR g gr B C) w0 W' g gr ga m n' act A cc l := by
  have c := Chg.of_upd hU
  have lg := h.ltg
  have lr := h.ltr
  exact { h with
    okn := hm
    tk := h.tk.step (c.block g lg h.ne) (fun k ho hk => c.block k hk ho.2.2)
    rf := hT.mono (fun k hk => by rcases hk with hk | ⟨h1, h2⟩; exact hk; exact ⟨.inr (by omega), by omega, by omega⟩)
    hl := Kd.R_step h.hl (fun k ho hk => c.block k hk ho.2.2)
    ab := (c.block ga h.lta hga).trans h.ab
    bl := h.bl.trans (hU.below h.hr h.bl.size) }
/-- What was handed out is written over. -/
theorem Rd.spoilt {w0 W W' : World} {g gr ga : Nat} {m n : Tk} {act : Array Value} {A : Option Addr} {cc : Nat} {l : List S46} {B C : Nat} (h : Rd (okR g gr B C) w0 W g gr ga m n act A cc l) (hg : g < B) (hr : gr < B) (ha : ga < B) (h0 : w0.heap.size ≤ B)
    (c : Chg (fun k => B ≤ k ∧ k < C) W W') : Rd (okX g gr) w0 W' g gr ga m n act A cc l :=
  (h.chg c (by omega) (by omega) (by omega) (fun k ho hs => by rcases ho.1 with h1 | h1 <;> omega) (fun k hk => by omega)).mono (fun k hk => hk.2)
/-- SpoilOpts, on what lies from B to C. -/
theorem spoil_some' (l : List S46) (hl : l.length ≤ 1000000) : ∃ r, withylaw0_SpoilOpts.f (l.length + 1) l = some r := by
  have loop : ∀ (d : Nat) (k : Nat) (l : List S46) (i : Nat), l.length - i ≤ d → i ≤ l.length → l.length ≤ 1000000 → d < k → ∃ r, withylaw0_SpoilOpts.l0 k l (i : Int) = some r := by
    intro d
    induction d with
    | zero =>
      intro k l i h0 hi hl hk
      obtain ⟨k, rfl⟩ : ∃ m, k = m + 1 := ⟨k - 1, by omega⟩
      simp only [withylaw0_SpoilOpts.l0]
      rw [if_neg (by omega)]
      exact ⟨_, rfl⟩
    | succ d ih =>
      intro k l i h0 hi hl hk
      obtain ⟨k, rfl⟩ : ∃ m, k = m + 1 := ⟨k - 1, by omega⟩
      simp only [withylaw0_SpoilOpts.l0]
      by_cases c : i < l.length
      · have e : wrap64 ((i : Int) + 1) = ((i + 1 : Nat) : Int) := by unfold wrap64; omega
        rw [if_pos (by omega), if_pos (by omega), e]
        clear e
        exact ih k _ (i + 1) (by rw [List.length_set]; omega) (by rw [List.length_set]; omega) (by rw [List.length_set]; omega) (by omega)
      · rw [if_neg (by omega)]
        exact ⟨_, rfl⟩
  exact loop l.length (l.length + 1) l 0 (by omega) (by omega) hl (by omega)
theorem spoil_chg {w0 W : World} {B C : Nat} {v : Value} {l : List S46} (hl : l.length ≤ 1000000) (hR : Kd.R k46 46 W w0.heap.size (fun k => B ≤ k ∧ k < C) v l) (hB : Below w0.heap.size w0 W) :
    Calls Try.prog 39 #[v] W fun e w' => e = .returned (.tuple #[]) ∧ Chg (fun k => B ≤ k ∧ k < C) W w' := by
  obtain ⟨r, hr⟩ := spoil_some' l hl
  refine (withylaw0_SpoilOpts.calls (l.length + 1) (fun k => B ≤ k ∧ k < C) v l r w0 W hB hR hr).mono fun e w' ⟨h1, _, h2, h3⟩ => ⟨h1, h2.os.trans hB.os.symm, h2.tape.trans hB.tape.symm, h2.output.trans hB.output.symm, h3.1, fun k hk hn => h3.2 k hk hn⟩
end Go.Proofs.Ytbdlkcgaobkdcaa.P
end
section
namespace Go.Proofs.Ytbdlkcgaobkdcaa.P
open Go.RowKit Go.Proofs.YtbdlkcgaobkdcaaW.PrintWords Go.Proofs.YtbdlkcgaobkdcaaW.PrintLast Go.Proofs.YtbdlkcgaobkdcaaW.PrintMore

/-- Between two acts: both sides' states agree. -/
structure Js (w0 w : World) (g gr : Nat) (m : Tk) : Prop where
  tk : TkAt w g (okX g gr) m
  rf : RfAt w gr (okX g gr) m
  bl : Below w0.heap.size w0 w
  okm : m.Ok
  hg : w0.heap.size ≤ g
  hr : w0.heap.size ≤ gr
  ne : g ≠ gr
theorem Js.below {w0 w w' : World} {g gr : Nat} {m : Tk} (h : Js w0 w g gr m) (hb : Below w.heap.size w w') : Js w0 w' g gr m := { h with tk := h.tk.below hb, rf := h.rf.below hb, bl := below_step h.bl hb }
theorem Js.alloc {w0 w : World} {g gr : Nat} {m : Tk} (h : Js w0 w g gr m) (o : Obj) : Js w0 (w.alloc o) g gr m := h.below (below_alloc (Below.refl _ _) o)
theorem Js.drewN {w0 w : World} {g gr : Nat} {m : Tk} (h : Js w0 w g gr m) (k : Nat) : Js w0 (w.drewN k) g gr m := h.below (pw_below_drewN (Below.refl _ _) k)
theorem Js.drew {w0 w : World} {g gr : Nat} {m : Tk} (h : Js w0 w g gr m) : Js w0 w.drew g gr m := h.below (below_drew (Below.refl _ _))
section
variable {w0 W : World} {g gr ga : Nat} {m n : Tk} {act : Array Value} {A A0 : Option Addr} {cc c0 : Nat} {l : List S46}
theorem Rd.js (h : Rd (okX g gr) w0 W g gr ga m m act A cc l) : Js w0 W g gr m := ⟨h.tk, h.rf, h.bl, h.okm, h.hg, h.hr, h.ne⟩
theorem v_lend (h : Js w0 W g gr m) (hga : W.heap[ga]? = some (.cells act 89 (0, 0))) (hr0 : Kd.C k46 W A0 l.length l) (hc0 : l.length ≤ c0) (hn : l.length < 5864062014800) :
    Calls Try.prog 31 #[.slice A0 l.length c0] W fun e w' => ∃ (A : Option Addr) (c : Nat), e = .returned (.slice A l.length c) ∧ Rd (okX g gr) w0 w' g gr ga m m act A c l := by
  refine (lend_calls A0 c0 l W hr0 hc0 hn).mono fun e w' ⟨A, c, he, hR, hb⟩ => ⟨A, c, he, ?_⟩
  have lg := h.tk.lt
  have lr := h.rf.lt
  exact ⟨h.tk.below hb, h.rf.below hb, Kd.R_lower (Kd.R_mono (Kd.R_bound hR) (fun k hk => ⟨by have := hk.2.1; omega, by have := hk.2.1; omega⟩)) h.bl.size, blk_below hga hb, below_step h.bl hb, h.okm, h.okm, h.hg, h.hr, h.ne⟩
/-- What was handed out lies from B to C. -/
structure Md (w0 W : World) (g gr ga : Nat) (m n : Tk) (act : Array Value) (A : Option Addr) (cc : Nat) (l : List S46) (B C : Nat) (v : Value) (os : List S46) : Prop where
  rd : Rd (okR g gr B C) w0 W g gr ga m n act A cc l
  row : Kd.R k46 46 W w0.heap.size (fun k => B ≤ k ∧ k < C) v os
  gB : g < B
  rB : gr < B
  aB : ga < B
  CW : C ≤ W.heap.size
  len : os.length ≤ 2048
variable {B C : Nat} {v : Value} {os : List S46}
theorem Md.below {W' : World} (h : Md w0 W g gr ga m n act A cc l B C v os) (hb : Below W.heap.size W W') : Md w0 W' g gr ga m n act A cc l B C v os := { h with rd := h.rd.below hb, row := Kd.R_below h.row hb, CW := Nat.le_trans h.CW hb.size }
theorem Md.alloc (h : Md w0 W g gr ga m n act A cc l B C v os) (o : Obj) : Md w0 (W.alloc o) g gr ga m n act A cc l B C v os := h.below (below_alloc (Below.refl _ _) o)
theorem Md.drewN (h : Md w0 W g gr ga m n act A cc l B C v os) (k : Nat) : Md w0 (W.drewN k) g gr ga m n act A cc l B C v os := h.below (pw_below_drewN (Below.refl _ _) k)
theorem Md.drew (h : Md w0 W g gr ga m n act A cc l B C v os) : Md w0 W.drew g gr ga m n act A cc l B C v os := h.below (below_drew (Below.refl _ _))
theorem ask_len (m : Tk) (code : Int) (os : List S46) : (askS m code os).2.1.f3.length ≤ 2048 := by
  unfold askS
  by_cases h1 : (reqB code = false ∧ code ≠ 7) ∨ (bapS code (nextId m.id) 0 os).2 ≠ 0
  · rw [if_pos h1]; exact Nat.zero_le _
  · rw [if_neg h1]
    by_cases h2 : 0 < m.left
    · rw [if_pos h2]; exact Nat.zero_le _
    · rw [if_neg h2]; exact bap_len (Classical.byContradiction fun hh => h1 (.inr hh))
theorem again_len {m : Tk} (hm : m.Ok) : (againS m).2.1.f3.length ≤ 2048 := by
  unfold againS
  by_cases h1 : m.left = 0
  · rw [if_pos h1]; exact Nat.zero_le _
  · rw [if_neg h1]
    by_cases h2 : m.left = 1
    · rw [if_pos h2]; exact Nat.zero_le _
    · rw [if_neg h2]; exact hm.askLen
theorem take_len (m : Tk) (x : S56) (yes : Bool) : ∀ b, b ∈ (takeS m x yes).2.1 → b.f3.length ≤ 2048 := by
  unfold takeS requestS
  intro b
  by_cases h1 : (bapS x.f0 x.f1 x.f2 x.f3).2 ≠ 0
  · rw [if_pos h1]; intro h; cases h
  · rw [if_neg h1]
    have h3 := bap_len (Classical.byContradiction h1)
    by_cases h4 : reqB x.f0 = true
    · rw [if_pos h4]
      by_cases h5 : 0 < m.left ∧ reqB m.ask.f0 = true
      · rw [if_pos h5]
        by_cases h6 : crossB m.fav m.ask.f0 x.f0 = true
        · rw [if_pos h6]; intro h; obtain rfl := List.mem_singleton.1 h; exact h3
        · rw [if_neg h6]; intro h; obtain rfl := List.mem_singleton.1 h; exact h3
      · rw [if_neg h5]; intro h; obtain rfl := List.mem_singleton.1 h; exact h3
    · rw [if_neg h4]
      by_cases h5 : x.f0 = 7
      · rw [if_pos h5]; intro h; obtain rfl := List.mem_singleton.1 h; exact Nat.zero_le _
      · rw [if_neg h5]
        by_cases h6 : 0 < m.left ∧ x.f0 = m.ask.f0 + 1 ∧ x.f1 = m.ask.f1
        · rw [if_pos h6]; intro h; cases h
        · rw [if_neg h6]; intro h; cases h
/-- What the side's Ask and Again leave. -/
def VBap (w0 W : World) (g gr ga : Nat) (m n : Tk) (act : Array Value) (A : Option Addr) (cc : Nat) (l : List S46) (b : S56) (er : Int) (e : Ending) (w' : World) : Prop := ∃ (A1 : Option Addr) (c1 B : Nat),
  e = .returned (.tuple #[.agg #[.int .i64 b.f0, .int .i64 b.f1, .int .i64 b.f2, .slice A1 b.f3.length c1], .int .i64 er]) ∧ Md w0 w' g gr ga m n act A cc l B w'.heap.size (.slice A1 b.f3.length c1) b.f3
theorem VBap.of {m' : Tk} {b : S56} {er : Int} {e : Ending} {w' : World} (h : Rd (okX g gr) w0 W g gr ga m n act A cc l) (ha : ga ≠ g) (hm : m'.Ok) (hb : b.f3.length ≤ 2048) (hh : MadeBap W g (fun k => okX g gr k ∧ k < W.heap.size) m' b er e w') : VBap w0 W g gr ga m' n act A cc l b er e w' := by
  obtain ⟨A1, c1, B, he, hB, hR, hT, hU⟩ := hh
  have lg := h.ltg
  have lr := h.ltr
  have la := h.lta
  exact ⟨A1, c1, B, he, ⟨h.mine ha hm hB hT hU, Kd.R_lower (Kd.R_mono (Kd.R_bound hR) (fun k hk => ⟨hk.1, hk.2.2.1⟩)) h.bl.size, by omega, by omega, by omega, Nat.le_refl _, hb⟩⟩
theorem v_ask {code : Int} {m' : Tk} {b : S56} {er : Int} (h : Rd (okX g gr) w0 W g gr ga m n act A cc l) (ha : ga ≠ g) (hl : l.length < 5864062014800) (e : askS m code l = (m', b, er)) :
    Calls Try.prog 43 #[.pointer (some ⟨g, 0, none⟩), .int .i64 code, .slice A l.length cc] W (VBap w0 W g gr ga m' n act A cc l b er) := by
  have hC := lent_C (show Kd.C k46 W A (l.length + 2) (l ++ [mark46, mark46]) by have := (Kd.R_reads' h.hl).2.2; simpa using this)
  have h1 := ask_calls g _ m code A cc l W h.bound.tk (fun k hk => hk.1.1) h.okm hC (by omega)
  have h2 := ask_Ok h.okm code l
  have h3 := ask_len m code l
  rw [e] at h1 h2 h3
  exact h1.mono fun _ _ hh => VBap.of h ha h2 h3 hh
theorem v_again {m' : Tk} {b : S56} {er : Int} (h : Rd (okX g gr) w0 W g gr ga m n act A cc l) (ha : ga ≠ g) (e : againS m = (m', b, er)) :
    Calls Try.prog 44 #[.pointer (some ⟨g, 0, none⟩)] W (VBap w0 W g gr ga m' n act A cc l b er) := by
  have h1 := again_calls g _ m W h.bound.tk (fun k hk => hk.1.1) h.okm.left0 (Int.le_trans h.okm.left1 h.okm.tries1) (by have := h.okm.askLen; omega)
  have h2 := again_Ok h.okm
  have h3 := again_len h.okm
  rw [e] at h1 h2 h3
  exact h1.mono fun _ _ hh => VBap.of h ha h2 h3 hh
/-- What the document's Ask and Again leave. -/
def VRef (w0 W : World) (g gr ga : Nat) (m n : Tk) (act : Array Value) (A : Option Addr) (cc : Nat) (l : List S46) (B C : Nat) (v : Value) (b : S56) (er : Int) (e : Ending) (w' : World) : Prop := ∃ (A1 : Option Addr) (c1 : Nat),
  e = .returned (.tuple #[.agg #[.int .i64 b.f0, .int .i64 b.f1, .int .i64 b.f2, .slice A1 b.f3.length c1], .int .i64 er]) ∧ b.f3.length ≤ c1 ∧ Kd.C k46 w' A1 b.f3.length b.f3 ∧ Md w0 w' g gr ga m n act A cc l B C v b.f3 ∧ Upd W w' gr
theorem VRef.of {n' : Tk} {b : S56} {er : Int} {e : Ending} {w' : World} (h : Md w0 W g gr ga m n act A cc l B C v b.f3) (ha : ga ≠ gr) (hm : n'.Ok) (hh : RfBap W gr (okR g gr B C) n' b er e w') : VRef w0 W g gr ga m n' act A cc l B C v b er e w' := by
  obtain ⟨A1, c1, he, hc, hC, hT, hU⟩ := hh
  exact ⟨A1, c1, he, hc, hC, { h with rd := h.rd.its ha hm h.CW hT hU, row := Kd.R_step h.row (fun k ho hk => hU.block k hk (by have := h.rB; omega)), CW := Nat.le_trans h.CW hU.size }, hU⟩
theorem okR_old (h : Md w0 W g gr ga m n act A cc l B C v os) : ∀ k, k < w0.heap.size → okR g gr B C k := fun k hk => ⟨.inl (by have := h.gB; have := h.rd.hg; omega), by have := h.rd.hg; omega, by have := h.rd.hr; omega⟩
theorem v_rask {code : Int} {n' : Tk} {b : S56} {er : Int} (h : Md w0 W g gr ga m n act A cc l B C v b.f3) (ha : ga ≠ gr) (ho : Sees w0 (fun k => k < w0.heap.size) A0 c0 l) (hz : l.all (fun o => decide (o.f1.size ≤ 140737488351232)) = true) (hl : l.length < 5864062014800) (e : askS n code l = (n', b, er)) :
    Calls Try.prog 58 #[.pointer (some ⟨gr, 0, none⟩), .int .i64 code, .slice A0 l.length c0] W (VRef w0 W g gr ga m n' act A cc l B C v b er) := by
  have h1 := rask_calls gr _ n code A0 c0 l W h.rd.rf (fun k hk => hk.2.2) h.rd.okn ((ho.step (fun k hk hk' => h.rd.bl.block k hk)).mono (okR_old h)) hz (by omega)
  have h2 := ask_Ok h.rd.okn code l
  rw [e] at h1 h2
  exact h1.mono fun _ _ hh => VRef.of h ha h2 hh
theorem v_ragain {n' : Tk} {b : S56} {er : Int} (h : Md w0 W g gr ga m n act A cc l B C v b.f3) (ha : ga ≠ gr) (e : againS n = (n', b, er)) :
    Calls Try.prog 59 #[.pointer (some ⟨gr, 0, none⟩)] W (VRef w0 W g gr ga m n' act A cc l B C v b er) := by
  have h1 := ragain_calls gr _ n W h.rd.rf (fun k hk => hk.2.2) h.rd.okn.left0 (Int.le_trans h.rd.okn.left1 h.rd.okn.tries1)
  have h2 := again_Ok h.rd.okn
  rw [e] at h1 h2
  exact h1.mono fun _ _ hh => VRef.of h ha h2 hh
theorem v_same {A A' : Option Addr} {c c' : Nat} {b : S56} (h : Kd.C k46 W A b.f3.length b.f3) (hc : b.f3.length ≤ c) (h' : Kd.C k46 W A' b.f3.length b.f3) (hc' : b.f3.length ≤ c') (hl : b.f3.length ≤ 2048) :
    Calls Try.prog 56 #[.agg #[.int .i64 b.f0, .int .i64 b.f1, .int .i64 b.f2, .slice A b.f3.length c], .agg #[.int .i64 b.f0, .int .i64 b.f1, .int .i64 b.f2, .slice A' b.f3.length c']] W fun e w' => e = .returned (.bool true) ∧ Below W.heap.size W w' :=
  withylaw0_SameBap.calls 3000 b.f0 b.f1 b.f2 A c b.f3 b.f0 b.f1 b.f2 A' c' b.f3 true W h hc h' hc' (sameBap_same 3000 b.f0 b.f1 b.f2 b.f3 (by omega) (by omega))
theorem Md.reads {A1 : Option Addr} {k c : Nat} (h : Md w0 W g gr ga m n act A cc l B C (.slice A1 k c) os) : os.length ≤ c ∧ Kd.C k46 W A1 os.length os := by
  obtain ⟨h1, h2, h3⟩ := Kd.R_reads' h.row
  exact ⟨h1 ▸ h2, h3⟩
theorem v_spoil (h : Md w0 W g gr ga m n act A cc l B C v os) : Calls Try.prog 39 #[v] W fun e w' => e = .returned (.tuple #[]) ∧ Rd (okX g gr) w0 w' g gr ga m n act A cc l :=
  (spoil_chg (by have := h.len; omega) h.row h.rd.bl).mono fun _ _ ⟨h1, h2⟩ => ⟨h1, h.rd.spoilt h.gB h.rB h.aB (by have := h.gB; have := h.rd.hg; omega) h2⟩
theorem v_last (h : Rd (okX g gr) w0 W g gr ga m n act A cc l) : Calls Try.prog 63 #[.pointer (some ⟨g, 0, none⟩)] W fun e w' => ∃ (A1 : Option Addr) (c1 : Nat), e = .returned (.agg #[.int .i64 m.last.f0, .int .i64 m.last.f1, .int .i64 m.last.f2, .slice A1 m.last.f3.length c1]) ∧
    Md w0 w' g gr ga m n act A cc l W.heap.size w'.heap.size (.slice A1 m.last.f3.length c1) m.last.f3 := by
  refine (last_calls g _ m W h.tk (by have := h.okm.lastLen; omega)).mono fun e w' ⟨A1, c1, he, hR, hb⟩ => ⟨A1, c1, he, ?_⟩
  refine ⟨(h.bound.below hb).mono (fun k hk => ⟨.inl hk.2, hk.1⟩), Kd.R_lower (Kd.R_mono (Kd.R_bound hR) (fun k hk => ⟨hk.1, hk.2.2.1⟩)) h.bl.size, h.ltg, h.ltr, h.lta, Nat.le_refl _, h.okm.lastLen⟩
theorem v_pending {ok : Nat → Prop} (h : Rd ok w0 W g gr ga m n act A cc l) : Calls Try.prog 45 #[.pointer (some ⟨g, 0, none⟩)] W fun e w' => e = .returned (.bool (decide (0 < m.left))) ∧ W = w' := pending_calls g _ m W h.tk
theorem v_kept {ok : Nat → Prop} (h : Rd ok w0 W g gr ga m n act A cc l) (ho : Sees w0 (fun k => k < w0.heap.size) A0 c0 l) (hl : l.length < 5864062014800) : Calls Try.prog 38 #[.slice A l.length cc, .slice A0 l.length c0] W fun e w' => e = .returned (.bool true) ∧ Drawn0 W w' := by
  obtain ⟨h1, h2, h3⟩ := Kd.R_reads' h.hl
  have h4 := ho.step (fun k hk hk' => h.bl.block k hk)
  exact kept_calls A cc A0 c0 l W (by simpa using h3) h2 h4.C h4.cap (by omega)
/-- A row of datagrams handed out, in blocks from B to C. -/
def RowIn (w : World) (base B C : Nat) (v : Value) (bs : List S56) : Prop := (bs = [] ∧ v = .slice none 0 0) ∨ ∃ (b : S56) (gs : Nat) (A : Option Addr) (c : Nat), bs = [b] ∧ v = .slice (some ⟨gs, 0, none⟩) 1 1 ∧
  w.heap[gs]? = some (.cells #[.int .i64 b.f0, .int .i64 b.f1, .int .i64 b.f2, .slice A b.f3.length c] 56 (0, 0)) ∧ (B ≤ gs ∧ gs < C) ∧ Kd.R k46 46 w base (fun k => (B ≤ k ∧ k < C) ∧ k ≠ gs) (.slice A b.f3.length c) b.f3 ∧ b.f3.length ≤ 2048
theorem RowIn.step {w w' : World} {base B C : Nat} {v : Value} {bs : List S56} (h : RowIn w base B C v bs) (hm : ∀ k, (B ≤ k ∧ k < C) → k < w.heap.size → w'.heap[k]? = w.heap[k]?) : RowIn w' base B C v bs := by
  rcases h with h | ⟨b, gs, A, c, h1, h2, h3, h4, h5, h6⟩
  · exact .inl h
  · exact .inr ⟨b, gs, A, c, h1, h2, (hm gs h4 (blk_lt h3)).trans h3, h4, Kd.R_step h5 (fun k ho hk => hm k ho.1 hk), h6⟩
/-- What Take handed out lies from B to C. -/
structure Mt (w0 W : World) (g gr ga : Nat) (m n : Tk) (act : Array Value) (A : Option Addr) (cc : Nat) (l : List S46) (B C : Nat) (v : Value) (bs : List S56) : Prop where
  rd : Rd (okR g gr B C) w0 W g gr ga m n act A cc l
  row : RowIn W w0.heap.size B C v bs
  gB : g < B
  rB : gr < B
  aB : ga < B
  CW : C ≤ W.heap.size
variable {bs : List S56}
theorem Mt.below {W' : World} (h : Mt w0 W g gr ga m n act A cc l B C v bs) (hb : Below W.heap.size W W') : Mt w0 W' g gr ga m n act A cc l B C v bs := { h with rd := h.rd.below hb, row := h.row.step (fun k _ hk => hb.block k hk), CW := Nat.le_trans h.CW hb.size }
theorem Mt.alloc (h : Mt w0 W g gr ga m n act A cc l B C v bs) (o : Obj) : Mt w0 (W.alloc o) g gr ga m n act A cc l B C v bs := h.below (below_alloc (Below.refl _ _) o)
theorem Mt.drewN (h : Mt w0 W g gr ga m n act A cc l B C v bs) (k : Nat) : Mt w0 (W.drewN k) g gr ga m n act A cc l B C v bs := h.below (pw_below_drewN (Below.refl _ _) k)
theorem Mt.drew (h : Mt w0 W g gr ga m n act A cc l B C v bs) : Mt w0 W.drew g gr ga m n act A cc l B C v bs := h.below (below_drew (Below.refl _ _))
def VBaps (w0 W : World) (g gr ga : Nat) (m n : Tk) (act : Array Value) (A : Option Addr) (cc : Nat) (l : List S46) (bs : List S56) (er : Int) (e : Ending) (w' : World) : Prop := ∃ (v : Value) (B : Nat),
  e = .returned (.tuple #[v, .int .i64 er]) ∧ Mt w0 w' g gr ga m n act A cc l B w'.heap.size v bs
theorem v_take {c i a : Int} {yes : Bool} {m' : Tk} {bs : List S56} {er : Int} (h : Rd (okX g gr) w0 W g gr ga m n act A cc l) (ha : ga ≠ g) (hl : l.length < 5864062014800) (e : takeS m ⟨c, i, a, l⟩ yes = (m', bs, er)) :
    Calls Try.prog 46 #[.pointer (some ⟨g, 0, none⟩), .agg #[.int .i64 c, .int .i64 i, .int .i64 a, .slice A l.length cc], .bool yes] W (VBaps w0 W g gr ga m' n act A cc l bs er) := by
  have hb := h.bound
  obtain ⟨q1, q2, q3⟩ := Kd.R_reads' hb.hl
  have hS : Sees W (fun k => okX g gr k ∧ k < W.heap.size) A cc l := by
    refine ⟨by omega, fun W' hW => lent_C ?_⟩
    have := Kd.R_F hb.hl W' hW
    simpa using this
  have h1 := take_calls g _ _ m c i a A cc l W hb.tk (fun k hk => hk.1.1) hS (fun k hk => hk.1.1) (by omega) yes h.okm
  have h2 := take_Ok h.okm ⟨c, i, a, l⟩ yes
  have h3 := take_len m ⟨c, i, a, l⟩ yes
  rw [e] at h1 h2 h3
  refine h1.mono fun e w' ⟨v, B, he, hB, hR, hT, hU⟩ => ⟨v, B, he, ?_⟩
  have lg := h.ltg
  have lr := h.ltr
  have la := h.lta
  refine ⟨h.mine ha h2 hB hT hU, ?_, by omega, by omega, by omega, Nat.le_refl _⟩
  rcases hR with hR | ⟨b, gs, A', c', r1, r2, r3, r4, r5⟩
  · exact .inl hR
  · exact .inr ⟨b, gs, A', c', r1, r2, r3, ⟨r4, blk_lt r3⟩, Kd.R_lower (Kd.R_mono (Kd.R_bound r5) (fun k hk => ⟨⟨hk.1.1, hk.2.2.1⟩, hk.1.2⟩)) (Nat.le_trans h.bl.size hB), h3 b (by rw [r1]; exact List.mem_singleton.2 rfl)⟩
def VRefs (w0 W : World) (g gr ga : Nat) (m n : Tk) (act : Array Value) (A : Option Addr) (cc : Nat) (l : List S46) (B C : Nat) (v : Value) (bs : List S56) (er : Int) (e : Ending) (w' : World) : Prop := ∃ (A1 : Option Addr) (c1 : Nat),
  e = .returned (.tuple #[.slice A1 bs.length c1, .int .i64 er]) ∧ bs.length ≤ c1 ∧ Kd.C k56 w' A1 bs.length bs ∧ Mt w0 w' g gr ga m n act A cc l B C v bs
theorem v_rtake {c i a : Int} {yes : Bool} {n' : Tk} {bs : List S56} {er : Int} (h : Mt w0 W g gr ga m n act A cc l B C v bs) (ha : ga ≠ gr) (ho : Sees w0 (fun k => k < w0.heap.size) A0 c0 l) (hz : l.all (fun o => decide (o.f1.size ≤ 140737488351232)) = true) (hl : l.length < 5864062014800) (e : takeS n ⟨c, i, a, l⟩ yes = (n', bs, er)) :
    Calls Try.prog 60 #[.pointer (some ⟨gr, 0, none⟩), .agg #[.int .i64 c, .int .i64 i, .int .i64 a, .slice A0 l.length c0], .bool yes] W (VRefs w0 W g gr ga m n' act A cc l B C v bs er) := by
  have h0 : ∀ k, k < w0.heap.size → okR g gr B C k := fun k hk => ⟨.inl (by have := h.gB; have := h.rd.hg; omega), by have := h.rd.hg; omega, by have := h.rd.hr; omega⟩
  have h1 := rtake_calls gr _ n c i a A0 c0 l yes W h.rd.rf (fun k hk => hk.2.2) h.rd.okn ((ho.step (fun k hk hk' => h.rd.bl.block k hk)).mono h0) hz (by omega)
  have h2 := take_Ok h.rd.okn ⟨c, i, a, l⟩ yes
  rw [e] at h1 h2
  exact h1.mono fun e w' ⟨A1, c1, he, hc, hC, hT, hU⟩ => ⟨A1, c1, he, hc, hC, { h with rd := h.rd.its ha h2 h.CW hT hU, row := h.row.step (fun k ho hk => hU.block k hk (by have := h.rB; omega)), CW := Nat.le_trans h.CW hU.size }⟩
theorem v_sames {A' : Option Addr} {c' : Nat} {bs : List S56} (h : RowIn W w0.heap.size B C v bs) (h' : Kd.C k56 W A' bs.length bs) (hc' : bs.length ≤ c') :
    Calls Try.prog 61 #[v, .slice A' bs.length c'] W fun e w' => e = .returned (.bool true) ∧ Below W.heap.size W w' := by
  rcases h with ⟨rfl, rfl⟩ | ⟨b, gs, A, c, rfl, rfl, h3, h4, h5, h6⟩
  · exact withylaw0_SameBaps.calls 3000 none 0 [] A' c' [] true W (Kd.C_nil _ _) (Nat.le_refl _) h' hc' rfl
  · obtain ⟨r1, r2, r3⟩ := Kd.R_reads' h5
    exact sameBaps_in (row_one h3 r2 r3) (Nat.le_refl _) h' hc' h6
end
end Go.Proofs.Ytbdlkcgaobkdcaa.P
end
section
namespace Go.Proofs.Ytbdlkcgaobkdcaa.P
open Go.RowKit Go.Proofs.YtbdlkcgaobkdcaaW.PrintWords Go.Proofs.YtbdlkcgaobkdcaaW.PrintLast Go.Proofs.YtbdlkcgaobkdcaaW.PrintMore
attribute [local go_sem] max2_int min2_int max_two min_two max_three min_three max_four min_four

theorem Chg.trans {S : Nat → Prop} {w w' w'' : World} (h : Chg S w w') (k : Chg S w' w'') : Chg S w w'' := ⟨k.os.trans h.os, k.tape.trans h.tape, k.output.trans h.output, Nat.le_trans h.size k.size, fun i hi hn => (k.block i (Nat.lt_of_lt_of_le hi h.size) hn).trans (h.block i hi hn)⟩
theorem Chg.set {S : Nat → Prop} {w w' : World} (h : Chg S w w') (b j : Nat) (hb : S b) (u : Value) : Chg S w (w'.setCell ⟨b, j, none⟩ u) :=
  ⟨h.os, h.tape, h.output, by simpa [World.setCell] using h.size, fun i hi hn => (Below.heap_setCell w' ⟨b, j, none⟩ u i (fun e => hn (e ▸ hb))).trans (h.block i hi hn)⟩
theorem Chg.mono {S S' : Nat → Prop} {w w' : World} (h : Chg S w w') (hs : ∀ k, S k → S' k) : Chg S' w w' := ⟨h.os, h.tape, h.output, h.size, fun k hk hn => h.block k hk (fun hh => hn (hs k hh))⟩
theorem Chg.refl (S : Nat → Prop) (w : World) : Chg S w w := ⟨rfl, rfl, rfl, Nat.le_refl _, fun _ _ _ => rfl⟩
theorem spoil_chgS {w0 W : World} {S : Nat → Prop} {v : Value} {l : List S46} (hl : l.length ≤ 1000000) (hR : Kd.R k46 46 W w0.heap.size S v l) (hB : Below w0.heap.size w0 W) :
    Calls Try.prog 39 #[v] W fun e w' => e = .returned (.tuple #[]) ∧ Chg S W w' := by
  obtain ⟨r, hr⟩ := spoil_some' l hl
  refine (withylaw0_SpoilOpts.calls (l.length + 1) S v l r w0 W hB hR hr).mono fun e w' ⟨h1, _, h2, h3⟩ => ⟨h1, h2.os.trans hB.os.symm, h2.tape.trans hB.tape.symm, h2.output.trans hB.output.symm, h3.1, fun k hk hn => h3.2 k hk hn⟩
set_option maxHeartbeats 4000000 in
set_option maxRecDepth 100000 in
theorem spoils_none (W : World) : Calls Try.prog 62 #[.slice none 0 0] W fun e w' => e = .returned (.tuple #[]) ∧ W = w' := by
  go_enter Try.func62, Try.ntmps62
  go_wp2
  go_loopg [2] 0 (fun gg s2 wr => s2 = .int .i64 0 ∧ wr = W)
  case atStart => exact ⟨rfl, rfl⟩
  case round =>
    obtain ⟨rfl, rfl⟩ := hrel
    go_wp2
    first | go_end0 | ((try simp only [Exit.inBlock, Exit.then]); refine bodyPost_ret (results_none rfl _ _ _) rfl ?_)
    exact ⟨rfl, rfl⟩
set_option maxHeartbeats 4000000 in
set_option maxRecDepth 100000 in
theorem spoils_one {w0 W : World} {base B C gs : Nat} {A : Option Addr} {c : Nat} {b : S56} (h3 : W.heap[gs]? = some (.cells #[.int .i64 b.f0, .int .i64 b.f1, .int .i64 b.f2, .slice A b.f3.length c] 56 (0, 0))) (h4 : B ≤ gs ∧ gs < C) (h5 : Kd.R k46 46 W w0.heap.size (fun k => (B ≤ k ∧ k < C) ∧ k ≠ gs) (.slice A b.f3.length c) b.f3) (h6 : b.f3.length ≤ 2048) (hB : Below w0.heap.size w0 W) :
    Calls Try.prog 62 #[.slice (some ⟨gs, 0, none⟩) 1 1] W fun e w' => e = .returned (.tuple #[]) ∧ Chg (fun k => B ≤ k ∧ k < C) W w' := by
  have hu56 := Try.underlying56
  have G := Aside0.mk h3
  have I := Aside0.mk h4
  have R := Aside0.mk h5
  have L := Aside0.mk h6
  have HB := Aside0.mk hB
  clear h4 h5 h6 hB h3
  go_enter Try.func62, Try.ntmps62
  go_wp2
  go_loopg [2] 1 (fun gg s2 wr => (gg = 1 ∧ s2 = .int .i64 0 ∧ wr = W) ∨ (gg = 0 ∧ s2 = .int .i64 1 ∧ Aside0 (Chg (fun k => B ≤ k ∧ k < C) W wr)))
  case atStart => exact .inl ⟨rfl, rfl, rfl⟩
  case round =>
    rcases hrel with ⟨rfl, rfl, rfl⟩ | ⟨rfl, rfl, hc⟩
    · obtain ⟨z0, z1, z2, z3, _, _, _, _⟩ := four G.out
      go_wp2_with (first
        | (go_at_call 39; ((with_reducible refine (spoil_chgS (w0 := w0) (S := fun k => (B ≤ k ∧ k < C) ∧ k ≠ gs) (l := b.f3) ?p1 ?p2 HB.out).mono ?_); (case p1 => have := L.out; omega); (case p2 => exact R.out); rintro e w2 ⟨rfl, hc⟩); (have CC := Aside0.mk (show Chg (fun k => B ≤ k ∧ k < C) _ _ from hc.mono (fun k hk => hk.1)); obtain ⟨y0, y1, y2, y3, f0, f1, f2, f3⟩ := four ((hc.block gs (blk_lt G.out) (fun hh => hh.2 rfl)).trans G.out); clear hc z0 z1 z2 z3)))
      go_roundg 0
      case measure => decide
      case rel => exact .inr ⟨rfl, by go_num, ⟨CC.out.set gs 1 I.out _⟩⟩
    · go_wp2
      first | go_end0 | ((try simp only [Exit.inBlock, Exit.then]); refine bodyPost_ret (results_none rfl _ _ _) rfl ?_)
      exact ⟨rfl, hc.out⟩
theorem v_spoils {w0 W : World} {g gr ga : Nat} {m n : Tk} {act : Array Value} {A : Option Addr} {cc : Nat} {l : List S46} {B C : Nat} {v : Value} {bs : List S56} (h : Mt w0 W g gr ga m n act A cc l B C v bs) : Calls Try.prog 62 #[v] W fun e w' => e = .returned (.tuple #[]) ∧ Rd (okX g gr) w0 w' g gr ga m n act A cc l := by
  have h0 : w0.heap.size ≤ B := by have := h.gB; have := h.rd.hg; omega
  rcases h.row with ⟨rfl, rfl⟩ | ⟨b, gs, A', c', rfl, rfl, h3, h4, h5, h6⟩
  · refine (spoils_none W).mono fun e w' ⟨h1, h2⟩ => ⟨h1, ?_⟩
    subst h2
    exact h.rd.mono (fun k hk => hk.2)
  · exact (spoils_one (base := 0) h3 h4 h5 h6 h.rd.bl).mono fun e w' ⟨h1, h2⟩ => ⟨h1, h.rd.spoilt h.gB h.rB h.aB h0 h2⟩
theorem cell_lt {w : World} {a : Addr} {v : Value} (h : w.cell? a = some v) : a.block < w.heap.size := by
  unfold World.cell? at h
  by_cases hb : a.block < w.heap.size
  · exact hb
  · rw [Array.getElem?_eq_none (by omega)] at h
    simp at h
/-- One act, as it stands in the row that came in. -/
structure ActAt (W : World) (A : Option Addr) (i : Nat) (a : Addr) (k f0 f1 f2 : Int) (B : Option Addr) (c : Nat) (l : List S46) (y : Bool) : Prop where
  row : A = some a
  c0 : W.cell? (a.add (i * 6)) = some (.int .i64 k)
  c1 : W.cell? ⟨(a.add (i * 6)).block, (a.add (i * 6)).off + 1, none⟩ = some (.int .i64 f0)
  c2 : W.cell? ⟨(a.add (i * 6)).block, (a.add (i * 6)).off + 2, none⟩ = some (.int .i64 f1)
  c3 : W.cell? ⟨(a.add (i * 6)).block, (a.add (i * 6)).off + 3, none⟩ = some (.int .i64 f2)
  c4 : W.cell? ⟨(a.add (i * 6)).block, (a.add (i * 6)).off + 4, none⟩ = some (.slice B l.length c)
  c5 : W.cell? ⟨(a.add (i * 6)).block, (a.add (i * 6)).off + 5, none⟩ = some (.bool y)
  sees : Sees W (fun k => k < W.heap.size) B c l
  small : l.all (fun o => decide (o.f1.size ≤ 140737488351232)) = true
  short : l.length < 5864062014800
def Acts (W : World) (A : Option Addr) (n : Nat) : Prop := ∀ i, i < n → ∃ (a : Addr) (k f0 f1 f2 : Int) (B : Option Addr) (c : Nat) (l : List S46) (y : Bool), ActAt W A i a k f0 f1 f2 B c l y
theorem six {w : World} {g : Nat} {a b c d e f : Value} {t : TypeId} (h : w.heap[g]? = some (.cells #[a, b, c, d, e, f] t (0, 0))) : w.cell? ⟨g, 0, none⟩ = some a ∧ w.cell? ⟨g, 1, none⟩ = some b ∧ w.cell? ⟨g, 2, none⟩ = some c ∧ w.cell? ⟨g, 3, none⟩ = some d ∧ w.cell? ⟨g, 4, none⟩ = some e ∧ w.cell? ⟨g, 5, none⟩ = some f :=
  ⟨(blk_cell h 0).trans rfl, (blk_cell h 1).trans rfl, (blk_cell h 2).trans rfl, (blk_cell h 3).trans rfl, (blk_cell h 4).trans rfl, (blk_cell h 5).trans rfl⟩
end Go.Proofs.Ytbdlkcgaobkdcaa.P
end
section
namespace Go.Proofs.Ytbdlkcgaobkdcaa.P
open Go.RowKit Go.Proofs.YtbdlkcgaobkdcaaW.PrintWords Go.Proofs.YtbdlkcgaobkdcaaW.PrintLast
open Go.ChangeShapes Go.WideShapes Go.Deep Go.Joins
theorem cells89 : Try.prog.cellsOf 89 = 6 := by kernel_rfl
theorem cells4 : Try.prog.cellsOf 4 = 1 := by kernel_rfl
theorem cells35 : Try.prog.cellsOf 35 = 1 := by kernel_rfl
section
variable {H : Type} {enc : TypeId × Value → H} {W : World} {base : Nat} {sp : Nat → Bool} {held : Bool}
set_option maxRecDepth 100000 in
theorem open_bapc {fuel : Nat} {cs : List Value} {x : DataW H × List MemPlace} (h : DataW.trod enc Try.prog W base sp held fuel 56 cs = some x) (hw : ∀ n ∈ x.1.weights Try.prog 56, n ≤ reachBytes) :
    ∃ (c i a : Int) (A : Option Addr) (cap : Nat) (l : List S46), cs = [.int .i64 c, .int .i64 i, .int .i64 a, .slice A l.length cap] ∧ l.length ≤ cap ∧ Kd.C k46 W A l.length l ∧ (∀ o ∈ l, o.f1.size ≤ 140737488351232) ∧ l.length * 24 ≤ 140737488351232 := by
  obtain ⟨y0, y1, y2, y3, n, rfl, hl, h0, h1, h2, h3⟩ := trod_struct4 Try.underlying56 h
  rw [cells56] at hl
  match cs, hl with
  | [v0, v1, v2, v3], _ =>
    simp only [cells3, cells35, List.drop_zero, List.take_succ_cons, List.take_zero, List.drop_succ_cons] at h0 h1 h2 h3
    obtain ⟨c, e0, e0', _⟩ := DataW.trod_int Try.underlying3 h0
    obtain ⟨i, e1, e1', _⟩ := DataW.trod_int Try.underlying3 h1
    obtain ⟨a, e2, e2', _⟩ := DataW.trod_int Try.underlying3 h2
    simp only [DataW.weights, Try.underlying56] at hw
    simp only [List.map_cons, List.map_nil, DataW.weightsEach, List.mem_append] at hw
    obtain ⟨A, cap, l, e3, hc, hC, hz, hn⟩ := open_opts h3 (fun n hn => hw n (by simp [hn]))
    simp only [List.cons.injEq, and_true] at e0 e1 e2 e3
    subst e0 e1 e2 e3
    exact ⟨c, i, a, A, cap, l, rfl, hc, hC, hz, hn⟩
set_option maxRecDepth 100000 in
theorem open_act {fuel : Nat} {cs : List Value} {x : DataW H × List MemPlace} (h : DataW.trod enc Try.prog W base sp held fuel 89 cs = some x) (hw : ∀ n ∈ x.1.weights Try.prog 89, n ≤ reachBytes) :
    ∃ (k c i a : Int) (A : Option Addr) (cap : Nat) (l : List S46) (y : Bool), cs = [.int .i64 k, .int .i64 c, .int .i64 i, .int .i64 a, .slice A l.length cap, .bool y] ∧ l.length ≤ cap ∧ Kd.C k46 W A l.length l ∧ (∀ o ∈ l, o.f1.size ≤ 140737488351232) ∧ l.length * 24 ≤ 140737488351232 := by
  obtain ⟨y0, y1, y2, n, rfl, hl, h0, h1, h2⟩ := trod_struct3 Try.underlying89 h
  rw [cells89] at hl
  match cs, hl with
  | [v0, v1, v2, v3, v4, v5], _ =>
    simp only [cells3, cells56, cells4, List.drop_zero, List.take_succ_cons, List.take_zero, List.drop_succ_cons] at h0 h1 h2
    obtain ⟨k, e0, e0', _⟩ := DataW.trod_int Try.underlying3 h0
    obtain ⟨y, e2, e2', _⟩ := DataW.trod_bool Try.underlying4 h2
    simp only [DataW.weights, Try.underlying89] at hw
    simp only [List.map_cons, List.map_nil, DataW.weightsEach, List.mem_append] at hw
    obtain ⟨c, i, a, A, cap, l, e1, hc, hC, hz, hn⟩ := open_bapc h1 (fun n hn => hw n (by simp [hn]))
    simp only [List.cons.injEq, and_true] at e0 e1 e2
    obtain ⟨e1, e3, e4, e5⟩ := e1
    subst e0 e1 e2 e3 e4 e5
    exact ⟨k, c, i, a, A, cap, l, y, rfl, hc, hC, hz, hn⟩
/-- A row of acts as it stands in memory, whatever its spare room. -/
theorem open_acts {fuel : Nat} {cs : List Value} {x : DataW H × List MemPlace} (h : DataW.trod enc Try.prog W base sp held fuel 84 cs = some x) (hw : ∀ n ∈ x.1.weights Try.prog 84, n ≤ reachBytes) :
    ∃ (A : Option Addr) (n cap : Nat), cs = [.slice A n cap] ∧ n ≤ cap ∧ Acts W A n := by
  have hr : reachBytes = 140737488351232 := by decide
  rcases open_slice Try.underlying84 h with ⟨rfl, rfl⟩ | ⟨a, len, cap, m, n, D, Pl, rfl, hb, hl, hm, hmm, rfl, hi⟩
  · exact ⟨none, 0, 0, rfl, Nat.le_refl _, fun i hi => by omega⟩
  · rw [cells89] at hi
    have hlm : len ≤ m := by rw [hmm]; split <;> omega
    refine ⟨some a, len, cap, rfl, hl, fun i hil => ?_⟩
    obtain ⟨cs', hc, ht⟩ := hi i (by omega)
    simp only [DataW.weights, Try.underlying84, List.mem_cons, List.mem_append] at hw
    obtain ⟨k, c, i', an, A, cap', l, y, rfl, h1, h2, h3, h4⟩ := open_act ht (fun n hn => hw n (.inr (.inl (weightsAll_mem _ (D i) (List.mem_map.2 ⟨i, List.mem_range.2 hil, rfl⟩) _ hn))))
    obtain ⟨_, _, hat⟩ := World.cells?_some hc
    have at_ : ∀ j v, j ≠ 0 → [Value.int .i64 k, .int .i64 c, .int .i64 i', .int .i64 an, .slice A l.length cap', .bool y][j]? = some v → W.cell? ⟨(a.add (i * 6)).block, (a.add (i * 6)).off + j, none⟩ = some v := by
      intro j v hj hv
      obtain ⟨hj1, hj2⟩ := List.getElem?_eq_some_iff.1 hv
      have := hat j hj1
      rw [hv] at this
      rw [← this]
      congr 1
      simp [Addr.add, hj]
    refine ⟨a, k, c, i', an, A, cap', l, y, rfl, ?_, at_ 1 _ (by decide) rfl, at_ 2 _ (by decide) rfl, at_ 3 _ (by decide) rfl, at_ 4 _ (by decide) rfl, at_ 5 _ (by decide) rfl, ⟨h1, Kd.C_F (Kd.heap_iso _ (Kd.heap_pair (Kd.heap_int _) Kd.heap_string)) h2⟩, List.all_eq_true.2 (fun o ho => decide_eq_true (h3 o ho)), by omega⟩
    have := hat 0 (by simp)
    simpa [Addr.add] using this
end
end Go.Proofs.Ytbdlkcgaobkdcaa.P
end
section
namespace Go.Proofs.Ytbdlkcgaobkdcaa.P
open Go.RowKit Go.Proofs.YtbdlkcgaobkdcaaW.PrintWords Go.Proofs.YtbdlkcgaobkdcaaW.PrintLast Go.Proofs.YtbdlkcgaobkdcaaW.PrintMore
attribute [local go_sem] max2_int min2_int max_two min_two max_three min_three max_four min_four

theorem Js.start {w0 w1 w2 : World} {g gr : Nat} {m : Tk} (hm : m.Ok) (hb0 : Below w0.heap.size w0 w1) (h1 : w0.heap.size ≤ g) (hT : TkAt w1 g (fun _ => False) m) (h2 : w1.heap.size ≤ gr) (hR : RfAt w2 gr (fun _ => False) m) (hb : Below w1.heap.size w1 w2) : Js w0 w2 g gr m := by
  have lg := hT.lt
  exact ⟨(hT.below hb).mono (fun _ h => h.elim), hR.mono (fun _ h => h.elim), below_step hb0 hb, hm, h1, Nat.le_trans hb0.size h2, by omega⟩
set_option maxHeartbeats 8000000 in
set_option maxRecDepth 100000 in
theorem talkActs_bad (fav : Bool) (tries : Int) (A : Option Addr) (n c : Nat) (w : World) (ht : tries < 1 ∨ 10 < tries) : Calls Try.prog 20 #[.bool fav, .int .i64 tries, .slice A n c] w fun e w' => e = .returned (.bool true) ∧ Below w.heap.size w w' := by
  have HT := Aside0.mk ht
  clear ht
  go_enter Try.func20, Try.ntmps20
  go_wp2_with (first
    | (go_at_call 42; ((with_reducible refine (new_bad fav tries _ HT.out).mono ?_); rintro e w' ⟨rfl, rfl⟩))
    | (go_at_call 57; ((with_reducible refine (rnew_bad fav tries _ HT.out).mono ?_); rintro e w' ⟨rfl, rfl⟩))
    | (go_at_call 29; ((with_reducible refine (withylaw0_Num.calls _ _ _ rfl).mono ?_); rintro e w' ⟨rfl, ⟨nd, rfl⟩⟩))
    | (go_at_call 41; refine (awake22 _).mono ?_; rintro e w0 ⟨rfl, hb⟩; have B0 := Aside0.mk hb; clear hb))
  go_ret
  exact ⟨rfl, below_step (by repeat (first | exact Below.refl _ _ | apply pw_below_drewN | apply below_drew1)) B0.out⟩
set_option maxHeartbeats 8000000 in
set_option maxRecDepth 100000 in
theorem talkActs_calls (fav : Bool) (tries : Int) (A : Option Addr) (n c : Nat) (w : World) (hA : Acts w A n) (hc : n ≤ c) : Calls Try.prog 20 #[.bool fav, .int .i64 tries, .slice A n c] w fun e w' => e = .returned (.bool true) ∧ Below w.heap.size w w' := by
  by_cases ht : tries < 1 ∨ 10 < tries
  · exact talkActs_bad fav tries A n c w ht
  have T1 := Aside0.mk (show 1 ≤ tries ∧ tries ≤ 10 by omega)
  clear ht
  have HA := Aside0.mk hA
  clear hA
  have hu56 := Try.underlying56
  have hu89 := Try.underlying89
  have hu99 := Try.underlying99
  go_enter Try.func20, Try.ntmps20
  go_wp2_with (first
    | (go_at_call 42; ((with_reducible refine (new_calls fav tries _ T1.out.1 T1.out.2).mono ?_); rintro e w1 ⟨g, rfl, hg, hT, hb⟩)
       have TG := Aside0.mk hT
       have HG := Aside0.mk hg
       have B1 := Aside0.mk (below_step (Below.refl _ _) hb)
       clear hg hT hb)
    | (go_at_call 57; ((with_reducible refine (rnew_calls fav tries _ T1.out.1 T1.out.2).mono ?_); rintro e w2 ⟨gr, rfl, hg, hT, hb⟩)
       have J0 := Aside0.mk (Js.start (w0 := w) (new_Ok fav tries T1.out.1 T1.out.2) B1.out HG.out TG.out hg hT hb)
       clear hg hT hb TG HG B1)
    | (go_at_call 29; ((with_reducible refine (withylaw0_Num.calls _ _ _ rfl).mono ?_); rintro e w' ⟨rfl, ⟨nd, rfl⟩⟩)))
  go_loopg [11] 100 (fun gg s11 wr => ∃ (i : Nat), i ≤ 100 ∧ 100 - i ≤ gg ∧ s11 = .int .i64 (i : Int) ∧ Aside0 (∃ m : Tk, Js w wr g gr m))
  case atStart => exact ⟨0, by omega, by omega, rfl, ⟨_, by repeat (first | exact J0.out | apply Js.drewN)⟩⟩
  case round =>
    clear J0
    obtain ⟨i, i9, hgg, rfl, J⟩ := hrel
    by_cases hend : ¬ (i < n ∧ i < 100)
    · by_cases hn : i < n
      · have c1 : decide ((i : Int) < (n : Int)) = true := decide_eq_true (by omega)
        have c2 : decide ((i : Int) < 100) = false := decide_eq_false (by omega)
        have h2 : ¬ i < 100 := by omega
        clear hend
        go_wp2_with (go_at_call 41; refine (awake22 _).mono ?_; rintro e w0 ⟨rfl, hb⟩; have B0 := Aside0.mk hb; clear hb)
        go_ret
        exact ⟨rfl, below_step (by obtain ⟨m, hm⟩ := J.out; exact (hm.drewN 0).bl) B0.out⟩
      · have c1 : decide ((i : Int) < (n : Int)) = false := decide_eq_false (by omega)
        clear hend
        go_wp2_with (go_at_call 41; refine (awake22 _).mono ?_; rintro e w0 ⟨rfl, hb⟩; have B0 := Aside0.mk hb; clear hb)
        go_ret
        exact ⟨rfl, below_step (by obtain ⟨m, hm⟩ := J.out; exact (hm.drewN 0).bl) B0.out⟩
    · have hn : i < n := by omega
      have h100 : i < 100 := by omega
      clear hend
      have c1 : decide ((i : Int) < (n : Int)) = true := decide_eq_true (by omega)
      have c2 : decide ((i : Int) < 100) = true := decide_eq_true (by omega)
      obtain ⟨m, hJ⟩ := J.out
      have HJ := Aside0.mk hJ
      clear J
      obtain ⟨ad, k, f0, f1, f2, A0, c0, l, y, hact⟩ := HA.out i hn
      obtain rfl := hact.row
      have ti : ((i : Nat) : Int).toNat = i := rfl
      have i0 : (0 : Int) ≤ (i : Int) := by omega
      have i1 : (i : Int) < (n : Int) := by omega
      have lb := cell_lt hact.c0
      have z0 := (hJ.bl.cell (p := ad.add (i * 6)) lb).trans hact.c0
      have z1 := (hJ.bl.cell (p := ⟨(ad.add (i * 6)).block, (ad.add (i * 6)).off + 1, none⟩) lb).trans hact.c1
      have z2 := (hJ.bl.cell (p := ⟨(ad.add (i * 6)).block, (ad.add (i * 6)).off + 2, none⟩) lb).trans hact.c2
      have z3 := (hJ.bl.cell (p := ⟨(ad.add (i * 6)).block, (ad.add (i * 6)).off + 3, none⟩) lb).trans hact.c3
      have z4 := (hJ.bl.cell (p := ⟨(ad.add (i * 6)).block, (ad.add (i * 6)).off + 4, none⟩) lb).trans hact.c4
      have z5 := (hJ.bl.cell (p := ⟨(ad.add (i * 6)).block, (ad.add (i * 6)).off + 5, none⟩) lb).trans hact.c5
      clear lb hJ
      have SE := Aside0.mk hact.sees
      have SM := Aside0.mk hact.small
      have SH := Aside0.mk hact.short
      clear hact
      by_cases hk4 : k < 4
      · have k4 : decide (k < 4) = true := decide_eq_true hk4
        obtain ⟨⟨m', b, er⟩, hE⟩ : ∃ t, askS m f0 l = t := ⟨_, rfl⟩
        have EA := Aside0.mk hE
        clear hE
        go_wp2_with (first
          | (go_at_call 31; ((with_reducible refine (v_lend (act := #[.int .i64 k, .int .i64 f0, .int .i64 f1, .int .i64 f2, .slice A0 l.length c0, .bool y]) (m := m) (w0 := w) (g := g) (gr := gr) (ga := wr.heap.size) ?p1 (heap_alloc_new _ _) ?p2 SE.out.cap SH.out).mono ?_); (case p1 => repeat (first | exact HJ.out | apply Js.alloc | apply Js.drewN | apply Js.drew)); (case p2 => exact Kd.C_alloc (SE.out.step (fun k hk _ => HJ.out.bl.block k hk)).C _); rintro e w3 ⟨A1, c1', rfl, hR⟩)
             obtain ⟨ga, hga⟩ : ∃ ga, ga = wr.heap.size := ⟨_, rfl⟩
             rw [← hga] at hR
             have NG := Aside0.mk (show ga ≠ g by rw [hga]; exact Nat.ne_of_gt HJ.out.tk.lt)
             have NR := Aside0.mk (show ga ≠ gr by rw [hga]; exact Nat.ne_of_gt HJ.out.rf.lt)
             rw [← hga]
             obtain ⟨a0, a1, a2, a3, a4, a5⟩ := six hR.ab
             have e5 : ∀ o, (w3.alloc o).cell? ⟨ga, 5, none⟩ = some (.bool y) := fun o => (blk_cell (blk_alloc hR.ab o) 5).trans rfl
             obtain ⟨act, hact⟩ : ∃ act : Array Value, act = #[.int .i64 k, .int .i64 f0, .int .i64 f1, .int .i64 f2, .slice A0 l.length c0, .bool y] := ⟨_, rfl⟩
             rw [← hact] at hR
             have HACT := Aside0.mk hact
             have R1 := Aside0.mk hR
             clear hR hga hact HJ z0 z1 z2 z3 z4 z5)
          | (go_at_call 43; ((with_reducible refine (v_ask (m := m) (n := m) (code := f0) (w0 := w) (g := g) (gr := gr) (ga := ga) (act := act) (A := A1) (cc := c1') (l := l) ?p3 NG.out SH.out EA.out).mono ?_); (case p3 => repeat (first | exact R1.out | apply Rd.alloc | apply Rd.drewN | apply Rd.drew)); rintro e w4 ⟨A2, c2, B, rfl, hM⟩)
             have M2 := Aside0.mk hM
             have b1 : ∀ o, (w4.alloc o).cell? ⟨ga, 1, none⟩ = some (.int .i64 f0) := fun o => (blk_cell (blk_alloc hM.rd.ab o) 1).trans (by rw [HACT.out]; rfl)
             have b4 : ∀ o, (w4.alloc o).cell? ⟨ga, 4, none⟩ = some (.slice A0 l.length c0) := fun o => (blk_cell (blk_alloc hM.rd.ab o) 4).trans (by rw [HACT.out]; rfl)
             clear hM R1 a0 a1 a2 a3 a4 a5 e5)
          | (go_at_call 58; ((with_reducible refine (v_rask (m := m') (n := m) (b := b) (code := f0) (w0 := w) (g := g) (gr := gr) (ga := ga) (act := act) (A := A1) (cc := c1') (l := l) (B := B) (C := w4.heap.size) (v := .slice A2 b.f3.length c2) ?p4 NR.out SE.out SM.out SH.out EA.out).mono ?_); (case p4 => repeat (first | exact M2.out | apply Md.alloc | apply Md.drewN | apply Md.drew)); rintro e w5 ⟨A3, c3, rfl, hc3, hC3, hM, hU⟩)
             obtain ⟨gb, hgb⟩ : ∃ gb, gb = w4.heap.size := ⟨_, rfl⟩
             have GB := Aside0.mk (show w5.heap[gb]? = some (.cells #[.int .i64 b.f0, .int .i64 b.f1, .int .i64 b.f2, .slice A2 b.f3.length c2] 56 (0, 0)) by rw [hgb]; exact hU.blk (heap_alloc_new _ _) (Nat.ne_of_gt M2.out.rd.ltr))
             rw [← hgb]
             have M3 := Aside0.mk hM
             have Q3 := Aside0.mk hc3
             have QC3 := Aside0.mk hC3
             have y0 : ∀ o, (w5.alloc o).cell? ⟨gb, 0, none⟩ = some (.int .i64 b.f0) := fun o => (blk_cell (blk_alloc GB.out o) 0).trans rfl
             have y1 : ∀ o, (w5.alloc o).cell? ⟨gb, 1, none⟩ = some (.int .i64 b.f1) := fun o => (blk_cell (blk_alloc GB.out o) 1).trans rfl
             have y2 : ∀ o, (w5.alloc o).cell? ⟨gb, 2, none⟩ = some (.int .i64 b.f2) := fun o => (blk_cell (blk_alloc GB.out o) 2).trans rfl
             have y3 : ∀ o, (w5.alloc o).cell? ⟨gb, 3, none⟩ = some (.slice A2 b.f3.length c2) := fun o => (blk_cell (blk_alloc GB.out o) 3).trans rfl
             clear hM hU hc3 hC3 hgb M2 b1 b4)
          | (go_at_call 56; ((with_reducible refine (v_same (b := b) ?q1 ?q2 ?q3 Q3.out M3.out.len).mono ?_); (case q1 => exact (Md.reads (show Md w _ g gr ga m' m' act A1 c1' l B w4.heap.size (.slice A2 b.f3.length c2) b.f3 by repeat (first | exact M3.out | apply Md.alloc | apply Md.drewN | apply Md.drew))).2); (case q2 => exact M3.out.reads.1); (case q3 => repeat (first | exact QC3.out | apply Kd.C_alloc | apply Kd.C_drewN | apply Kd.C_drew)); rintro e w6 ⟨rfl, hb⟩)
             have M4 := Aside0.mk ((show Md w _ g gr ga m' m' act A1 c1' l B w4.heap.size (.slice A2 b.f3.length c2) b.f3 by repeat (first | exact M3.out | apply Md.alloc | apply Md.drewN | apply Md.drew)).below hb)
             have x3 := (blk_cell (blk_below (show (World.heap _)[gb]? = some (.cells #[.int .i64 b.f0, .int .i64 b.f1, .int .i64 b.f2, .slice A2 b.f3.length c2] 56 (0, 0)) by repeat (first | exact GB.out | apply blk_alloc | apply blk_drewN)) hb) 3).trans rfl
             clear hb M3 Q3 QC3 GB y0 y1 y2 y3)
          | (go_at_call 39; ((with_reducible refine (v_spoil (m := m') (n := m') (os := b.f3) (w0 := w) (g := g) (gr := gr) (ga := ga) (act := act) (A := A1) (cc := c1') (l := l) (B := B) (C := w4.heap.size) ?p5).mono ?_); (case p5 => repeat (first | exact M4.out | apply Md.alloc | apply Md.drewN | apply Md.drew)); rintro e w7 ⟨rfl, hR⟩)
             have R5 := Aside0.mk hR
             clear hR M4 x3)
          | (go_at_call 29; ((with_reducible refine (withylaw0_Num.calls _ _ _ rfl).mono ?_); rintro e w' ⟨rfl, ⟨nd, rfl⟩⟩))
          | (go_at_call 63; ((with_reducible refine (v_last (m := m') (n := m') (w0 := w) (g := g) (gr := gr) (ga := ga) (act := act) (A := A1) (cc := c1') (l := l) ?p7).mono ?_); (case p7 => repeat (first | exact R5.out | apply Rd.alloc | apply Rd.drewN | apply Rd.drew)); rintro e w8 ⟨A6, c6, rfl, hM⟩)
             have M6 := Aside0.mk hM
             clear hM R5))

        obtain ⟨gl, hgl⟩ : ∃ gl, gl = w8.heap.size := ⟨_, rfl⟩
        obtain ⟨W9, hW9⟩ : ∃ W9, W9 = w8.alloc (.cells #[.int .i64 m'.last.f0, .int .i64 m'.last.f1, .int .i64 m'.last.f2, .slice A6 m'.last.f3.length c6] 56) := ⟨_, rfl⟩
        have G9 := Aside0.mk (show W9.heap[gl]? = some (.cells #[.int .i64 m'.last.f0, .int .i64 m'.last.f1, .int .i64 m'.last.f2, .slice A6 m'.last.f3.length c6] 56 (0, 0)) by rw [hW9, hgl]; exact heap_alloc_new _ _)
        have M9 := Aside0.mk (show Md w W9 g gr ga m' m' act A1 c1' l w7.heap.size w8.heap.size (.slice A6 m'.last.f3.length c6) m'.last.f3 by rw [hW9]; exact M6.out.alloc _)
        rw [← hW9, ← hgl]
        clear hW9 hgl M6
        obtain ⟨q, lr, D, d, D', d', hq, _, hblk, _, hs'⟩ := M9.out.rd.rf
        have SL := Aside0.mk hs'
        have RB := Aside0.mk hblk
        clear hs' hblk
        obtain ⟨r0, r1, r2, r3, r4, _, _, _, _, _, _, _, _⟩ := rf_cells RB.out
        obtain ⟨l0, l1, l2, l3, _, _, _, _⟩ := four G9.out
        have a4 := (blk_cell M9.out.rd.ab 4).trans (show _ = some (.slice A0 l.length c0) by rw [HACT.out]; rfl)
        go_region_held3 (fun w' => w'.cell? ⟨gr, 0, none⟩ = some (.bool q) ∧ w'.cell? ⟨gr, 1, none⟩ = some (.int .i64 m'.last.f0) ∧ w'.cell? ⟨gr, 2, none⟩ = some (.int .i64 m'.last.f1) ∧ w'.cell? ⟨gr, 3, none⟩ = some (.int .i64 m'.last.f2) ∧ w'.cell? ⟨gr, 4, none⟩ = some (.slice D' m'.last.f3.length d') ∧ w'.cell? ⟨gl, 0, none⟩ = some (.int .i64 m'.last.f0) ∧ w'.cell? ⟨gl, 1, none⟩ = some (.int .i64 m'.last.f1) ∧ w'.cell? ⟨gl, 2, none⟩ = some (.int .i64 m'.last.f2) ∧ w'.cell? ⟨gl, 3, none⟩ = some (.slice A6 m'.last.f3.length c6) ∧ w'.cell? ⟨ga, 4, none⟩ = some (.slice A0 l.length c0)) (first | exact ⟨r0, r1, r2, r3, r4, l0, l1, l2, l3, a4⟩ | exact ⟨s0, s1, s2, s3, s4, t0, t1, t2, t3, b4⟩ | go_keep)
          (first
            | (go_at_call 45; ((with_reducible refine (v_pending (m := m') (n := m') (w0 := w) (g := g) (gr := gr) (ga := ga) (act := act) (A := A1) (cc := c1') (l := l) (ok := okR g gr w7.heap.size w8.heap.size) ?p8).mono ?_); (case p8 => exact Md.rd (show Md w _ g gr ga m' m' act A1 c1' l w7.heap.size w8.heap.size (.slice A6 m'.last.f3.length c6) m'.last.f3 by repeat (first | exact M9.out | apply Md.alloc | apply Md.drewN | apply Md.drew))); rintro e w' ⟨rfl, rfl⟩; rw [hq]))
            | (go_at_call 56; ((with_reducible refine (v_same (b := m'.last) ?q4 ?q5 ?q6 SL.out.cap M9.out.len).mono ?_); (case q4 => exact (Md.reads (show Md w _ g gr ga m' m' act A1 c1' l w7.heap.size w8.heap.size (.slice A6 m'.last.f3.length c6) m'.last.f3 by repeat (first | exact M9.out | apply Md.alloc | apply Md.drewN | apply Md.drew))).2); (case q5 => exact M9.out.reads.1); (case q6 => repeat (first | exact SL.out.C | apply Kd.C_drewN | apply Kd.C_drew)); rintro e w10 ⟨rfl, hb⟩)
               have M10 := Aside0.mk ((show Md w _ g gr ga m' m' act A1 c1' l w7.heap.size w8.heap.size (.slice A6 m'.last.f3.length c6) m'.last.f3 by repeat (first | exact M9.out | apply Md.alloc | apply Md.drewN | apply Md.drew)).below hb)
               obtain ⟨s0, s1, s2, s3, s4, _, _, _, _, _, _, _, _⟩ := rf_cells (blk_below (show (World.heap _)[gr]? = some (.cells (rfCells m' q lr (.slice D m'.ask.f3.length d) (.slice D' m'.last.f3.length d')) 99 (0, 0)) by repeat (first | exact RB.out | apply blk_drewN)) hb)
               obtain ⟨t0, t1, t2, t3, _, _, _, _⟩ := four (blk_below (show (World.heap _)[gl]? = some (.cells #[.int .i64 m'.last.f0, .int .i64 m'.last.f1, .int .i64 m'.last.f2, .slice A6 m'.last.f3.length c6] 56 (0, 0)) by repeat (first | exact G9.out | apply blk_drewN)) hb)
               have b4 := (blk_cell M10.out.rd.ab 4).trans (show _ = some (.slice A0 l.length c0) by rw [HACT.out]; rfl)
               clear hb)
            | (go_at_call 38; ((with_reducible refine (v_kept (m := m') (n := m') (w0 := w) (g := g) (gr := gr) (ga := ga) (act := act) (A := A1) (cc := c1') (l := l) (ok := okR g gr w7.heap.size w8.heap.size) ?p9 SE.out SH.out).mono ?_); (case p9 => exact Md.rd (show Md w _ g gr ga m' m' act A1 c1' l w7.heap.size w8.heap.size (.slice A6 m'.last.f3.length c6) m'.last.f3 by repeat (first | exact M10.out | apply Md.alloc | apply Md.drewN | apply Md.drew))); rintro e w11 ⟨rfl, hd⟩; obtain ⟨nk, rfl⟩ := hd.out)))

        all_goals go_wp2_with (go_at_call 39; ((with_reducible refine (v_spoil (m := m') (n := m') (os := m'.last.f3) (w0 := w) (g := g) (gr := gr) (ga := ga) (act := act) (A := A1) (cc := c1') (l := l) (B := w7.heap.size) (C := w8.heap.size) ?p10).mono ?_); (case p10 => repeat (first | exact M10.out | apply Md.alloc | apply Md.drewN | apply Md.drew)); rintro e w12 ⟨rfl, hR⟩; have R12 := Aside0.mk hR; clear hR))
        go_roundg (99 - i)
        case measure => omega
        case rel => exact ⟨i + 1, by omega, by omega, by go_num, ⟨m', R12.out.js⟩⟩
      by_cases hk6 : k < 6
      · have k4 : decide (k < 4) = false := decide_eq_false hk4
        have k6 : decide (k < 6) = true := decide_eq_true hk6
        obtain ⟨⟨m', b, er⟩, hE⟩ : ∃ t, againS m = t := ⟨_, rfl⟩
        have EA := Aside0.mk hE
        clear hE
        go_wp2_with (first
          | (go_at_call 31; ((with_reducible refine (v_lend (act := #[.int .i64 k, .int .i64 f0, .int .i64 f1, .int .i64 f2, .slice A0 l.length c0, .bool y]) (m := m) (w0 := w) (g := g) (gr := gr) (ga := wr.heap.size) ?p1 (heap_alloc_new _ _) ?p2 SE.out.cap SH.out).mono ?_); (case p1 => repeat (first | exact HJ.out | apply Js.alloc | apply Js.drewN | apply Js.drew)); (case p2 => exact Kd.C_alloc (SE.out.step (fun k hk _ => HJ.out.bl.block k hk)).C _); rintro e w3 ⟨A1, c1', rfl, hR⟩)
             obtain ⟨ga, hga⟩ : ∃ ga, ga = wr.heap.size := ⟨_, rfl⟩
             rw [← hga] at hR
             have NG := Aside0.mk (show ga ≠ g by rw [hga]; exact Nat.ne_of_gt HJ.out.tk.lt)
             have NR := Aside0.mk (show ga ≠ gr by rw [hga]; exact Nat.ne_of_gt HJ.out.rf.lt)
             rw [← hga]
             obtain ⟨a0, a1, a2, a3, a4, a5⟩ := six hR.ab
             have e5 : ∀ o, (w3.alloc o).cell? ⟨ga, 5, none⟩ = some (.bool y) := fun o => (blk_cell (blk_alloc hR.ab o) 5).trans rfl
             obtain ⟨act, hact⟩ : ∃ act : Array Value, act = #[.int .i64 k, .int .i64 f0, .int .i64 f1, .int .i64 f2, .slice A0 l.length c0, .bool y] := ⟨_, rfl⟩
             rw [← hact] at hR
             have HACT := Aside0.mk hact
             have R1 := Aside0.mk hR
             clear hR hga hact HJ z0 z1 z2 z3 z4 z5)
          | (go_at_call 44; ((with_reducible refine (v_again (m := m) (n := m) (w0 := w) (g := g) (gr := gr) (ga := ga) (act := act) (A := A1) (cc := c1') (l := l) ?p3 NG.out EA.out).mono ?_); (case p3 => repeat (first | exact R1.out | apply Rd.alloc | apply Rd.drewN | apply Rd.drew)); rintro e w4 ⟨A2, c2, B, rfl, hM⟩)
             have M2 := Aside0.mk hM
             have b1 : ∀ o, (w4.alloc o).cell? ⟨ga, 1, none⟩ = some (.int .i64 f0) := fun o => (blk_cell (blk_alloc hM.rd.ab o) 1).trans (by rw [HACT.out]; rfl)
             have b4 : ∀ o, (w4.alloc o).cell? ⟨ga, 4, none⟩ = some (.slice A0 l.length c0) := fun o => (blk_cell (blk_alloc hM.rd.ab o) 4).trans (by rw [HACT.out]; rfl)
             clear hM R1 a0 a1 a2 a3 a4 a5 e5)
          | (go_at_call 59; ((with_reducible refine (v_ragain (m := m') (n := m) (b := b) (w0 := w) (g := g) (gr := gr) (ga := ga) (act := act) (A := A1) (cc := c1') (l := l) (B := B) (C := w4.heap.size) (v := .slice A2 b.f3.length c2) ?p4 NR.out EA.out).mono ?_); (case p4 => repeat (first | exact M2.out | apply Md.alloc | apply Md.drewN | apply Md.drew)); rintro e w5 ⟨A3, c3, rfl, hc3, hC3, hM, hU⟩)
             obtain ⟨gb, hgb⟩ : ∃ gb, gb = w4.heap.size := ⟨_, rfl⟩
             have GB := Aside0.mk (show w5.heap[gb]? = some (.cells #[.int .i64 b.f0, .int .i64 b.f1, .int .i64 b.f2, .slice A2 b.f3.length c2] 56 (0, 0)) by rw [hgb]; exact hU.blk (heap_alloc_new _ _) (Nat.ne_of_gt M2.out.rd.ltr))
             rw [← hgb]
             have M3 := Aside0.mk hM
             have Q3 := Aside0.mk hc3
             have QC3 := Aside0.mk hC3
             have y0 : ∀ o, (w5.alloc o).cell? ⟨gb, 0, none⟩ = some (.int .i64 b.f0) := fun o => (blk_cell (blk_alloc GB.out o) 0).trans rfl
             have y1 : ∀ o, (w5.alloc o).cell? ⟨gb, 1, none⟩ = some (.int .i64 b.f1) := fun o => (blk_cell (blk_alloc GB.out o) 1).trans rfl
             have y2 : ∀ o, (w5.alloc o).cell? ⟨gb, 2, none⟩ = some (.int .i64 b.f2) := fun o => (blk_cell (blk_alloc GB.out o) 2).trans rfl
             have y3 : ∀ o, (w5.alloc o).cell? ⟨gb, 3, none⟩ = some (.slice A2 b.f3.length c2) := fun o => (blk_cell (blk_alloc GB.out o) 3).trans rfl
             clear hM hU hc3 hC3 hgb M2 b1 b4)
          | (go_at_call 56; ((with_reducible refine (v_same (b := b) ?q1 ?q2 ?q3 Q3.out M3.out.len).mono ?_); (case q1 => exact (Md.reads (show Md w _ g gr ga m' m' act A1 c1' l B w4.heap.size (.slice A2 b.f3.length c2) b.f3 by repeat (first | exact M3.out | apply Md.alloc | apply Md.drewN | apply Md.drew))).2); (case q2 => exact M3.out.reads.1); (case q3 => repeat (first | exact QC3.out | apply Kd.C_alloc | apply Kd.C_drewN | apply Kd.C_drew)); rintro e w6 ⟨rfl, hb⟩)
             have M4 := Aside0.mk ((show Md w _ g gr ga m' m' act A1 c1' l B w4.heap.size (.slice A2 b.f3.length c2) b.f3 by repeat (first | exact M3.out | apply Md.alloc | apply Md.drewN | apply Md.drew)).below hb)
             have x3 := (blk_cell (blk_below (show (World.heap _)[gb]? = some (.cells #[.int .i64 b.f0, .int .i64 b.f1, .int .i64 b.f2, .slice A2 b.f3.length c2] 56 (0, 0)) by repeat (first | exact GB.out | apply blk_alloc | apply blk_drewN)) hb) 3).trans rfl
             clear hb M3 Q3 QC3 GB y0 y1 y2 y3)
          | (go_at_call 39; ((with_reducible refine (v_spoil (m := m') (n := m') (os := b.f3) (w0 := w) (g := g) (gr := gr) (ga := ga) (act := act) (A := A1) (cc := c1') (l := l) (B := B) (C := w4.heap.size) ?p5).mono ?_); (case p5 => repeat (first | exact M4.out | apply Md.alloc | apply Md.drewN | apply Md.drew)); rintro e w7 ⟨rfl, hR⟩)
             have R5 := Aside0.mk hR
             clear hR M4 x3)
          | (go_at_call 29; ((with_reducible refine (withylaw0_Num.calls _ _ _ rfl).mono ?_); rintro e w' ⟨rfl, ⟨nd, rfl⟩⟩))
          | (go_at_call 63; ((with_reducible refine (v_last (m := m') (n := m') (w0 := w) (g := g) (gr := gr) (ga := ga) (act := act) (A := A1) (cc := c1') (l := l) ?p7).mono ?_); (case p7 => repeat (first | exact R5.out | apply Rd.alloc | apply Rd.drewN | apply Rd.drew)); rintro e w8 ⟨A6, c6, rfl, hM⟩)
             have M6 := Aside0.mk hM
             clear hM R5))

        obtain ⟨gl, hgl⟩ : ∃ gl, gl = w8.heap.size := ⟨_, rfl⟩
        obtain ⟨W9, hW9⟩ : ∃ W9, W9 = w8.alloc (.cells #[.int .i64 m'.last.f0, .int .i64 m'.last.f1, .int .i64 m'.last.f2, .slice A6 m'.last.f3.length c6] 56) := ⟨_, rfl⟩
        have G9 := Aside0.mk (show W9.heap[gl]? = some (.cells #[.int .i64 m'.last.f0, .int .i64 m'.last.f1, .int .i64 m'.last.f2, .slice A6 m'.last.f3.length c6] 56 (0, 0)) by rw [hW9, hgl]; exact heap_alloc_new _ _)
        have M9 := Aside0.mk (show Md w W9 g gr ga m' m' act A1 c1' l w7.heap.size w8.heap.size (.slice A6 m'.last.f3.length c6) m'.last.f3 by rw [hW9]; exact M6.out.alloc _)
        rw [← hW9, ← hgl]
        clear hW9 hgl M6
        obtain ⟨q, lr, D, d, D', d', hq, _, hblk, _, hs'⟩ := M9.out.rd.rf
        have SL := Aside0.mk hs'
        have RB := Aside0.mk hblk
        clear hs' hblk
        obtain ⟨r0, r1, r2, r3, r4, _, _, _, _, _, _, _, _⟩ := rf_cells RB.out
        obtain ⟨l0, l1, l2, l3, _, _, _, _⟩ := four G9.out
        have a4 := (blk_cell M9.out.rd.ab 4).trans (show _ = some (.slice A0 l.length c0) by rw [HACT.out]; rfl)
        go_region_held3 (fun w' => w'.cell? ⟨gr, 0, none⟩ = some (.bool q) ∧ w'.cell? ⟨gr, 1, none⟩ = some (.int .i64 m'.last.f0) ∧ w'.cell? ⟨gr, 2, none⟩ = some (.int .i64 m'.last.f1) ∧ w'.cell? ⟨gr, 3, none⟩ = some (.int .i64 m'.last.f2) ∧ w'.cell? ⟨gr, 4, none⟩ = some (.slice D' m'.last.f3.length d') ∧ w'.cell? ⟨gl, 0, none⟩ = some (.int .i64 m'.last.f0) ∧ w'.cell? ⟨gl, 1, none⟩ = some (.int .i64 m'.last.f1) ∧ w'.cell? ⟨gl, 2, none⟩ = some (.int .i64 m'.last.f2) ∧ w'.cell? ⟨gl, 3, none⟩ = some (.slice A6 m'.last.f3.length c6) ∧ w'.cell? ⟨ga, 4, none⟩ = some (.slice A0 l.length c0)) (first | exact ⟨r0, r1, r2, r3, r4, l0, l1, l2, l3, a4⟩ | exact ⟨s0, s1, s2, s3, s4, t0, t1, t2, t3, b4⟩ | go_keep)
          (first
            | (go_at_call 45; ((with_reducible refine (v_pending (m := m') (n := m') (w0 := w) (g := g) (gr := gr) (ga := ga) (act := act) (A := A1) (cc := c1') (l := l) (ok := okR g gr w7.heap.size w8.heap.size) ?p8).mono ?_); (case p8 => exact Md.rd (show Md w _ g gr ga m' m' act A1 c1' l w7.heap.size w8.heap.size (.slice A6 m'.last.f3.length c6) m'.last.f3 by repeat (first | exact M9.out | apply Md.alloc | apply Md.drewN | apply Md.drew))); rintro e w' ⟨rfl, rfl⟩; rw [hq]))
            | (go_at_call 56; ((with_reducible refine (v_same (b := m'.last) ?q4 ?q5 ?q6 SL.out.cap M9.out.len).mono ?_); (case q4 => exact (Md.reads (show Md w _ g gr ga m' m' act A1 c1' l w7.heap.size w8.heap.size (.slice A6 m'.last.f3.length c6) m'.last.f3 by repeat (first | exact M9.out | apply Md.alloc | apply Md.drewN | apply Md.drew))).2); (case q5 => exact M9.out.reads.1); (case q6 => repeat (first | exact SL.out.C | apply Kd.C_drewN | apply Kd.C_drew)); rintro e w10 ⟨rfl, hb⟩)
               have M10 := Aside0.mk ((show Md w _ g gr ga m' m' act A1 c1' l w7.heap.size w8.heap.size (.slice A6 m'.last.f3.length c6) m'.last.f3 by repeat (first | exact M9.out | apply Md.alloc | apply Md.drewN | apply Md.drew)).below hb)
               obtain ⟨s0, s1, s2, s3, s4, _, _, _, _, _, _, _, _⟩ := rf_cells (blk_below (show (World.heap _)[gr]? = some (.cells (rfCells m' q lr (.slice D m'.ask.f3.length d) (.slice D' m'.last.f3.length d')) 99 (0, 0)) by repeat (first | exact RB.out | apply blk_drewN)) hb)
               obtain ⟨t0, t1, t2, t3, _, _, _, _⟩ := four (blk_below (show (World.heap _)[gl]? = some (.cells #[.int .i64 m'.last.f0, .int .i64 m'.last.f1, .int .i64 m'.last.f2, .slice A6 m'.last.f3.length c6] 56 (0, 0)) by repeat (first | exact G9.out | apply blk_drewN)) hb)
               have b4 := (blk_cell M10.out.rd.ab 4).trans (show _ = some (.slice A0 l.length c0) by rw [HACT.out]; rfl)
               clear hb)
            | (go_at_call 38; ((with_reducible refine (v_kept (m := m') (n := m') (w0 := w) (g := g) (gr := gr) (ga := ga) (act := act) (A := A1) (cc := c1') (l := l) (ok := okR g gr w7.heap.size w8.heap.size) ?p9 SE.out SH.out).mono ?_); (case p9 => exact Md.rd (show Md w _ g gr ga m' m' act A1 c1' l w7.heap.size w8.heap.size (.slice A6 m'.last.f3.length c6) m'.last.f3 by repeat (first | exact M10.out | apply Md.alloc | apply Md.drewN | apply Md.drew))); rintro e w11 ⟨rfl, hd⟩; obtain ⟨nk, rfl⟩ := hd.out)))

        all_goals go_wp2_with (go_at_call 39; ((with_reducible refine (v_spoil (m := m') (n := m') (os := m'.last.f3) (w0 := w) (g := g) (gr := gr) (ga := ga) (act := act) (A := A1) (cc := c1') (l := l) (B := w7.heap.size) (C := w8.heap.size) ?p10).mono ?_); (case p10 => repeat (first | exact M10.out | apply Md.alloc | apply Md.drewN | apply Md.drew)); rintro e w12 ⟨rfl, hR⟩; have R12 := Aside0.mk hR; clear hR))
        go_roundg (99 - i)
        case measure => omega
        case rel => exact ⟨i + 1, by omega, by omega, by go_num, ⟨m', R12.out.js⟩⟩
      · have k4 : decide (k < 4) = false := decide_eq_false hk4
        have k6 : decide (k < 6) = false := decide_eq_false hk6
        obtain ⟨⟨m', bs, er⟩, hE⟩ : ∃ t, takeS m ⟨f0, f1, f2, l⟩ y = t := ⟨_, rfl⟩
        have EA := Aside0.mk hE
        clear hE
        go_wp2_with (first
          | (go_at_call 31; ((with_reducible refine (v_lend (act := #[.int .i64 k, .int .i64 f0, .int .i64 f1, .int .i64 f2, .slice A0 l.length c0, .bool y]) (m := m) (w0 := w) (g := g) (gr := gr) (ga := wr.heap.size) ?p1 (heap_alloc_new _ _) ?p2 SE.out.cap SH.out).mono ?_); (case p1 => repeat (first | exact HJ.out | apply Js.alloc | apply Js.drewN | apply Js.drew)); (case p2 => exact Kd.C_alloc (SE.out.step (fun k hk _ => HJ.out.bl.block k hk)).C _); rintro e w3 ⟨A1, c1', rfl, hR⟩)
             obtain ⟨ga, hga⟩ : ∃ ga, ga = wr.heap.size := ⟨_, rfl⟩
             rw [← hga] at hR
             have NG := Aside0.mk (show ga ≠ g by rw [hga]; exact Nat.ne_of_gt HJ.out.tk.lt)
             have NR := Aside0.mk (show ga ≠ gr by rw [hga]; exact Nat.ne_of_gt HJ.out.rf.lt)
             rw [← hga]
             obtain ⟨a0, a1, a2, a3, a4, a5⟩ := six hR.ab
             have e5 : ∀ o, (w3.alloc o).cell? ⟨ga, 5, none⟩ = some (.bool y) := fun o => (blk_cell (blk_alloc hR.ab o) 5).trans rfl
             obtain ⟨act, hact⟩ : ∃ act : Array Value, act = #[.int .i64 k, .int .i64 f0, .int .i64 f1, .int .i64 f2, .slice A0 l.length c0, .bool y] := ⟨_, rfl⟩
             rw [← hact] at hR
             have HACT := Aside0.mk hact
             have R1 := Aside0.mk hR
             clear hR hga hact HJ z0 z1 z2 z3 z4 z5)
          | (go_at_call 46; ((with_reducible refine (v_take (m := m) (n := m) (c := f0) (i := f1) (a := f2) (yes := y) (w0 := w) (g := g) (gr := gr) (ga := ga) (act := act) (A := A1) (cc := c1') (l := l) ?p3 NG.out SH.out EA.out).mono ?_); (case p3 => repeat (first | exact R1.out | apply Rd.alloc | apply Rd.drewN | apply Rd.drew)); rintro e w4 ⟨v, B, rfl, hM⟩)
             have M2 := Aside0.mk hM
             obtain ⟨b0, b1, b2, b3, b4, b5⟩ := six (show w4.heap[ga]? = some (.cells #[.int .i64 k, .int .i64 f0, .int .i64 f1, .int .i64 f2, .slice A0 l.length c0, .bool y] 89 (0, 0)) by rw [← HACT.out]; exact hM.rd.ab)
             clear hM R1 a0 a1 a2 a3 a4 a5 e5)
          | (go_at_call 60; ((with_reducible refine (v_rtake (m := m') (n := m) (bs := bs) (c := f0) (i := f1) (a := f2) (yes := y) (w0 := w) (g := g) (gr := gr) (ga := ga) (act := act) (A := A1) (cc := c1') (l := l) (B := B) (C := w4.heap.size) (v := v) ?p4 NR.out SE.out SM.out SH.out EA.out).mono ?_); (case p4 => repeat (first | exact M2.out | apply Mt.alloc | apply Mt.drewN | apply Mt.drew)); rintro e w5 ⟨A3, c3, rfl, hc3, hC3, hM⟩)
             have M3 := Aside0.mk hM
             have Q3 := Aside0.mk hc3
             have QC3 := Aside0.mk hC3
             clear hM hc3 hC3 M2 b0 b1 b2 b3 b4 b5)
          | (go_at_call 61; ((with_reducible refine (v_sames (w0 := w) (B := B) (C := w4.heap.size) (bs := bs) ?q1 ?q3 Q3.out).mono ?_); (case q1 => exact Mt.row (show Mt w _ g gr ga m' m' act A1 c1' l B w4.heap.size v bs by repeat (first | exact M3.out | apply Mt.alloc | apply Mt.drewN | apply Mt.drew))); (case q3 => exact QC3.out); rintro e w6 ⟨rfl, hb⟩)
             have M4 := Aside0.mk ((show Mt w _ g gr ga m' m' act A1 c1' l B w4.heap.size v bs by repeat (first | exact M3.out | apply Mt.alloc | apply Mt.drewN | apply Mt.drew)).below hb)
             clear hb M3 Q3 QC3)
          | (go_at_call 62; ((with_reducible refine (v_spoils (m := m') (n := m') (bs := bs) (w0 := w) (g := g) (gr := gr) (ga := ga) (act := act) (A := A1) (cc := c1') (l := l) (B := B) (C := w4.heap.size) ?p5).mono ?_); (case p5 => repeat (first | exact M4.out | apply Mt.alloc | apply Mt.drewN | apply Mt.drew)); rintro e w7 ⟨rfl, hR⟩)
             have R5 := Aside0.mk hR
             clear hR M4)
          | (go_at_call 29; ((with_reducible refine (withylaw0_Num.calls _ _ _ rfl).mono ?_); rintro e w' ⟨rfl, ⟨nd, rfl⟩⟩))
          | (go_at_call 63; ((with_reducible refine (v_last (m := m') (n := m') (w0 := w) (g := g) (gr := gr) (ga := ga) (act := act) (A := A1) (cc := c1') (l := l) ?p7).mono ?_); (case p7 => repeat (first | exact R5.out | apply Rd.alloc | apply Rd.drewN | apply Rd.drew)); rintro e w8 ⟨A6, c6, rfl, hM⟩)
             have M6 := Aside0.mk hM
             clear hM R5))

        obtain ⟨gl, hgl⟩ : ∃ gl, gl = w8.heap.size := ⟨_, rfl⟩
        obtain ⟨W9, hW9⟩ : ∃ W9, W9 = w8.alloc (.cells #[.int .i64 m'.last.f0, .int .i64 m'.last.f1, .int .i64 m'.last.f2, .slice A6 m'.last.f3.length c6] 56) := ⟨_, rfl⟩
        have G9 := Aside0.mk (show W9.heap[gl]? = some (.cells #[.int .i64 m'.last.f0, .int .i64 m'.last.f1, .int .i64 m'.last.f2, .slice A6 m'.last.f3.length c6] 56 (0, 0)) by rw [hW9, hgl]; exact heap_alloc_new _ _)
        have M9 := Aside0.mk (show Md w W9 g gr ga m' m' act A1 c1' l w7.heap.size w8.heap.size (.slice A6 m'.last.f3.length c6) m'.last.f3 by rw [hW9]; exact M6.out.alloc _)
        rw [← hW9, ← hgl]
        clear hW9 hgl M6
        obtain ⟨q, lr, D, d, D', d', hq, _, hblk, _, hs'⟩ := M9.out.rd.rf
        have SL := Aside0.mk hs'
        have RB := Aside0.mk hblk
        clear hs' hblk
        obtain ⟨r0, r1, r2, r3, r4, _, _, _, _, _, _, _, _⟩ := rf_cells RB.out
        obtain ⟨l0, l1, l2, l3, _, _, _, _⟩ := four G9.out
        have a4 := (blk_cell M9.out.rd.ab 4).trans (show _ = some (.slice A0 l.length c0) by rw [HACT.out]; rfl)
        go_region_held3 (fun w' => w'.cell? ⟨gr, 0, none⟩ = some (.bool q) ∧ w'.cell? ⟨gr, 1, none⟩ = some (.int .i64 m'.last.f0) ∧ w'.cell? ⟨gr, 2, none⟩ = some (.int .i64 m'.last.f1) ∧ w'.cell? ⟨gr, 3, none⟩ = some (.int .i64 m'.last.f2) ∧ w'.cell? ⟨gr, 4, none⟩ = some (.slice D' m'.last.f3.length d') ∧ w'.cell? ⟨gl, 0, none⟩ = some (.int .i64 m'.last.f0) ∧ w'.cell? ⟨gl, 1, none⟩ = some (.int .i64 m'.last.f1) ∧ w'.cell? ⟨gl, 2, none⟩ = some (.int .i64 m'.last.f2) ∧ w'.cell? ⟨gl, 3, none⟩ = some (.slice A6 m'.last.f3.length c6) ∧ w'.cell? ⟨ga, 4, none⟩ = some (.slice A0 l.length c0)) (first | exact ⟨r0, r1, r2, r3, r4, l0, l1, l2, l3, a4⟩ | exact ⟨s0, s1, s2, s3, s4, t0, t1, t2, t3, b4⟩ | go_keep)
          (first
            | (go_at_call 45; ((with_reducible refine (v_pending (m := m') (n := m') (w0 := w) (g := g) (gr := gr) (ga := ga) (act := act) (A := A1) (cc := c1') (l := l) (ok := okR g gr w7.heap.size w8.heap.size) ?p8).mono ?_); (case p8 => exact Md.rd (show Md w _ g gr ga m' m' act A1 c1' l w7.heap.size w8.heap.size (.slice A6 m'.last.f3.length c6) m'.last.f3 by repeat (first | exact M9.out | apply Md.alloc | apply Md.drewN | apply Md.drew))); rintro e w' ⟨rfl, rfl⟩; rw [hq]))
            | (go_at_call 56; ((with_reducible refine (v_same (b := m'.last) ?q4 ?q5 ?q6 SL.out.cap M9.out.len).mono ?_); (case q4 => exact (Md.reads (show Md w _ g gr ga m' m' act A1 c1' l w7.heap.size w8.heap.size (.slice A6 m'.last.f3.length c6) m'.last.f3 by repeat (first | exact M9.out | apply Md.alloc | apply Md.drewN | apply Md.drew))).2); (case q5 => exact M9.out.reads.1); (case q6 => repeat (first | exact SL.out.C | apply Kd.C_drewN | apply Kd.C_drew)); rintro e w10 ⟨rfl, hb⟩)
               have M10 := Aside0.mk ((show Md w _ g gr ga m' m' act A1 c1' l w7.heap.size w8.heap.size (.slice A6 m'.last.f3.length c6) m'.last.f3 by repeat (first | exact M9.out | apply Md.alloc | apply Md.drewN | apply Md.drew)).below hb)
               obtain ⟨s0, s1, s2, s3, s4, _, _, _, _, _, _, _, _⟩ := rf_cells (blk_below (show (World.heap _)[gr]? = some (.cells (rfCells m' q lr (.slice D m'.ask.f3.length d) (.slice D' m'.last.f3.length d')) 99 (0, 0)) by repeat (first | exact RB.out | apply blk_drewN)) hb)
               obtain ⟨t0, t1, t2, t3, _, _, _, _⟩ := four (blk_below (show (World.heap _)[gl]? = some (.cells #[.int .i64 m'.last.f0, .int .i64 m'.last.f1, .int .i64 m'.last.f2, .slice A6 m'.last.f3.length c6] 56 (0, 0)) by repeat (first | exact G9.out | apply blk_drewN)) hb)
               have b4 := (blk_cell M10.out.rd.ab 4).trans (show _ = some (.slice A0 l.length c0) by rw [HACT.out]; rfl)
               clear hb)
            | (go_at_call 38; ((with_reducible refine (v_kept (m := m') (n := m') (w0 := w) (g := g) (gr := gr) (ga := ga) (act := act) (A := A1) (cc := c1') (l := l) (ok := okR g gr w7.heap.size w8.heap.size) ?p9 SE.out SH.out).mono ?_); (case p9 => exact Md.rd (show Md w _ g gr ga m' m' act A1 c1' l w7.heap.size w8.heap.size (.slice A6 m'.last.f3.length c6) m'.last.f3 by repeat (first | exact M10.out | apply Md.alloc | apply Md.drewN | apply Md.drew))); rintro e w11 ⟨rfl, hd⟩; obtain ⟨nk, rfl⟩ := hd.out)))

        all_goals go_wp2_with (go_at_call 39; ((with_reducible refine (v_spoil (m := m') (n := m') (os := m'.last.f3) (w0 := w) (g := g) (gr := gr) (ga := ga) (act := act) (A := A1) (cc := c1') (l := l) (B := w7.heap.size) (C := w8.heap.size) ?p10).mono ?_); (case p10 => repeat (first | exact M10.out | apply Md.alloc | apply Md.drewN | apply Md.drew)); rintro e w12 ⟨rfl, hR⟩; have R12 := Aside0.mk hR; clear hR))
        go_roundg (99 - i)
        case measure => omega
        case rel => exact ⟨i + 1, by omega, by omega, by go_num, ⟨m', R12.out.js⟩⟩
end Go.Proofs.Ytbdlkcgaobkdcaa.P
end

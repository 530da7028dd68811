/- The contracts of package bap as a law takes them: the state lies at g, its options beside it; what holds of every state; conditions as in the contracts. -/
import Derived.Test.YtbdlkcgaobkdcaaSpec
import Derived.Test.YtbdlkcgaobkdcaaTalkL
import Derived.Test.YtbdlkcgaobkdcaaTalkFour
set_option linter.unusedVariables false
set_option linter.unusedSimpArgs false
section
namespace Go.Proofs.Ytbdlkcgaobkdcaa.P
open Go.RowKit Go.Proofs.YtbdlkcgaobkdcaaW.PrintWords Go.Proofs.YtbdlkcgaobkdcaaW.PrintLast

theorem bap_fits {c i a : Int} {os : List S46} (h : (bapS c i a os).2 = 0) : mayB c i = true ∧ (putS os).2 = 0 := by
  unfold bapS at h
  by_cases c1 : mayB c i = false ∨ a < 0 ∨ 255 < a ∨ ((c % 2 == 0) = false ∧ a ≠ 0) ∨ (putS os).2 ≠ 0
  · rw [if_pos c1] at h; simp at h
  · constructor
    · cases hm : mayB c i with
      | true => rfl
      | false => exact absurd (.inl hm) c1
    · exact Classical.byContradiction fun hh => c1 (.inr (.inr (.inr (.inr hh))))
theorem bap_len {c i a : Int} {os : List S46} (h : (bapS c i a os).2 = 0) : os.length ≤ 2048 := by
  have h2 := (bap_fits h).2
  have h3 := (get_put os (putS os).1 (by rw [← h2])).1
  have := getS_len (putS os).1
  rw [h3] at this
  exact this
theorem bap_code {c i a : Int} {os : List S46} (h : (bapS c i a os).2 = 0) : 1 ≤ c ∧ c ≤ 8 ∧ 0 ≤ i ∧ i ≤ 255 := by
  have h1 := (bap_fits h).1
  unfold mayB at h1
  simp only [Bool.and_eq_true, decide_eq_true_eq] at h1
  exact ⟨h1.1, h1.2.1, h1.2.2.1, h1.2.2.2⟩
theorem new_Ok (f : Bool) (t : Int) (h1 : 1 ≤ t) (h2 : t ≤ 10) : (newS f t).Ok := ⟨Int.le_refl _, by simp [newS]; omega, h1, h2, Int.le_refl _, by simp [newS], by simp [newS, bp0], by simp [newS, bp0], by simp [newS, bp0], by simp [newS, bp0]⟩
theorem ask_Ok {m : Tk} (hm : m.Ok) (code : Int) (os : List S46) : (askS m code os).1.Ok := by
  unfold askS
  by_cases h1 : (reqB code = false ∧ code ≠ 7) ∨ (bapS code (nextId m.id) 0 os).2 ≠ 0
  · rw [if_pos h1]; exact hm
  · rw [if_neg h1]
    by_cases h2 : 0 < m.left
    · rw [if_pos h2]; exact hm
    · rw [if_neg h2]
      have h3 : (bapS code (nextId m.id) 0 os).2 = 0 := Classical.byContradiction fun hh => h1 (.inr hh)
      have h4 := bap_code h3
      exact ⟨by have := hm.tries0; simp only; omega, Int.le_refl _, hm.tries0, hm.tries1, h4.2.2.1, h4.2.2.2, by simp only; omega, by simp only; omega, bap_len h3, hm.lastLen⟩
theorem again_Ok {m : Tk} (hm : m.Ok) : (againS m).1.Ok := by
  unfold againS
  have h0 := hm.left0
  have h1 := hm.left1
  have h2 := hm.tries0
  by_cases c0 : m.left = 0
  · rw [if_pos c0]; exact hm
  · rw [if_neg c0]
    by_cases c1 : m.left = 1
    · rw [if_pos c1]; exact ⟨Int.le_refl _, by simp only; omega, hm.tries0, hm.tries1, hm.id0, hm.id1, hm.code0, hm.code1, hm.askLen, hm.lastLen⟩
    · rw [if_neg c1]; exact ⟨by simp only; omega, by simp only; omega, hm.tries0, hm.tries1, hm.id0, hm.id1, hm.code0, hm.code1, hm.askLen, hm.lastLen⟩
theorem left_Ok {m : Tk} (hm : m.Ok) : ({ m with left := 0 } : Tk).Ok := ⟨Int.le_refl _, by have := hm.left0; have := hm.left1; simp only; omega, hm.tries0, hm.tries1, hm.id0, hm.id1, hm.code0, hm.code1, hm.askLen, hm.lastLen⟩
theorem take_Ok {m : Tk} (hm : m.Ok) (b : S56) (yes : Bool) : (takeS m b yes).1.Ok := by
  unfold takeS requestS
  by_cases h1 : (bapS b.f0 b.f1 b.f2 b.f3).2 ≠ 0
  · rw [if_pos h1]; exact hm
  · rw [if_neg h1]
    have h3 : (bapS b.f0 b.f1 b.f2 b.f3).2 = 0 := Classical.byContradiction h1
    by_cases h4 : reqB b.f0 = true
    · rw [if_pos h4]
      by_cases h5 : 0 < m.left ∧ reqB m.ask.f0 = true
      · rw [if_pos h5]
        by_cases h6 : crossB m.fav m.ask.f0 b.f0 = true
        · rw [if_pos h6]; exact hm
        · rw [if_neg h6]; exact left_Ok hm
      · rw [if_neg h5]; exact hm
    · rw [if_neg h4]
      by_cases h5 : b.f0 = 7
      · rw [if_pos h5]; exact hm
      · rw [if_neg h5]
        by_cases h6 : 0 < m.left ∧ b.f0 = m.ask.f0 + 1 ∧ b.f1 = m.ask.f1
        · rw [if_pos h6]
          exact ⟨Int.le_refl _, by have := hm.left0; have := hm.left1; simp only; omega, hm.tries0, hm.tries1, hm.id0, hm.id1, hm.code0, hm.code1, hm.askLen, bap_len h3⟩
        · rw [if_neg h6]; exact hm
end Go.Proofs.Ytbdlkcgaobkdcaa.P
end
section
namespace Go.Proofs.Ytbdlkcgaobkdcaa.P
open Go.RowKit Go.Proofs.YtbdlkcgaobkdcaaW.PrintWords Go.Proofs.YtbdlkcgaobkdcaaW.PrintLast

/-- The state at g, in a world; X: the blocks of all states. -/
structure TkIn (X : Nat → Prop) (w : World) (g : Nat) (m : Tk) : Prop where
  lies : TkAt w g (fun k => ¬ X k) m
  fine : m.Ok
  own : X g
  old : ∀ k, X k → k < w.heap.size
theorem TkIn.below {X : Nat → Prop} {w w' : World} {g : Nat} {m : Tk} (h : TkIn X w g m) (hb : Below w.heap.size w w') : TkIn X w' g m := ⟨h.lies.below hb, h.fine, h.own, fun k hk => Nat.lt_of_lt_of_le (h.old k hk) hb.size⟩
theorem TkIn.alloc {X : Nat → Prop} {w : World} {g : Nat} {m : Tk} (h : TkIn X w g m) (o : Obj) : TkIn X (w.alloc o) g m := h.below (below_alloc (Below.refl _ _) o)
theorem TkIn.drewN {X : Nat → Prop} {w : World} {g : Nat} {m : Tk} (h : TkIn X w g m) (n : Nat) : TkIn X (w.drewN n) g m := h.below (pw_below_drewN (Below.refl _ _) n)
theorem TkIn.drew {X : Nat → Prop} {w : World} {g : Nat} {m : Tk} (h : TkIn X w g m) : TkIn X w.drew g m := h.below (below_drew (Below.refl _ _))
theorem TkIn.lt {X : Nat → Prop} {w : World} {g : Nat} {m : Tk} (h : TkIn X w g m) : g < w.heap.size := h.lies.lt
theorem TkIn.ne {X : Nat → Prop} {w : World} {g : Nat} {m : Tk} (h : TkIn X w g m) (k : Nat) (hk : ¬ X k) : k ≠ g := fun e => hk (e ▸ h.own)
/-- Another side's call leaves it as it is. -/
theorem TkIn.other {X : Nat → Prop} {w w' : World} {g g' : Nat} {m : Tk} (h : TkIn X w g m) (hU : Upd w w' g') (hne : g ≠ g') (hX : X g') : TkIn X w' g m :=
  ⟨h.lies.step (hU.block g h.lt hne) (fun k ho hk => hU.block k hk (fun e => ho (e ▸ hX))), h.fine, h.own, fun k hk => Nat.lt_of_lt_of_le (h.old k hk) hU.size⟩
theorem sees_below {w w' : World} {ok : Nat → Prop} {A : Option Addr} {c : Nat} {l : List S46} (h : Sees w ok A c l) (hb : Below w.heap.size w w') : Sees w' ok A c l := h.step (fun k _ hk => hb.block k hk)
theorem sees_upd {X : Nat → Prop} {w w' : World} {g : Nat} {A : Option Addr} {c : Nat} {l : List S46} (h : Sees w (fun k => ¬ X k) A c l) (hU : Upd w w' g) (hg : X g) : Sees w' (fun k => ¬ X k) A c l := h.step (fun k ho hk => hU.block k hk (fun e => ho (e ▸ hg)))
/-- One datagram in a block of its own, read as a row. -/
theorem row_one {w : World} {gs : Nat} {b : S56} {A : Option Addr} {c : Nat} (h : w.heap[gs]? = some (.cells #[.int .i64 b.f0, .int .i64 b.f1, .int .i64 b.f2, .slice A b.f3.length c] 56 (0, 0))) (hc : b.f3.length ≤ c) (hr : Kd.C k46 w A b.f3.length b.f3) :
    Kd.C k56 w (some ⟨gs, 0, none⟩) 1 [b] := by
  refine ⟨rfl, by omega, fun _ => ⟨_, rfl, fun j p hj => ?_⟩⟩
  have hj0 : j = 0 := by
    have := (List.getElem?_eq_some_iff.1 hj).1
    simp at this
    omega
  subst hj0
  obtain rfl : b = p := by simpa using hj
  refine ⟨_, rfl, k56_mk w b hc hr, fun i u hu => ?_⟩
  have := blk_cell h i
  rw [show (⟨gs, 0, none⟩ : Addr).add (0 * k56.sz + i) = ⟨gs, i, none⟩ by simp [Addr.add]; intro hi; exact hi.symm]
  rw [this]
  simpa using hu

/-- A row of datagrams that is read, in blocks of ok. -/
structure SeesB (w : World) (ok : Nat → Prop) (A : Option Addr) (c : Nat) (l : List S56) : Prop where
  cap : l.length ≤ c
  row : Kd.F k56 w ok A l.length l
theorem SeesB.C {w : World} {ok : Nat → Prop} {A : Option Addr} {c : Nat} {l : List S56} (h : SeesB w ok A c l) : Kd.C k56 w A l.length l := Kd.F_now h.row
theorem SeesB.step {w w' : World} {ok : Nat → Prop} {A : Option Addr} {c : Nat} {l : List S56} (h : SeesB w ok A c l) (hm : ∀ k, ok k → k < w.heap.size → w'.heap[k]? = w.heap[k]?) : SeesB w' ok A c l := ⟨h.cap, Kd.F_step h.row hm⟩
theorem seesB_below {w w' : World} {ok : Nat → Prop} {A : Option Addr} {c : Nat} {l : List S56} (h : SeesB w ok A c l) (hb : Below w.heap.size w w') : SeesB w' ok A c l := h.step (fun k _ hk => hb.block k hk)
theorem seesB_alloc {w : World} {ok : Nat → Prop} {A : Option Addr} {c : Nat} {l : List S56} (h : SeesB w ok A c l) (o : Obj) : SeesB (w.alloc o) ok A c l := seesB_below h (below_alloc (Below.refl _ _) o)
theorem seesB_drewN {w : World} {ok : Nat → Prop} {A : Option Addr} {c : Nat} {l : List S56} (h : SeesB w ok A c l) (n : Nat) : SeesB (w.drewN n) ok A c l := seesB_below h (pw_below_drewN (Below.refl _ _) n)
theorem seesB_upd {X : Nat → Prop} {w w' : World} {g : Nat} {A : Option Addr} {c : Nat} {l : List S56} (h : SeesB w (fun k => ¬ X k) A c l) (hU : Upd w w' g) (hg : X g) : SeesB w' (fun k => ¬ X k) A c l := h.step (fun k ho hk => hU.block k hk (fun e => ho (e ▸ hg)))
theorem row_oneF {w : World} {ok : Nat → Prop} {gs : Nat} {b : S56} {A : Option Addr} {c : Nat} (h : w.heap[gs]? = some (.cells #[.int .i64 b.f0, .int .i64 b.f1, .int .i64 b.f2, .slice A b.f3.length c] 56 (0, 0))) (hgs : ok gs) (hs : Sees w ok A c b.f3) : SeesB w ok (some ⟨gs, 0, none⟩) 1 [b] :=
  ⟨Nat.le_refl _, fun W' hW => row_one ((hW gs hgs (blk_lt h)).trans h) hs.cap (hs.row W' hW)⟩
/-- What Ask and Again leave, as a law reads it. -/
def BapIn (X : Nat → Prop) (w : World) (g : Nat) (m : Tk) (b : S56) (er : Int) (e : Ending) (w' : World) : Prop := ∃ (A : Option Addr) (c : Nat), e = .returned (.tuple #[.agg #[.int .i64 b.f0, .int .i64 b.f1, .int .i64 b.f2, .slice A b.f3.length c], .int .i64 er]) ∧
  Sees w' (fun k => ¬ X k) A c b.f3 ∧ TkIn X w' g m ∧ Upd w w' g
theorem MadeBap.in_ {X : Nat → Prop} {w : World} {g : Nat} {m : Tk} {b : S56} {er : Int} {e : Ending} {w' : World} (hx : X g) (hX : ∀ k, X k → k < w.heap.size) (hm : m.Ok) (h : MadeBap w g (fun k => ¬ X k) m b er e w') : BapIn X w g m b er e w' := by
  obtain ⟨A, cc, B, rfl, hB, hR, hT, hU⟩ := h
  exact ⟨A, cc, rfl, (Sees.of_R hR).mono (fun k hk hx => by have := hX k hx; omega), ⟨hT.mono (fun k hk hx => by have := hX k hx; rcases hk with hk | hk; exact hk hx; omega), hm, hx, fun k hk => Nat.lt_of_lt_of_le (hX k hk) hU.size⟩, hU⟩
theorem ask_in {X : Nat → Prop} {g : Nat} {m : Tk} {code : Int} {B : Option Addr} {d : Nat} {os : List S46} {w : World} {m' : Tk} {b : S56} {er : Int} (h : TkIn X w g m) (ho : Kd.C k46 w B os.length os) (hn : os.length < 5864062014805) (e : askS m code os = (m', b, er)) :
    Calls Try.prog 43 #[.pointer (some ⟨g, 0, none⟩), .int .i64 code, .slice B os.length d] w (BapIn X w g m' b er) := by
  have h1 := ask_calls g _ m code B d os w h.lies h.ne h.fine ho hn
  have h2 := ask_Ok h.fine code os
  rw [e] at h1 h2
  exact h1.mono fun _ _ hh => hh.in_ h.own h.old h2
theorem ask_inN {X : Nat → Prop} {g : Nat} {m : Tk} {code : Int} {B : Option Addr} {d n : Nat} {os : List S46} {w : World} {m' : Tk} {b : S56} {er : Int} (h : TkIn X w g m) (ho : Kd.C k46 w B os.length os) (hn : os.length < 5864062014805) (e : askS m code os = (m', b, er)) (hl : n = os.length) :
    Calls Try.prog 43 #[.pointer (some ⟨g, 0, none⟩), .int .i64 code, .slice B n d] w (BapIn X w g m' b er) := by
  rw [hl]
  exact ask_in h ho hn e
theorem again_in {X : Nat → Prop} {g : Nat} {m : Tk} {w : World} {m' : Tk} {b : S56} {er : Int} (h : TkIn X w g m) (e : againS m = (m', b, er)) : Calls Try.prog 44 #[.pointer (some ⟨g, 0, none⟩)] w (BapIn X w g m' b er) := by
  have h1 := again_calls g _ m w h.lies h.ne h.fine.left0 (Int.le_trans h.fine.left1 h.fine.tries1) (by have := h.fine.askLen; omega)
  have h2 := again_Ok h.fine
  rw [e] at h1 h2
  exact h1.mono fun _ _ hh => hh.in_ h.own h.old h2
/-- What Take leaves, as a law reads it. -/
def BapsIn (X : Nat → Prop) (w : World) (g : Nat) (m : Tk) (l : List S56) (er : Int) (e : Ending) (w' : World) : Prop := ∃ (A : Option Addr) (c : Nat), e = .returned (.tuple #[.slice A l.length c, .int .i64 er]) ∧ SeesB w' (fun k => ¬ X k) A c l ∧ TkIn X w' g m ∧ Upd w w' g
theorem take_in {X : Nat → Prop} {g : Nat} {m : Tk} {b : S56} {B : Option Addr} {d : Nat} {yes : Bool} {w : World} {m' : Tk} {l : List S56} {er : Int} (h : TkIn X w g m) (ho : Sees w (fun k => ¬ X k) B d b.f3) (hn : b.f3.length < 5864062014805) (e : takeS m b yes = (m', l, er)) :
    Calls Try.prog 46 #[.pointer (some ⟨g, 0, none⟩), .agg #[.int .i64 b.f0, .int .i64 b.f1, .int .i64 b.f2, .slice B b.f3.length d], .bool yes] w (BapsIn X w g m' l er) := by
  have h1 := take_calls g _ _ m b.f0 b.f1 b.f2 B d b.f3 w h.lies h.ne ho h.ne hn yes h.fine
  have h2 := take_Ok h.fine b yes
  rw [show (⟨b.f0, b.f1, b.f2, b.f3⟩ : S56) = b from rfl] at h1
  rw [e] at h1 h2
  refine h1.mono fun e w' ⟨v, B', he, hB, hv, hT, hU⟩ => ?_
  have hT' : TkIn X w' g m' := ⟨hT.mono (fun k hk hx => by have := h.old k hx; rcases hk with hk | hk; exact hk hx; omega), h2, h.own, fun k hk => Nat.lt_of_lt_of_le (h.old k hk) hU.size⟩
  rcases hv with ⟨hl, hv⟩ | ⟨b', gs, A, c, hl, hv, hb, hge, hR⟩
  · subst hv
    have hl' : l = [] := hl
    subst hl'
    exact ⟨none, 0, he, ⟨Nat.le_refl _, Kd.F_nil _ _ _⟩, hT', hU⟩
  · subst hv
    have hl' : l = [b'] := hl
    subst hl'
    exact ⟨_, 1, he, row_oneF hb (fun hx => by have := h.old gs hx; omega) ((Sees.of_R hR).mono (fun k hk hx => by have := h.old k hx; omega)), hT', hU⟩
theorem take_inN {X : Nat → Prop} {g : Nat} {m : Tk} {c i a : Int} {os : List S46} {B : Option Addr} {n d : Nat} {yes : Bool} {w : World} {m' : Tk} {l : List S56} {er : Int} (h : TkIn X w g m) (ho : Sees w (fun k => ¬ X k) B d os) (hn : os.length < 5864062014805) (e : takeS m ⟨c, i, a, os⟩ yes = (m', l, er)) (hl : n = os.length) :
    Calls Try.prog 46 #[.pointer (some ⟨g, 0, none⟩), .agg #[.int .i64 c, .int .i64 i, .int .i64 a, .slice B n d], .bool yes] w (BapsIn X w g m' l er) := by
  rw [hl]
  exact take_in (b := ⟨c, i, a, os⟩) h ho hn e
theorem pending_in {X : Nat → Prop} {g : Nat} {m : Tk} {w : World} {q : Bool} (h : TkIn X w g m) (hq : decide (0 < m.left) = q) : Calls Try.prog 45 #[.pointer (some ⟨g, 0, none⟩)] w fun e w' => e = .returned (.bool q) ∧ w = w' := by
  rw [← hq]
  exact pending_calls g _ m w h.lies
/-- What Last leaves, as a law reads it. -/
def LastIn (w : World) (b : S56) (e : Ending) (w' : World) : Prop := ∃ (A : Option Addr) (c : Nat), e = .returned (.agg #[.int .i64 b.f0, .int .i64 b.f1, .int .i64 b.f2, .slice A b.f3.length c]) ∧ b.f3.length ≤ c ∧ Kd.C k46 w' A b.f3.length b.f3 ∧ Below w.heap.size w w'
theorem last_in {X : Nat → Prop} {g : Nat} {m : Tk} {w : World} (h : TkIn X w g m) : Calls Try.prog 63 #[.pointer (some ⟨g, 0, none⟩)] w (LastIn w m.last) := by
  refine (last_calls g _ m w h.lies (by have := h.fine.lastLen; omega)).mono fun e w' ⟨A, c, he, hR, hb⟩ => ?_
  obtain ⟨_, h4, h5⟩ := Kd.R_reads' hR
  exact ⟨A, c, he, h4, h5, hb⟩
/-- What New leaves, as a law reads it. -/
def NewIn (w : World) (m : Tk) (e : Ending) (w' : World) : Prop := ∃ g : Nat, e = .returned (.tuple #[.pointer (some ⟨g, 0, none⟩), .int .i64 0]) ∧ w.heap.size ≤ g ∧ g < w'.heap.size ∧ (∀ X : Nat → Prop, X g → (∀ k, X k → k < w'.heap.size) → TkIn X w' g m) ∧ Below w.heap.size w w'
theorem new_in (f : Bool) (t : Int) (w : World) (h1 : 1 ≤ t) (h2 : t ≤ 10) : Calls Try.prog 42 #[.bool f, .int .i64 t] w (NewIn w (newS f t)) :=
  (new_calls f t w h1 h2).mono fun e w' ⟨g, he, hg, hT, hb⟩ => ⟨g, he, hg, hT.lt, fun X hx hX => ⟨hT.mono (fun _ hk => hk.elim), new_Ok f t h1 h2, hx, hX⟩, hb⟩
/-! What the calls come to. -/
theorem bap_fine {c i a : Int} {os : List S46} (hm : mayB c i = true) (h0 : 0 ≤ a) (h1 : a ≤ 255) (hr : (c % 2 == 0) = false → a = 0) (hp : (putS os).2 = 0) (hs : (putS os).1.size ≤ 2043) : (bapS c i a os).2 = 0 := by
  unfold bapS
  rw [if_neg (by rintro (h | h | h | ⟨h, h'⟩ | h); rw [hm] at h; cases h; omega; omega; exact h' (hr h); exact h hp)]
  cases hc : (c % 2 == 0) with
  | true => rw [if_pos rfl, if_neg (by omega)]
  | false => rw [if_neg (by decide), if_neg (by omega)]
theorem may_of {c i : Int} (h0 : 1 ≤ c) (h1 : c ≤ 8) (h2 : 0 ≤ i) (h3 : i ≤ 255) : mayB c i = true := by
  unfold mayB
  simp [h0, h1, h2, h3]
theorem ask_go {m : Tk} {code : Int} {os : List S46} (h1 : reqB code = true ∨ code = 7) (h2 : (bapS code (nextId m.id) 0 os).2 = 0) (h3 : m.left = 0) :
    askS m code os = ({ m with id := nextId m.id, ask := ⟨code, nextId m.id, 0, os⟩, left := m.tries }, ⟨code, nextId m.id, 0, os⟩, 0) := by
  unfold askS
  rw [if_neg (by rintro (⟨h, h'⟩ | h); rcases h1 with h1 | h1; rw [h1] at h; cases h; exact h' h1; exact h h2), if_neg (by omega)]
theorem ask_wait {m : Tk} {code : Int} {os : List S46} (h1 : reqB code = true ∨ code = 7) (h2 : (bapS code (nextId m.id) 0 os).2 = 0) (h3 : 0 < m.left) : askS m code os = (m, bp0, 2201) := by
  unfold askS
  rw [if_neg (by rintro (⟨h, h'⟩ | h); rcases h1 with h1 | h1; rw [h1] at h; cases h; exact h' h1; exact h h2), if_pos h3]
theorem take_req {m : Tk} {b : S56} {yes : Bool} (h : (bapS b.f0 b.f1 b.f2 b.f3).2 = 0) (h1 : reqB b.f0 = true) : takeS m b yes = ((requestS m b yes).1, [(requestS m b yes).2], 0) := by
  unfold takeS
  rw [if_neg (fun h' => h' h), if_pos h1]
theorem take_stat {m : Tk} {b : S56} {yes : Bool} (h : (bapS b.f0 b.f1 b.f2 b.f3).2 = 0) (h1 : b.f0 = 7) : takeS m b yes = (m, [⟨8, b.f1, 0, []⟩], 0) := by
  unfold takeS
  rw [if_neg (fun h' => h' h), if_neg (by rw [h1]; decide), if_pos h1]
theorem take_mine {m : Tk} {b : S56} {yes : Bool} (h : (bapS b.f0 b.f1 b.f2 b.f3).2 = 0) (h1 : reqB b.f0 = false) (h7 : b.f0 ≠ 7) (hl : 0 < m.left) (hc : b.f0 = m.ask.f0 + 1) (hi : b.f1 = m.ask.f1) : takeS m b yes = ({ m with left := 0, last := b }, [], 0) := by
  unfold takeS
  rw [if_neg (fun h' => h' h), if_neg (by rw [h1]; decide), if_neg h7, if_pos ⟨hl, hc, hi⟩]
theorem take_other {m : Tk} {b : S56} {yes : Bool} (h : (bapS b.f0 b.f1 b.f2 b.f3).2 = 0) (h1 : reqB b.f0 = false) (h7 : b.f0 ≠ 7) (ho : ¬ (0 < m.left ∧ b.f0 = m.ask.f0 + 1 ∧ b.f1 = m.ask.f1)) : takeS m b yes = (m, [], 0) := by
  unfold takeS
  rw [if_neg (fun h' => h' h), if_neg (by rw [h1]; decide), if_neg h7, if_neg ho]
end Go.Proofs.Ytbdlkcgaobkdcaa.P
end

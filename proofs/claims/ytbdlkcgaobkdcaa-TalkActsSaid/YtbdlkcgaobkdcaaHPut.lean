/- What opts.Put does with a row of options: the bytes of each, one behind the other, or the document's error; no condition beyond a row that can be read. -/
import Derived.Test.YtbdlkcgaobkdcaaHFind
import Derived.Test.YtbdlkcgaobkdcaaBuilder
import Derived.Outline
set_option linter.unusedVariables false
set_option linter.unusedSimpArgs false
namespace Go.Proofs.Ytbdlkcgaobkdcaa.P
open Go.RowKit Go.Proofs.YtbdlkcgaobkdcaaW.PrintWords Go.Proofs.YtbdlkcgaobkdcaaW.PrintLast Go.Proofs.YtbdlkcgaobkdcaaW.PrintMore

/-- No byte. -/
def badKind (o : S46) : Bool := decide (o.f0 < 0) || decide (255 < o.f0)
def optBytes (o : S46) : List UInt8 := [UInt8.ofNat o.f0.toNat, UInt8.ofNat (o.f1.size + 2)] ++ o.f1.data.toList
def putL : List UInt8 → List S46 → Option (List UInt8)
  | acc, [] => some acc
  | acc, o :: os => if 253 < o.f1.size ∨ 2048 < acc.length + 2 + o.f1.size then none else putL (acc ++ optBytes o) os
def putS (l0 : List S46) : ByteArray × Int := if l0.any badKind = true then (⟨#[]⟩, 400) else match putL [] l0 with
  | none => (⟨#[]⟩, 401)
  | some bs => (⟨bs.toArray⟩, 0)
def opts_Put.f (l0 : List S46) : Option (ByteArray × Int) := some (putS l0)

theorem firstAt_any (p : S46 → Bool) (l : List S46) : decide (0 ≤ firstAt p l) = l.any p := by
  unfold firstAt
  by_cases h : l.findIdx p < l.length
  · rw [if_pos h]
    have : ∃ x ∈ l, p x = true := List.findIdx_lt_length.1 h
    have h2 : l.any p = true := List.any_eq_true.2 this
    rw [h2]
    simp
  · rw [if_neg h]
    have : ¬ ∃ x ∈ l, p x = true := fun hh => h (List.findIdx_lt_length.2 hh)
    have h2 : l.any p = false := by
      rw [Bool.eq_false_iff]
      intro hh
      exact this (List.any_eq_true.1 hh)
    rw [h2]
    rfl
theorem put_test (w : World) (x : S46) :
    Calls Try.prog 73 (#[.agg #[.int .i64 x.f0, .string x.f1]] ++ #[]) w fun e w' => e = .returned (.bool (badKind x)) ∧ Below w.heap.size w w' := by
  have hu46 := Try.underlying46
  show Calls Try.prog 73 #[.agg #[.int .i64 x.f0, .string x.f1]] w _
  unfold badKind
  by_cases h1 : x.f0 < 0
  · have h1b : decide (x.f0 < 0) = true := decide_eq_true h1
    go_enter Try.func73, Try.ntmps73
    go_wp2
    go_ret
    exact ⟨by simp [h1], (Below.refl _ _).alloc (Nat.le_refl _) _⟩
  · have h1b : decide (x.f0 < 0) = false := decide_eq_false h1
    go_enter Try.func73, Try.ntmps73
    go_wp2
    go_ret
    exact ⟨by simp [h1b], (Below.refl _ _).alloc (Nat.le_refl _) _⟩

theorem isBuilder_below {B b : Nat} {bs : List Value} {w w1 : World} (h : Lib.IsBuilder 111 5 B b bs w) (hb : Below w.heap.size w w1) : Lib.IsBuilder 111 5 B b bs w1 := by
  have one : ∀ p, Lib.BuilderAt 111 5 B b p bs w → Lib.BuilderAt 111 5 B b p bs w1 := by
    intro p hp
    have hlt := hp.lt
    obtain ⟨hB, v, hbk, hown, hne⟩ := hp
    exact ⟨hB, v, (hb.block b hlt).trans hbk, pw_own_below hown hb, hne⟩
  rcases h with h | h
  · exact .inl (one _ h)
  · exact .inr (one _ h)

/-- A builder in block b that holds bs; while it is empty it was never written. -/
def BuiltAt (b : Nat) (bs : List UInt8) (w : World) : Prop :=
  (bs = [] ∧ w.heap[b]? = some (.cells #[.pointer none, .slice none 0 0] 111 (0, 0))) ∨ (bs ≠ [] ∧ Lib.IsBuilder 111 5 b b (Lib.byteCells bs) w)
theorem BuiltAt.is {b : Nat} {bs : List UInt8} {w : World} (h : BuiltAt b bs w) : Lib.IsBuilder 111 5 b b (Lib.byteCells bs) w := by
  rcases h with ⟨rfl, h⟩ | ⟨_, h⟩
  · exact .inl ⟨Nat.le_refl _, .slice none 0 0, h, World.ownsRow_nil _ _ _ _, by simp [Value.ownBlock]⟩
  · exact h
theorem strOf_two (a c : Int) : (strOfNums [a, c]).data.toList = [UInt8.ofNat a.toNat, UInt8.ofNat c.toNat] := by simp [strOfNums]
theorem cells_opt (o : S46) : Lib.strCells (strOfNums [o.f0, 2 + (o.f1.size : Int)] ++ o.f1) = Lib.byteCells (optBytes o) := by
  rw [Lib.strCells_eq, ByteArray.data_append, Array.toList_append, strOf_two]
  unfold optBytes
  rw [show ((2 : Int) + (o.f1.size : Int)).toNat = o.f1.size + 2 by omega]
theorem optBytes_length (o : S46) : (optBytes o).length = 2 + o.f1.size := by
  unfold optBytes
  rw [List.length_append]
  rfl

set_option maxHeartbeats 4000000 in
set_option maxRecDepth 100000 in
theorem opts_Put.calls (A0 : Option Addr) (c0 : Nat) (l0 : List (S46)) (r1 : ByteArray) (r2 : Int) (w : World) (hr0 : Kd.C k46 w A0 l0.length l0) (hc0 : l0.length ≤ c0) (h : opts_Put.f l0 = some (r1, r2)) :
    Calls Try.prog 32 #[.slice A0 l0.length c0] w fun e w' => e = .returned (.tuple #[.string r1, .int .i64 r2]) ∧ Below w.heap.size w w' := by
  have hu46 := Try.underlying46
  have hu111 := Try.underlying111
  have H := Aside0.mk (Option.some.inj h)
  clear h
  have eg : ∀ args w, (callFunc 73 args).run Try.prog w = .ok (.enter 73 args) w := enters_of Try.func73 (by kernel_rfl) rfl
  have hcon := containsFunc_any badKind 73 #[] eg A0 c0 l0 w hr0 (fun W x hb => (put_test W x).mono fun e w' ⟨he, hb'⟩ => ⟨he, below_then hb hb.size hb'⟩)
  rw [firstAt_any] at hcon
  have hbig : l0.length ≤ 9223372036854775807 := hr0.2.1
  have HR := Aside0.mk hr0
  have HC := Aside0.mk hc0
  clear eg hr0 hc0
  cases hbad : l0.any badKind with
  | true =>
    rw [hbad] at hcon
    have HBAD := Aside0.mk hbad
    clear hbad
    go_enter Try.func32, Try.ntmps32
    go_wp2_with (go_at_call 72; refine hcon.mono ?_; rintro e w' ⟨rfl, hb'⟩)
    go_ret2
    have e := H.out
    unfold putS at e
    rw [if_pos HBAD.out, Prod.mk.injEq] at e
    obtain ⟨rfl, rfl⟩ := e
    exact ⟨rfl, hb'⟩
  | false =>
    rw [hbad] at hcon
    have HBAD := Aside0.mk hbad
    clear hbad
    go_enter Try.func32, Try.ntmps32
    go_wp2_with (go_at_call 72; refine hcon.mono ?_; rintro e w' ⟨rfl, hb'⟩)
    have HB := Aside0.mk (below_alloc hb' (.cells #[.pointer none, .slice none 0 0] 111))
    have HBUILT := Aside0.mk (show BuiltAt w'.heap.size [] (w'.alloc (.cells #[.pointer none, .slice none 0 0] 111)) from .inl ⟨rfl, heap_alloc_new w' _⟩)
    have HLT := Aside0.mk (show w'.heap.size < (w'.alloc (.cells #[.pointer none, .slice none 0 0] 111)).heap.size by simp)
    have HWB := Aside0.mk (show w.heap.size ≤ w'.heap.size from hb'.size)
    clear hb' hcon
    obtain ⟨b, hbe⟩ : ∃ b, b = w'.heap.size := ⟨_, rfl⟩
    rw [← hbe] at HBUILT HLT HWB ⊢
    obtain ⟨w1, hw1⟩ : ∃ w1, w1 = w'.alloc (.cells #[.pointer none, .slice none 0 0] 111) := ⟨_, rfl⟩
    rw [← hw1] at HBUILT HLT HB ⊢
    clear hw1 hbe
    go_loopg [11] l0.length (fun gg s11 wr => ∃ (kk : Nat) (bs : List UInt8), kk ≤ l0.length ∧ l0.length - kk ≤ gg ∧ s11 = .int .i64 kk ∧ Aside0 (putL [] l0 = putL bs (l0.drop kk)) ∧ bs.length ≤ 2048 ∧ Aside0 (BuiltAt b bs wr) ∧ Aside0 (Below w.heap.size w wr) ∧ Aside0 (b < wr.heap.size))
    case atStart => exact ⟨0, [], Nat.zero_le _, by omega, rfl, ⟨rfl⟩, by simp, HBUILT, HB, HLT⟩
    case round =>
      clear HBUILT HB HLT
      obtain ⟨kk, bs, hkk, hg, rfl, HP, hbs, HBL, HBE, HBLT⟩ := hrel
      by_cases hlt : kk < l0.length
      · have hltz : (kk : Int) < (l0.length : Int) := by omega
        obtain ⟨ad, e, hx0, hx1⟩ := at_T46 (Kd.C_below HR.out HBE.out) (kk : Int) (by omega) hltz
        rw [rd_get l0 kk hlt] at hx0 hx1
        cases e
        rw [Int.toNat_natCast] at hx0 hx1
        have hdrop := Aside0.mk (List.drop_eq_getElem_cons hlt)
        have hgood := Aside0.mk (List.any_eq_false.1 HBAD.out l0[kk] (List.getElem_mem hlt))
        generalize hy : l0[kk] = o at hx0 hx1 hdrop hgood
        have HY := Aside0.mk hy
        clear hy
        by_cases c1 : 253 < o.f1.size
        · have c1i : (253 : Int) < (o.f1.size : Int) := by omega
          have c1b : decide ((253 : Int) < (o.f1.size : Int)) = true := decide_eq_true c1i
          go_wp2
          go_quiet (fail)
          go_wp2
          go_ret2
          have e := H.out
          unfold putS at e
          rw [if_neg (by rw [HBAD.out]; decide), HP.out, hdrop.out, putL, if_pos (.inl c1), Prod.mk.injEq] at e
          obtain ⟨rfl, rfl⟩ := e
          exact ⟨rfl, by repeat (first | exact HBE.out | apply below_alloc | apply pw_below_drewN)⟩
        · have c1i : ¬ (253 : Int) < (o.f1.size : Int) := by omega
          have c1b : decide ((253 : Int) < (o.f1.size : Int)) = false := decide_eq_false c1i
          have hwp : IntKind.i64.wrap ((bs.length : Int) + 2) = (bs.length : Int) + 2 := by rw [IntKind.wrap_i64]; omega
          have hwq : IntKind.i64.wrap ((bs.length : Int) + 2 + (o.f1.size : Int)) = (bs.length : Int) + 2 + (o.f1.size : Int) := by rw [IntKind.wrap_i64]; omega
          have hlen : ∀ W, Below wr.heap.size wr W → Calls Try.prog 74 #[.pointer (some ⟨b, 0, none⟩)] W fun e w' => e = .returned (.int .i64 bs.length) ∧ w' = W := fun W hW => by
            have := builder_len b b (Lib.byteCells bs) W (isBuilder_below HBL.out.is hW)
            rwa [Lib.byteCells_length] at this
          have HLEN := Aside0.mk hlen
          clear hlen
          by_cases c2 : 2048 < bs.length + 2 + o.f1.size
          · have c2i : (2048 : Int) < (bs.length : Int) + 2 + (o.f1.size : Int) := by omega
            have c2b : decide ((2048 : Int) < (bs.length : Int) + 2 + (o.f1.size : Int)) = true := decide_eq_true c2i
            go_wp2
            go_quiet ((go_at_call 74; exact Calls.quiet_of_same (HLEN.out _ (by repeat (first | exact Below.refl _ _ | apply below_alloc | apply pw_below_drewN)))))
            go_wp2
            go_ret2
            have e := H.out
            unfold putS at e
            rw [if_neg (by rw [HBAD.out]; decide), HP.out, hdrop.out, putL, if_pos (.inr c2), Prod.mk.injEq] at e
            obtain ⟨rfl, rfl⟩ := e
            exact ⟨rfl, by repeat (first | exact HBE.out | apply below_alloc | apply pw_below_drewN)⟩
          · have c2i : ¬ (2048 : Int) < (bs.length : Int) + 2 + (o.f1.size : Int) := by omega
            have c2b : decide ((2048 : Int) < (bs.length : Int) + 2 + (o.f1.size : Int)) = false := decide_eq_false c2i
            have hmod : o.f0 % 256 = o.f0 := by
              have := hgood.out
              unfold badKind at this
              simp at this
              omega
            have hmod2 : ((o.f1.size : Int) + 2) % 256 = (o.f1.size : Int) + 2 := by omega
            have hwr : IntKind.i64.wrap (2 + (o.f1.size : Int)) = 2 + (o.f1.size : Int) := by rw [IntKind.wrap_i64]; omega
            go_wp2
            go_quiet ((go_at_call 74; exact Calls.quiet_of_same (HLEN.out _ (by repeat (first | exact Below.refl _ _ | apply below_alloc | apply pw_below_drewN)))))
            obtain ⟨s2, hs2⟩ : ∃ s2, s2 = strOfNums [o.f0, 2 + (o.f1.size : Int)] := ⟨_, rfl⟩
            have hs2z : s2.size ≤ 2 := by rw [hs2]; exact Nat.le_refl 2
            have hcv : ∀ nq, (convert 61 9 (.slice (some ⟨wr.heap.size + 1, 0, none⟩) 2 2)).run Try.prog (((wr.alloc (.cells #[.int .i64 o.f0, .string o.f1] 46)).drewN nq).alloc (.cells #[.int .u8 o.f0, .int .u8 (2 + (o.f1.size : Int))] 5)) = .ok (.string s2) (((wr.alloc (.cells #[.int .i64 o.f0, .string o.f1] 46)).drewN nq).alloc (.cells #[.int .u8 o.f0, .int .u8 (2 + (o.f1.size : Int))] 5)) := fun nq => by
              rw [hs2]
              have hsz : ((wr.alloc (.cells #[.int .i64 o.f0, .string o.f1] 46)).drewN nq).heap.size = wr.heap.size + 1 := by simp
              have hg := heap_alloc_new ((wr.alloc (.cells #[.int .i64 o.f0, .string o.f1] 46)).drewN nq) (.cells #[.int .u8 o.f0, .int .u8 (2 + (o.f1.size : Int))] 5)
              rw [hsz] at hg
              refine run_convert_bytes_arg _ 61 5 Try.underlying61 Try.underlying5 (wr.heap.size + 1) 0 2 2 [o.f0, 2 + (o.f1.size : Int)] rfl (fun i hi => ?_) 9 Try.underlying9
              rw [Lib.cell_of_heap hg]
              match i, hi with
              | 0, _ => rfl
              | 1, _ => rfl
            have HS2 := Aside0.mk hs2
            clear hs2
            go_wp2_with (go_at_call 75; refine (builder_write b b (Lib.byteCells bs) (s2 ++ o.f1) _ (isBuilder_below HBL.out.is (by repeat (first | exact Below.refl _ _ | apply below_alloc | apply pw_below_drewN))) ?hl ?hw).mono ?_)
            case hl => rw [Lib.byteCells_length, ByteArray.size_append]; omega
            case hw => have := HBLT.out; simp; omega
            rintro e w2 ⟨rfl, hB2, hb2⟩
            rw [HS2.out, cells_opt, ← Lib.byteCells_append] at hB2
            have HB2 := Aside0.mk hB2
            have HBB := Aside0.mk hb2
            clear hB2 hb2 hcv hs2z
            go_wp2
            go_roundg (l0.length - (kk + 1))
            case measure => omega
            case rel =>
              have ho : (bs ++ optBytes o).length = bs.length + (2 + o.f1.size) := by rw [List.length_append, optBytes_length]
              refine ⟨kk + 1, bs ++ optBytes o, by omega, by omega, by go_num, ⟨?_⟩, by omega, ⟨.inr ⟨?_, .inr HB2.out⟩⟩, ⟨?_⟩, ⟨?_⟩⟩
              · rw [HP.out, hdrop.out, putL, if_neg (by omega)]
              · intro e
                rw [e] at ho
                simp at ho
                omega
              · exact (show Below w.heap.size w _ by repeat (first | exact HBE.out | apply below_alloc | apply pw_below_drewN)).trans (HBB.out.mono HWB.out)
              · have := HBB.out.size
                have := HBLT.out
                simp at *
                omega
      · have hltz : ¬ (kk : Int) < (l0.length : Int) := by omega
        have hkl : Aside0 (kk = l0.length) := ⟨by omega⟩
        have e := H.out
        unfold putS at e
        rw [if_neg (by rw [HBAD.out]; decide), HP.out, hkl.out, List.drop_length, putL, Prod.mk.injEq] at e
        rcases HBL.out with ⟨hz, hcell⟩ | ⟨hz, hcell⟩
        · have hcall := builder_string_nil b b _ wr hcell
          have E := Aside0.mk e
          have HZ := Aside0.mk hz
          clear hcell e hz
          go_wp2_with (go_at_call 76; refine hcall.mono ?_; rintro e w2 ⟨rfl, hb2⟩)
          go_ret2
          obtain ⟨e1, rfl⟩ := E.out
          rw [HZ.out] at e1
          subst e1
          exact ⟨rfl, HBE.out.trans (hb2.mono HWB.out)⟩
        · have hcall := builder_string b b bs wr hcell hz
          have E := Aside0.mk e
          have HZ := Aside0.mk hz
          clear hcell e hz
          go_wp2_with (go_at_call 76; refine hcall.mono ?_; rintro e w2 ⟨rfl, hb2⟩)
          go_ret2
          obtain ⟨rfl, rfl⟩ := E.out
          exact ⟨rfl, HBE.out.trans (hb2.mono HWB.out)⟩
#print axioms opts_Put.calls
end Go.Proofs.Ytbdlkcgaobkdcaa.P

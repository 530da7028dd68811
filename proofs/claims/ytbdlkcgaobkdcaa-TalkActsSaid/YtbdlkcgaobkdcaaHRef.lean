/- What the reference's Opts does with a row of options: just what opts.Put does; condition: each option's data takes at most 2^47 - 4096 bytes (as every row has it). -/
import Derived.Test.YtbdlkcgaobkdcaaHPut
import Derived.Deep.RegionHeld3
set_option linter.unusedVariables false
set_option linter.unusedSimpArgs false
namespace Go.Proofs.Ytbdlkcgaobkdcaa.P
open Go.RowKit Go.Proofs.YtbdlkcgaobkdcaaW.PrintWords Go.Proofs.YtbdlkcgaobkdcaaW.PrintLast Go.Proofs.YtbdlkcgaobkdcaaW.PrintMore

/-- What the second loop holds at index kk. -/
def RefAt (l : List S46) (kk : Nat) (long : Bool) (out : ByteArray) : Prop :=
  (long = true ∧ putL [] l = none) ∨ (long = false ∧ ∃ bs, out = ⟨bs.toArray⟩ ∧ bs.length ≤ 2048 ∧ putL [] l = putL bs (l.drop kk))
theorem refAt_long (l : List S46) (kk : Nat) (out : ByteArray) (h : RefAt l kk true out) : putL [] l = none := by
  rcases h with ⟨_, h⟩ | ⟨h, _⟩
  · exact h
  · cases h
theorem refAt_size (l : List S46) (kk : Nat) (out : ByteArray) (h : RefAt l kk false out) : out.size ≤ 2048 := by
  rcases h with ⟨h, _⟩ | ⟨_, bs, rfl, h, _⟩
  · cases h
  · exact h
theorem refAt_end (l : List S46) (out : ByteArray) (h : RefAt l l.length false out) : putL [] l = some out.data.toList := by
  rcases h with ⟨h, _⟩ | ⟨_, bs, rfl, _, h⟩
  · cases h
  · rw [h, List.drop_length, putL]
theorem strCells_two (o : S46) : (strOfNums [o.f0, (o.f1.size : Int) + 2]).data.toList ++ o.f1.data.toList = optBytes o := by
  rw [strOf_two]
  unfold optBytes
  rw [show ((o.f1.size : Int) + 2).toNat = o.f1.size + 2 by omega]
theorem refAt_next (l : List S46) (kk : Nat) (out s2 : ByteArray) (o : S46) (hd : l.drop kk = o :: l.drop (kk + 1)) (h : RefAt l kk false out) (hs : s2 = strOfNums [o.f0, (o.f1.size : Int) + 2]) (hsz : ¬ 253 < o.f1.size) :
    RefAt l (kk + 1) (decide ((2048 : Int) < (out.size : Int) + (s2.size : Int) + (o.f1.size : Int))) (out ++ s2 ++ o.f1) := by
  rcases h with ⟨h, _⟩ | ⟨_, bs, rfl, hb, hp⟩
  · cases h
  · have hz : ((⟨bs.toArray⟩ : ByteArray) ++ s2 ++ o.f1) = ⟨(bs ++ optBytes o).toArray⟩ := by
      have e : ((⟨bs.toArray⟩ : ByteArray) ++ s2 ++ o.f1).data.toList = bs ++ optBytes o := by
        rw [ByteArray.data_append, ByteArray.data_append, Array.toList_append, Array.toList_append, hs, List.append_assoc, strCells_two]
      rw [← e]
    have hz2 : ((⟨bs.toArray⟩ : ByteArray).size : Int) + (s2.size : Int) + (o.f1.size : Int) = bs.length + (2 + o.f1.size) := by
      rw [hs]
      show (bs.length : Int) + 2 + _ = _
      omega
    rw [hd, putL] at hp
    rw [hz2, hz]
    by_cases c : 2048 < bs.length + 2 + o.f1.size
    · rw [if_pos (.inr c)] at hp
      rw [decide_eq_true (by omega)]
      exact .inl ⟨rfl, hp⟩
    · rw [if_neg (by omega)] at hp
      rw [decide_eq_false (by omega)]
      exact .inr ⟨rfl, _, rfl, by rw [List.length_append, optBytes_length]; omega, hp⟩
theorem refAt_big (l : List S46) (kk : Nat) (out out' : ByteArray) (o : S46) (hd : l.drop kk = o :: l.drop (kk + 1)) (h : RefAt l kk false out) (hsz : 253 < o.f1.size) : RefAt l (kk + 1) true out' := by
  rcases h with ⟨h, _⟩ | ⟨_, bs, rfl, hb, hp⟩
  · cases h
  · rw [hd, putL, if_pos (.inl hsz)] at hp
    exact .inl ⟨rfl, hp⟩

theorem badKind_of' {o : S46} (h0 : ¬ o.f0 < 0) (h1 : ¬ 255 < o.f0) : badKind o = false := by
  unfold badKind
  simp [h0, h1]
theorem putS_bad (l : List S46) (k : Nat) (hk : k < l.length) (h : badKind l[k] = true) : putS l = (⟨#[]⟩, 400) := by
  unfold putS
  rw [if_pos (List.any_eq_true.2 ⟨_, List.getElem_mem hk, h⟩)]
theorem any_good (l : List S46) (h : ∀ j, ∀ hj : j < l.length, badKind l[j] = false) : ¬ l.any badKind = true := by
  intro hh
  obtain ⟨o, ho, hb⟩ := List.any_eq_true.1 hh
  obtain ⟨j, hj, rfl⟩ := List.mem_iff_getElem.1 ho
  rw [h j hj] at hb
  cases hb

set_option maxHeartbeats 4000000 in
set_option maxRecDepth 100000 in
theorem refOpts_any (A0 : Option Addr) (c0 : Nat) (l0 : List (S46)) (w : World) (hr0 : Kd.C k46 w A0 l0.length l0) (hc0 : l0.length ≤ c0) (hsz : ∀ o ∈ l0, o.f1.size ≤ 140737488351232) :
    Calls Try.prog 33 #[.slice A0 l0.length c0] w fun e w' => e = .returned (.tuple #[.string (putS l0).1, .int .i64 (putS l0).2]) ∧ Below w.heap.size w w' := by
  have hu46 := Try.underlying46
  have hbig : l0.length ≤ 9223372036854775807 := hr0.2.1
  have HR := Aside0.mk hr0
  have HC := Aside0.mk hc0
  have HSZ := Aside0.mk hsz
  clear hr0 hc0 hsz
  have HB0 := Aside0.mk (Below.refl w.heap.size w)
  go_enter Try.func33, Try.ntmps33
  go_wp2
  go_loopg [6] l0.length (fun gg s6 wr => ∃ kk : Nat, kk ≤ l0.length ∧ l0.length - kk ≤ gg ∧ s6 = .int .i64 kk ∧ Aside0 (∀ j, ∀ hj : j < l0.length, j < kk → badKind l0[j] = false) ∧ w = wr)
  case atStart => exact ⟨0, Nat.zero_le _, by omega, rfl, ⟨fun j _ hj => absurd hj (Nat.not_lt_zero _)⟩, rfl⟩
  case round =>
    obtain ⟨kk, hkk, hg, rfl, FF, rfl⟩ := hrel
    by_cases hlt : kk < l0.length
    · have hltz : (kk : Int) < (l0.length : Int) := by omega
      obtain ⟨ad, e, hx0, hx1⟩ := at_T46 HR.out (kk : Int) (by omega) hltz
      rw [rd_get l0 kk hlt] at hx0 hx1
      cases e
      rw [Int.toNat_natCast] at hx0 hx1
      generalize hy : l0[kk] = o at hx0 hx1
      have HY := Aside0.mk hy
      clear hy
      by_cases h0 : o.f0 < 0
      · have h0b : decide (o.f0 < 0) = true := decide_eq_true h0
        go_wp2
        go_ret2
        rw [putS_bad l0 kk hlt (by rw [HY.out]; unfold badKind; simp [h0])]
        exact ⟨rfl, HB0.out⟩
      · have h0b : decide (o.f0 < 0) = false := decide_eq_false h0
        by_cases h1 : 255 < o.f0
        · have h1b : decide (255 < o.f0) = true := decide_eq_true h1
          go_wp2
          go_ret2
          rw [putS_bad l0 kk hlt (by rw [HY.out]; unfold badKind; simp [h1])]
          exact ⟨rfl, HB0.out⟩
        · have h1b : decide (255 < o.f0) = false := decide_eq_false h1
          go_wp2
          go_roundg (l0.length - (kk + 1))
          case measure => omega
          case rel =>
            refine ⟨kk + 1, by omega, by omega, by go_num, ⟨fun j hj hj2 => ?_⟩, rfl⟩
            by_cases e : j = kk
            · subst e
              rw [HY.out]
              exact badKind_of' (by omega) (by omega)
            · exact FF.out j hj (by omega)
    · have hltz : ¬ (kk : Int) < (l0.length : Int) := by omega
      have HG := Aside0.mk (any_good l0 (fun j hj => FF.out j hj (by omega)))
      clear FF hg hkk
      have hltb : decide ((kk : Int) < (l0.length : Int)) = false := decide_eq_false hltz
      go_wp2
      go_loopg [4, 5, 7] l0.length (fun gg s4 s5 s7 wr => ∃ (kk : Nat) (long : Bool) (out : ByteArray), kk ≤ l0.length ∧ l0.length - kk ≤ gg ∧ s4 = .bool long ∧ s5 = .string out ∧ s7 = .int .i64 kk ∧ Aside0 (RefAt l0 kk long out) ∧ Aside0 (Below w.heap.size w wr))
      case atStart => exact ⟨0, false, ⟨#[]⟩, Nat.zero_le _, by omega, rfl, rfl, rfl, ⟨.inr ⟨rfl, [], rfl, by simp, rfl⟩⟩, HB0⟩
      case round =>
        clear HB0
        obtain ⟨k2, long, out, hk2, hg, rfl, rfl, rfl, RA, HBE⟩ := hrel
        by_cases hlt2 : k2 < l0.length
        · have hlt2z : (k2 : Int) < (l0.length : Int) := by omega
          have hlt2b : decide ((k2 : Int) < (l0.length : Int)) = true := decide_eq_true hlt2z
          cases long with
          | true =>
            have E := Aside0.mk (refAt_long _ _ _ RA.out)
            go_wp2
            go_ret2
            unfold putS
            rw [if_neg HG.out, E.out]
            exact ⟨rfl, HBE.out⟩
          | false =>
            obtain ⟨ad, e, hx0, hx1⟩ := at_T46 (Kd.C_below HR.out HBE.out) (k2 : Int) (by omega) hlt2z
            rw [rd_get l0 k2 hlt2] at hx0 hx1
            cases e
            rw [Int.toNat_natCast] at hx0 hx1
            have hdrop := Aside0.mk (List.drop_eq_getElem_cons hlt2)
            have hos := HSZ.out l0[k2] (List.getElem_mem hlt2)
            have hgd := Aside0.mk (show ¬ badKind l0[k2] = true from fun hb => HG.out (List.any_eq_true.2 ⟨l0[k2], List.getElem_mem hlt2, hb⟩))
            generalize l0[k2] = o at hx0 hx1 hdrop hos hgd
            have hmod : o.f0 % 256 = o.f0 := by
              have := hgd.out
              unfold badKind at this
              simp at this
              omega
            clear hgd
            have hout := refAt_size _ _ _ RA.out
            by_cases c1 : 253 < o.f1.size
            · have c1b : decide ((253 : Int) < (o.f1.size : Int)) = true := decide_eq_true (by omega)
              obtain ⟨s2, hs2⟩ : ∃ s2, s2 = strOfNums [o.f0, ((o.f1.size : Int) + 2) % 256] := ⟨_, rfl⟩
              have hs2z : s2.size ≤ 2 := by rw [hs2]; exact Nat.le_refl 2
              have hcv : ∀ W : World, (convert 61 9 (.slice (some ⟨W.heap.size, 0, none⟩) 2 2)).run Try.prog (W.alloc (.cells #[.int .u8 o.f0, .int .u8 (((o.f1.size : Int) + 2) % 256)] 5)) = .ok (.string s2) (W.alloc (.cells #[.int .u8 o.f0, .int .u8 (((o.f1.size : Int) + 2) % 256)] 5)) := fun W => by
                rw [hs2]
                have hg := heap_alloc_new W (.cells #[.int .u8 o.f0, .int .u8 (((o.f1.size : Int) + 2) % 256)] 5)
                refine run_convert_bytes_arg _ 61 5 Try.underlying61 Try.underlying5 W.heap.size 0 2 2 [o.f0, ((o.f1.size : Int) + 2) % 256] rfl (fun i hi => ?_) 9 Try.underlying9
                rw [Lib.cell_of_heap hg]
                match i, hi with
                | 0, _ => rfl
                | 1, _ => rfl
              have hcv1 : (convert 61 9 (.slice (some ⟨wr.heap.size, 0, none⟩) 2 2)).run Try.prog ((wr.alloc (.cells #[.int .u8 o.f0, .int .u8 (((o.f1.size : Int) + 2) % 256)] 5)).drew) = .ok (.string s2) ((wr.alloc (.cells #[.int .u8 o.f0, .int .u8 (((o.f1.size : Int) + 2) % 256)] 5)).drew) := hcv wr.drew
              have hbw : Below wr.heap.size wr ((wr.alloc (.cells #[.int .u8 o.f0, .int .u8 (((o.f1.size : Int) + 2) % 256)] 5)).drew) := (below_alloc (Below.refl _ _) _).drew
              have hy0 := pw_cell_below hbw hx0
              have hy1 := pw_cell_below hbw hx1
              clear hbw
              have HS2 := Aside0.mk hs2
              have hw2 : IntKind.i64.wrap ((o.f1.size : Int) + 2) = (o.f1.size : Int) + 2 := by rw [IntKind.wrap_i64]; omega
              clear hs2 hcv
              go_wp2
              go_region
              go_wp2
              go_roundg (l0.length - (k2 + 1))
              case measure => omega
              case rel => exact ⟨k2 + 1, true, _, by omega, by omega, rfl, rfl, by go_num, ⟨refAt_big _ _ _ _ o hdrop.out RA.out c1⟩, ⟨by repeat (first | exact HBE.out | apply below_alloc | apply pw_below_drewN | apply below_drew)⟩⟩
            · have c1b : decide ((253 : Int) < (o.f1.size : Int)) = false := decide_eq_false (by omega)
              obtain ⟨s2, hs2⟩ : ∃ s2, s2 = strOfNums [o.f0, (o.f1.size : Int) + 2] := ⟨_, rfl⟩
              have hs2z : s2.size ≤ 2 := by rw [hs2]; exact Nat.le_refl 2
              have hcv : ∀ W : World, (convert 61 9 (.slice (some ⟨W.heap.size, 0, none⟩) 2 2)).run Try.prog (W.alloc (.cells #[.int .u8 o.f0, .int .u8 ((o.f1.size : Int) + 2)] 5)) = .ok (.string s2) (W.alloc (.cells #[.int .u8 o.f0, .int .u8 ((o.f1.size : Int) + 2)] 5)) := fun W => by
                rw [hs2]
                have hg := heap_alloc_new W (.cells #[.int .u8 o.f0, .int .u8 ((o.f1.size : Int) + 2)] 5)
                refine run_convert_bytes_arg _ 61 5 Try.underlying61 Try.underlying5 W.heap.size 0 2 2 [o.f0, (o.f1.size : Int) + 2] rfl (fun i hi => ?_) 9 Try.underlying9
                rw [Lib.cell_of_heap hg]
                match i, hi with
                | 0, _ => rfl
                | 1, _ => rfl
              have hcv1 : (convert 61 9 (.slice (some ⟨wr.heap.size, 0, none⟩) 2 2)).run Try.prog ((wr.alloc (.cells #[.int .u8 o.f0, .int .u8 ((o.f1.size : Int) + 2)] 5)).drew) = .ok (.string s2) ((wr.alloc (.cells #[.int .u8 o.f0, .int .u8 ((o.f1.size : Int) + 2)] 5)).drew) := hcv wr.drew
              have hbw : Below wr.heap.size wr ((wr.alloc (.cells #[.int .u8 o.f0, .int .u8 ((o.f1.size : Int) + 2)] 5)).drew) := (below_alloc (Below.refl _ _) _).drew
              have hy0 := pw_cell_below hbw hx0
              have hy1 := pw_cell_below hbw hx1
              clear hbw
              have HS2 := Aside0.mk hs2
              have hw2 : IntKind.i64.wrap ((o.f1.size : Int) + 2) = (o.f1.size : Int) + 2 := by rw [IntKind.wrap_i64]; omega
              clear hs2 hcv
              go_wp2
              go_region
              go_wp2
              go_roundg (l0.length - (k2 + 1))
              case measure => omega
              case rel =>
                exact ⟨k2 + 1, _, _, by omega, by omega, rfl, rfl, by go_num, ⟨refAt_next _ _ _ _ o hdrop.out RA.out HS2.out c1⟩, ⟨by repeat (first | exact HBE.out | apply below_alloc | apply pw_below_drewN | apply below_drew)⟩⟩
        · have hlt2z : ¬ (k2 : Int) < (l0.length : Int) := by omega
          have hlt2b : decide ((k2 : Int) < (l0.length : Int)) = false := decide_eq_false hlt2z
          have hke := Aside0.mk (show k2 = l0.length by omega)
          cases long with
          | true =>
            have E := Aside0.mk (refAt_long _ _ _ RA.out)
            go_wp2
            go_ret2
            unfold putS
            rw [if_neg HG.out, E.out]
            exact ⟨rfl, HBE.out⟩
          | false =>
            have E := Aside0.mk (refAt_end l0 out (by have := RA.out; rw [hke.out] at this; exact this))
            go_wp2
            go_ret2
            unfold putS
            rw [if_neg HG.out, E.out]
            exact ⟨rfl, HBE.out⟩
def withyref1_Opts.f (l0 : List S46) : Option (ByteArray × Int) := if l0.all (fun o => decide (o.f1.size ≤ 140737488351232)) = true then some (putS l0) else none
theorem withyref1_Opts.calls (A0 : Option Addr) (c0 : Nat) (l0 : List (S46)) (r1 : ByteArray) (r2 : Int) (w : World) (hr0 : Kd.C k46 w A0 l0.length l0) (hc0 : l0.length ≤ c0) (h : withyref1_Opts.f l0 = some (r1, r2)) :
    Calls Try.prog 33 #[.slice A0 l0.length c0] w fun e w' => e = .returned (.tuple #[.string r1, .int .i64 r2]) ∧ Below w.heap.size w w' := by
  unfold withyref1_Opts.f at h
  by_cases c : l0.all (fun o => decide (o.f1.size ≤ 140737488351232)) = true
  · rw [if_pos c] at h
    have h := Option.some.inj h
    have h2 := refOpts_any A0 c0 l0 w hr0 hc0 (fun o ho => of_decide_eq_true (List.all_eq_true.1 c o ho))
    rw [h] at h2
    exact h2
  · rw [if_neg c] at h
    cases h
#print axioms withyref1_Opts.calls
end Go.Proofs.Ytbdlkcgaobkdcaa.P

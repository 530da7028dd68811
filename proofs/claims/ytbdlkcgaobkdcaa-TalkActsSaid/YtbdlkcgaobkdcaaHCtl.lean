/- What control.Put does with a packet: the document's error, or its bytes; condition: the data takes at most 2^47 - 4096 bytes (as every row has it). -/
import Derived.Test.YtbdlkcgaobkdcaaHPut
set_option linter.unusedVariables false
set_option linter.unusedSimpArgs false
namespace Go.Proofs.Ytbdlkcgaobkdcaa.P
open Go.RowKit Go.Proofs.YtbdlkcgaobkdcaaW.PrintWords Go.Proofs.YtbdlkcgaobkdcaaW.PrintLast Go.Proofs.YtbdlkcgaobkdcaaW.PrintMore

theorem putL_len : ∀ (l : List S46) (acc bs : List UInt8), acc.length ≤ 2048 → putL acc l = some bs → bs.length ≤ 2048 := by
  intro l
  induction l with
  | nil => intro acc bs h0 h; rw [putL] at h; cases h; exact h0
  | cons o os ih =>
    intro acc bs h0 h
    rw [putL] at h
    by_cases c : 253 < o.f1.size ∨ 2048 < acc.length + 2 + o.f1.size
    · rw [if_pos c] at h; cases h
    · rw [if_neg c] at h
      exact ih _ _ (by rw [List.length_append, optBytes_length]; omega) h
theorem putS_len (l : List S46) : (putS l).1.size ≤ 2048 := by
  unfold putS
  split
  · exact Nat.zero_le _
  · split
    · exact Nat.zero_le _
    · rename_i bs h
      exact putL_len l [] bs (by simp) h

def confB (c : Int) : Bool := decide (1 ≤ c) && decide (c ≤ 4)
def octB (c : Int) : Bool := decide (0 ≤ c) && decide (c ≤ 255)
theorem conf_any (c : Int) (b : Bool) (w : World) (h : confB c = b) : Calls Try.prog 82 #[.int .i64 c] w fun e w' => e = .returned (.bool b) ∧ w = w' := by
  subst h
  unfold confB
  by_cases h1 : 1 ≤ c
  · have h1b : decide (1 ≤ c) = true := decide_eq_true h1
    go_enter Try.func82, Try.ntmps82
    go_wp2
    go_ret
    exact ⟨by simp [h1], rfl⟩
  · have h1b : decide (1 ≤ c) = false := decide_eq_false h1
    go_enter Try.func82, Try.ntmps82
    go_wp2
    go_ret
    exact ⟨by simp [h1b], rfl⟩
theorem oct_any (c : Int) (b : Bool) (w : World) (h : octB c = b) : Calls Try.prog 83 #[.int .i64 c] w fun e w' => e = .returned (.bool b) ∧ w = w' := by
  subst h
  unfold octB
  by_cases h1 : 0 ≤ c
  · have h1b : decide (0 ≤ c) = true := decide_eq_true h1
    go_enter Try.func83, Try.ntmps83
    go_wp2
    go_ret
    exact ⟨by simp [h1], rfl⟩
  · have h1b : decide (0 ≤ c) = false := decide_eq_false h1
    go_enter Try.func83, Try.ntmps83
    go_wp2
    go_ret
    exact ⟨by simp [h1b], rfl⟩

set_option maxHeartbeats 1000000 in
set_option maxRecDepth 100000 in
theorem ctl_code (c i : Int) (A : Option Addr) (cc : Nat) (l : List S46) (d : ByteArray) (s : ByteArray) (e : Int) (w : World) (hr : Kd.C k46 w A l.length l) (hc : l.length ≤ cc) (hp : putS l = (s, e)) (hd : d.size ≤ 140737488351232) (b : Bool) (hb : confB c = b)
    (o1 : octB c = false) :
    Calls Try.prog 47 #[.agg #[.int .i64 c, .int .i64 i, .slice A l.length cc, .string d]] w fun e w' => e = .returned (.tuple #[.string ⟨#[]⟩, .int .i64 501]) ∧ Below w.heap.size w w' := by
  have hu69 := Try.underlying69
  have HR := Aside0.mk hr
  have HC := Aside0.mk hc
  have HP := Aside0.mk hp
  have HCF := Aside0.mk hb
  have hs := putS_len l
  rw [hp] at hs
  simp only at hs
  have O1 := Aside0.mk o1
  clear o1
  clear hr hc hp hb
  go_enter Try.func47, Try.ntmps47
  go_wp2_with fail
  refine (opts_Put.calls A cc l s e _ (Kd.C_below HR.out (below_alloc (Below.refl _ _) _)) HC.out (by rw [opts_Put.f, HP.out])).mono ?_
  rintro e1 w1 ⟨rfl, hb⟩
  have k0 : w1.cell? ⟨w.heap.size, 0, none⟩ = some (.int .i64 c) := (hb.cell (p := ⟨w.heap.size, 0, none⟩) (by simp)).trans (by simp)
  have k1 : w1.cell? ⟨w.heap.size, 1, none⟩ = some (.int .i64 i) := (hb.cell (p := ⟨w.heap.size, 1, none⟩) (by simp)).trans (by simp)
  have k2 : w1.cell? ⟨w.heap.size, 2, none⟩ = some (.slice A l.length cc) := (hb.cell (p := ⟨w.heap.size, 2, none⟩) (by simp)).trans (by simp)
  have k3 : w1.cell? ⟨w.heap.size, 3, none⟩ = some (.string d) := (hb.cell (p := ⟨w.heap.size, 3, none⟩) (by simp)).trans (by simp)
  have HB := Aside0.mk (below_then (below_alloc (Below.refl w.heap.size w) (.cells #[.int .i64 c, .int .i64 i, .slice A l.length cc, .string d] 69)) (by simp) hb)
  clear hb
  go_wp2_with fail
  refine (conf_any c _ _ HCF.out).mono ?_
  rintro e2 w2 ⟨rfl, rfl⟩
  go_wp2_with fail
  refine (oct_any c false _ O1.out).mono ?_
  rintro e2 w2 ⟨rfl, rfl⟩
  go_wp2
  go_ret2
  exact ⟨rfl, HB.out⟩

set_option maxHeartbeats 1000000 in
set_option maxRecDepth 100000 in
theorem ctl_id (c i : Int) (A : Option Addr) (cc : Nat) (l : List S46) (d : ByteArray) (s : ByteArray) (e : Int) (w : World) (hr : Kd.C k46 w A l.length l) (hc : l.length ≤ cc) (hp : putS l = (s, e)) (hd : d.size ≤ 140737488351232) (b : Bool) (hb : confB c = b)
    (o1 : octB c = true) (o2 : octB i = false) :
    Calls Try.prog 47 #[.agg #[.int .i64 c, .int .i64 i, .slice A l.length cc, .string d]] w fun e w' => e = .returned (.tuple #[.string ⟨#[]⟩, .int .i64 501]) ∧ Below w.heap.size w w' := by
  have hu69 := Try.underlying69
  have HR := Aside0.mk hr
  have HC := Aside0.mk hc
  have HP := Aside0.mk hp
  have HCF := Aside0.mk hb
  have hs := putS_len l
  rw [hp] at hs
  simp only at hs
  have O1 := Aside0.mk o1
  have O2 := Aside0.mk o2
  clear o1 o2
  clear hr hc hp hb
  go_enter Try.func47, Try.ntmps47
  go_wp2_with fail
  refine (opts_Put.calls A cc l s e _ (Kd.C_below HR.out (below_alloc (Below.refl _ _) _)) HC.out (by rw [opts_Put.f, HP.out])).mono ?_
  rintro e1 w1 ⟨rfl, hb⟩
  have k0 : w1.cell? ⟨w.heap.size, 0, none⟩ = some (.int .i64 c) := (hb.cell (p := ⟨w.heap.size, 0, none⟩) (by simp)).trans (by simp)
  have k1 : w1.cell? ⟨w.heap.size, 1, none⟩ = some (.int .i64 i) := (hb.cell (p := ⟨w.heap.size, 1, none⟩) (by simp)).trans (by simp)
  have k2 : w1.cell? ⟨w.heap.size, 2, none⟩ = some (.slice A l.length cc) := (hb.cell (p := ⟨w.heap.size, 2, none⟩) (by simp)).trans (by simp)
  have k3 : w1.cell? ⟨w.heap.size, 3, none⟩ = some (.string d) := (hb.cell (p := ⟨w.heap.size, 3, none⟩) (by simp)).trans (by simp)
  have HB := Aside0.mk (below_then (below_alloc (Below.refl w.heap.size w) (.cells #[.int .i64 c, .int .i64 i, .slice A l.length cc, .string d] 69)) (by simp) hb)
  clear hb
  go_wp2_with fail
  refine (conf_any c _ _ HCF.out).mono ?_
  rintro e2 w2 ⟨rfl, rfl⟩
  go_wp2_with fail
  refine (oct_any c true _ O1.out).mono ?_
  rintro e2 w2 ⟨rfl, rfl⟩
  go_wp2_with fail
  refine (oct_any i false _ O2.out).mono ?_
  rintro e2 w2 ⟨rfl, rfl⟩
  go_wp2
  go_ret2
  exact ⟨rfl, HB.out⟩

set_option maxHeartbeats 1000000 in
set_option maxRecDepth 100000 in
theorem ctl_opts (c i : Int) (A : Option Addr) (cc : Nat) (l : List S46) (d : ByteArray) (s : ByteArray) (e : Int) (w : World) (hr : Kd.C k46 w A l.length l) (hc : l.length ≤ cc) (hp : putS l = (s, e)) (hd : d.size ≤ 140737488351232) (b : Bool) (hb : confB c = b)
    (o1 : octB c = true) (o2 : octB i = true) (he : (e != 0) = true) :
    Calls Try.prog 47 #[.agg #[.int .i64 c, .int .i64 i, .slice A l.length cc, .string d]] w fun e w' => e = .returned (.tuple #[.string ⟨#[]⟩, .int .i64 502]) ∧ Below w.heap.size w w' := by
  have hu69 := Try.underlying69
  have HR := Aside0.mk hr
  have HC := Aside0.mk hc
  have HP := Aside0.mk hp
  have HCF := Aside0.mk hb
  have hs := putS_len l
  rw [hp] at hs
  simp only at hs
  have O1 := Aside0.mk o1
  have O2 := Aside0.mk o2
  clear o1 o2

  clear hr hc hp hb
  go_enter Try.func47, Try.ntmps47
  go_wp2_with fail
  refine (opts_Put.calls A cc l s e _ (Kd.C_below HR.out (below_alloc (Below.refl _ _) _)) HC.out (by rw [opts_Put.f, HP.out])).mono ?_
  rintro e1 w1 ⟨rfl, hb⟩
  have k0 : w1.cell? ⟨w.heap.size, 0, none⟩ = some (.int .i64 c) := (hb.cell (p := ⟨w.heap.size, 0, none⟩) (by simp)).trans (by simp)
  have k1 : w1.cell? ⟨w.heap.size, 1, none⟩ = some (.int .i64 i) := (hb.cell (p := ⟨w.heap.size, 1, none⟩) (by simp)).trans (by simp)
  have k2 : w1.cell? ⟨w.heap.size, 2, none⟩ = some (.slice A l.length cc) := (hb.cell (p := ⟨w.heap.size, 2, none⟩) (by simp)).trans (by simp)
  have k3 : w1.cell? ⟨w.heap.size, 3, none⟩ = some (.string d) := (hb.cell (p := ⟨w.heap.size, 3, none⟩) (by simp)).trans (by simp)
  have HB := Aside0.mk (below_then (below_alloc (Below.refl w.heap.size w) (.cells #[.int .i64 c, .int .i64 i, .slice A l.length cc, .string d] 69)) (by simp) hb)
  clear hb
  go_wp2_with fail
  refine (conf_any c _ _ HCF.out).mono ?_
  rintro e2 w2 ⟨rfl, rfl⟩
  go_wp2_with fail
  refine (oct_any c true _ O1.out).mono ?_
  rintro e2 w2 ⟨rfl, rfl⟩
  go_wp2_with fail
  refine (oct_any i true _ O2.out).mono ?_
  rintro e2 w2 ⟨rfl, rfl⟩
  go_wp2
  go_ret2
  exact ⟨rfl, HB.out⟩

set_option maxHeartbeats 1000000 in
set_option maxRecDepth 100000 in
theorem ctl_beside (c i : Int) (A : Option Addr) (cc : Nat) (l : List S46) (d : ByteArray) (s : ByteArray) (e : Int) (w : World) (hr : Kd.C k46 w A l.length l) (hc : l.length ≤ cc) (hp : putS l = (s, e)) (hd : d.size ≤ 140737488351232) (b : Bool) (hb : confB c = b)
    (o1 : octB c = true) (o2 : octB i = true) (he : (e != 0) = false) (hf : b = false) (hl : 0 < l.length) :
    Calls Try.prog 47 #[.agg #[.int .i64 c, .int .i64 i, .slice A l.length cc, .string d]] w fun e w' => e = .returned (.tuple #[.string ⟨#[]⟩, .int .i64 502]) ∧ Below w.heap.size w w' := by
  have hu69 := Try.underlying69
  have HR := Aside0.mk hr
  have HC := Aside0.mk hc
  have HP := Aside0.mk hp
  have HCF := Aside0.mk hb
  have hs := putS_len l
  rw [hp] at hs
  simp only at hs
  have O1 := Aside0.mk o1
  have O2 := Aside0.mk o2
  clear o1 o2
  have he0 : (e != 0) = false := he
  clear he
  subst hf
  have hl1 : (0 : Int) < (l.length : Int) := by omega

  clear hr hc hp hb
  go_enter Try.func47, Try.ntmps47
  go_wp2_with fail
  refine (opts_Put.calls A cc l s e _ (Kd.C_below HR.out (below_alloc (Below.refl _ _) _)) HC.out (by rw [opts_Put.f, HP.out])).mono ?_
  rintro e1 w1 ⟨rfl, hb⟩
  have k0 : w1.cell? ⟨w.heap.size, 0, none⟩ = some (.int .i64 c) := (hb.cell (p := ⟨w.heap.size, 0, none⟩) (by simp)).trans (by simp)
  have k1 : w1.cell? ⟨w.heap.size, 1, none⟩ = some (.int .i64 i) := (hb.cell (p := ⟨w.heap.size, 1, none⟩) (by simp)).trans (by simp)
  have k2 : w1.cell? ⟨w.heap.size, 2, none⟩ = some (.slice A l.length cc) := (hb.cell (p := ⟨w.heap.size, 2, none⟩) (by simp)).trans (by simp)
  have k3 : w1.cell? ⟨w.heap.size, 3, none⟩ = some (.string d) := (hb.cell (p := ⟨w.heap.size, 3, none⟩) (by simp)).trans (by simp)
  have HB := Aside0.mk (below_then (below_alloc (Below.refl w.heap.size w) (.cells #[.int .i64 c, .int .i64 i, .slice A l.length cc, .string d] 69)) (by simp) hb)
  clear hb
  go_wp2_with fail
  refine (conf_any c _ _ HCF.out).mono ?_
  rintro e2 w2 ⟨rfl, rfl⟩
  go_wp2_with fail
  refine (oct_any c true _ O1.out).mono ?_
  rintro e2 w2 ⟨rfl, rfl⟩
  go_wp2_with fail
  refine (oct_any i true _ O2.out).mono ?_
  rintro e2 w2 ⟨rfl, rfl⟩
  go_wp2
  go_ret2
  exact ⟨rfl, HB.out⟩

set_option maxHeartbeats 1000000 in
set_option maxRecDepth 100000 in
theorem ctl_data (c i : Int) (A : Option Addr) (cc : Nat) (l : List S46) (d : ByteArray) (s : ByteArray) (e : Int) (w : World) (hr : Kd.C k46 w A l.length l) (hc : l.length ≤ cc) (hp : putS l = (s, e)) (hd : d.size ≤ 140737488351232) (b : Bool) (hb : confB c = b)
    (o1 : octB c = true) (o2 : octB i = true) (he : (e != 0) = false) (hf : b = true) (hdn : 0 < d.size) :
    Calls Try.prog 47 #[.agg #[.int .i64 c, .int .i64 i, .slice A l.length cc, .string d]] w fun e w' => e = .returned (.tuple #[.string ⟨#[]⟩, .int .i64 502]) ∧ Below w.heap.size w w' := by
  have hu69 := Try.underlying69
  have HR := Aside0.mk hr
  have HC := Aside0.mk hc
  have HP := Aside0.mk hp
  have HCF := Aside0.mk hb
  have hs := putS_len l
  rw [hp] at hs
  simp only at hs
  have O1 := Aside0.mk o1
  have O2 := Aside0.mk o2
  clear o1 o2
  have he0 : (e != 0) = false := he
  clear he
  subst hf
  have hd1 : ¬ d.toList = [] := fun h => by
    have := congrArg List.length h
    rw [Lib.toList_data, data_length, List.length_nil] at this
    omega
  have hd2 : (!d.toList.isEmpty) = true := by simpa using hd1

  clear hr hc hp hb
  go_enter Try.func47, Try.ntmps47
  go_wp2_with fail
  refine (opts_Put.calls A cc l s e _ (Kd.C_below HR.out (below_alloc (Below.refl _ _) _)) HC.out (by rw [opts_Put.f, HP.out])).mono ?_
  rintro e1 w1 ⟨rfl, hb⟩
  have k0 : w1.cell? ⟨w.heap.size, 0, none⟩ = some (.int .i64 c) := (hb.cell (p := ⟨w.heap.size, 0, none⟩) (by simp)).trans (by simp)
  have k1 : w1.cell? ⟨w.heap.size, 1, none⟩ = some (.int .i64 i) := (hb.cell (p := ⟨w.heap.size, 1, none⟩) (by simp)).trans (by simp)
  have k2 : w1.cell? ⟨w.heap.size, 2, none⟩ = some (.slice A l.length cc) := (hb.cell (p := ⟨w.heap.size, 2, none⟩) (by simp)).trans (by simp)
  have k3 : w1.cell? ⟨w.heap.size, 3, none⟩ = some (.string d) := (hb.cell (p := ⟨w.heap.size, 3, none⟩) (by simp)).trans (by simp)
  have HB := Aside0.mk (below_then (below_alloc (Below.refl w.heap.size w) (.cells #[.int .i64 c, .int .i64 i, .slice A l.length cc, .string d] 69)) (by simp) hb)
  clear hb
  go_wp2_with fail
  refine (conf_any c _ _ HCF.out).mono ?_
  rintro e2 w2 ⟨rfl, rfl⟩
  go_wp2_with fail
  refine (oct_any c true _ O1.out).mono ?_
  rintro e2 w2 ⟨rfl, rfl⟩
  go_wp2_with fail
  refine (oct_any i true _ O2.out).mono ?_
  rintro e2 w2 ⟨rfl, rfl⟩
  go_wp2
  go_ret2
  exact ⟨rfl, HB.out⟩

set_option maxHeartbeats 1000000 in
set_option maxRecDepth 100000 in
theorem ctl_long_true (c i : Int) (A : Option Addr) (cc : Nat) (l : List S46) (d : ByteArray) (s : ByteArray) (e : Int) (w : World) (hr : Kd.C k46 w A l.length l) (hc : l.length ≤ cc) (hp : putS l = (s, e)) (hd : d.size ≤ 140737488351232) (b : Bool) (hb : confB c = b)
    (o1 : octB c = true) (o2 : octB i = true) (he : (e != 0) = false) (hf : b = true) (hdn : d.size = 0) (hn : 2048 < 4 + (s.size + d.size)) :
    Calls Try.prog 47 #[.agg #[.int .i64 c, .int .i64 i, .slice A l.length cc, .string d]] w fun e w' => e = .returned (.tuple #[.string ⟨#[]⟩, .int .i64 503]) ∧ Below w.heap.size w w' := by
  have hu69 := Try.underlying69
  have HR := Aside0.mk hr
  have HC := Aside0.mk hc
  have HP := Aside0.mk hp
  have HCF := Aside0.mk hb
  have hs := putS_len l
  rw [hp] at hs
  simp only at hs
  have O1 := Aside0.mk o1
  have O2 := Aside0.mk o2
  clear o1 o2
  have he0 : (e != 0) = false := he
  clear he
  subst hf
  have hd1 : d.toList = [] := by
    rw [Lib.toList_data]
    exact List.eq_nil_of_length_eq_zero (by rw [data_length]; exact hdn)
  have hd2 : (!d.toList.isEmpty) = false := by simp [hd1]
  have hdz : d.size ≤ 0 := by omega
  clear hdn

  clear hr hc hp hb
  go_enter Try.func47, Try.ntmps47
  go_wp2_with fail
  refine (opts_Put.calls A cc l s e _ (Kd.C_below HR.out (below_alloc (Below.refl _ _) _)) HC.out (by rw [opts_Put.f, HP.out])).mono ?_
  rintro e1 w1 ⟨rfl, hb⟩
  have k0 : w1.cell? ⟨w.heap.size, 0, none⟩ = some (.int .i64 c) := (hb.cell (p := ⟨w.heap.size, 0, none⟩) (by simp)).trans (by simp)
  have k1 : w1.cell? ⟨w.heap.size, 1, none⟩ = some (.int .i64 i) := (hb.cell (p := ⟨w.heap.size, 1, none⟩) (by simp)).trans (by simp)
  have k2 : w1.cell? ⟨w.heap.size, 2, none⟩ = some (.slice A l.length cc) := (hb.cell (p := ⟨w.heap.size, 2, none⟩) (by simp)).trans (by simp)
  have k3 : w1.cell? ⟨w.heap.size, 3, none⟩ = some (.string d) := (hb.cell (p := ⟨w.heap.size, 3, none⟩) (by simp)).trans (by simp)
  have HB := Aside0.mk (below_then (below_alloc (Below.refl w.heap.size w) (.cells #[.int .i64 c, .int .i64 i, .slice A l.length cc, .string d] 69)) (by simp) hb)
  clear hb
  go_wp2_with fail
  refine (conf_any c _ _ HCF.out).mono ?_
  rintro e2 w2 ⟨rfl, rfl⟩
  go_wp2_with fail
  refine (oct_any c true _ O1.out).mono ?_
  rintro e2 w2 ⟨rfl, rfl⟩
  go_wp2_with fail
  refine (oct_any i true _ O2.out).mono ?_
  rintro e2 w2 ⟨rfl, rfl⟩
  go_wp2
  go_ret2
  exact ⟨rfl, HB.out⟩

set_option maxHeartbeats 1000000 in
set_option maxRecDepth 100000 in
theorem ctl_long_false (c i : Int) (A : Option Addr) (cc : Nat) (l : List S46) (d : ByteArray) (s : ByteArray) (e : Int) (w : World) (hr : Kd.C k46 w A l.length l) (hc : l.length ≤ cc) (hp : putS l = (s, e)) (hd : d.size ≤ 140737488351232) (b : Bool) (hb : confB c = b)
    (o1 : octB c = true) (o2 : octB i = true) (he : (e != 0) = false) (hf : b = false) (hl : l.length = 0) (hn : 2048 < 4 + (s.size + d.size)) :
    Calls Try.prog 47 #[.agg #[.int .i64 c, .int .i64 i, .slice A l.length cc, .string d]] w fun e w' => e = .returned (.tuple #[.string ⟨#[]⟩, .int .i64 503]) ∧ Below w.heap.size w w' := by
  have hu69 := Try.underlying69
  have HR := Aside0.mk hr
  have HC := Aside0.mk hc
  have HP := Aside0.mk hp
  have HCF := Aside0.mk hb
  have hs := putS_len l
  rw [hp] at hs
  simp only at hs
  have O1 := Aside0.mk o1
  have O2 := Aside0.mk o2
  clear o1 o2
  have he0 : (e != 0) = false := he
  clear he
  subst hf
  obtain rfl : l = [] := List.eq_nil_of_length_eq_zero hl
  clear hl

  clear hr hc hp hb
  go_enter Try.func47, Try.ntmps47
  go_wp2_with fail
  refine (opts_Put.calls A cc [] s e _ (Kd.C_below HR.out (below_alloc (Below.refl _ _) _)) HC.out (by rw [opts_Put.f, HP.out])).mono ?_
  rintro e1 w1 ⟨rfl, hb⟩
  have k0 : w1.cell? ⟨w.heap.size, 0, none⟩ = some (.int .i64 c) := (hb.cell (p := ⟨w.heap.size, 0, none⟩) (by simp)).trans (by simp)
  have k1 : w1.cell? ⟨w.heap.size, 1, none⟩ = some (.int .i64 i) := (hb.cell (p := ⟨w.heap.size, 1, none⟩) (by simp)).trans (by simp)
  have k2 : w1.cell? ⟨w.heap.size, 2, none⟩ = some (.slice A 0 cc) := (hb.cell (p := ⟨w.heap.size, 2, none⟩) (by simp)).trans (by simp)
  have k3 : w1.cell? ⟨w.heap.size, 3, none⟩ = some (.string d) := (hb.cell (p := ⟨w.heap.size, 3, none⟩) (by simp)).trans (by simp)
  have HB := Aside0.mk (below_then (below_alloc (Below.refl w.heap.size w) (.cells #[.int .i64 c, .int .i64 i, .slice A 0 cc, .string d] 69)) (by simp) hb)
  clear hb
  go_wp2_with fail
  refine (conf_any c _ _ HCF.out).mono ?_
  rintro e2 w2 ⟨rfl, rfl⟩
  go_wp2_with fail
  refine (oct_any c true _ O1.out).mono ?_
  rintro e2 w2 ⟨rfl, rfl⟩
  go_wp2_with fail
  refine (oct_any i true _ O2.out).mono ?_
  rintro e2 w2 ⟨rfl, rfl⟩
  go_wp2
  go_ret2
  exact ⟨rfl, HB.out⟩

set_option maxHeartbeats 1000000 in
set_option maxRecDepth 100000 in
theorem ctl_ok_true (c i : Int) (A : Option Addr) (cc : Nat) (l : List S46) (d : ByteArray) (s : ByteArray) (e : Int) (w : World) (hr : Kd.C k46 w A l.length l) (hc : l.length ≤ cc) (hp : putS l = (s, e)) (hd : d.size ≤ 140737488351232) (b : Bool) (hb : confB c = b)
    (o1 : octB c = true) (o2 : octB i = true) (he : (e != 0) = false) (hf : b = true) (hdn : d.size = 0) (hn : 4 + (s.size + d.size) ≤ 2048) :
    Calls Try.prog 47 #[.agg #[.int .i64 c, .int .i64 i, .slice A l.length cc, .string d]] w fun e w' => e = .returned (.tuple #[.string (strOfNums [c, i, (4 + ((s.size : Int) + (d.size : Int))) / 256, (4 + ((s.size : Int) + (d.size : Int))) % 256] ++ (s ++ d)), .int .i64 0]) ∧ Below w.heap.size w w' := by
  have hu69 := Try.underlying69
  have HR := Aside0.mk hr
  have HC := Aside0.mk hc
  have HP := Aside0.mk hp
  have HCF := Aside0.mk hb
  have hs := putS_len l
  rw [hp] at hs
  simp only at hs
  have O1 := Aside0.mk o1
  have O2 := Aside0.mk o2
  have o1' := o1
  have o2' := o2
  clear o1 o2
  have he0 : (e != 0) = false := he
  clear he
  subst hf
  have hd1 : d.toList = [] := by
    rw [Lib.toList_data]
    exact List.eq_nil_of_length_eq_zero (by rw [data_length]; exact hdn)
  have hd2 : (!d.toList.isEmpty) = false := by simp [hd1]
  have hdz : d.size ≤ 0 := by omega
  clear hdn
  have hcm : c % 256 = c := by
    unfold octB at o1'
    simp at o1'
    omega
  have him : i % 256 = i := by
    unfold octB at o2'
    simp at o2'
    omega
  clear o1' o2'
  have hq : ((4 + ((s.size : Int) + (d.size : Int))) / 256) % 256 = (4 + ((s.size : Int) + (d.size : Int))) / 256 := by omega

  clear hr hc hp hb
  go_enter Try.func47, Try.ntmps47
  go_wp2_with fail
  refine (opts_Put.calls A cc l s e _ (Kd.C_below HR.out (below_alloc (Below.refl _ _) _)) HC.out (by rw [opts_Put.f, HP.out])).mono ?_
  rintro e1 w1 ⟨rfl, hb⟩
  have k0 : w1.cell? ⟨w.heap.size, 0, none⟩ = some (.int .i64 c) := (hb.cell (p := ⟨w.heap.size, 0, none⟩) (by simp)).trans (by simp)
  have k1 : w1.cell? ⟨w.heap.size, 1, none⟩ = some (.int .i64 i) := (hb.cell (p := ⟨w.heap.size, 1, none⟩) (by simp)).trans (by simp)
  have k2 : w1.cell? ⟨w.heap.size, 2, none⟩ = some (.slice A l.length cc) := (hb.cell (p := ⟨w.heap.size, 2, none⟩) (by simp)).trans (by simp)
  have k3 : w1.cell? ⟨w.heap.size, 3, none⟩ = some (.string d) := (hb.cell (p := ⟨w.heap.size, 3, none⟩) (by simp)).trans (by simp)
  have HB := Aside0.mk (below_then (below_alloc (Below.refl w.heap.size w) (.cells #[.int .i64 c, .int .i64 i, .slice A l.length cc, .string d] 69)) (by simp) hb)
  clear hb
  go_wp2_with fail
  refine (conf_any c _ _ HCF.out).mono ?_
  rintro e2 w2 ⟨rfl, rfl⟩
  go_wp2_with fail
  refine (oct_any c true _ O1.out).mono ?_
  rintro e2 w2 ⟨rfl, rfl⟩
  go_wp2_with fail
  refine (oct_any i true _ O2.out).mono ?_
  rintro e2 w2 ⟨rfl, rfl⟩
  obtain ⟨s4, hs4⟩ : ∃ s4, s4 = strOfNums [c, i, (4 + ((s.size : Int) + (d.size : Int))) / 256, (4 + ((s.size : Int) + (d.size : Int))) % 256] := ⟨_, rfl⟩
  have hs4z : s4.size ≤ 4 := by rw [hs4]; exact Nat.le_refl 4
  have hcv : (convert 61 9 (.slice (some ⟨w1.heap.size, 0, none⟩) 4 4)).run Try.prog (w1.alloc (.cells #[.int .u8 c, .int .u8 i, .int .u8 ((4 + ((s.size : Int) + (d.size : Int))) / 256), .int .u8 ((4 + ((s.size : Int) + (d.size : Int))) % 256)] 5)) = .ok (.string s4) (w1.alloc (.cells #[.int .u8 c, .int .u8 i, .int .u8 ((4 + ((s.size : Int) + (d.size : Int))) / 256), .int .u8 ((4 + ((s.size : Int) + (d.size : Int))) % 256)] 5)) := by
    rw [hs4]
    have hg := heap_alloc_new w1 (.cells #[.int .u8 c, .int .u8 i, .int .u8 ((4 + ((s.size : Int) + (d.size : Int))) / 256), .int .u8 ((4 + ((s.size : Int) + (d.size : Int))) % 256)] 5)
    refine run_convert_bytes_arg _ 61 5 Try.underlying61 Try.underlying5 w1.heap.size 0 4 4 [c, i, (4 + ((s.size : Int) + (d.size : Int))) / 256, (4 + ((s.size : Int) + (d.size : Int))) % 256] rfl (fun j hj => ?_) 9 Try.underlying9
    rw [Lib.cell_of_heap hg]
    match j, hj with
    | 0, _ => rfl
    | 1, _ => rfl
    | 2, _ => rfl
    | 3, _ => rfl
  have HS4 := Aside0.mk hs4
  clear hs4
  go_wp2
  go_ret2
  rw [HS4.out]
  exact ⟨rfl, below_alloc HB.out _⟩

set_option maxHeartbeats 1000000 in
set_option maxRecDepth 100000 in
theorem ctl_ok_false (c i : Int) (A : Option Addr) (cc : Nat) (l : List S46) (d : ByteArray) (s : ByteArray) (e : Int) (w : World) (hr : Kd.C k46 w A l.length l) (hc : l.length ≤ cc) (hp : putS l = (s, e)) (hd : d.size ≤ 140737488351232) (b : Bool) (hb : confB c = b)
    (o1 : octB c = true) (o2 : octB i = true) (he : (e != 0) = false) (hf : b = false) (hl : l.length = 0) (hn : 4 + (s.size + d.size) ≤ 2048) :
    Calls Try.prog 47 #[.agg #[.int .i64 c, .int .i64 i, .slice A l.length cc, .string d]] w fun e w' => e = .returned (.tuple #[.string (strOfNums [c, i, (4 + ((s.size : Int) + (d.size : Int))) / 256, (4 + ((s.size : Int) + (d.size : Int))) % 256] ++ (s ++ d)), .int .i64 0]) ∧ Below w.heap.size w w' := by
  have hu69 := Try.underlying69
  have HR := Aside0.mk hr
  have HC := Aside0.mk hc
  have HP := Aside0.mk hp
  have HCF := Aside0.mk hb
  have hs := putS_len l
  rw [hp] at hs
  simp only at hs
  have O1 := Aside0.mk o1
  have O2 := Aside0.mk o2
  have o1' := o1
  have o2' := o2
  clear o1 o2
  have he0 : (e != 0) = false := he
  clear he
  subst hf
  obtain rfl : l = [] := List.eq_nil_of_length_eq_zero hl
  clear hl
  have hcm : c % 256 = c := by
    unfold octB at o1'
    simp at o1'
    omega
  have him : i % 256 = i := by
    unfold octB at o2'
    simp at o2'
    omega
  clear o1' o2'
  have hq : ((4 + ((s.size : Int) + (d.size : Int))) / 256) % 256 = (4 + ((s.size : Int) + (d.size : Int))) / 256 := by omega

  clear hr hc hp hb
  go_enter Try.func47, Try.ntmps47
  go_wp2_with fail
  refine (opts_Put.calls A cc [] s e _ (Kd.C_below HR.out (below_alloc (Below.refl _ _) _)) HC.out (by rw [opts_Put.f, HP.out])).mono ?_
  rintro e1 w1 ⟨rfl, hb⟩
  have k0 : w1.cell? ⟨w.heap.size, 0, none⟩ = some (.int .i64 c) := (hb.cell (p := ⟨w.heap.size, 0, none⟩) (by simp)).trans (by simp)
  have k1 : w1.cell? ⟨w.heap.size, 1, none⟩ = some (.int .i64 i) := (hb.cell (p := ⟨w.heap.size, 1, none⟩) (by simp)).trans (by simp)
  have k2 : w1.cell? ⟨w.heap.size, 2, none⟩ = some (.slice A 0 cc) := (hb.cell (p := ⟨w.heap.size, 2, none⟩) (by simp)).trans (by simp)
  have k3 : w1.cell? ⟨w.heap.size, 3, none⟩ = some (.string d) := (hb.cell (p := ⟨w.heap.size, 3, none⟩) (by simp)).trans (by simp)
  have HB := Aside0.mk (below_then (below_alloc (Below.refl w.heap.size w) (.cells #[.int .i64 c, .int .i64 i, .slice A 0 cc, .string d] 69)) (by simp) hb)
  clear hb
  go_wp2_with fail
  refine (conf_any c _ _ HCF.out).mono ?_
  rintro e2 w2 ⟨rfl, rfl⟩
  go_wp2_with fail
  refine (oct_any c true _ O1.out).mono ?_
  rintro e2 w2 ⟨rfl, rfl⟩
  go_wp2_with fail
  refine (oct_any i true _ O2.out).mono ?_
  rintro e2 w2 ⟨rfl, rfl⟩
  obtain ⟨s4, hs4⟩ : ∃ s4, s4 = strOfNums [c, i, (4 + ((s.size : Int) + (d.size : Int))) / 256, (4 + ((s.size : Int) + (d.size : Int))) % 256] := ⟨_, rfl⟩
  have hs4z : s4.size ≤ 4 := by rw [hs4]; exact Nat.le_refl 4
  have hcv : (convert 61 9 (.slice (some ⟨w1.heap.size, 0, none⟩) 4 4)).run Try.prog (w1.alloc (.cells #[.int .u8 c, .int .u8 i, .int .u8 ((4 + ((s.size : Int) + (d.size : Int))) / 256), .int .u8 ((4 + ((s.size : Int) + (d.size : Int))) % 256)] 5)) = .ok (.string s4) (w1.alloc (.cells #[.int .u8 c, .int .u8 i, .int .u8 ((4 + ((s.size : Int) + (d.size : Int))) / 256), .int .u8 ((4 + ((s.size : Int) + (d.size : Int))) % 256)] 5)) := by
    rw [hs4]
    have hg := heap_alloc_new w1 (.cells #[.int .u8 c, .int .u8 i, .int .u8 ((4 + ((s.size : Int) + (d.size : Int))) / 256), .int .u8 ((4 + ((s.size : Int) + (d.size : Int))) % 256)] 5)
    refine run_convert_bytes_arg _ 61 5 Try.underlying61 Try.underlying5 w1.heap.size 0 4 4 [c, i, (4 + ((s.size : Int) + (d.size : Int))) / 256, (4 + ((s.size : Int) + (d.size : Int))) % 256] rfl (fun j hj => ?_) 9 Try.underlying9
    rw [Lib.cell_of_heap hg]
    match j, hj with
    | 0, _ => rfl
    | 1, _ => rfl
    | 2, _ => rfl
    | 3, _ => rfl
  have HS4 := Aside0.mk hs4
  clear hs4
  go_wp2
  go_ret2
  rw [HS4.out]
  exact ⟨rfl, below_alloc HB.out _⟩

def ctlS (c i : Int) (os : List S46) (d : ByteArray) : ByteArray × Int :=
  if octB c = false ∨ octB i = false then (⟨#[]⟩, 501)
  else if (putS os).2 ≠ 0 ∨ (confB c = false ∧ 0 < os.length) ∨ (confB c = true ∧ 0 < d.size) then (⟨#[]⟩, 502)
  else if 2048 < 4 + ((putS os).1.size + d.size) then (⟨#[]⟩, 503)
  else (strOfNums [c, i, (4 + (((putS os).1.size : Int) + (d.size : Int))) / 256, (4 + (((putS os).1.size : Int) + (d.size : Int))) % 256] ++ ((putS os).1 ++ d), 0)
def control_Put.f (a0_0 : Int) (a0_1 : Int) (l0_2 : List S46) (a0_3 : ByteArray) : Option (ByteArray × Int) := if a0_3.size ≤ 140737488351232 then some (ctlS a0_0 a0_1 l0_2 a0_3) else none
theorem control_Put.calls (a0_0 : Int) (a0_1 : Int) (A0_2 : Option Addr) (c0_2 : Nat) (l0_2 : List (S46)) (a0_3 : ByteArray) (r1 : ByteArray) (r2 : Int) (w : World) (hr0_2 : Kd.C k46 w A0_2 l0_2.length l0_2) (hc0_2 : l0_2.length ≤ c0_2) (h : control_Put.f a0_0 a0_1 l0_2 a0_3 = some (r1, r2)) :
    Calls Try.prog 47 #[.agg #[.int .i64 a0_0, .int .i64 a0_1, .slice A0_2 l0_2.length c0_2, .string a0_3]] w fun e w' => e = .returned (.tuple #[.string r1, .int .i64 r2]) ∧ Below w.heap.size w w' := by
  unfold control_Put.f at h
  by_cases hd : a0_3.size ≤ 140737488351232
  · rw [if_pos hd] at h
    have h := Option.some.inj h
    unfold ctlS at h
    rcases hp : putS l0_2 with ⟨s, e⟩
    rw [hp] at h
    simp only at h
    cases o1 : octB a0_0 with
    | false =>
      rw [if_pos (.inl o1), Prod.mk.injEq] at h
      obtain ⟨rfl, rfl⟩ := h
      exact ctl_code _ _ _ _ _ _ s e w hr0_2 hc0_2 hp hd _ rfl o1
    | true =>
      cases o2 : octB a0_1 with
      | false =>
        rw [if_pos (.inr o2), Prod.mk.injEq] at h
        obtain ⟨rfl, rfl⟩ := h
        exact ctl_id _ _ _ _ _ _ s e w hr0_2 hc0_2 hp hd _ rfl o1 o2
      | true =>
        rw [if_neg (by rw [o1, o2]; simp)] at h
        by_cases he : e = 0
        · have he' : (e != 0) = false := by rw [he]; rfl
          cases hb : confB a0_0 with
          | false =>
            by_cases hl : 0 < l0_2.length
            · rw [if_pos (.inr (.inl ⟨hb, hl⟩)), Prod.mk.injEq] at h
              obtain ⟨rfl, rfl⟩ := h
              exact ctl_beside _ _ _ _ _ _ s e w hr0_2 hc0_2 hp hd _ hb o1 o2 he' rfl hl
            · rw [if_neg (by rintro (h1 | ⟨_, h2⟩ | ⟨h3, _⟩); exact h1 he; exact hl h2; rw [hb] at h3; cases h3)] at h
              by_cases hn : 2048 < 4 + (s.size + a0_3.size)
              · rw [if_pos hn, Prod.mk.injEq] at h
                obtain ⟨rfl, rfl⟩ := h
                exact ctl_long_false _ _ _ _ _ _ s e w hr0_2 hc0_2 hp hd _ hb o1 o2 he' rfl (by omega) hn
              · rw [if_neg hn, Prod.mk.injEq] at h
                obtain ⟨rfl, rfl⟩ := h
                exact ctl_ok_false _ _ _ _ _ _ s e w hr0_2 hc0_2 hp hd _ hb o1 o2 he' rfl (by omega) (by omega)
          | true =>
            by_cases hl : 0 < a0_3.size
            · rw [if_pos (.inr (.inr ⟨hb, hl⟩)), Prod.mk.injEq] at h
              obtain ⟨rfl, rfl⟩ := h
              exact ctl_data _ _ _ _ _ _ s e w hr0_2 hc0_2 hp hd _ hb o1 o2 he' rfl hl
            · rw [if_neg (by rintro (h1 | ⟨h3, _⟩ | ⟨_, h2⟩); exact h1 he; rw [hb] at h3; cases h3; exact hl h2)] at h
              by_cases hn : 2048 < 4 + (s.size + a0_3.size)
              · rw [if_pos hn, Prod.mk.injEq] at h
                obtain ⟨rfl, rfl⟩ := h
                exact ctl_long_true _ _ _ _ _ _ s e w hr0_2 hc0_2 hp hd _ hb o1 o2 he' rfl (by omega) hn
              · rw [if_neg hn, Prod.mk.injEq] at h
                obtain ⟨rfl, rfl⟩ := h
                exact ctl_ok_true _ _ _ _ _ _ s e w hr0_2 hc0_2 hp hd _ hb o1 o2 he' rfl (by omega) (by omega)
        · rw [if_pos (.inl he), Prod.mk.injEq] at h
          obtain ⟨rfl, rfl⟩ := h
          exact ctl_opts _ _ _ _ _ _ s e w hr0_2 hc0_2 hp hd _ rfl o1 o2 (by simpa using he)
  · rw [if_neg hd] at h
    cases h
#print axioms control_Put.calls
end Go.Proofs.Ytbdlkcgaobkdcaa.P

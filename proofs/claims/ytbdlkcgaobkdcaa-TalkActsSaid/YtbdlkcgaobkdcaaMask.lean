/- Small facts on int's masks and sums: 'x & (2^k - 1)' is the rest by 2^k, whatever the sign of x; conditions: k at most 62. -/
import Derived.Laws.BitsLemmas
import Derived.Laws.Bits64
import Derived.RowKit
namespace Go.Proofs.Ytbdlkcgaobkdcaa
open Go.RowKit
theorem mask_gen (n : Int) (k : Nat) (hk : k ≤ 62) (m : Int) (hm : m = ((2 ^ k - 1 : Nat) : Int)) : bits .and .i64 n m = n % ((2 ^ k : Nat) : Int) := by
  subst hm
  have hp : 2 ^ k ≤ 2 ^ 62 := Nat.pow_le_pow_right (by decide) hk
  have hp0 : 0 < 2 ^ k := Nat.two_pow_pos k
  have h1 : (BitVec.ofInt 64 ((2 ^ k - 1 : Nat) : Int)).toNat = 2 ^ k - 1 := by
    rw [BitVec.ofInt_natCast, BitVec.toNat_ofNat]
    exact Nat.mod_eq_of_lt (by omega)
  have key : (BitVec.ofInt 64 n &&& BitVec.ofInt 64 ((2 ^ k - 1 : Nat) : Int)).toNat = (n % ((2 ^ 64 : Nat) : Int)).toNat % 2 ^ k := by
    rw [BitVec.toNat_and, BitVec.toNat_ofInt, h1, Nat.and_two_pow_sub_one_eq_mod]
  show IntKind.i64.wrap ((BitVec.ofInt 64 n &&& BitVec.ofInt 64 ((2 ^ k - 1 : Nat) : Int)).toNat : Nat) = _
  rw [key, IntKind.wrap_i64]
  have hlt : (n % ((2 ^ 64 : Nat) : Int)).toNat % 2 ^ k < 2 ^ k := Nat.mod_lt _ hp0
  have hd : ((2 ^ k : Nat) : Int) ∣ ((2 ^ 64 : Nat) : Int) := by
    refine ⟨((2 ^ (64 - k) : Nat) : Int), ?_⟩
    rw [← Int.natCast_mul, ← Nat.pow_add]
    congr 2
    omega
  have hn : (((n % ((2 ^ 64 : Nat) : Int)).toNat % 2 ^ k : Nat) : Int) = n % ((2 ^ k : Nat) : Int) := by
    rw [Int.natCast_emod, Int.toNat_of_nonneg (Int.emod_nonneg _ (by decide)), Int.emod_emod_of_dvd _ hd]
  rw [hn] at *
  have h0 : 0 ≤ n % ((2 ^ k : Nat) : Int) := Int.emod_nonneg _ (by omega)
  have h2 : n % ((2 ^ k : Nat) : Int) < ((2 ^ k : Nat) : Int) := Int.emod_lt_of_pos _ (by omega)
  omega
theorem mask1 (n : Int) : bits .and .i64 n 1 = n % 2 := mask_gen n 1 (by decide) 1 rfl
theorem mask3 (n : Int) : bits .and .i64 n 3 = n % 4 := mask_gen n 2 (by decide) 3 rfl
theorem mask63 (n : Int) : bits .and .i64 n 63 = n % 64 := mask_gen n 6 (by decide) 63 rfl
theorem mask255 (n : Int) : bits .and .i64 n 255 = n % 256 := mask_gen n 8 (by decide) 255 rfl
theorem mask511 (n : Int) : bits .and .i64 n 511 = n % 512 := mask_gen n 9 (by decide) 511 rfl
theorem mask20 (n : Int) : bits .and .i64 n 1048575 = n % 1048576 := mask_gen n 20 (by decide) 1048575 rfl
theorem wrap64_of {n : Int} (h0 : -9223372036854775808 ≤ n) (h1 : n ≤ 9223372036854775807) : wrap64 n = n := by
  unfold wrap64
  omega
theorem tmod3 (n : Int) : 0 ≤ Int.tmod (IntKind.u64.wrap n) 3 ∧ Int.tmod (IntKind.u64.wrap n) 3 < 3 := by
  rw [IntKind.wrap_u64, Int.tmod_eq_emod_of_nonneg (by omega)]
  omega
theorem tmod4 (n : Int) : 0 ≤ Int.tmod (IntKind.u64.wrap n) 4 ∧ Int.tmod (IntKind.u64.wrap n) 4 < 4 := by
  rw [IntKind.wrap_u64, Int.tmod_eq_emod_of_nonneg (by omega)]
  omega
end Go.Proofs.Ytbdlkcgaobkdcaa

/- Plain facts on masks and tdiv on int64 numbers; no program in sight. -/
import Derived.Laws.BitsLemmas
import Derived.WalkKit
namespace Go.Proofs.YtoggmpihojkbfaaBits
open Go Go.RowKit

theorem ofInt64_toNat (x : Int) : ((BitVec.ofInt 64 x).toNat : Int) = x % 18446744073709551616 := by
  rw [BitVec.toNat_ofInt]
  have : (0 : Int) ≤ x % ((2 ^ 64 : Nat) : Int) := Int.emod_nonneg _ (by decide)
  rw [Int.toNat_of_nonneg this]
  rfl

theorem wrap_small (n : Int) (h0 : 0 ≤ n) (h1 : n < 9223372036854775808) : IntKind.i64.wrap n = n := by
  rw [IntKind.wrap_i64]; omega

/-- 'x & (2^i - 1)' on int: the rest by 2^i, also below 0. -/
theorem and_mask (i : Nat) (hi : i ≤ 62) (x : Int) : bits .and .i64 x (2 ^ i - 1) = x % 2 ^ i := by
  have hp : (2 : Int) ^ i = ((2 ^ i : Nat) : Int) := by simp
  have hpos : 0 < 2 ^ i := Nat.two_pow_pos i
  have hlt : 2 ^ i ≤ 2 ^ 62 := Nat.pow_le_pow_right (by decide) hi
  have hm : ((2 : Int) ^ i - 1) = ((2 ^ i - 1 : Nat) : Int) := by rw [Int.natCast_sub hpos]; simp
  have hx := ofInt64_toNat x
  rw [show bits .and .i64 x (2 ^ i - 1) = IntKind.i64.wrap ((BitVec.ofInt 64 x &&& BitVec.ofInt 64 (2 ^ i - 1)).toNat : Int) from rfl]
  rw [hm]
  simp only [BitVec.ofInt_natCast, BitVec.toNat_and, BitVec.toNat_ofNat]
  rw [Nat.mod_eq_of_lt (show 2 ^ i - 1 < 2 ^ 64 by omega), Nat.and_two_pow_sub_one_eq_mod]
  have hd : ((2 ^ i : Nat) : Int) ∣ 18446744073709551616 := by
    rw [show (18446744073709551616 : Int) = ((2 ^ 64 : Nat) : Int) from rfl]
    exact Int.natCast_dvd_natCast.mpr (Nat.pow_dvd_pow 2 (by omega))
  have e : (((BitVec.ofInt 64 x).toNat % 2 ^ i : Nat) : Int) = x % ((2 ^ i : Nat) : Int) := by
    rw [Int.natCast_emod, hx, Int.emod_emod_of_dvd _ hd]
  rw [e, hp]
  have h1 : x % ((2 ^ i : Nat) : Int) < ((2 ^ i : Nat) : Int) := Int.emod_lt_of_pos _ (by exact_mod_cast hpos)
  have h0 : 0 ≤ x % ((2 ^ i : Nat) : Int) := Int.emod_nonneg _ (by omega)
  exact wrap_small _ h0 (by omega)

theorem and_one (x : Int) : bits .and .i64 x 1 = x % 2 := and_mask 1 (by decide) x
theorem and_three (x : Int) : bits .and .i64 x 3 = x % 4 := and_mask 2 (by decide) x
theorem and_word (x : Int) : bits .and .i64 x 65535 = x % 65536 := and_mask 16 (by decide) x
theorem tmod2 (x : Int) (h : 0 ≤ x) : Int.tmod x 2 = x % 2 := Int.tmod_eq_emod_of_nonneg h
theorem tmod4 (x : Int) (h : 0 ≤ x) : Int.tmod x 4 = x % 4 := Int.tmod_eq_emod_of_nonneg h
theorem tdiv2 (x : Int) (h : 0 ≤ x) : Int.tdiv x 2 = x / 2 := Int.tdiv_eq_ediv_of_nonneg h
theorem tdiv2_neg (x : Int) (h : x ≤ 0) : Int.tdiv x 2 = -((-x) / 2) := by
  have := Int.neg_tdiv (-x) 2
  rw [Int.neg_neg] at this
  rw [this, Int.tdiv_eq_ediv_of_nonneg (by omega)]
theorem w64 (x : Int) (h0 : -9223372036854775808 ≤ x) (h1 : x ≤ 9223372036854775807) : wrap64 x = x := by unfold wrap64; omega
theorem wf64 {x : Int} (h : (Lit.int .i64 x).wf = true) : -9223372036854775808 ≤ x ∧ x ≤ 9223372036854775807 := by
  have h' : IntKind.i64.min ≤ x ∧ x ≤ IntKind.i64.max := by simpa [Lit.wf] using h
  exact h'
#print axioms and_mask
end Go.Proofs.YtoggmpihojkbfaaBits

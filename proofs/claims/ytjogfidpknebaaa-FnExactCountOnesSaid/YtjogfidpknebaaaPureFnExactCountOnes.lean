/- The pure statement of FnExactCountOnes: the program returns what the reference returns, for all arguments. -/
import Derived.Test.YtjogfidpknebaaaXFnExactCountOnesx1
import Derived.Test.YtjogfidpknebaaaBits
namespace Go.Proofs.Ytjogfidpknebaaa.Pure
open Go.RowKit Go.Proofs.Ytjogfidpknebaaa.XFnExactCountOnes Go.Proofs.YtjogfidpknebaaaW.PrintWords Go.Proofs.YtjogfidpknebaaaW.PrintLast Go.Proofs.YtjogfidpknebaaaW.PrintMore Go.Proofs.YtjogfidpknebaaaBits

theorem inb (a l h : Int) : ∃ r, spec_l1In.f a l h = some r ∧ impl_in.f a l h = some r ∧ (r = true ↔ l ≤ a ∧ a ≤ h) := by
  refine ⟨decide (l ≤ a ∧ a ≤ h), ?_, ?_, by simp⟩
  all_goals
    simp only [spec_l1In.f, impl_in.f]
    by_cases h1 : a ≥ l <;> simp [*]

theorem and_u64 (n m : Nat) (hn : n < 18446744073709551616) (hm : m < 18446744073709551616) : Go.bits .and .u64 (n : Int) (m : Int) = ((n &&& m : Nat) : Int) :=
  (bits_nat .u64 64 (by decide) (fun x h0 h1 => by simp [IntKind.wrap, IntKind.bits, IntKind.signed]; omega) n m hn hm).1
theorem wrap_u64 (n : Nat) (hn : n < 18446744073709551616) : IntKind.u64.wrap (n : Int) = n := by
  simp [IntKind.wrap, IntKind.bits, IntKind.signed]; omega
def o1 (n : Nat) : Nat := (n / 2 &&& 6148914691236517205) + (n &&& 6148914691236517205)
def o2 (n : Nat) : Nat := (n / 4 &&& 3689348814741910323) + (n &&& 3689348814741910323)
def o3 (n : Nat) : Nat := (n / 16 + n) &&& 1085102592571150095
def o4 (n : Nat) : Nat := n + n / 256
def o5 (n : Nat) : Nat := n + n / 65536
def o6 (n : Nat) : Nat := n + n / 4294967296
def ones (n : Nat) : Nat := o6 (o5 (o4 (o3 (o2 (o1 n))))) &&& 127
def pc : Nat → Nat → Nat
  | 0, _ => 0
  | f + 1, n => n % 2 + pc f (n / 2)
theorem ones_pc0 : ((List.range 256).all fun a => (List.range 256).all fun b => Nat.beq (ones (256 * a + b)) (pc 16 (256 * a + b))) = true := by kernel_rfl
theorem ones_pc (n : Nat) (h : n < 65536) : ones n = pc 16 n := by
  have h1 := List.all_eq_true.1 ones_pc0 (n / 256) (List.mem_range.2 (by omega))
  have h2 := List.all_eq_true.1 h1 (n % 256) (List.mem_range.2 (by omega))
  rw [show 256 * (n / 256) + n % 256 = n by omega] at h2
  exact Nat.eq_of_beq_eq_true h2
theorem ones_go (n : Nat) (h : n < 65536) : bits_OnesCount64.f (n : Int) = some (ones n : Int) := by
  have b1 : o1 n < 98304 := by
    have := @Nat.and_le_left (n / 2) 6148914691236517205; have := @Nat.and_le_left n 6148914691236517205
    unfold o1; omega
  have b2 : o2 (o1 n) < 122880 := by
    have := @Nat.and_le_left (o1 n / 4) 3689348814741910323; have := @Nat.and_le_left (o1 n) 3689348814741910323
    unfold o2; omega
  have b3 : o3 (o2 (o1 n)) < 130561 := by
    have := @Nat.and_le_left (o2 (o1 n) / 16 + o2 (o1 n)) 1085102592571150095
    unfold o3; omega
  have b4 : o4 (o3 (o2 (o1 n))) < 131072 := by unfold o4; omega
  have b5 : o5 (o4 (o3 (o2 (o1 n)))) < 131075 := by unfold o5; omega
  have b6 : o6 (o5 (o4 (o3 (o2 (o1 n))))) < 131076 := by unfold o6; omega
  have e1 : IntKind.u64.wrap ((Go.bits .and .u64 ((n : Int) / 2) 6148914691236517205) + (Go.bits .and .u64 (n : Int) 6148914691236517205)) = (o1 n : Int) := by
    have z1 := and_u64 (n / 2) 6148914691236517205 (by omega) (by decide)
    have z2 := and_u64 n 6148914691236517205 (by omega) (by decide)
    have z3 := wrap_u64 (o1 n) (by omega)
    unfold o1 at z3 ⊢
    simp only [Int.cast_ofNat_Int, Int.natCast_ediv, Int.natCast_add] at z1 z2 z3 ⊢
    rw [z1, z2, z3]
  have e2 : IntKind.u64.wrap ((Go.bits .and .u64 ((o1 n : Int) / 4) 3689348814741910323) + (Go.bits .and .u64 (o1 n : Int) 3689348814741910323)) = (o2 (o1 n) : Int) := by
    generalize o1 n = m at *
    have z1 := and_u64 (m / 4) 3689348814741910323 (by omega) (by decide)
    have z2 := and_u64 m 3689348814741910323 (by omega) (by decide)
    have z3 := wrap_u64 (o2 m) (by omega)
    unfold o2 at z3 ⊢
    simp only [Int.cast_ofNat_Int, Int.natCast_ediv, Int.natCast_add] at z1 z2 z3 ⊢
    rw [z1, z2, z3]
  have e3 : Go.bits .and .u64 (IntKind.u64.wrap (((o2 (o1 n) : Int) / 16) + (o2 (o1 n) : Int))) 1085102592571150095 = (o3 (o2 (o1 n)) : Int) := by
    generalize o2 (o1 n) = m at *
    have z1 := and_u64 (m / 16 + m) 1085102592571150095 (by omega) (by decide)
    have z3 := wrap_u64 (m / 16 + m) (by omega)
    unfold o3
    simp only [Int.cast_ofNat_Int, Int.natCast_ediv, Int.natCast_add] at z1 z3 ⊢
    rw [z3, z1]
  have e4 : IntKind.u64.wrap ((o3 (o2 (o1 n)) : Int) + (o3 (o2 (o1 n)) : Int) / 256) = (o4 (o3 (o2 (o1 n))) : Int) := by
    have z3 := wrap_u64 (o4 (o3 (o2 (o1 n)))) (by omega)
    generalize o3 (o2 (o1 n)) = m at *
    unfold o4 at z3 ⊢
    simp only [Int.cast_ofNat_Int, Int.natCast_ediv, Int.natCast_add] at z3 ⊢
    exact z3
  have e5 : IntKind.u64.wrap ((o4 (o3 (o2 (o1 n))) : Int) + (o4 (o3 (o2 (o1 n))) : Int) / 65536) = (o5 (o4 (o3 (o2 (o1 n)))) : Int) := by
    have z3 := wrap_u64 (o5 (o4 (o3 (o2 (o1 n))))) (by omega)
    generalize o4 (o3 (o2 (o1 n))) = m at *
    unfold o5 at z3 ⊢
    simp only [Int.cast_ofNat_Int, Int.natCast_ediv, Int.natCast_add] at z3 ⊢
    exact z3
  have e6 : IntKind.u64.wrap ((o5 (o4 (o3 (o2 (o1 n)))) : Int) + (o5 (o4 (o3 (o2 (o1 n)))) : Int) / 4294967296) = (o6 (o5 (o4 (o3 (o2 (o1 n))))) : Int) := by
    have z3 := wrap_u64 (o6 (o5 (o4 (o3 (o2 (o1 n)))))) (by omega)
    generalize o5 (o4 (o3 (o2 (o1 n)))) = m at *
    unfold o6 at z3 ⊢
    simp only [Int.cast_ofNat_Int, Int.natCast_ediv, Int.natCast_add] at z3 ⊢
    exact z3
  unfold bits_OnesCount64.f ones
  rw [e1, e2, e3, e4, e5, e6]
  generalize o6 (o5 (o4 (o3 (o2 (o1 n))))) = m at *
  rw [w64 m (by omega) (by omega)]
  have z := (bits_nat .i64 62 (by decide) (fun x h0 h1 => wrap_small x h0 (by omega)) m 127 (by omega) (by decide)).1
  simp only [Int.cast_ofNat_Int] at z
  rw [z]
theorem spec_ones (f : Nat) : ∀ (k : Nat) (x : Nat) (c : Int), x < 2 ^ f → 0 ≤ c → c ≤ 1000 - f → f < k → spec_CountOnes.l0 k x c = some (c + pc f x, true) := by
  induction f with
  | zero =>
    intro k x c hx h0 h1 hk
    obtain ⟨k, rfl⟩ : ∃ m, k = m + 1 := ⟨k - 1, by omega⟩
    obtain rfl : x = 0 := by omega
    simp [spec_CountOnes.l0, pc]
  | succ f ih =>
    intro k x c hx h0 h1 hk
    obtain ⟨k, rfl⟩ : ∃ m, k = m + 1 := ⟨k - 1, by omega⟩
    by_cases hx0 : x = 0
    · subst hx0
      have hp : ∀ f, pc f 0 = 0 := by
        intro f
        induction f with
        | zero => rfl
        | succ f ih => simp [pc, ih]
      simp [spec_CountOnes.l0, hp]
    · simp only [spec_CountOnes.l0]
      rw [if_pos (by omega), and_one, w64 _ (by omega) (by omega)]
      have := ih k (x / 2) (c + (x : Int) % 2) (by rw [Nat.pow_succ] at hx; omega) (by omega) (by omega) (by omega)
      rw [show ((x / 2 : Nat) : Int) = (x : Int) / 2 by omega] at this
      rw [this]
      simp only [pc, Option.some.injEq, Prod.mk.injEq, and_true]
      omega

theorem FnExactCountOnes : laws_FnExactCountOnes.Pure := by
  intro a _
  refine ⟨17, ?_⟩
  obtain ⟨q, g1, g2, g3⟩ := inb a 0 65535
  cases q with
  | false => simp [laws_FnExactCountOnes.f, spec_CountOnes.f, spec_l1Word.f, impl_CountOnes.f, impl_isWord.f, g1, g2]
  | true =>
    obtain ⟨h0, h1⟩ := g3.1 rfl
    obtain ⟨n, rfl⟩ := Int.eq_ofNat_of_zero_le h0
    have e1 := spec_ones 16 17 n 0 (by omega) (by omega) (by omega) (by omega)
    have e2 := ones_go n (by omega)
    rw [ones_pc n (by omega)] at e2
    have e3 := wrap_u64 n (by omega)
    simp [laws_FnExactCountOnes.f, spec_CountOnes.f, spec_l1Word.f, impl_CountOnes.f, impl_isWord.f, bits_OnesCount.f, g1, g2, e1, e2, e3]

end Go.Proofs.Ytjogfidpknebaaa.Pure

/- The pure statement of FnExactMagicFor: the program returns what the reference returns, for all arguments. -/
import Derived.Test.YtjogfidpknebaaaXFnExactMagicForx1
import Derived.Test.YtjogfidpknebaaaBits
namespace Go.Proofs.Ytjogfidpknebaaa.Pure
open Go.RowKit Go.Proofs.Ytjogfidpknebaaa.XFnExactMagicFor Go.Proofs.YtjogfidpknebaaaW.PrintWords Go.Proofs.YtjogfidpknebaaaW.PrintLast Go.Proofs.YtjogfidpknebaaaW.PrintMore Go.Proofs.YtjogfidpknebaaaBits

theorem inb (a l h : Int) : ∃ r, spec_l1In.f a l h = some r ∧ impl_in.f a l h = some r ∧ (r = true ↔ l ≤ a ∧ a ≤ h) := by
  refine ⟨decide (l ≤ a ∧ a ≤ h), ?_, ?_, by simp⟩
  all_goals
    simp only [spec_l1In.f, impl_in.f]
    by_cases h1 : a ≥ l <;> simp [*]

theorem u64_of (c : Int) (h0 : 0 ≤ c) (h1 : c ≤ 64) : IntKind.u64.wrap c = c := by
  simp [IntKind.wrap, IntKind.bits, IntKind.signed]; omega
theorem two32 : shl .i64 1 32 = 4294967296 := by decide
theorem two16 : shl .i64 1 16 = 65536 := by decide
theorem magic_loop (x : Int) (hx0 : 1 ≤ x) (hx1 : x ≤ 65535) (d : Nat) : ∀ (k : Nat) (l : Int), 16 ≤ l → l ≤ 32 → 32 - l = d → d < k →
    ∃ m s, spec_MagicFor.l0 k x l = some (x, m, s, true) ∧ impl_MagicFor.l0 k x l = some (x, m, s, true) := by
  induction d with
  | zero =>
    intro k l h0 h1 hd hk
    obtain ⟨k, rfl⟩ : ∃ m, k = m + 1 := ⟨k - 1, by omega⟩
    obtain rfl : l = 32 := by omega
    have e0 : x ≠ 0 := by omega
    have w1 : wrap64 ((4294967296 : Int) + x) = 4294967296 + x := w64 _ (by omega) (by omega)
    have w2 : wrap64 (4294967296 + x - 1) = 4294967296 + x - 1 := w64 _ (by omega) (by omega)
    have w3 : Int.tdiv (4294967296 + x - 1) x = (4294967296 + x - 1) / x := Int.tdiv_eq_ediv_of_nonneg (by omega)
    have hq0 : 0 ≤ (4294967296 + x - 1) / x := Int.ediv_nonneg (by omega) (by omega)
    have hq1 : (4294967296 + x - 1) / x * x ≤ 4294967296 + x - 1 := Int.ediv_mul_le _ e0
    have hq2 : (4294967296 + x - 1) / x ≤ (4294967296 + x - 1) / x * x := by
      have := Int.mul_le_mul_of_nonneg_left hx0 hq0
      omega
    generalize (4294967296 + x - 1) / x = q at *
    have hq3 : 0 ≤ q * x := by omega
    refine ⟨q, 32, ?_, ?_⟩
    · simp only [spec_MagicFor.l0, u64_of 32 (by decide) (by decide), two32, w1, w2, w3]
      rw [if_pos (by decide), if_pos (by decide), if_neg e0]
      rw [show wrap64 ((32 : Int) - 16) = 16 from by rw [w64 _ (by decide) (by decide)]; rfl, u64_of 16 (by decide) (by decide), two16, if_pos (by decide)]
      rw [w64 q (by omega) (by omega), w64 (q * x) (by omega) (by omega), w64 (q * x - 4294967296) (by omega) (by omega), if_pos (by omega)]
    · simp only [impl_MagicFor.l0, two32, w1, w2, w3]
      rw [if_pos (by decide), if_neg e0]
      rw [show wrap64 ((32 : Int) - 16) = 16 from by rw [w64 _ (by decide) (by decide)]; rfl, two16, if_pos (by decide)]
      rw [w64 q (by omega) (by omega), w64 (q * x) (by omega) (by omega), w64 (q * x - 4294967296) (by omega) (by omega), if_pos (by omega)]
  | succ d ih =>
    intro k l h0 h1 hd hk
    obtain ⟨k, rfl⟩ : ∃ m, k = m + 1 := ⟨k - 1, by omega⟩
    obtain ⟨m, s, e1, e2⟩ := ih k (l + 1) (by omega) (by omega) (by omega) (by omega)
    have e0 : x ≠ 0 := by omega
    simp only [spec_MagicFor.l0, impl_MagicFor.l0, u64_of l (by omega) (by omega)]
    rw [if_pos h1, if_pos (show 0 ≤ l by omega), if_neg e0, if_pos (show 0 ≤ l by omega), if_neg e0, w64 (l - 16) (by omega) (by omega), u64_of (l - 16) (by omega) (by omega), if_pos (show 0 ≤ l - 16 by omega), if_pos (show 0 ≤ l - 16 by omega), w64 (l + 1) (by omega) (by omega), e1, e2]
    split
    · exact ⟨_, _, rfl, rfl⟩
    · exact ⟨_, _, rfl, rfl⟩

theorem FnExactMagicFor : laws_FnExactMagicFor.Pure := by
  intro a _
  refine ⟨17, ?_⟩
  obtain ⟨q, g1, g2, g3⟩ := inb a 1 65535
  cases q with
  | false => simp [laws_FnExactMagicFor.f, spec_MagicFor.f, impl_MagicFor.f, laws_eqMagic.f, g1, g2]
  | true =>
    obtain ⟨h0, h1⟩ := g3.1 rfl
    obtain ⟨m, s, e1, e2⟩ := magic_loop a h0 h1 16 17 16 (by decide) (by decide) (by decide) (by decide)
    simp [laws_FnExactMagicFor.f, spec_MagicFor.f, impl_MagicFor.f, laws_eqMagic.f, g1, g2, e1, e2]

end Go.Proofs.Ytjogfidpknebaaa.Pure

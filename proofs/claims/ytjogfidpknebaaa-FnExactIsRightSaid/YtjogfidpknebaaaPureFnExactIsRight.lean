/- The pure statement of FnExactIsRight: the program returns what the reference returns, for all arguments. -/
import Derived.Test.YtjogfidpknebaaaPFnExactIsRightx1
import Derived.Test.YtjogfidpknebaaaBits
namespace Go.Proofs.Ytjogfidpknebaaa.Pure
open Go.RowKit Go.Proofs.Ytjogfidpknebaaa.PFnExactIsRight Go.Proofs.YtjogfidpknebaaaW.PrintWords Go.Proofs.YtjogfidpknebaaaW.PrintLast Go.Proofs.YtjogfidpknebaaaW.PrintMore Go.Proofs.YtjogfidpknebaaaBits

theorem good (a b c : Int) : ∃ r, spec_GoodMagic.f a b c = some r ∧ impl_isMagic.f a b c = some r ∧ (r = true ↔ (1 ≤ a ∧ a ≤ 65535) ∧ (0 ≤ b ∧ b ≤ 131071) ∧ (0 ≤ c ∧ c ≤ 32)) := by
  refine ⟨decide ((1 ≤ a ∧ a ≤ 65535) ∧ (0 ≤ b ∧ b ≤ 131071) ∧ (0 ≤ c ∧ c ≤ 32)), ?_, ?_, by simp⟩
  all_goals
    simp only [spec_GoodMagic.f, spec_l1In.f, impl_isMagic.f, impl_in.f]
    by_cases h1 : a ≥ 1 <;> by_cases h2 : a ≤ 65535 <;> by_cases h3 : b ≥ 0 <;> by_cases h4 : b ≤ 131071 <;> by_cases h5 : c ≥ 0 <;> simp [*]

theorem wrapU (c : Int) (h0 : 0 ≤ c) (h1 : c ≤ 32) : IntKind.u64.wrap c = c := by
  simp [IntKind.wrap, IntKind.bits, IntKind.signed]; omega
theorem l2div (a b c n : Int) (h0 : 0 ≤ c) (h1 : c ≤ 32) : spec_l2Div.f a b c n = some (shr .i64 (wrap64 (n * b)) c) := by
  simp [spec_l2Div.f, wrapU c h0 h1, h0]

theorem right_loop (a b c : Int) (ha0 : 1 ≤ a) (hc0 : 0 ≤ c) (hc1 : c ≤ 32) (d : Nat) : ∀ (k : Nat) (n : Int), 0 ≤ n → n ≤ 65536 → 65536 - n = d → d < k →
    ∃ r, spec_IsRight.l0 k n a b c = some (r, true) ∧ impl_IsRight.l0 k n a b c = some (r, true) := by
  have e0 : a ≠ 0 := by omega
  induction d with
  | zero =>
    intro k n h0 h1 hd hk
    obtain ⟨k, rfl⟩ : ∃ m, k = m + 1 := ⟨k - 1, by omega⟩
    exact ⟨true, by simp only [spec_IsRight.l0]; rw [if_neg (by omega)], by simp only [impl_IsRight.l0]; rw [if_neg (by omega)]⟩
  | succ d ih =>
    intro k n h0 h1 hd hk
    obtain ⟨k, rfl⟩ : ∃ m, k = m + 1 := ⟨k - 1, by omega⟩
    obtain ⟨r, e1, e2⟩ := ih k (n + 1) (by omega) (by omega) (by omega) (by omega)
    simp only [spec_IsRight.l0, impl_IsRight.l0, l2div a b c n hc0 hc1, Option.bind_some]
    rw [if_pos (show n ≤ 65535 by omega), if_neg e0, if_pos (show n < 65536 by omega), if_pos hc0, if_neg e0, w64 (n + 1) (by omega) (by omega), e1, e2]
    split
    · exact ⟨r, rfl, rfl⟩
    · exact ⟨false, rfl, rfl⟩

theorem FnExactIsRight (a b c : Int) (_ : (Lit.int .i64 a).wf = true ∧ (Lit.int .i64 b).wf = true ∧ (Lit.int .i64 c).wf = true) : ∃ k, laws_FnExactIsRight.f k a b c = some true := by
  refine ⟨65537, ?_⟩
  obtain ⟨r, h1, h2, h3⟩ := good a b c
  cases r with
  | false => simp [laws_FnExactIsRight.f, laws_toMagic.f, spec_IsRight.f, impl_IsRight.f, h1, h2]
  | true =>
    obtain ⟨⟨ha, _⟩, _, hc0, hc1⟩ := h3.1 rfl
    obtain ⟨r, e1, e2⟩ := right_loop a b c ha hc0 hc1 65536 65537 0 (by decide) (by decide) (by decide) (by decide)
    simp [laws_FnExactIsRight.f, laws_toMagic.f, spec_IsRight.f, impl_IsRight.f, h1, h2, e1, e2]

end Go.Proofs.Ytjogfidpknebaaa.Pure

/- The pure statement of FnExactModBy: the program returns what the reference returns, for all arguments. -/
import Derived.Test.YtajoheooafldpaaPFnExactModByx1
import Derived.Test.YtajoheooafldpaaBits
namespace Go.Proofs.Ytajoheooafldpaa.Pure
open Go.RowKit Go.Proofs.Ytajoheooafldpaa.PFnExactModBy Go.Proofs.YtajoheooafldpaaW.PrintWords Go.Proofs.YtajoheooafldpaaW.PrintLast Go.Proofs.YtajoheooafldpaaW.PrintMore Go.Proofs.YtajoheooafldpaaBits

theorem good (a b c : Int) : ∃ r, spec_GoodMagic.f a b c = some r ∧ impl_isMagic.f a b c = some r ∧ (r = true ↔ (1 ≤ a ∧ a ≤ 65535) ∧ (0 ≤ b ∧ b ≤ 131071) ∧ (0 ≤ c ∧ c ≤ 32)) := by
  refine ⟨decide ((1 ≤ a ∧ a ≤ 65535) ∧ (0 ≤ b ∧ b ≤ 131071) ∧ (0 ≤ c ∧ c ≤ 32)), ?_, ?_, by simp⟩
  all_goals
    simp only [spec_GoodMagic.f, spec_l1In.f, impl_isMagic.f, impl_in.f]
    by_cases h1 : a ≥ 1 <;> by_cases h2 : a ≤ 65535 <;> by_cases h3 : b ≥ 0 <;> by_cases h4 : b ≤ 131071 <;> by_cases h5 : c ≥ 0 <;> simp [*]

theorem inb (a l h : Int) : ∃ r, spec_l1In.f a l h = some r ∧ impl_in.f a l h = some r ∧ (r = true ↔ l ≤ a ∧ a ≤ h) := by
  refine ⟨decide (l ≤ a ∧ a ≤ h), ?_, ?_, by simp⟩
  all_goals
    simp only [spec_l1In.f, impl_in.f]
    by_cases h1 : a ≥ l <;> simp [*]

theorem wrapU (c : Int) (h0 : 0 ≤ c) (h1 : c ≤ 32) : IntKind.u64.wrap c = c := by
  simp [IntKind.wrap, IntKind.bits, IntKind.signed]; omega
theorem l2div (a b c n : Int) (h0 : 0 ≤ c) (h1 : c ≤ 32) : spec_l2Div.f a b c n = some (shr .i64 (wrap64 (n * b)) c) := by
  simp [spec_l2Div.f, wrapU c h0 h1, h0]

theorem FnExactModBy (a b c n : Int) (_ : (Lit.int .i64 a).wf = true ∧ (Lit.int .i64 b).wf = true ∧ (Lit.int .i64 c).wf = true) (_ : (Lit.int .i64 n).wf = true) : laws_FnExactModBy.f a b c n = some true := by
  obtain ⟨r, h1, h2, h3⟩ := good a b c
  obtain ⟨q, g1, g2, g3⟩ := inb n 0 65535
  cases r with
  | false => simp [laws_FnExactModBy.f, laws_toMagic.f, spec_ModBy.f, impl_ModBy.f, h1, h2]
  | true =>
    obtain ⟨_, _, hc0, hc1⟩ := h3.1 rfl
    cases q <;> simp [laws_FnExactModBy.f, laws_toMagic.f, spec_ModBy.f, impl_ModBy.f, h1, h2, g1, g2, hc0, l2div a b c n hc0 hc1]

end Go.Proofs.Ytajoheooafldpaa.Pure

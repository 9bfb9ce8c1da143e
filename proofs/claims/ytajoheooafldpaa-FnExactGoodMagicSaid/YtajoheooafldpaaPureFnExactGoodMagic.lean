/- The pure statement of FnExactGoodMagic: the program returns what the reference returns, for all arguments. -/
import Derived.Test.YtajoheooafldpaaPFnExactGoodMagicx1
import Derived.Test.YtajoheooafldpaaBits
namespace Go.Proofs.Ytajoheooafldpaa.Pure
open Go.RowKit Go.Proofs.Ytajoheooafldpaa.PFnExactGoodMagic Go.Proofs.YtajoheooafldpaaW.PrintWords Go.Proofs.YtajoheooafldpaaW.PrintLast Go.Proofs.YtajoheooafldpaaW.PrintMore Go.Proofs.YtajoheooafldpaaBits

theorem good (a b c : Int) : ∃ r, spec_GoodMagic.f a b c = some r ∧ impl_GoodMagic.f a b c = some r ∧ (r = true ↔ (1 ≤ a ∧ a ≤ 65535) ∧ (0 ≤ b ∧ b ≤ 131071) ∧ (0 ≤ c ∧ c ≤ 32)) := by
  refine ⟨decide ((1 ≤ a ∧ a ≤ 65535) ∧ (0 ≤ b ∧ b ≤ 131071) ∧ (0 ≤ c ∧ c ≤ 32)), ?_, ?_, by simp⟩
  all_goals
    simp only [spec_GoodMagic.f, spec_l1In.f, impl_GoodMagic.f, impl_isMagic.f, impl_in.f]
    by_cases h1 : a ≥ 1 <;> by_cases h2 : a ≤ 65535 <;> by_cases h3 : b ≥ 0 <;> by_cases h4 : b ≤ 131071 <;> by_cases h5 : c ≥ 0 <;> simp [*]

theorem FnExactGoodMagic (a b c : Int) (_ : (Lit.int .i64 a).wf = true ∧ (Lit.int .i64 b).wf = true ∧ (Lit.int .i64 c).wf = true) : laws_FnExactGoodMagic.f a b c = some true := by
  obtain ⟨r, h1, h2, _⟩ := good a b c
  simp [laws_FnExactGoodMagic.f, laws_toMagic.f, h1, h2]

end Go.Proofs.Ytajoheooafldpaa.Pure

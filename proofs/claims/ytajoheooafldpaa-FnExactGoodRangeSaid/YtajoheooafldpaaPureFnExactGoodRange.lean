/- The pure statement of FnExactGoodRange: the program returns what the reference returns, for all arguments. -/
import Derived.Test.YtajoheooafldpaaPFnExactGoodRangex1
import Derived.Test.YtajoheooafldpaaBits
namespace Go.Proofs.Ytajoheooafldpaa.Pure
open Go.RowKit Go.Proofs.Ytajoheooafldpaa.PFnExactGoodRange Go.Proofs.YtajoheooafldpaaW.PrintWords Go.Proofs.YtajoheooafldpaaW.PrintLast Go.Proofs.YtajoheooafldpaaW.PrintMore Go.Proofs.YtajoheooafldpaaBits

theorem FnExactGoodRange (a : Bool) (b c : Int) (_ : True ∧ (Lit.int .i64 b).wf = true ∧ (Lit.int .i64 c).wf = true) : laws_FnExactGoodRange.f a b c = some true := by
  simp only [laws_FnExactGoodRange.f, laws_toRange.f, spec_GoodRange.f, spec_l1Word.f, spec_l1In.f, impl_GoodRange.f, impl_isSpan.f, impl_isWord.f, impl_in.f]
  cases a
  · by_cases h1 : b ≥ 0 <;> by_cases h2 : b ≤ 65535 <;> by_cases h3 : c ≥ b <;> by_cases h4 : c ≤ 65535 <;> by_cases h5 : c ≥ 0 <;> first | omega | simp [*] | (simp [*]; omega)
  · by_cases h1 : b = 0 <;> by_cases h2 : c = 0 <;> simp [*]

end Go.Proofs.Ytajoheooafldpaa.Pure

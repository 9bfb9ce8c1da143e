/- The pure statement of FnExactGoodFact: the program returns what the reference returns, for all arguments. -/
import Derived.Test.YtajoheooafldpaaPFnExactGoodFactx1
import Derived.Test.YtajoheooafldpaaBits
namespace Go.Proofs.Ytajoheooafldpaa.Pure
open Go.RowKit Go.Proofs.Ytajoheooafldpaa.PFnExactGoodFact Go.Proofs.YtajoheooafldpaaW.PrintWords Go.Proofs.YtajoheooafldpaaW.PrintLast Go.Proofs.YtajoheooafldpaaW.PrintMore Go.Proofs.YtajoheooafldpaaBits

theorem FnExactGoodFact (a b : Bool) (c : Int) (_ : True ∧ True ∧ (Lit.int .i64 c).wf = true) : laws_FnExactGoodFact.f a b c = some true := by
  simp only [laws_FnExactGoodFact.f, laws_toFact.f, spec_GoodFact.f, spec_l1Word.f, spec_l1In.f, impl_GoodFact.f, impl_isFact.f, impl_isWord.f, impl_in.f]
  cases a <;> cases b <;> by_cases h0 : c = 0 <;> by_cases h1 : c ≥ 0 <;> by_cases h2 : c ≤ 65535 <;> first | omega | simp [*]

end Go.Proofs.Ytajoheooafldpaa.Pure

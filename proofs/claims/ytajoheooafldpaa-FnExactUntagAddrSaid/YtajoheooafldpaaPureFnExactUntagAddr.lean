/- The pure statement of FnExactUntagAddr: the program returns what the reference returns, for all arguments. -/
import Derived.Test.YtajoheooafldpaaPFnExactUntagAddrx1
import Derived.Test.YtajoheooafldpaaBits
namespace Go.Proofs.Ytajoheooafldpaa.Pure
open Go.RowKit Go.Proofs.Ytajoheooafldpaa.PFnExactUntagAddr Go.Proofs.YtajoheooafldpaaW.PrintWords Go.Proofs.YtajoheooafldpaaW.PrintLast Go.Proofs.YtajoheooafldpaaW.PrintMore Go.Proofs.YtajoheooafldpaaBits

theorem FnExactUntagAddr : laws_FnExactUntagAddr.Pure := by
  intro a _
  by_cases h0 : a ≥ 0
  · by_cases h1 : a ≤ 65535 <;> by_cases h2 : a % 2 = 1 <;>
      simp [laws_FnExactUntagAddr.f, spec_UntagAddr.f, spec_l1Word.f, spec_l1In.f, impl_UntagAddr.f, impl_isWord.f, impl_in.f, h0, h1, and_one, tmod2 a h0, h2]
  · simp [laws_FnExactUntagAddr.f, spec_UntagAddr.f, spec_l1Word.f, spec_l1In.f, impl_UntagAddr.f, impl_isWord.f, impl_in.f, h0]

end Go.Proofs.Ytajoheooafldpaa.Pure

/- The pure statement of FnExactTagAddr: the program returns what the reference returns, for all arguments. -/
import Derived.Test.YtajoheooafldpaaPFnExactTagAddrx1
import Derived.Test.YtajoheooafldpaaBits
namespace Go.Proofs.Ytajoheooafldpaa.Pure
open Go.RowKit Go.Proofs.Ytajoheooafldpaa.PFnExactTagAddr Go.Proofs.YtajoheooafldpaaW.PrintWords Go.Proofs.YtajoheooafldpaaW.PrintLast Go.Proofs.YtajoheooafldpaaW.PrintMore Go.Proofs.YtajoheooafldpaaBits

theorem FnExactTagAddr : laws_FnExactTagAddr.Pure := by
  intro a _
  by_cases h0 : a ≥ 0 <;> by_cases h1 : a ≤ 32767 <;>
    simp [laws_FnExactTagAddr.f, spec_TagAddr.f, spec_l1In.f, impl_TagAddr.f, impl_in.f, h0, h1]

end Go.Proofs.Ytajoheooafldpaa.Pure

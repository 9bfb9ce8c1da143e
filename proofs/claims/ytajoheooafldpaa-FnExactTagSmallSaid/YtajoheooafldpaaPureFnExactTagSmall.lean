/- The pure statement of FnExactTagSmall: the program returns what the reference returns, for all arguments. -/
import Derived.Test.YtajoheooafldpaaPFnExactTagSmallx1
import Derived.Test.YtajoheooafldpaaBits
namespace Go.Proofs.Ytajoheooafldpaa.Pure
open Go.RowKit Go.Proofs.Ytajoheooafldpaa.PFnExactTagSmall Go.Proofs.YtajoheooafldpaaW.PrintWords Go.Proofs.YtajoheooafldpaaW.PrintLast Go.Proofs.YtajoheooafldpaaW.PrintMore Go.Proofs.YtajoheooafldpaaBits

theorem FnExactTagSmall : laws_FnExactTagSmall.Pure := by
  intro a _
  by_cases h0 : a ≥ -16384 <;> by_cases h1 : a ≤ 16383 <;>
    simp [laws_FnExactTagSmall.f, spec_TagSmall.f, spec_l1Small.f, spec_l1In.f, impl_TagSmall.f, impl_isSmall.f, impl_in.f, impl_tag.f, h0, h1]

end Go.Proofs.Ytajoheooafldpaa.Pure

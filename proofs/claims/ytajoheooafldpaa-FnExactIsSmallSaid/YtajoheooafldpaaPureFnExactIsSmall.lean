/- The pure statement of FnExactIsSmall: the program's answer is the reference's, for every int. -/
import Derived.Test.YtajoheooafldpaaPFnExactIsSmallx1
import Derived.Test.YtajoheooafldpaaBits
namespace Go.Proofs.Ytajoheooafldpaa.Pure
open Go.RowKit Go.Proofs.Ytajoheooafldpaa.PFnExactIsSmall Go.Proofs.YtajoheooafldpaaW.PrintWords Go.Proofs.YtajoheooafldpaaW.PrintLast Go.Proofs.YtajoheooafldpaaBits

theorem FnExactIsSmall : laws_FnExactIsSmall.Pure := by
  intro a _
  by_cases h0 : a ≥ 0
  · simp [laws_FnExactIsSmall.f, spec_IsSmall.f, spec_l1Word.f, spec_l1In.f, impl_IsSmall.f, impl_isTagged.f, impl_isWord.f, impl_in.f, h0, and_one, tmod2 a h0]
    split <;> simp
  · simp [laws_FnExactIsSmall.f, spec_IsSmall.f, spec_l1Word.f, spec_l1In.f, impl_IsSmall.f, impl_isTagged.f, impl_isWord.f, impl_in.f, h0]

end Go.Proofs.Ytajoheooafldpaa.Pure

/- The pure statement of FnExactConstants: the program's constants are the reference's. -/
import Derived.Test.YtajoheooafldpaaPFnExactConstantsx1
import Derived.Test.YtajoheooafldpaaBits
namespace Go.Proofs.Ytajoheooafldpaa.Pure
open Go.RowKit Go.Proofs.Ytajoheooafldpaa.PFnExactConstants Go.Proofs.YtajoheooafldpaaW.PrintWords Go.Proofs.YtajoheooafldpaaW.PrintLast Go.Proofs.YtajoheooafldpaaW.PrintMore Go.Proofs.YtajoheooafldpaaBits

theorem FnExactConstants : laws_FnExactConstants.Pure := by
  simp [laws_FnExactConstants.Pure, laws_FnExactConstants.f]

end Go.Proofs.Ytajoheooafldpaa.Pure

/- The pure statement of FnExactUntagSmall: the program returns what the reference returns, for all arguments. -/
import Derived.Test.YtajoheooafldpaaPFnExactUntagSmallx1
import Derived.Test.YtajoheooafldpaaBits
namespace Go.Proofs.Ytajoheooafldpaa.Pure
open Go.RowKit Go.Proofs.Ytajoheooafldpaa.PFnExactUntagSmall Go.Proofs.YtajoheooafldpaaW.PrintWords Go.Proofs.YtajoheooafldpaaW.PrintLast Go.Proofs.YtajoheooafldpaaW.PrintMore Go.Proofs.YtajoheooafldpaaBits

theorem untag_eq (a : Int) (h0 : 0 ≤ a) (h1 : a ≤ 65535) (h2 : a % 2 = 1) : ∃ r, spec_UntagSmall.f a = some (r, true) ∧ impl_UntagSmall.f a = some (r, true) := by
  by_cases h : a ≥ 32768
  · refine ⟨(a - 65536) / 2, ?_, ?_⟩
    · simp [spec_UntagSmall.f, spec_IsSmall.f, spec_l1Word.f, spec_l1In.f, spec_l1Signed.f, h0, h1, h2, and_one, h, w64 (a - 65536) (by omega) (by omega)]
    · have e : Int.tdiv (a - 65536 - 1) 2 = (a - 65536) / 2 := by rw [tdiv2_neg _ (by omega)]; omega
      simp [impl_UntagSmall.f, impl_isTagged.f, impl_isWord.f, impl_in.f, impl_untag.f, h0, h1, h2, tmod2 a h0, show a > 32767 by omega, w64 (a - 65536) (by omega) (by omega), w64 (a - 65536 - 1) (by omega) (by omega)]
      rw [e, w64 _ (by omega) (by omega)]
  · refine ⟨a / 2, ?_, ?_⟩
    · simp [spec_UntagSmall.f, spec_IsSmall.f, spec_l1Word.f, spec_l1In.f, spec_l1Signed.f, h0, h1, h2, and_one, h]
    · have e : Int.tdiv (a - 1) 2 = a / 2 := by rw [tdiv2 _ (by omega)]; omega
      simp [impl_UntagSmall.f, impl_isTagged.f, impl_isWord.f, impl_in.f, impl_untag.f, h0, h1, h2, tmod2 a h0, show ¬ a > 32767 by omega, w64 (a - 1) (by omega) (by omega)]
      rw [e, w64 _ (by omega) (by omega)]

theorem FnExactUntagSmall : laws_FnExactUntagSmall.Pure := by
  intro a _
  by_cases h0 : a ≥ 0
  · by_cases h1 : a ≤ 65535
    · by_cases h2 : a % 2 = 1
      · obtain ⟨r, e1, e2⟩ := untag_eq a h0 h1 h2
        simp [laws_FnExactUntagSmall.f, e1, e2]
      · simp [laws_FnExactUntagSmall.f, spec_UntagSmall.f, spec_IsSmall.f, spec_l1Word.f, spec_l1In.f, impl_UntagSmall.f, impl_isTagged.f, impl_isWord.f, impl_in.f, h0, h1, h2, and_one, tmod2 a h0]
    · simp [laws_FnExactUntagSmall.f, spec_UntagSmall.f, spec_IsSmall.f, spec_l1Word.f, spec_l1In.f, impl_UntagSmall.f, impl_isTagged.f, impl_isWord.f, impl_in.f, h0, h1]
  · simp [laws_FnExactUntagSmall.f, spec_UntagSmall.f, spec_IsSmall.f, spec_l1Word.f, spec_l1In.f, impl_UntagSmall.f, impl_isTagged.f, impl_isWord.f, impl_in.f, h0]

end Go.Proofs.Ytajoheooafldpaa.Pure

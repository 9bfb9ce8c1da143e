/- The pure statement of FnExactHasWord: the program returns what the reference returns, for all arguments. -/
import Derived.Test.YtjogfidpknebaaaPFnExactHasWordx1
import Derived.Test.YtjogfidpknebaaaBits
namespace Go.Proofs.Ytjogfidpknebaaa.Pure
open Go.RowKit Go.Proofs.Ytjogfidpknebaaa.PFnExactHasWord Go.Proofs.YtjogfidpknebaaaW.PrintWords Go.Proofs.YtjogfidpknebaaaW.PrintLast Go.Proofs.YtjogfidpknebaaaW.PrintMore Go.Proofs.YtjogfidpknebaaaBits

theorem goodR (a : Bool) (b c : Int) : ∃ r, spec_GoodRange.f a b c = some r ∧ impl_isSpan.f a b c = some r := by
  simp only [spec_GoodRange.f, spec_l1Word.f, spec_l1In.f, impl_isSpan.f, impl_isWord.f, impl_in.f]
  cases a
  · by_cases h1 : b ≥ 0 <;> by_cases h2 : b ≤ 65535 <;> by_cases h3 : c ≥ b <;> by_cases h4 : c ≤ 65535 <;> by_cases h5 : c ≥ 0 <;> first | omega | simp [*] | (simp [*]; omega)
  · by_cases h1 : b = 0 <;> by_cases h2 : c = 0 <;> simp [*]

theorem inb (a l h : Int) : ∃ r, spec_l1In.f a l h = some r ∧ impl_in.f a l h = some r ∧ (r = true ↔ l ≤ a ∧ a ≤ h) := by
  refine ⟨decide (l ≤ a ∧ a ≤ h), ?_, ?_, by simp⟩
  all_goals
    simp only [spec_l1In.f, impl_in.f]
    by_cases h1 : a ≥ l <;> simp [*]

theorem FnExactHasWord (a : Bool) (b c n : Int) (_ : True ∧ (Lit.int .i64 b).wf = true ∧ (Lit.int .i64 c).wf = true) (_ : (Lit.int .i64 n).wf = true) : laws_FnExactHasWord.f a b c n = some true := by
  obtain ⟨r, h1, h2⟩ := goodR a b c
  obtain ⟨q, g1, g2, _⟩ := inb n 0 65535
  obtain ⟨p, f1, f2, _⟩ := inb n b c
  cases r <;> cases q <;> cases a <;> simp [laws_FnExactHasWord.f, laws_toRange.f, spec_HasWord.f, impl_HasWord.f, spec_l1Word.f, impl_isWord.f, h1, h2, g1, g2, f1, f2]

end Go.Proofs.Ytjogfidpknebaaa.Pure

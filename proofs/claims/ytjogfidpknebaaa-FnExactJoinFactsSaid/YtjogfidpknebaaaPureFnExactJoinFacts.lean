/- The pure statement of FnExactJoinFacts: the program returns what the reference returns, for all arguments. -/
import Derived.Test.YtjogfidpknebaaaXFnExactJoinFactsx3
import Derived.Test.YtjogfidpknebaaaBits
namespace Go.Proofs.Ytjogfidpknebaaa.Pure
open Go.RowKit Go.Proofs.Ytjogfidpknebaaa.XFnExactJoinFacts Go.Proofs.YtjogfidpknebaaaW.PrintWords Go.Proofs.YtjogfidpknebaaaW.PrintLast Go.Proofs.YtjogfidpknebaaaW.PrintMore Go.Proofs.YtjogfidpknebaaaBits

theorem goodF (a b : Bool) (c : Int) : ∃ r, spec_GoodFact.f a b c = some r ∧ impl_isFact.f a b c = some r := by
  simp only [spec_GoodFact.f, spec_l1Word.f, spec_l1In.f, impl_isFact.f, impl_isWord.f, impl_in.f]
  cases a <;> cases b <;> by_cases h0 : c = 0 <;> by_cases h1 : c ≥ 0 <;> by_cases h2 : c ≤ 65535 <;> first | omega | simp [*]

theorem eqF (a b : Bool) (c : Int) : laws_eqFact.f a b c a b c = some true := by simp [laws_eqFact.f]
theorem joinF (a b : Bool) (c : Int) (x y : Bool) (z : Int) : ∃ r s t, spec_l5Join.f a b c x y z = some (r, s, t) ∧ impl_joinFacts.f a b c x y z = some (r, s, t) := by
  unfold spec_l5Join.f impl_joinFacts.f
  split
  · exact ⟨_, _, _, rfl, rfl⟩
  · split
    · exact ⟨_, _, _, rfl, rfl⟩
    · split
      · exact ⟨_, _, _, rfl, rfl⟩
      · exact ⟨_, _, _, rfl, rfl⟩
theorem FnExactJoinFacts (a b : Bool) (c : Int) (x y : Bool) (z : Int) (_ : True ∧ True ∧ (Lit.int .i64 c).wf = true) (_ : True ∧ True ∧ (Lit.int .i64 z).wf = true) : laws_FnExactJoinFacts.f a b c x y z = some true := by
  obtain ⟨r, h1, h2⟩ := goodF a b c
  obtain ⟨q, g1, g2⟩ := goodF x y z
  obtain ⟨u, v, w, e1, e2⟩ := joinF a b c x y z
  cases r <;> cases q <;> simp [laws_FnExactJoinFacts.f, laws_toFact.f, spec_JoinFacts.f, impl_JoinFacts.f, h1, h2, g1, g2, e1, e2, eqF]

end Go.Proofs.Ytjogfidpknebaaa.Pure

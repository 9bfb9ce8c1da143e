/- The pure statement of FnExactMeetRanges: the program returns what the reference returns, for all arguments. -/
import Derived.Test.YtncagigpflfkbaaXFnExactMeetRangesx4
import Derived.Test.YtncagigpflfkbaaBits
namespace Go.Proofs.Ytncagigpflfkbaa.Pure
open Go.RowKit Go.Proofs.Ytncagigpflfkbaa.XFnExactMeetRanges Go.Proofs.YtncagigpflfkbaaW.PrintWords Go.Proofs.YtncagigpflfkbaaW.PrintLast Go.Proofs.YtncagigpflfkbaaW.PrintMore Go.Proofs.YtncagigpflfkbaaBits

theorem goodR (a : Bool) (b c : Int) : ∃ r, spec_GoodRange.f a b c = some r ∧ impl_isSpan.f a b c = some r := by
  simp only [spec_GoodRange.f, spec_l1Word.f, spec_l1In.f, impl_isSpan.f, impl_isWord.f, impl_in.f]
  cases a
  · by_cases h1 : b ≥ 0 <;> by_cases h2 : b ≤ 65535 <;> by_cases h3 : c ≥ b <;> by_cases h4 : c ≤ 65535 <;> by_cases h5 : c ≥ 0 <;> first | omega | simp [*] | (simp [*]; omega)
  · by_cases h1 : b = 0 <;> by_cases h2 : c = 0 <;> simp [*]

theorem eqR (a : Bool) (b c : Int) : laws_eqRange.f a b c a b c = some true := by simp [laws_eqRange.f]
theorem least (a b : Int) : spec_l6Least.f a b = some (mn a b) := by simp only [spec_l6Least.f, mn]; split <;> (first | rfl | (congr 1; split <;> omega))
theorem most (a b : Int) : spec_l6Most.f a b = some (mx a b) := by simp only [spec_l6Most.f, mx]; split <;> (first | rfl | (congr 1; split <;> omega))
theorem joinR (a : Bool) (b c : Int) (x : Bool) (y z : Int) : ∃ r s t, spec_l6Meet.f a b c x y z = some (r, s, t) ∧ impl_meetRanges.f a b c x y z = some (r, s, t) := by
  unfold spec_l6Meet.f impl_meetRanges.f
  simp only [least, most, Option.bind_some]
  repeat' split
  all_goals first | exact ⟨_, _, _, rfl, rfl⟩ | (exfalso; simp_all; done) | (exfalso; omega)
theorem FnExactMeetRanges (a : Bool) (b c : Int) (x : Bool) (y z : Int) (_ : True ∧ (Lit.int .i64 b).wf = true ∧ (Lit.int .i64 c).wf = true) (_ : True ∧ (Lit.int .i64 y).wf = true ∧ (Lit.int .i64 z).wf = true) : laws_FnExactMeetRanges.f a b c x y z = some true := by
  obtain ⟨r, h1, h2⟩ := goodR a b c
  obtain ⟨q, g1, g2⟩ := goodR x y z
  obtain ⟨u, v, w, e1, e2⟩ := joinR a b c x y z
  cases r <;> cases q <;> simp [laws_FnExactMeetRanges.f, laws_toRange.f, spec_MeetRanges.f, impl_MeetRanges.f, h1, h2, g1, g2, e1, e2, eqR]

end Go.Proofs.Ytncagigpflfkbaa.Pure

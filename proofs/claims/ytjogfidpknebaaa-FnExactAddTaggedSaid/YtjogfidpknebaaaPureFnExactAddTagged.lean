/- The pure statement of FnExactAddTagged: the program returns what the reference returns, for all arguments. -/
import Derived.Test.YtjogfidpknebaaaPFnExactAddTaggedx1
import Derived.Test.YtjogfidpknebaaaBits
namespace Go.Proofs.Ytjogfidpknebaaa.Pure
open Go.RowKit Go.Proofs.Ytjogfidpknebaaa.PFnExactAddTagged Go.Proofs.YtjogfidpknebaaaW.PrintWords Go.Proofs.YtjogfidpknebaaaW.PrintLast Go.Proofs.YtjogfidpknebaaaW.PrintMore Go.Proofs.YtjogfidpknebaaaBits

theorem word (a : Int) : ∃ r, impl_isWord.f a = some r ∧ spec_l1Word.f a = some r ∧ (r = true ↔ 0 ≤ a ∧ a ≤ 65535) := by
  refine ⟨decide (0 ≤ a ∧ a ≤ 65535), ?_, ?_, by simp⟩
  all_goals
    simp only [spec_l1Word.f, spec_l1In.f, impl_isWord.f, impl_in.f]
    by_cases h1 : a ≥ 0 <;> simp [*]
theorem tagged (a : Int) : ∃ r, impl_isTagged.f a = some r ∧ spec_IsSmall.f a = some r ∧ (r = true ↔ 0 ≤ a ∧ a ≤ 65535 ∧ a % 2 = 1) := by
  obtain ⟨r, h1, h2, h3⟩ := word a
  cases r with
  | false => exact ⟨false, by simp [impl_isTagged.f, h1], by simp [spec_IsSmall.f, h2], by simp at h3 ⊢; omega⟩
  | true =>
    have h := h3.1 rfl
    refine ⟨a % 2 == 1, by simp [impl_isTagged.f, h1, tmod2 a h.1], by simp [spec_IsSmall.f, h2, and_one], by simp; omega⟩
theorem untag (a : Int) (h0 : 0 ≤ a) (h1 : a ≤ 65535) (h2 : a % 2 = 1) : ∃ v, impl_untag.f a = some v ∧ spec_UntagSmall.f a = some (v, true) ∧ -16384 ≤ v ∧ v ≤ 16383 := by
  obtain ⟨r, _, hs, hr⟩ := tagged a
  obtain rfl : r = true := hr.2 ⟨h0, h1, h2⟩
  by_cases h : a ≥ 32768
  · refine ⟨(a - 65536) / 2, ?_, ?_, by omega, by omega⟩
    · have e : Int.tdiv (a - 65536 - 1) 2 = (a - 65536) / 2 := by rw [tdiv2_neg _ (by omega)]; omega
      simp [impl_untag.f, show a > 32767 by omega, w64 (a - 65536) (by omega) (by omega), w64 (a - 65536 - 1) (by omega) (by omega)]
      rw [e, w64 _ (by omega) (by omega)]
    · simp [spec_UntagSmall.f, hs, spec_l1Signed.f, h, w64 (a - 65536) (by omega) (by omega)]
  · refine ⟨a / 2, ?_, ?_, by omega, by omega⟩
    · have e : Int.tdiv (a - 1) 2 = a / 2 := by rw [tdiv2 _ (by omega)]; omega
      simp [impl_untag.f, show ¬ a > 32767 by omega, w64 (a - 1) (by omega) (by omega)]
      rw [e, w64 _ (by omega) (by omega)]
    · simp [spec_UntagSmall.f, hs, spec_l1Signed.f, h]
theorem untag_no (a : Int) (h : spec_IsSmall.f a = some false) : spec_UntagSmall.f a = some (0, false) := by simp [spec_UntagSmall.f, h]

theorem told_eq (n : Int) : ∃ x y, spec_l1Tagged.f n = some (x, y, true) ∧ impl_told.f n = some (x, y, true) := by
  by_cases h0 : n ≥ -16384 <;> by_cases h1 : n ≤ 16383 <;>
    simp [spec_l1Tagged.f, spec_TagSmall.f, spec_l1Small.f, spec_l1In.f, impl_told.f, impl_isSmall.f, impl_in.f, impl_tag.f, h0, h1]

theorem FnExactAddTagged : laws_FnExactAddTagged.Pure := by
  intro a b _ _
  refine ⟨1, ?_⟩
  obtain ⟨r, i1, s1, t1⟩ := tagged a
  obtain ⟨q, i2, s2, t2⟩ := tagged b
  cases r with
  | false =>
    cases q with
    | false => simp [laws_FnExactAddTagged.f, spec_AddTagged.f, spec_l1Two.f, impl_AddTagged.f, impl_AddTagged.j0, i1, i2, untag_no a s1, untag_no b s2]
    | true =>
      obtain ⟨h0, h1, h2⟩ := t2.1 rfl
      obtain ⟨v, _, hv, _⟩ := untag b h0 h1 h2
      simp [laws_FnExactAddTagged.f, spec_AddTagged.f, spec_l1Two.f, impl_AddTagged.f, impl_AddTagged.j0, i1, i2, untag_no a s1, hv]
  | true =>
    obtain ⟨g0, g1, g2⟩ := t1.1 rfl
    obtain ⟨u, hu', hu, _⟩ := untag a g0 g1 g2
    cases q with
    | false => simp [laws_FnExactAddTagged.f, spec_AddTagged.f, spec_l1Two.f, impl_AddTagged.f, impl_AddTagged.j0, i1, i2, hu, untag_no b s2]
    | true =>
      obtain ⟨h0, h1, h2⟩ := t2.1 rfl
      obtain ⟨v, hv', hv, _⟩ := untag b h0 h1 h2
      obtain ⟨x, y, e1, e2⟩ := told_eq (wrap64 (u + v))
      simp [laws_FnExactAddTagged.f, spec_AddTagged.f, spec_l1Two.f, impl_AddTagged.f, impl_AddTagged.j0, i1, i2, hu, hv, hu', hv', e1, e2]

end Go.Proofs.Ytjogfidpknebaaa.Pure

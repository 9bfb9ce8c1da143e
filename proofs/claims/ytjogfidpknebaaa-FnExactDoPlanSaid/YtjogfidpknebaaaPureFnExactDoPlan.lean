/- The pure statement of FnExactDoPlan: the program returns what the reference returns, for all arguments. -/
import Derived.Test.YtjogfidpknebaaaPFnExactDoPlanx1
import Derived.Test.YtjogfidpknebaaaPFnExactDoPlanx2
import Derived.Test.YtjogfidpknebaaaBits
namespace Go.Proofs.Ytjogfidpknebaaa.Pure
open Go.RowKit Go.Proofs.Ytjogfidpknebaaa.PFnExactDoPlan Go.Proofs.YtjogfidpknebaaaW.PrintWords Go.Proofs.YtjogfidpknebaaaW.PrintLast Go.Proofs.YtjogfidpknebaaaW.PrintMore Go.Proofs.YtjogfidpknebaaaBits

theorem inb (a l h : Int) : ∃ r, spec_l1In.f a l h = some r ∧ impl_in.f a l h = some r ∧ (r = true ↔ l ≤ a ∧ a ≤ h) := by
  refine ⟨decide (l ≤ a ∧ a ≤ h), ?_, ?_, by simp⟩
  all_goals
    simp only [spec_l1In.f, impl_in.f]
    by_cases h1 : a ≥ l <;> simp [*]

theorem toIntS_loop (l : List Int) (hl : l.length ≤ 1048576) (d : Nat) : ∀ (k i : Nat) (m : List Int), m.length = l.length → i ≤ l.length → l.length - i = d → d < k → m.take i = l.take i → laws_toIntS.l0 k l m i = some l := by
  induction d with
  | zero =>
    intro k i m hm hi hd hk ht
    obtain ⟨k, rfl⟩ : ∃ m, k = m + 1 := ⟨k - 1, by omega⟩
    simp only [laws_toIntS.l0]
    rw [if_neg (by omega)]
    rw [List.take_of_length_le (by omega), List.take_of_length_le (by omega)] at ht
    rw [ht]
  | succ d ih =>
    intro k i m hm hi hd hk ht
    obtain ⟨k, rfl⟩ : ∃ m, k = m + 1 := ⟨k - 1, by omega⟩
    simp only [laws_toIntS.l0]
    rw [if_pos (by omega), if_pos (by omega), if_pos (by omega), w64 _ (by omega) (by omega)]
    have hlt : i < l.length := by omega
    refine ih k (i + 1) (m.set ((i : Int)).toNat (rd l i)) (by simpa using hm) (by omega) (by omega) (by omega) ?_
    rw [Int.toNat_natCast, List.take_succ_eq_append_getElem (by rw [List.length_set]; omega), List.take_succ_eq_append_getElem hlt, List.take_set_of_le (Nat.le_refl _), ht]
    simp [rd, List.getD_eq_getElem?_getD, List.getElem?_eq_getElem hlt]
theorem toIntS (l : List Int) (hl : l.length ≤ 1048576) (k : Nat) (hk : l.length < k) : laws_toIntS.f k l = some l := by
  unfold laws_toIntS.f
  rw [if_pos (by omega), if_pos (by omega)]
  exact toIntS_loop l hl l.length k 0 _ (by simp) (by omega) (by omega) (by omega) (by simp)

theorem eqIntS_loop (l : List Int) (hl : l.length ≤ 4611686018427387904) (d : Nat) : ∀ (k i : Nat), i ≤ l.length → l.length - i = d → d < k → laws_eqIntS.l0 k l l i = some true := by
  induction d with
  | zero =>
    intro k i hi hd hk
    obtain ⟨k, rfl⟩ : ∃ m, k = m + 1 := ⟨k - 1, by omega⟩
    simp only [laws_eqIntS.l0]
    rw [if_neg (by omega)]
  | succ d ih =>
    intro k i hi hd hk
    obtain ⟨k, rfl⟩ : ∃ m, k = m + 1 := ⟨k - 1, by omega⟩
    simp only [laws_eqIntS.l0]
    rw [if_pos (by omega), if_pos (by omega), if_pos (by omega), if_pos True.intro, w64 _ (by omega) (by omega)]
    exact ih k (i + 1) (by omega) (by omega) (by omega)
theorem eqIntS (l : List Int) (hl : l.length ≤ 4611686018427387904) (k : Nat) (hk : l.length < k) : laws_eqIntS.f k l l = some true := by
  unfold laws_eqIntS.f
  rw [if_pos rfl]
  exact eqIntS_loop l hl l.length k 0 (by omega) (by omega) (by omega)

theorem u64_of (c : Int) (h0 : 0 ≤ c) (h1 : c ≤ 64) : IntKind.u64.wrap c = c := by
  simp [IntKind.wrap, IntKind.bits, IntKind.signed]; omega
theorem plan_loop (n : Int) (l : List Int) (hw : ∀ x ∈ l, (Lit.int .i64 x).wf = true) (hl : l.length ≤ 20) (d : Nat) : ∀ (k i : Nat) (s : Int), i ≤ l.length → l.length - i = d → d < k →
    ∃ r q, spec_DoPlan.l0 k n s l (l.length : Int) i = some (r, q) ∧ impl_DoPlan.l0 k n s l (l.length : Int) i = some (r, q) := by
  induction d with
  | zero =>
    intro k i s hi hd hk
    obtain ⟨k, rfl⟩ : ∃ m, k = m + 1 := ⟨k - 1, by omega⟩
    exact ⟨s, true, by simp only [spec_DoPlan.l0]; rw [if_neg (by omega)], by simp only [impl_DoPlan.l0]; rw [if_neg (by omega)]⟩
  | succ d ih =>
    intro k i s hi hd hk
    obtain ⟨k, rfl⟩ : ∃ m, k = m + 1 := ⟨k - 1, by omega⟩
    have hlt : i < l.length := by omega
    have hm : rd l i ∈ l := by
      simp only [rd, Int.toNat_natCast, List.getD_eq_getElem?_getD, List.getElem?_eq_getElem hlt, Option.getD_some]
      exact List.getElem_mem hlt
    have hx := wf64 (hw _ hm)
    generalize hxe : rd l i = x at *
    obtain ⟨q1, g1, g2, g3⟩ := inb x 1 20
    obtain ⟨q2, f1, f2, f3⟩ := inb x (-20) (-1)
    simp only [spec_DoPlan.l0, impl_DoPlan.l0, hxe, g1, g2, f1, f2, Option.bind_some]
    have c1 : (i : Int) < (l.length : Int) := by omega
    have c2 : (0 : Int) ≤ i := by omega
    simp only [if_pos c1, if_pos c2, w64 ((i : Int) + 1) (by omega) (by omega)]
    cases q1 with
    | true =>
      obtain ⟨h0, h1⟩ := g3.1 rfl
      have c3 : 0 ≤ x - 1 := by omega
      simp only [if_true, w64 (x - 1) (by omega) (by omega), u64_of (x - 1) (by omega) (by omega), if_pos c3]
      exact ih k (i + 1) _ (by omega) (by omega) (by omega)
    | false =>
      simp only [Bool.false_eq_true, if_false]
      cases q2 with
      | true =>
        obtain ⟨h0, h1⟩ := f3.1 rfl
        have c3 : 0 ≤ -x - 1 := by omega
        simp only [if_true, w64 (-x) (by omega) (by omega), w64 (-x - 1) (by omega) (by omega), u64_of (-x - 1) (by omega) (by omega), if_pos c3]
        exact ih k (i + 1) _ (by omega) (by omega) (by omega)
      | false =>
        simp only [Bool.false_eq_true, if_false]
        exact ⟨0, false, rfl, rfl⟩
theorem plan_eq (l : List Int) (n : Int) (hw : ∀ x ∈ l, (Lit.int .i64 x).wf = true) (k : Nat) (hk : 22 < k) : ∃ r q, spec_DoPlan.f k l n = some (r, q) ∧ impl_DoPlan.f k l n = some (r, q) := by
  obtain ⟨k, rfl⟩ : ∃ m, k = m + 1 := ⟨k - 1, by omega⟩
  unfold spec_DoPlan.f impl_DoPlan.f
  by_cases h : (l.length : Int) > 20
  · rw [if_pos h, if_pos h]
    exact ⟨0, false, by simp [spec_DoPlan.j0], by simp [impl_DoPlan.j0]⟩
  · rw [if_neg h, if_neg h]
    obtain ⟨q, g1, g2, _⟩ := inb n (-65535) 65535
    rw [g1, g2]
    cases q with
    | false => exact ⟨0, false, by simp [spec_DoPlan.j0], by simp [impl_DoPlan.j0]⟩
    | true =>
      obtain ⟨r, q, e1, e2⟩ := plan_loop n l hw (by omega) l.length k 0 0 (by omega) (by omega) (by omega)
      exact ⟨r, q, by simpa [spec_DoPlan.j0] using e1, by simpa [impl_DoPlan.j0] using e2⟩

theorem FnExactDoPlan (l : List Int) (n : Int) (_ : l.length ≤ 9223372036854775807) (hw : ∀ x, x ∈ l → (Lit.int .i64 x).wf = true) (_ : (Lit.int .i64 n).wf = true) : ∃ k, laws_FnExactDoPlan.f k l n = some true := by
  refine ⟨l.length + 100, ?_⟩
  unfold laws_FnExactDoPlan.f
  by_cases h : (l.length : Int) > 1048576
  · rw [if_pos h]
  · rw [if_neg h]
    obtain ⟨r, q, e1, e2⟩ := plan_eq l n hw (l.length + 100) (by omega)
    have t1 := toIntS l (by omega) (l.length + 100) (by omega)
    have t2 := toIntS l (by omega) (l.length + 99) (by omega)
    have t3 := eqIntS l (by omega) (l.length + 99) (by omega)
    simp [t1, e1, e2, laws_FnExactDoPlan.j0, t2, t3]

end Go.Proofs.Ytjogfidpknebaaa.Pure

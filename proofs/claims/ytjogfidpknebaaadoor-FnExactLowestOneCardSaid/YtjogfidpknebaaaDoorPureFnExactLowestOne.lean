/- The pure statement of FnExactLowestOne: the program returns what the reference returns, for all arguments. -/
import Derived.Test.YtjogfidpknebaaaDoorXFnExactLowestOnex1
import Derived.Test.YtjogfidpknebaaaDoorBits
namespace Go.Proofs.YtjogfidpknebaaaDoor.Pure
open Go.RowKit Go.Proofs.YtjogfidpknebaaaDoor.XFnExactLowestOne Go.Proofs.YtjogfidpknebaaaDoorW.PrintWords Go.Proofs.YtjogfidpknebaaaDoorW.PrintLast Go.Proofs.YtjogfidpknebaaaDoorW.PrintMore Go.Proofs.YtjogfidpknebaaaDoorBits

theorem inb (a l h : Int) : ∃ r, spec_l1In.f a l h = some r ∧ impl_in.f a l h = some r ∧ (r = true ↔ l ≤ a ∧ a ≤ h) := by
  refine ⟨decide (l ≤ a ∧ a ≤ h), ?_, ?_, by simp⟩
  all_goals
    simp only [spec_l1In.f, impl_in.f]
    by_cases h1 : a ≥ l <;> simp [*]

theorem low_loop (f : Nat) : ∀ (k x : Nat) (c : Int), 0 < x → x < 2 ^ f → x ≤ 65535 → 0 ≤ c → c ≤ 1000 - f → f < k → spec_LowestOne.l0 k x c = some (c + (Lib.ctzFrom f x : Nat), true) := by
  induction f with
  | zero =>
    intro k x c h0 hx
    simp at hx
    omega
  | succ f ih =>
    intro k x c h0 hx hw h1 h2 hk
    obtain ⟨k, rfl⟩ : ∃ m, k = m + 1 := ⟨k - 1, by omega⟩
    simp only [spec_LowestOne.l0, Lib.ctzFrom]
    rw [and_one]
    by_cases hb : x % 2 = 1
    · rw [if_neg (by omega), if_pos hb]
      simp
    · rw [if_pos (by omega), if_neg hb, w64 _ (by omega) (by omega)]
      have := ih k (x / 2) (c + 1) (by omega) (by rw [Nat.pow_succ] at hx; omega) (by omega) (by omega) (by omega) (by omega)
      rw [show ((x / 2 : Nat) : Int) = (x : Int) / 2 by omega] at this
      rw [this]
      congr 2
      omega
theorem tz_nat (x : Nat) (h : (x : Int) < 18446744073709551616) (f : Nat) (hf : f = 64) : Tz.tz (x : Int) = some ((Lib.ctz f x : Nat) : Int) := by
  have h0 : (0 : Int) ≤ (x : Int) := Int.natCast_nonneg x
  have e : (x : Int).toNat = x := Int.toNat_natCast x
  unfold Tz.tz
  rw [if_pos h0, if_pos h, e, hf]
theorem lowest (a : Int) (k : Nat) (hk : 70 < k) : ∃ r t, spec_LowestOne.f k a = some (r, t) ∧ impl_LowestOne.f a = some (r, t) := by
  obtain ⟨k, rfl⟩ : ∃ m, k = m + 1 := ⟨k - 1, by omega⟩
  obtain ⟨q, g1, g2, g3⟩ := inb a 0 65535
  cases q with
  | false => exact ⟨0, false, by simp [spec_LowestOne.f, spec_LowestOne.j0, spec_l1Word.f, g1], by simp [impl_LowestOne.f, impl_isWord.f, g2]⟩
  | true =>
    obtain ⟨h0, h1⟩ := g3.1 rfl
    by_cases ha : a = 0
    · subst ha
      exact ⟨0, false, by simp [spec_LowestOne.f, spec_LowestOne.j0, spec_l1Word.f, g1], by simp [impl_LowestOne.f, impl_isWord.f, g2]⟩
    · obtain ⟨x, rfl⟩ := Int.eq_ofNat_of_zero_le h0
      have hx : x ≠ 0 := by omega
      have hu : IntKind.u64.wrap (x : Int) = x := by
        simp [IntKind.wrap, IntKind.bits, IntKind.signed]; omega
      obtain ⟨f, hf⟩ : ∃ f, f = 64 := ⟨_, rfl⟩
      have e : Lib.ctz f x = Lib.ctzFrom f x := if_neg hx
      have hp : x < 2 ^ f := by
        have h16 : 2 ^ 16 ≤ 2 ^ f := Nat.pow_le_pow_right (by decide) (by omega)
        omega
      refine ⟨(Lib.ctz f x : Nat), true, ?_, ?_⟩
      · have := low_loop f k x 0 (by omega) hp (by omega) (by omega) (by omega) (by omega)
        rw [Int.zero_add, ← e] at this
        have hb : ((x : Int) == 0) = false := beq_false_of_ne ha
        simp only [spec_LowestOne.f, spec_LowestOne.j0, spec_l1Word.f, g1, Option.bind_some, if_true, hb, Bool.false_eq_true, if_false]
        exact this
      · have t := tz_nat x (by omega) f hf
        simp only [impl_LowestOne.f, impl_isWord.f, g2, Option.bind_some, if_true, if_neg ha, hu, bits_TrailingZeros.f, t]

theorem FnExactLowestOne (a : Int) (_ : (Lit.int .i64 a).wf = true) : ∃ k, laws_FnExactLowestOne.f k a = some true := by
  refine ⟨80, ?_⟩
  obtain ⟨r, t, e1, e2⟩ := lowest a 80 (by omega)
  simp [laws_FnExactLowestOne.f, e1, e2]

end Go.Proofs.YtjogfidpknebaaaDoor.Pure

/- The pure statement of FnExactPlanMul: the program returns what the reference returns, for all arguments. -/
import Derived.Test.YtjogfidpknebaaaPFnExactPlanMulx1
import Derived.Test.YtjogfidpknebaaaPFnExactPlanMulx2
import Derived.Test.YtjogfidpknebaaaBits
namespace Go.Proofs.Ytjogfidpknebaaa.Pure
open Go.RowKit Go.Proofs.Ytjogfidpknebaaa.PFnExactPlanMul Go.Proofs.YtjogfidpknebaaaW.PrintWords Go.Proofs.YtjogfidpknebaaaW.PrintLast Go.Proofs.YtjogfidpknebaaaW.PrintMore Go.Proofs.YtjogfidpknebaaaBits

theorem inb (a l h : Int) : ∃ r, spec_l1In.f a l h = some r ∧ impl_in.f a l h = some r ∧ (r = true ↔ l ≤ a ∧ a ≤ h) := by
  refine ⟨decide (l ≤ a ∧ a ≤ h), ?_, ?_, by simp⟩
  all_goals
    simp only [spec_l1In.f, impl_in.f]
    by_cases h1 : a ≥ l <;> simp [*]

theorem eqIntS_loop (l : List Int) (hl : l.length ≤ 4611686018427387904) (d : Nat) : ∀ (k i : Nat), i ≤ l.length → l.length - i = d → d < k → laws_eqIntS.l0 k l l i = some true := by
  induction d with
  | zero =>
    intro k i hi hd hk
    obtain ⟨k, rfl⟩ : ∃ m, k = m + 1 := ⟨k - 1, by omega⟩
    simp only [laws_eqIntS.l0]
    rw [if_neg (by omega)]
  | succ d ih =>
    intro k i hi hd hk
    obtain ⟨k, rfl⟩ : ∃ m, k = m + 1 := ⟨k - 1, by omega⟩
    simp only [laws_eqIntS.l0]
    rw [if_pos (by omega), if_pos (by omega), if_pos (by omega), if_pos True.intro, w64 _ (by omega) (by omega)]
    exact ih k (i + 1) (by omega) (by omega) (by omega)
theorem eqIntS (l : List Int) (hl : l.length ≤ 4611686018427387904) (k : Nat) (hk : l.length < k) : laws_eqIntS.f k l l = some true := by
  unfold laws_eqIntS.f
  rw [if_pos rfl]
  exact eqIntS_loop l hl l.length k 0 (by omega) (by omega) (by omega)

def ramp (a : Int) (n : Nat) : List Int := (List.range n).map fun i => a + (i : Nat)
theorem ramp_length (a : Int) (n : Nat) : (ramp a n).length = n := by simp [ramp]
theorem ramp_rd (a : Int) (n i : Nat) (h : i < n) : rd (ramp a n) i = a + i := by
  simp [ramp, rd, List.getD_eq_getElem?_getD, List.getElem?_map, List.getElem?_range h]

theorem markIntS_loop (n : Nat) (hn : n ≤ 1048576) (b : Int) (hb0 : 0 ≤ b) (hb1 : b ≤ 1000000000) (d : Nat) : ∀ (k i : Nat) (m : List Int), m.length = n → i ≤ n → n - i = d → d < k → m.take i = (ramp b n).take i →
    laws_markIntS.l0 k m (b + i) i = some (b + n, ramp b n) := by
  induction d with
  | zero =>
    intro k i m hm hi hd hk ht
    obtain ⟨k, rfl⟩ : ∃ m, k = m + 1 := ⟨k - 1, by omega⟩
    simp only [laws_markIntS.l0]
    rw [if_neg (by omega)]
    rw [List.take_of_length_le (by omega), List.take_of_length_le (by rw [ramp_length]; omega)] at ht
    rw [ht, show i = n by omega]
  | succ d ih =>
    intro k i m hm hi hd hk ht
    obtain ⟨k, rfl⟩ : ∃ m, k = m + 1 := ⟨k - 1, by omega⟩
    simp only [laws_markIntS.l0]
    rw [if_pos (by omega), if_pos (by omega), w64 _ (by omega) (by omega), w64 _ (by omega) (by omega)]
    have hlt : i < (ramp b n).length := by rw [ramp_length]; omega
    rw [show b + (i : Int) + 1 = b + ((i + 1 : Nat) : Int) by omega]
    refine ih k (i + 1) (m.set ((i : Int)).toNat (b + i)) (by simpa using hm) (by omega) (by omega) (by omega) ?_
    rw [Int.toNat_natCast, List.take_succ_eq_append_getElem (by rw [List.length_set]; omega), List.take_succ_eq_append_getElem hlt, List.take_set_of_le (Nat.le_refl _), ht]
    simp [ramp]
theorem markIntS (m : List Int) (hn : m.length ≤ 1048576) (b : Int) (hb0 : 0 ≤ b) (hb1 : b ≤ 1000000000) (k : Nat) (hk : m.length < k) : laws_markIntS.f k m b = some (b + m.length, ramp b m.length) := by
  unfold laws_markIntS.f
  have := markIntS_loop m.length hn b hb0 hb1 m.length k 0 m rfl (by omega) (by omega) (by omega) (by simp)
  rw [show b + ((0 : Nat) : Int) = b by omega] at this
  exact this
theorem heldIntS_loop (n : Nat) (hn : n ≤ 1048576) (b : Int) (hb0 : 0 ≤ b) (hb1 : b ≤ 1000000000) (d : Nat) : ∀ (k i : Nat), i ≤ n → n - i = d → d < k →
    laws_heldIntS.l0 k (ramp b n) (b + i) i = some (b + n) := by
  induction d with
  | zero =>
    intro k i hi hd hk
    obtain ⟨k, rfl⟩ : ∃ m, k = m + 1 := ⟨k - 1, by omega⟩
    simp only [laws_heldIntS.l0]
    rw [if_neg (by rw [ramp_length]; omega), show i = n by omega]
  | succ d ih =>
    intro k i hi hd hk
    obtain ⟨k, rfl⟩ : ∃ m, k = m + 1 := ⟨k - 1, by omega⟩
    simp only [laws_heldIntS.l0]
    rw [if_pos (by rw [ramp_length]; omega), if_pos (by omega), if_pos (ramp_rd b n i (by omega)), w64 _ (by omega) (by omega), w64 _ (by omega) (by omega)]
    rw [show b + (i : Int) + 1 = b + ((i + 1 : Nat) : Int) by omega]
    exact ih k (i + 1) (by omega) (by omega) (by omega)
theorem heldIntS (n : Nat) (hn : n ≤ 1048576) (b : Int) (hb0 : 0 ≤ b) (hb1 : b ≤ 1000000000) (k : Nat) (hk : n < k) : laws_heldIntS.f k (ramp b n) b = some (b + n) := by
  unfold laws_heldIntS.f
  have := heldIntS_loop n hn b hb0 hb1 n k 0 (by omega) (by omega) (by omega)
  rw [show b + ((0 : Nat) : Int) = b by omega] at this
  exact this

theorem planmul_loop (d : Nat) : ∀ (k : Nat) (x pos : Int) (out : List Int), 0 ≤ x → x ≤ d → 1 ≤ pos → pos + d ≤ 70000 → out.length ≤ pos → (d < k) →
    ∃ r, spec_PlanMul.l0 k x out pos = some (r, true) ∧ impl_PlanMul.l0 k x out pos = some (r, true) ∧ (r.length : Int) ≤ 70000 := by
  induction d with
  | zero =>
    intro k x pos out h0 h1 hp hp2 ho hk
    obtain ⟨k, rfl⟩ : ∃ m, k = m + 1 := ⟨k - 1, by omega⟩
    exact ⟨out, by simp only [spec_PlanMul.l0]; rw [if_neg (by omega)], by simp only [impl_PlanMul.l0]; rw [if_neg (by omega)], by omega⟩
  | succ d ih =>
    intro k x pos out h0 h1 hp hp2 ho hk
    obtain ⟨k, rfl⟩ : ∃ m, k = m + 1 := ⟨k - 1, by omega⟩
    by_cases hx : x > 0
    · simp only [spec_PlanMul.l0, impl_PlanMul.l0, and_one, and_three, tmod4 x h0]
      rw [if_pos hx, if_pos hx, w64 (pos + 1) (by omega) (by omega)]
      by_cases m1 : x % 4 = 1
      · rw [if_pos (by omega), if_pos (by omega), if_pos m1, if_pos (by omega)]
        rw [m1, show wrap64 ((2 : Int) - 1) = 1 from by rw [w64 _ (by decide) (by decide)]; rfl, w64 (x - 1) (by omega) (by omega), Int.one_mul, w64 pos (by omega) (by omega), tdiv2 _ (by omega), w64 _ (by omega) (by omega)]
        exact ih k ((x - 1) / 2) (pos + 1) (out ++ [pos]) (by omega) (by omega) (by omega) (by omega) (by simp; omega) (by omega)
      · by_cases m3 : x % 4 = 3
        · rw [if_pos (by omega), if_pos (by omega), if_neg m1, if_pos m3, if_pos (by omega)]
          rw [m3, show wrap64 ((2 : Int) - 3) = -1 from by rw [w64 _ (by decide) (by decide)]; rfl, Int.neg_one_mul, w64 (-pos) (by omega) (by omega), show x - -1 = x + 1 by omega, w64 (x + 1) (by omega) (by omega), tdiv2 _ (by omega), w64 _ (by omega) (by omega)]
          exact ih k ((x + 1) / 2) (pos + 1) (out ++ [-pos]) (by omega) (by omega) (by omega) (by omega) (by simp; omega) (by omega)
        · rw [if_neg (by omega), if_neg m1, if_neg m3, tdiv2 _ (by omega), w64 _ (by omega) (by omega)]
          exact ih k (x / 2) (pos + 1) out (by omega) (by omega) (by omega) (by omega) (by omega) (by omega)
    · exact ⟨out, by simp only [spec_PlanMul.l0]; rw [if_neg hx], by simp only [impl_PlanMul.l0]; rw [if_neg hx], by omega⟩
theorem planmul (a : Int) (k : Nat) (hk : 65535 < k) : ∃ r q, spec_PlanMul.f k a = some (r, q) ∧ impl_PlanMul.f k a = some (r, q) ∧ r.length ≤ 70000 := by
  obtain ⟨q, g1, g2, g3⟩ := inb a 0 65535
  unfold spec_PlanMul.f impl_PlanMul.f
  rw [g1, g2]
  cases q with
  | false => exact ⟨[], false, by simp, by simp, by simp⟩
  | true =>
    obtain ⟨h0, h1⟩ := g3.1 rfl
    obtain ⟨r, e1, e2, e3⟩ := planmul_loop 65535 k a 1 [] h0 h1 (by decide) (by decide) (by simp) hk
    exact ⟨r, true, by simpa using e1, by simpa using e2, by omega⟩

theorem FnExactPlanMul : laws_FnExactPlanMul.Pure := by
  intro a _
  refine ⟨100002, ?_⟩
  obtain ⟨r, q, e1, e2, hl⟩ := planmul a 100002 (by decide)
  obtain ⟨r', q', e1', e2', _⟩ := planmul a 100001 (by decide)
  have hr : r' = r ∧ q' = q := by
    have := impl_PlanMul.mono a 100001 _ e2'
    rw [e2] at this
    simp only [Option.some.injEq, Prod.mk.injEq] at this
    exact ⟨this.1.symm, this.2.symm⟩
  obtain ⟨rfl, rfl⟩ := hr
  have t1 := eqIntS r' (by omega) 100002 (by omega)
  have t2 := eqIntS r' (by omega) 100001 (by omega)
  have t3 := markIntS r' (by omega) 1 (by decide) (by decide) 100001 (by omega)
  have t4 := heldIntS r'.length (by omega) 1 (by decide) (by decide) 100001 (by omega)
  have t5 := heldIntS r'.length (by omega) 1 (by decide) (by decide) 100000 (by omega)
  have h1 : ¬ ((1 : Int) + r'.length < 0) := by omega
  simp [laws_FnExactPlanMul.f, e1, e2, t1, laws_FnExactPlanMul.j0, t3, t4, h1, e2', t2, laws_FnExactPlanMul.j1, t5]

end Go.Proofs.Ytjogfidpknebaaa.Pure

/- The pure statement of FnPlans: a row of shifts multiplies rightly, and has no two digits side by side, for all rows of choices. -/
import Derived.Test.YtncagigpflfkbaaXFnPlansx4
import Derived.Test.YtncagigpflfkbaaBits
namespace Go.Proofs.Ytncagigpflfkbaa.Pure
open Go.RowKit Go.Proofs.Ytncagigpflfkbaa.XFnPlans Go.Proofs.YtncagigpflfkbaaW.PrintWords Go.Proofs.YtncagigpflfkbaaW.PrintLast Go.Proofs.YtncagigpflfkbaaW.PrintMore Go.Proofs.YtncagigpflfkbaaBits

theorem inb (a l h : Int) : ∃ r, spec_l1In.f a l h = some r ∧ impl_in.f a l h = some r ∧ (r = true ↔ l ≤ a ∧ a ≤ h) := by
  refine ⟨decide (l ≤ a ∧ a ≤ h), ?_, ?_, by simp⟩
  all_goals
    simp only [spec_l1In.f, impl_in.f]
    by_cases h1 : a ≥ l <;> simp [*]

theorem wf8 {x : Int} (h : (Lit.int .u8 x).wf = true) : 0 ≤ x ∧ x ≤ 255 := by
  have h' : IntKind.u8.min ≤ x ∧ x ≤ IntKind.u8.max := by simpa [Lit.wf] using h
  exact h'
theorem and255 (x : Int) : 0 ≤ wrap64 (Go.bits .and .u64 x 255) ∧ wrap64 (Go.bits .and .u64 x 255) ≤ 255 := by
  have e : Go.bits .and .u64 x 255 = IntKind.u64.wrap ((BitVec.ofInt 64 x &&& BitVec.ofInt 64 255).toNat : Int) := rfl
  have h : (BitVec.ofInt 64 x &&& BitVec.ofInt 64 255).toNat ≤ 255 := by
    rw [BitVec.toNat_and]
    exact Nat.and_le_right
  rw [e]
  generalize (BitVec.ofInt 64 x &&& BitVec.ofInt 64 255).toNat = q at h
  have e2 : IntKind.u64.wrap (q : Int) = q := by
    simp [IntKind.wrap, IntKind.bits, IntKind.signed]; omega
  rw [e2, w64 _ (by omega) (by omega)]
  omega
/-- The place of the reader: how far it has read at most. -/
def Cur (p : Int) (n : Nat) : Prop := 0 ≤ p ∧ p ≤ n ∧ n ≤ 4000000000000000000
theorem next_some (l : List Int) (hl : ∀ x ∈ l, (Lit.int .u8 x).wf = true) (p s : Int) (n : Nat) (h : Cur p n) (hn : n ≤ 3000000000000000000) : ∃ v p' s', spec_l1Cur_next.f l p s = some (v, p', s') ∧ 0 ≤ v ∧ v ≤ 255 ∧ Cur p' (n + 1) := by
  obtain ⟨h0, h1, h2⟩ := h
  have hp : wrap64 (p + 1) = p + 1 := w64 _ (by omega) (by omega)
  have hc : Cur (p + 1) (n + 1) := ⟨by omega, by omega, by omega⟩
  unfold spec_l1Cur_next.f
  simp only [hp]
  by_cases hlt : p < (l.length : Int)
  · have hm : rd l p ∈ l := by
      have : p.toNat < l.length := by omega
      simp only [rd, List.getD_eq_getElem?_getD, List.getElem?_eq_getElem this, Option.getD_some]
      exact List.getElem_mem this
    have hb := wf8 (hl _ hm)
    rw [if_pos hlt, if_pos h0]
    split
    · exact ⟨_, _, _, rfl, by rw [w64 _ (by omega) (by omega)]; exact hb.1, by rw [w64 _ (by omega) (by omega)]; exact hb.2, hc⟩
    · refine ⟨_, _, _, rfl, ?_, ?_, hc⟩
      · exact (and255 _).1
      · exact (and255 _).2
  · rw [if_neg hlt]
    split
    · exact ⟨_, _, _, rfl, by omega, by omega, hc⟩
    · refine ⟨_, _, _, rfl, ?_, ?_, hc⟩
      · exact (and255 _).1
      · exact (and255 _).2
theorem pick_some (l : List Int) (hl : ∀ x ∈ l, (Lit.int .u8 x).wf = true) (p s m : Int) (n : Nat) (h : Cur p n) (hn : n ≤ 2900000000000000000) : ∃ v p' s', spec_l1Cur_pick.f l p s m = some (v, p', s') ∧ 0 ≤ v ∧ (v < m ∨ v = 0) ∧ Cur p' (n + 2) := by
  unfold spec_l1Cur_pick.f
  by_cases hm : m ≤ 1
  · rw [if_pos hm]
    exact ⟨0, p, s, rfl, by omega, .inr rfl, h.1, by have := h.2.1; omega, by omega⟩
  · rw [if_neg hm]
    obtain ⟨v, p1, s1, e1, v0, v1, c1⟩ := next_some l hl p s n h (by omega)
    rw [e1]
    simp only [Option.bind_some]
    by_cases h2 : m > 200
    · obtain ⟨u, p2, s2, e2, u0, u1, c2⟩ := next_some l hl p1 s1 (n + 1) c1 (by omega)
      rw [if_pos h2, e2]
      simp only [Option.bind_some]
      rw [if_neg (by omega), w64 (v * 256) (by omega) (by omega), w64 (v * 256 + u) (by omega) (by omega), Int.tmod_eq_emod_of_nonneg (by omega)]
      exact ⟨_, _, _, rfl, Int.emod_nonneg _ (by omega), .inl (Int.emod_lt_of_pos _ (by omega)), c2⟩
    · rw [if_neg h2, if_neg (by omega), Int.tmod_eq_emod_of_nonneg v0]
      exact ⟨_, _, _, rfl, Int.emod_nonneg _ (by omega), .inl (Int.emod_lt_of_pos _ (by omega)), c1.1, by have := c1.2.1; omega, by omega⟩

theorem one_some (l : List Int) (hl : ∀ x ∈ l, (Lit.int .u8 x).wf = true) (p s m : Int) (n : Nat) (h : Cur p n) (hn : n ≤ 2900000000000000000) : ∃ v p' s', spec_l1Cur_one.f l p s m = some (v, p', s') ∧ Cur p' (n + 2) := by
  obtain ⟨v, p', s', e, _, _, c⟩ := pick_some l hl p s m n h hn
  exact ⟨v == 0, p', s', by simp [spec_l1Cur_one.f, e], c⟩

theorem among_some (l : List Int) (hl : ∀ x ∈ l, (Lit.int .u8 x).wf = true) (p s : Int) (q : List Int) (hq : 0 < q.length) (n : Nat) (h : Cur p n) (hn : n ≤ 2900000000000000000) : ∃ v p' s', spec_l1Cur_among.f l p s q = some (v, p', s') ∧ v ∈ q ∧ Cur p' (n + 2) := by
  obtain ⟨v, p', s', e, v0, v1, c⟩ := pick_some l hl p s (q.length : Int) n h hn
  have hlt : v < (q.length : Int) := by rcases v1 with h | h <;> omega
  refine ⟨rd q v, p', s', by simp [spec_l1Cur_among.f, e, v0, hlt], ?_, c⟩
  have : v.toNat < q.length := by omega
  simp only [rd, List.getD_eq_getElem?_getD, List.getElem?_eq_getElem this, Option.getD_some]
  exact List.getElem_mem this

theorem u64_of (c : Int) (h0 : 0 ≤ c) (h1 : c ≤ 64) : IntKind.u64.wrap c = c := by
  simp [IntKind.wrap, IntKind.bits, IntKind.signed]; omega
theorem plan_loop (n : Int) (l : List Int) (hw : ∀ x ∈ l, (Lit.int .i64 x).wf = true) (hl : l.length ≤ 20) (d : Nat) : ∀ (k i : Nat) (s : Int), i ≤ l.length → l.length - i = d → d < k →
    ∃ r q, spec_DoPlan.l0 k n s l (l.length : Int) i = some (r, q) ∧ impl_DoPlan.l0 k n s l (l.length : Int) i = some (r, q) := by
  induction d with
  | zero =>
    intro k i s hi hd hk
    obtain ⟨k, rfl⟩ : ∃ m, k = m + 1 := ⟨k - 1, by omega⟩
    exact ⟨s, true, by simp only [spec_DoPlan.l0]; rw [if_neg (by omega)], by simp only [impl_DoPlan.l0]; rw [if_neg (by omega)]⟩
  | succ d ih =>
    intro k i s hi hd hk
    obtain ⟨k, rfl⟩ : ∃ m, k = m + 1 := ⟨k - 1, by omega⟩
    have hlt : i < l.length := by omega
    have hm : rd l i ∈ l := by
      simp only [rd, Int.toNat_natCast, List.getD_eq_getElem?_getD, List.getElem?_eq_getElem hlt, Option.getD_some]
      exact List.getElem_mem hlt
    have hx := wf64 (hw _ hm)
    generalize hxe : rd l i = x at *
    obtain ⟨q1, g1, g2, g3⟩ := inb x 1 20
    obtain ⟨q2, f1, f2, f3⟩ := inb x (-20) (-1)
    simp only [spec_DoPlan.l0, impl_DoPlan.l0, hxe, g1, g2, f1, f2, Option.bind_some]
    have c1 : (i : Int) < (l.length : Int) := by omega
    have c2 : (0 : Int) ≤ i := by omega
    simp only [if_pos c1, if_pos c2, w64 ((i : Int) + 1) (by omega) (by omega)]
    cases q1 with
    | true =>
      obtain ⟨h0, h1⟩ := g3.1 rfl
      have c3 : 0 ≤ x - 1 := by omega
      simp only [if_true, w64 (x - 1) (by omega) (by omega), u64_of (x - 1) (by omega) (by omega), if_pos c3]
      exact ih k (i + 1) _ (by omega) (by omega) (by omega)
    | false =>
      simp only [Bool.false_eq_true, if_false]
      cases q2 with
      | true =>
        obtain ⟨h0, h1⟩ := f3.1 rfl
        have c3 : 0 ≤ -x - 1 := by omega
        simp only [if_true, w64 (-x) (by omega) (by omega), w64 (-x - 1) (by omega) (by omega), u64_of (-x - 1) (by omega) (by omega), if_pos c3]
        exact ih k (i + 1) _ (by omega) (by omega) (by omega)
      | false =>
        simp only [Bool.false_eq_true, if_false]
        exact ⟨0, false, rfl, rfl⟩
theorem plan_eq (l : List Int) (n : Int) (hw : ∀ x ∈ l, (Lit.int .i64 x).wf = true) (k : Nat) (hk : 22 < k) : ∃ r q, spec_DoPlan.f k l n = some (r, q) ∧ impl_DoPlan.f k l n = some (r, q) := by
  obtain ⟨k, rfl⟩ : ∃ m, k = m + 1 := ⟨k - 1, by omega⟩
  unfold spec_DoPlan.f impl_DoPlan.f
  by_cases h : (l.length : Int) > 20
  · rw [if_pos h, if_pos h]
    exact ⟨0, false, by simp [spec_DoPlan.j0], by simp [impl_DoPlan.j0]⟩
  · rw [if_neg h, if_neg h]
    obtain ⟨q, g1, g2, _⟩ := inb n (-65535) 65535
    rw [g1, g2]
    cases q with
    | false => exact ⟨0, false, by simp [spec_DoPlan.j0], by simp [impl_DoPlan.j0]⟩
    | true =>
      obtain ⟨r, q, e1, e2⟩ := plan_loop n l hw (by omega) l.length k 0 0 (by omega) (by omega) (by omega)
      exact ⟨r, q, by simpa [spec_DoPlan.j0] using e1, by simpa [impl_DoPlan.j0] using e2⟩

theorem planmul_loop (d : Nat) : ∀ (k : Nat) (x pos : Int) (out : List Int), 0 ≤ x → x ≤ d → 1 ≤ pos → pos + d ≤ 70000 → out.length ≤ pos → (d < k) →
    ∃ r, spec_PlanMul.l0 k x out pos = some (r, true) ∧ impl_PlanMul.l0 k x out pos = some (r, true) ∧ (r.length : Int) ≤ 70000 := by
  induction d with
  | zero =>
    intro k x pos out h0 h1 hp hp2 ho hk
    obtain ⟨k, rfl⟩ : ∃ m, k = m + 1 := ⟨k - 1, by omega⟩
    exact ⟨out, by simp only [spec_PlanMul.l0]; rw [if_neg (by omega)], by simp only [impl_PlanMul.l0]; rw [if_neg (by omega)], by omega⟩
  | succ d ih =>
    intro k x pos out h0 h1 hp hp2 ho hk
    obtain ⟨k, rfl⟩ : ∃ m, k = m + 1 := ⟨k - 1, by omega⟩
    by_cases hx : x > 0
    · simp only [spec_PlanMul.l0, impl_PlanMul.l0, and_one, and_three, tmod4 x h0]
      rw [if_pos hx, if_pos hx, w64 (pos + 1) (by omega) (by omega)]
      by_cases m1 : x % 4 = 1
      · rw [if_pos (by omega), if_pos (by omega), if_pos m1, if_pos (by omega)]
        rw [m1, show wrap64 ((2 : Int) - 1) = 1 from by rw [w64 _ (by decide) (by decide)]; rfl, w64 (x - 1) (by omega) (by omega), Int.one_mul, w64 pos (by omega) (by omega), tdiv2 _ (by omega), w64 _ (by omega) (by omega)]
        exact ih k ((x - 1) / 2) (pos + 1) (out ++ [pos]) (by omega) (by omega) (by omega) (by omega) (by simp; omega) (by omega)
      · by_cases m3 : x % 4 = 3
        · rw [if_pos (by omega), if_pos (by omega), if_neg m1, if_pos m3, if_pos (by omega)]
          rw [m3, show wrap64 ((2 : Int) - 3) = -1 from by rw [w64 _ (by decide) (by decide)]; rfl, Int.neg_one_mul, w64 (-pos) (by omega) (by omega), show x - -1 = x + 1 by omega, w64 (x + 1) (by omega) (by omega), tdiv2 _ (by omega), w64 _ (by omega) (by omega)]
          exact ih k ((x + 1) / 2) (pos + 1) (out ++ [-pos]) (by omega) (by omega) (by omega) (by omega) (by simp; omega) (by omega)
        · rw [if_neg (by omega), if_neg m1, if_neg m3, tdiv2 _ (by omega), w64 _ (by omega) (by omega)]
          exact ih k (x / 2) (pos + 1) out (by omega) (by omega) (by omega) (by omega) (by omega) (by omega)
    · exact ⟨out, by simp only [spec_PlanMul.l0]; rw [if_neg hx], by simp only [impl_PlanMul.l0]; rw [if_neg hx], by omega⟩
theorem planmul (a : Int) (k : Nat) (hk : 65535 < k) : ∃ r q, spec_PlanMul.f k a = some (r, q) ∧ impl_PlanMul.f k a = some (r, q) ∧ r.length ≤ 70000 := by
  obtain ⟨q, g1, g2, g3⟩ := inb a 0 65535
  unfold spec_PlanMul.f impl_PlanMul.f
  rw [g1, g2]
  cases q with
  | false => exact ⟨[], false, by simp, by simp, by simp⟩
  | true =>
    obtain ⟨h0, h1⟩ := g3.1 rfl
    obtain ⟨r, e1, e2, e3⟩ := planmul_loop 65535 k a 1 [] h0 h1 (by decide) (by decide) (by simp) hk
    exact ⟨r, true, by simpa using e1, by simpa using e2, by omega⟩

def naf : Nat → Nat → Nat → List Int
  | 0, _, _ => []
  | f + 1, x, q => if x = 0 then [] else if x % 4 = 1 then ((q : Int) + 1) :: naf f ((x - 1) / 2) (q + 1) else if x % 4 = 3 then (-((q : Int) + 1)) :: naf f ((x + 1) / 2) (q + 1) else naf f (x / 2) (q + 1)
theorem naf_loop (d : Nat) : ∀ (k x q : Nat) (out : List Int), x ≤ 2 ^ d → d ≤ 40 → d + 2 < k → q + d ≤ 1000 → out.length ≤ q → impl_PlanMul.l0 k (x : Int) out ((q : Int) + 1) = some (out ++ naf (d + 1) x q, true) := by
  induction d with
  | zero =>
    intro k x q out hx hd hk hq ho
    obtain ⟨k, rfl⟩ : ∃ m, k = m + 1 + 1 := ⟨k - 2, by omega⟩
    have hx' : x ≤ 1 := by simpa using hx
    by_cases h0 : x = 0
    · subst h0
      simp [impl_PlanMul.l0, naf]
    · obtain rfl : x = 1 := by omega
      have e0 : wrap64 (Int.tdiv (wrap64 (((1 : Nat) : Int) - 1)) 2) = 0 := by
        rw [w64 (((1 : Nat) : Int) - 1) (by decide) (by decide), w64 _ (by decide) (by decide)]
        rfl
      rw [impl_PlanMul.l0, if_pos (by decide), if_pos (by decide), if_pos (by omega), e0, impl_PlanMul.l0, if_neg (by decide)]
      simp [naf]
  | succ d ih =>
    intro k x q out hx hd hk hq ho
    obtain ⟨k, rfl⟩ : ∃ m, k = m + 1 := ⟨k - 1, by omega⟩
    have hp : 2 ^ (d + 1) = 2 * 2 ^ d := by rw [Nat.pow_succ]; omega
    have hd2 : 2 ^ d ≤ 2 ^ 40 := Nat.pow_le_pow_right (by decide) (by omega)
    by_cases h0 : x = 0
    · subst h0
      simp [impl_PlanMul.l0, naf]
    · have ih1 := fun y out h1 h2 => ih k y (q + 1) out h1 (by omega) (by omega) (by omega) h2
      rw [impl_PlanMul.l0, if_pos (by omega), tmod4 _ (by omega), w64 ((q : Int) + 1 + 1) (by omega) (by omega), show (q : Int) + 1 + 1 = ((q + 1 : Nat) : Int) + 1 by omega]
      conv => rhs; rw [naf, if_neg h0]
      by_cases m1 : x % 4 = 1
      · rw [if_pos (by omega), if_pos m1, if_pos (by omega), w64 ((x : Int) - 1) (by omega) (by omega), tdiv2 _ (by omega), w64 _ (by omega) (by omega), show ((x : Int) - 1) / 2 = (((x - 1) / 2 : Nat) : Int) by omega]
        rw [ih1 ((x - 1) / 2) (out ++ [(q : Int) + 1]) (by omega) (by simp; omega)]
        simp
      · rw [if_neg (by omega), if_neg m1]
        by_cases m3 : x % 4 = 3
        · rw [if_pos (by omega), if_pos m3, if_pos (by omega), w64 (-((q : Int) + 1)) (by omega) (by omega), w64 ((x : Int) + 1) (by omega) (by omega), tdiv2 _ (by omega), w64 _ (by omega) (by omega), show ((x : Int) + 1) / 2 = (((x + 1) / 2 : Nat) : Int) by omega]
          rw [ih1 ((x + 1) / 2) (out ++ [-((q : Int) + 1)]) (by omega) (by simp; omega)]
          simp
        · rw [if_neg (by omega), if_neg m3, tdiv2 _ (by omega), w64 _ (by omega) (by omega), show (x : Int) / 2 = ((x / 2 : Nat) : Int) by omega]
          exact ih1 (x / 2) out (by omega) (by omega)
def ab (e : Int) : Int := if e < 0 then -e else e
/-- Each is at least lo from 0, the next two further. -/
def Gap : Int → List Int → Prop
  | _, [] => True
  | lo, e :: t => lo ≤ ab e ∧ Gap (ab e + 2) t
theorem Gap.low {lo lo' : Int} {l : List Int} (h : Gap lo l) (hl : lo' ≤ lo) : Gap lo' l := by
  cases l with
  | nil => trivial
  | cons e t => exact ⟨by have := h.1; omega, h.2⟩
theorem naf_gap (f : Nat) : ∀ (x q : Nat), Gap ((q : Int) + 1) (naf f x q) ∧ (x % 2 = 0 → Gap ((q : Int) + 2) (naf f x q)) := by
  induction f with
  | zero => intro x q; exact ⟨trivial, fun _ => trivial⟩
  | succ f ih =>
    intro x q
    unfold naf
    by_cases h0 : x = 0
    · rw [if_pos h0]; exact ⟨trivial, fun _ => trivial⟩
    · rw [if_neg h0]
      by_cases m1 : x % 4 = 1
      · rw [if_pos m1]
        have h := (ih ((x - 1) / 2) (q + 1)).2 (by omega)
        have e : ab ((q : Int) + 1) = q + 1 := by unfold ab; rw [if_neg (by omega)]
        exact ⟨⟨by omega, by rw [e]; exact h.low (by omega)⟩, fun h => by omega⟩
      · rw [if_neg m1]
        by_cases m3 : x % 4 = 3
        · rw [if_pos m3]
          have h := (ih ((x + 1) / 2) (q + 1)).2 (by omega)
          have e : ab (-((q : Int) + 1)) = q + 1 := by unfold ab; rw [if_pos (by omega)]; omega
          exact ⟨⟨by omega, by rw [e]; exact h.low (by omega)⟩, fun h => by omega⟩
        · rw [if_neg m3]
          have h := (ih (x / 2) (q + 1)).1
          exact ⟨h.low (by omega), fun _ => h.low (by omega)⟩
theorem naf_top (d : Nat) : ∀ (x q : Nat), x ≤ 2 ^ d → ∀ e ∈ naf (d + 1) x q, ab e ≤ (q : Int) + 1 + d ∧ (q : Int) + 1 ≤ ab e := by
  induction d with
  | zero =>
    intro x q hx e he
    have hx' : x ≤ 1 := by simpa using hx
    by_cases h0 : x = 0
    · subst h0; simp [naf] at he
    · obtain rfl : x = 1 := by omega
      simp [naf] at he
      subst he
      unfold ab
      rw [if_neg (by omega)]; omega
  | succ d ih =>
    intro x q hx e he
    have hp : 2 ^ (d + 1) = 2 * 2 ^ d := by rw [Nat.pow_succ]; omega
    rw [naf] at he
    by_cases h0 : x = 0
    · rw [if_pos h0] at he; simp at he
    · rw [if_neg h0] at he
      by_cases m1 : x % 4 = 1
      · rw [if_pos m1] at he
        rcases List.mem_cons.1 he with rfl | he
        · unfold ab; rw [if_neg (by omega)]; omega
        · have := ih ((x - 1) / 2) (q + 1) (by omega) e he; omega
      · rw [if_neg m1] at he
        by_cases m3 : x % 4 = 3
        · rw [if_pos m3] at he
          rcases List.mem_cons.1 he with rfl | he
          · unfold ab; rw [if_pos (by omega)]; omega
          · have := ih ((x + 1) / 2) (q + 1) (by omega) e he; omega
        · rw [if_neg m3] at he
          have := ih (x / 2) (q + 1) (by omega) e he; omega
theorem gap_len (hi : Int) : ∀ (l : List Int) (lo : Int), Gap lo l → (∀ e ∈ l, ab e ≤ hi) → l ≠ [] → lo + 2 * ((l.length : Int) - 1) ≤ hi
  | [], _, _, _, h => absurd rfl h
  | [e], lo, hg, ht, _ => by
    have := ht e (by simp); have := hg.1
    simp; omega
  | e :: e2 :: t, lo, hg, ht, _ => by
    have := gap_len hi (e2 :: t) (ab e + 2) hg.2 (fun z hz => ht z (by simp [hz])) (by simp)
    have := hg.1
    simp only [List.length_cons] at *; omega
def term (n e : Int) : Int := if 0 < e then n * 2 ^ (e - 1).toNat else -(n * 2 ^ (-e - 1).toNat)
def val (n : Int) : List Int → Int
  | [] => 0
  | e :: t => term n e + val n t
theorem naf_val (n : Int) (d : Nat) : ∀ (x q : Nat), x ≤ 2 ^ d → val n (naf (d + 1) x q) = (x : Int) * (n * 2 ^ q) := by
  induction d with
  | zero =>
    intro x q hx
    have hx' : x ≤ 1 := by simpa using hx
    by_cases h0 : x = 0
    · subst h0; simp [naf, val]
    · obtain rfl : x = 1 := by omega
      simp [naf, val, term, show (0 : Int) < (q : Int) + 1 by omega]
  | succ d ih =>
    intro x q hx
    have hp : 2 ^ (d + 1) = 2 * 2 ^ d := by rw [Nat.pow_succ]; omega
    have hq : n * 2 ^ (q + 1) = 2 * (n * 2 ^ q) := by rw [Int.pow_succ, ← Int.mul_assoc, Int.mul_comm]
    rw [naf]
    by_cases h0 : x = 0
    · subst h0; simp [val]
    · rw [if_neg h0]
      generalize hN : n * 2 ^ q = N at *
      by_cases m1 : x % 4 = 1
      · rw [if_pos m1]
        have e : ((q : Int) + 1 - 1).toNat = q := by omega
        obtain ⟨y, hy⟩ : ∃ y, (x - 1) / 2 = y := ⟨_, rfl⟩
        rw [val, term, if_pos (by omega), e, hN, ih ((x - 1) / 2) (q + 1) (by omega), hq, hy]
        rw [show (x : Int) = 2 * (y : Int) + 1 by omega, Int.add_mul, Int.mul_assoc, Int.mul_left_comm]; omega
      · rw [if_neg m1]
        by_cases m3 : x % 4 = 3
        · rw [if_pos m3]
          have e : (-(-((q : Int) + 1)) - 1).toNat = q := by omega
          obtain ⟨y, hy⟩ : ∃ y, (x + 1) / 2 = y := ⟨_, rfl⟩
          rw [val, term, if_neg (by omega), e, hN, ih ((x + 1) / 2) (q + 1) (by omega), hq, hy]
          rw [show (x : Int) = 2 * (y : Int) - 1 by omega, Int.sub_mul, Int.mul_assoc, Int.mul_left_comm]; omega
        · rw [if_neg m3, ih (x / 2) (q + 1) (by omega), hq]
          obtain ⟨y, hy⟩ : ∃ y, x / 2 = y := ⟨_, rfl⟩
          rw [hy, show (x : Int) = 2 * (y : Int) by omega, Int.mul_assoc, Int.mul_left_comm]

theorem sameInts_loop (l : List Int) (hl : l.length ≤ 4611686018427387904) (d : Nat) : ∀ (k i : Nat), i ≤ l.length → l.length - i = d → d < k → laws_sameInts.l0 k l l (l.length : Int) i = some true := by
  induction d with
  | zero =>
    intro k i hi hd hk
    obtain ⟨k, rfl⟩ : ∃ m, k = m + 1 := ⟨k - 1, by omega⟩
    simp only [laws_sameInts.l0]
    rw [if_neg (by omega)]
  | succ d ih =>
    intro k i hi hd hk
    obtain ⟨k, rfl⟩ : ∃ m, k = m + 1 := ⟨k - 1, by omega⟩
    simp only [laws_sameInts.l0]
    rw [if_pos (by omega), if_pos (by omega), if_pos (by omega), if_pos (by omega), if_pos True.intro, w64 _ (by omega) (by omega)]
    exact ih k (i + 1) (by omega) (by omega) (by omega)
theorem sameInts (l : List Int) (hl : l.length ≤ 4611686018427387904) (k : Nat) (hk : l.length < k) : laws_sameInts.f k l l = some true := by
  unfold laws_sameInts.f
  rw [if_pos rfl]
  exact sameInts_loop l hl l.length k 0 (by omega) (by omega) (by omega)

theorem numberOf_loop (l : List Int) (hb : ∀ x ∈ l, (Lit.int .u8 x).wf = true) (hl : l.length ≤ 4611686018427387904) (d : Nat) : ∀ (k i : Nat) (s : Int), 0 ≤ s → s < 1000003 → i ≤ l.length → l.length - i = d → d < k →
    ∃ r, laws_numberOf.l0 k s l (l.length : Int) i = some r ∧ 0 ≤ r ∧ r < 1000003 := by
  induction d with
  | zero =>
    intro k i s h0 h1 hi hd hk
    obtain ⟨k, rfl⟩ : ∃ m, k = m + 1 := ⟨k - 1, by omega⟩
    simp only [laws_numberOf.l0]
    rw [if_neg (by omega)]
    exact ⟨s, rfl, h0, h1⟩
  | succ d ih =>
    intro k i s h0 h1 hi hd hk
    obtain ⟨k, rfl⟩ : ∃ m, k = m + 1 := ⟨k - 1, by omega⟩
    have hlt : i < l.length := by omega
    have hm : rd l i ∈ l := by
      simp only [rd, Int.toNat_natCast, List.getD_eq_getElem?_getD, List.getElem?_eq_getElem hlt, Option.getD_some]
      exact List.getElem_mem hlt
    have hx := wf8 (hb _ hm)
    simp only [laws_numberOf.l0]
    rw [if_pos (by omega), if_pos (by omega), if_pos (by omega), w64 ((i : Int) + 1) (by omega) (by omega), w64 (31 * s) (by omega) (by omega), w64 (rd l i) (by omega) (by omega), w64 (31 * s + rd l i) (by omega) (by omega), Int.tmod_eq_emod_of_nonneg (by omega)]
    exact ih k (i + 1) _ (by omega) (by omega) (by omega) (by omega) (by omega)
theorem numberOf (l : List Int) (hb : ∀ x ∈ l, (Lit.int .u8 x).wf = true) (hl : l.length ≤ 4611686018427387904) (k : Nat) (hk : l.length < k) : ∃ r, laws_numberOf.f k l = some r ∧ 0 ≤ r ∧ r < 1000003 :=
  numberOf_loop l hb hl l.length k 0 0 (by omega) (by omega) (by omega) (by omega) (by omega)

theorem divisor_some (l : List Int) (hl : ∀ x ∈ l, (Lit.int .u8 x).wf = true) (p s : Int) (n : Nat) (h : Cur p n) (hn : n ≤ 2800000000000000000) : ∃ v p' s', spec_l1Cur_divisor.f l p s = some (v, p', s') ∧ (0 ≤ v ∧ v ≤ 65536) ∧ Cur p' (n + 10) := by
  obtain ⟨b, p1, s1, e1, c1⟩ := one_some l hl p s 3 n h (by omega)
  unfold spec_l1Cur_divisor.f
  rw [e1]
  cases b with
  | true =>
    obtain ⟨v, p2, s2, e2, hv, c2⟩ := among_some l hl p1 s1 [0, 1, 2, 3, 5, 7, 641, 32768, 65535, 65536] (by decide) (n + 2) c1 (by omega)
    have hb : 0 ≤ v ∧ v ≤ 65536 := by simp at hv; omega
    exact ⟨v, p2, s2, by simp [e2], hb, c2.1, by have := c2.2.1; omega, by omega⟩
  | false =>
    obtain ⟨v, p2, s2, e2, v0, v1, c2⟩ := pick_some l hl p1 s1 256 (n + 2) c1 (by omega)
    obtain ⟨u, p3, s3, e3, u0, u1, c3⟩ := pick_some l hl p2 s2 256 (n + 2 + 2) c2 (by omega)
    have a1 : v ≤ 255 := by omega
    have a2 : u ≤ 255 := by omega
    have m0 : 0 ≤ v * (1 + u) := Int.mul_nonneg v0 (by omega)
    have m1 : v * (1 + u) ≤ 255 * 256 := Int.mul_le_mul a1 (by omega) (by omega) (by omega)
    refine ⟨1 + v * (1 + u), p3, s3, by simp [e2, e3]; rw [w64 (1 + u) (by omega) (by omega), w64 (v * (1 + u)) (by omega) (by omega), w64 (1 + v * (1 + u)) (by omega) (by omega)], by omega, c3.1, by have := c3.2.1; omega, by omega⟩

theorem naf_is (a : Int) (h0 : 0 ≤ a) (h1 : a ≤ 65535) (k : Nat) (hk : 65535 < k) : impl_PlanMul.f k a = some (naf 17 a.toNat 0, true) := by
  obtain ⟨x, rfl⟩ := Int.eq_ofNat_of_zero_le h0
  obtain ⟨q, g1, g2, g3⟩ := inb (x : Int) 0 65535
  obtain rfl : q = true := g3.2 ⟨h0, h1⟩
  have := naf_loop 16 k x 0 [] (by omega) (by omega) (by omega) (by omega) (by simp)
  simp only [impl_PlanMul.f, g2, Option.bind_some, if_true, Int.toNat_natCast]
  simpa using this
theorem pow_le16 (m : Nat) (h : m ≤ 16) : (1 : Int) ≤ 2 ^ m ∧ (2 : Int) ^ m ≤ 65536 := by
  have e : ((2 : Int) ^ m) = ((2 ^ m : Nat) : Int) := by simp
  have := Nat.two_pow_pos m
  have h2 : 2 ^ m ≤ 2 ^ 16 := Nat.pow_le_pow_right (by decide) h
  rw [e]
  omega
theorem shl_is (n : Int) (m : Nat) (hn0 : -65535 ≤ n) (hn1 : n ≤ 65535) (h : m ≤ 16) : shl .i64 n (m : Int) = n * 2 ^ m ∧ -4294901760 ≤ n * 2 ^ m ∧ n * 2 ^ m ≤ 4294901760 := by
  obtain ⟨p0, p1⟩ := pow_le16 m h
  have e : min ((m : Int)).toNat IntKind.i64.bits = m := by
    have : IntKind.i64.bits = 64 := rfl
    omega
  unfold shl
  rw [e]
  generalize (2 : Int) ^ m = P at *
  have b0 : -4294901760 ≤ n * P ∧ n * P ≤ 4294901760 := by
    have h1 : (n * P).natAbs = n.natAbs * P.natAbs := Int.natAbs_mul n P
    have h2 : n.natAbs * P.natAbs ≤ 65535 * 65536 := Nat.mul_le_mul (by omega) (by omega)
    omega
  refine ⟨?_, b0.1, b0.2⟩
  rw [IntKind.wrap_i64]
  omega
theorem do_loop (n : Int) (hn0 : -65535 ≤ n) (hn1 : n ≤ 65535) (l : List Int) (ht : ∀ e ∈ l, ab e ≤ 17 ∧ 1 ≤ ab e) (hl : l.length ≤ 20) (d : Nat) : ∀ (k i : Nat) (s : Int), i ≤ l.length → l.length - i = d → d < k → -(8589934592 * (i : Int)) ≤ s → s ≤ 8589934592 * (i : Int) →
    impl_DoPlan.l0 k n s l (l.length : Int) i = some (s + val n (l.drop i), true) := by
  induction d with
  | zero =>
    intro k i s hi hd hk hs0 hs1
    obtain ⟨k, rfl⟩ : ∃ m, k = m + 1 := ⟨k - 1, by omega⟩
    simp only [impl_DoPlan.l0]
    rw [if_neg (by omega), List.drop_of_length_le (by omega)]
    simp [val]
  | succ d ih =>
    intro k i s hi hd hk hs0 hs1
    obtain ⟨k, rfl⟩ : ∃ m, k = m + 1 := ⟨k - 1, by omega⟩
    have hlt : i < l.length := by omega
    have hx : rd l i = l[i] := by simp [rd, List.getD_eq_getElem?_getD, List.getElem?_eq_getElem hlt]
    have hm := ht l[i] (List.getElem_mem hlt)
    rw [List.drop_eq_getElem_cons hlt, val]
    simp only [impl_DoPlan.l0, hx]
    generalize l[i] = e at *
    have c1 : (i : Int) < (l.length : Int) := by omega
    have c2 : (0 : Int) ≤ i := by omega
    obtain ⟨q1, g1, g2, g3⟩ := inb e 1 20
    obtain ⟨q2, f1, f2, f3⟩ := inb e (-20) (-1)
    simp only [g2, f2, Option.bind_some, if_pos c1, if_pos c2, w64 ((i : Int) + 1) (by omega) (by omega)]
    unfold ab at hm
    by_cases he : e < 0
    · rw [if_pos he] at hm
      obtain rfl : q1 = false := by cases q1 with | false => rfl | true => have := g3.1 rfl; omega
      obtain rfl : q2 = true := f3.2 (by omega)
      obtain ⟨m, hm2⟩ := Int.eq_ofNat_of_zero_le (show 0 ≤ -e - 1 by omega)
      obtain ⟨z1, z2, z3⟩ := shl_is n m hn0 hn1 (by omega)
      simp only [Bool.false_eq_true, if_false, if_true, w64 (-e) (by omega) (by omega), w64 (-e - 1) (by omega) (by omega)]
      rw [if_pos (by omega), hm2, z1, w64 _ (by omega) (by omega), show (i : Int) + 1 = ((i + 1 : Nat) : Int) by omega, ih k (i + 1) _ (by omega) (by omega) (by omega) (by omega) (by omega)]
      rw [term, if_neg (by omega), hm2, Int.toNat_natCast]
      simp
      omega
    · rw [if_neg he] at hm
      obtain rfl : q1 = true := g3.2 (by omega)
      obtain ⟨m, hm2⟩ := Int.eq_ofNat_of_zero_le (show 0 ≤ e - 1 by omega)
      obtain ⟨z1, z2, z3⟩ := shl_is n m hn0 hn1 (by omega)
      simp only [if_true, w64 (e - 1) (by omega) (by omega)]
      rw [if_pos (by omega), hm2, z1, w64 _ (by omega) (by omega), show (i : Int) + 1 = ((i + 1 : Nat) : Int) by omega, ih k (i + 1) _ (by omega) (by omega) (by omega) (by omega) (by omega)]
      rw [term, if_pos (by omega), hm2, Int.toNat_natCast]
      simp
      omega
theorem do_val (n : Int) (hn0 : -65535 ≤ n) (hn1 : n ≤ 65535) (l : List Int) (ht : ∀ e ∈ l, ab e ≤ 17 ∧ 1 ≤ ab e) (hl : l.length ≤ 20) (k : Nat) (hk : 30 < k) : impl_DoPlan.f k l n = some (val n l, true) := by
  obtain ⟨k, rfl⟩ : ∃ m, k = m + 1 := ⟨k - 1, by omega⟩
  obtain ⟨q, g1, g2, g3⟩ := inb n (-65535) 65535
  obtain rfl : q = true := g3.2 ⟨hn0, hn1⟩
  have := do_loop n hn0 hn1 l ht hl l.length k 0 0 (by omega) (by omega) (by omega) (by omega) (by omega)
  unfold impl_DoPlan.f
  rw [if_neg (by omega), g2]
  simpa [impl_DoPlan.j0] using this
theorem gap_next : ∀ (l : List Int) (lo : Int), Gap lo l → ∀ i, (h : i + 1 < l.length) → ab (l[i]) + 2 ≤ ab (l[i + 1])
  | [], _, _, i, h => by simp at h
  | [e], _, _, i, h => by simp at h
  | e :: e2 :: t, lo, hg, i, h => by
    cases i with
    | zero => exact hg.2.1
    | succ i => exact gap_next (e2 :: t) _ hg.2 i (by simpa using h)
theorem draw_do (l : List Int) (hl : ∀ x ∈ l, (Lit.int .u8 x).wf = true) (k : Nat) (hk : 65536 < k) : ∃ q n, spec_DrawDoPlan.f k l = some (q, n) ∧ (∀ x ∈ q, (Lit.int .i64 x).wf = true) := by
  obtain ⟨k, rfl⟩ : ∃ m, k = m + 1 := ⟨k - 1, by omega⟩
  have hw : ∀ x : Int, -9223372036854775808 ≤ x → x ≤ 9223372036854775807 → (Lit.int .i64 x).wf = true := by
    intro x h0 h1
    have : IntKind.i64.min ≤ x ∧ x ≤ IntKind.i64.max := ⟨h0, h1⟩
    simpa [Lit.wf] using this
  obtain ⟨by_, p1, s1, e1, hb, c1⟩ := divisor_some l hl 0 0 0 ⟨by omega, by omega, by omega⟩ (by omega)
  have hplan : ∃ r q, spec_PlanMul.f (k + 1) by_ = some (r, q) ∧ ∀ x ∈ r, (Lit.int .i64 x).wf = true := by
    obtain ⟨r, q, f1, f2, _⟩ := planmul by_ (k + 1) (by omega)
    by_cases h : by_ ≤ 65535
    · have := naf_is by_ hb.1 h (k + 1) (by omega)
      rw [f2] at this
      simp only [Option.some.injEq, Prod.mk.injEq] at this
      refine ⟨r, q, f1, fun x hx => ?_⟩
      rw [this.1] at hx
      have t := naf_top 16 by_.toNat 0 (by omega) x hx
      unfold ab at t
      split at t <;> exact hw x (by omega) (by omega)
    · obtain ⟨q', g1, g2, g3⟩ := inb by_ 0 65535
      obtain rfl : q' = false := by cases q' with | false => rfl | true => have := g3.1 rfl; omega
      exact ⟨[], false, by simp [spec_PlanMul.f, g1], fun x hx => by simp at hx⟩
  obtain ⟨r, q, f1, hr⟩ := hplan
  have tail1 : ∀ (p s : Int) (n : Nat), Cur p n → n ≤ 100 → ∃ q n', spec_DrawDoPlan.j0 (k + 1) r true l p s = some (q, n') ∧ (∀ x ∈ q, (Lit.int .i64 x).wf = true) := by
    intro p s n c hn
    obtain ⟨v, p2, s2, e2, v0, v1, c2⟩ := pick_some l hl p s 42 n c (by omega)
    obtain ⟨u, p3, s3, e3, _, c3⟩ := among_some l hl p2 s2 [(-65536), (-65535), (-7), 0, 1, 12345, 65535, 65536] (by decide) (n + 2) c2 (by omega)
    refine ⟨[wrap64 (v - 20), 3], u, by simp [spec_DrawDoPlan.j0, e2, e3], fun x hx => ?_⟩
    simp at hx
    rcases hx with rfl | rfl
    · rw [w64 _ (by omega) (by omega)]; exact hw _ (by omega) (by omega)
    · exact hw _ (by omega) (by omega)
  have tail2 : ∀ (p s : Int) (n : Nat), Cur p n → n ≤ 100 → ∃ q n', spec_DrawDoPlan.j0 (k + 1) r false l p s = some (q, n') ∧ (∀ x ∈ q, (Lit.int .i64 x).wf = true) := by
    intro p s n c hn
    obtain ⟨u, p3, s3, e3, _, c3⟩ := among_some l hl p s [(-65536), (-65535), (-7), 0, 1, 12345, 65535, 65536] (by decide) n c (by omega)
    exact ⟨r, u, by simp [spec_DrawDoPlan.j0, e3], hr⟩
  unfold spec_DrawDoPlan.f
  rw [e1]
  simp only [Option.bind_some, f1]
  cases q with
  | false =>
    obtain ⟨q, n', h1, h2⟩ := tail1 p1 s1 10 c1 (by omega)
    exact ⟨q, n', by simpa using h1, h2⟩
  | true =>
    obtain ⟨b, p2, s2, e2, c2⟩ := one_some l hl p1 s1 6 10 c1 (by omega)
    cases b with
    | false =>
      obtain ⟨q, n', h1, h2⟩ := tail2 p2 s2 12 c2 (by omega)
      exact ⟨q, n', by simp [e2]; exact h1, h2⟩
    | true =>
      obtain ⟨q, n', h1, h2⟩ := tail1 p2 s2 12 c2 (by omega)
      exact ⟨q, n', by simp [e2]; exact h1, h2⟩

theorem tail_ok (l1 : List Int) (hl1 : ∀ x ∈ l1, (Lit.int .u8 x).wf = true) (k : Nat) (hk : 70000 < k) :
    ((spec_DrawDoPlan.f k l1).bind fun bt212 => ((impl_DoPlan.f k bt212.1 bt212.2).bind fun bt216 => ((spec_DoPlan.f k bt212.1 bt212.2).bind fun bt218 => (if (bt216.2 == bt218.2) = true then (some (bt216.1 == bt218.1)) else (some false))))) = some true := by
  obtain ⟨q, n, e1, hq⟩ := draw_do l1 hl1 k (by omega)
  obtain ⟨r, b, f1, f2⟩ := plan_eq q n hq k (by omega)
  simp [e1, f1, f2]
theorem check_loop (l1 : List Int) (hl1 : ∀ x ∈ l1, (Lit.int .u8 x).wf = true) (l : List Int) (lo : Int) (hg : Gap lo l) (ht : ∀ e ∈ l, ab e ≤ 17 ∧ 1 ≤ ab e) (hl : l.length ≤ 20) (d : Nat) : ∀ (k i : Nat), 1 ≤ i → l.length + 1 - i = d → 2 * d + 70010 < k → laws_FnPlans.l0 k l1 l (i : Int) = some true := by
  induction d with
  | zero =>
    intro k i h1 hd hk
    obtain ⟨k, rfl⟩ : ∃ m, k = m + 1 := ⟨k - 1, by omega⟩
    rw [laws_FnPlans.l0, if_neg (by omega)]
    exact tail_ok l1 hl1 k (by omega)
  | succ d ih =>
    intro k i h1 hd hk
    obtain ⟨k, rfl⟩ : ∃ m, k = m + 1 + 1 := ⟨k - 2, by omega⟩
    rw [laws_FnPlans.l0]
    by_cases hlt : i < l.length
    · have hn := gap_next l lo hg (i - 1) (by omega)
      have b1 := ht l[i] (List.getElem_mem hlt)
      have b0 := ht (l[i - 1]'(by omega)) (List.getElem_mem _)
      have e1 : rd l ((i : Int) - 1) = l[i - 1]'(by omega) := by
        have : ((i : Int) - 1).toNat = i - 1 := by omega
        simp only [rd, this, List.getD_eq_getElem?_getD, List.getElem?_eq_getElem (show i - 1 < l.length by omega), Option.getD_some]
      have e2 : rd l (i : Int) = l[i] := by simp [rd, List.getD_eq_getElem?_getD, List.getElem?_eq_getElem hlt]
      have hn' : ab (l[i - 1]'(by omega)) + 2 ≤ ab l[i] := by
        have : i - 1 + 1 = i := by omega
        simpa [this] using hn
      clear hn
      rw [if_pos (by omega), w64 ((i : Int) - 1) (by omega) (by omega), if_pos (by omega), if_pos (by omega), if_pos (by omega), e1, e2]
      generalize l[i - 1]'(by omega) = x at *
      generalize l[i] = y at *
      have go : ∀ z : Int, z = ab x → laws_FnPlans.j3 (k + 1) l1 l (i : Int) z y = some true := by
        intro z hz
        have h2 : 1 ≤ z ∧ z ≤ 17 := by omega
        rw [laws_FnPlans.j3, w64 (z + 2) (by omega) (by omega), w64 ((i : Int) + 1) (by omega) (by omega), show (i : Int) + 1 = ((i + 1 : Nat) : Int) by omega]
        have hy : ab y = if y < 0 then -y else y := rfl
        by_cases h0 : y < 0
        · rw [if_pos h0] at hy ⊢
          rw [w64 (-y) (by omega) (by omega), if_neg (by omega)]
          exact ih k (i + 1) (by omega) (by omega) (by omega)
        · rw [if_neg h0] at hy ⊢
          rw [if_neg (by omega)]
          exact ih k (i + 1) (by omega) (by omega) (by omega)
      have hx : ab x = if x < 0 then -x else x := rfl
      by_cases h0 : x < 0
      · rw [if_pos h0] at hx ⊢
        exact go _ (by rw [w64 (-x) (by omega) (by omega)]; omega)
      · rw [if_neg h0] at hx ⊢
        exact go _ (by omega)
    · rw [if_neg (by omega)]
      exact tail_ok l1 hl1 (k + 1) (by omega)
theorem FnPlans (l l1 : List Int) (_ : l.length ≤ 9223372036854775807) (hl : ∀ x, x ∈ l → (Lit.int .u8 x).wf = true) (_ : l.length * 1 ≤ 140737488351232) (_ : l1.length ≤ 9223372036854775807) (hl1 : ∀ x, x ∈ l1 → (Lit.int .u8 x).wf = true) (hs1 : l1.length * 1 ≤ 140737488351232) : ∃ k, laws_FnPlans.f k l l1 = some true := by
  refine ⟨l1.length + 200000, ?_⟩
  have mono := impl_PlanMul.mono
  unfold laws_FnPlans.f
  by_cases hbig : wrap64 ((l.length : Int) + (l1.length : Int)) > 1048576
  · rw [if_pos hbig]
  · rw [if_neg hbig]
    obtain ⟨by_, p1, s1, e1, hb, _⟩ := divisor_some l hl 0 0 0 ⟨by omega, by omega, by omega⟩ (by omega)
    have hdraw : spec_DrawPlanMul.f l = some by_ := by simp [spec_DrawPlanMul.f, spec_DrawMagicFor.f, e1]
    rw [hdraw]
    simp only [Option.bind_some]
    obtain ⟨K, hK⟩ : ∃ K, l1.length + 200000 = K + 1 := ⟨l1.length + 199999, by omega⟩
    rw [hK]
    obtain ⟨r, q, f1, f2, hr⟩ := planmul by_ (K + 1) (by omega)
    have hsame := sameInts r (by omega) (K + 1) (by omega)
    rw [f1, f2]
    simp only [Option.bind_some, bne_self_eq_false, Bool.false_eq_true, if_false, hsame, Bool.not_true]
    by_cases h : by_ ≤ 65535
    · have hn := naf_is by_ hb.1 h (K + 1) (by omega)
      rw [f2] at hn
      simp only [Option.some.injEq, Prod.mk.injEq] at hn
      obtain ⟨rfl, rfl⟩ := hn
      have top : ∀ e ∈ naf 17 by_.toNat 0, ab e ≤ 17 ∧ 1 ≤ ab e := fun e he => by
        have := naf_top 16 by_.toNat 0 (by omega) e he
        omega
      have gap := (naf_gap 17 by_.toNat 0).1
      have hlen : (naf 17 by_.toNat 0).length ≤ 9 := by
        by_cases hz : naf 17 by_.toNat 0 = []
        · rw [hz]; simp
        · have := gap_len 17 _ _ gap (fun e he => (top e he).1) hz
          omega
      obtain ⟨num, hnum, n0, n1⟩ := numberOf l1 hl1 (by omega) K (by omega)
      have hd := do_val (num % 131071 - 65535) (by omega) (by omega) _ top (by omega) K (by omega)
      have hv : val (num % 131071 - 65535) (naf 17 by_.toNat 0) = by_ * (num % 131071 - 65535) := by
        have := naf_val (num % 131071 - 65535) 16 by_.toNat 0 (by omega)
        rw [this]
        have : ((by_.toNat : Nat) : Int) = by_ := by omega
        rw [this]
        simp
      have hb2 : -(65535 * 65535) ≤ by_ * (num % 131071 - 65535) ∧ by_ * (num % 131071 - 65535) ≤ 65535 * 65535 := by
        have hq0 : -65535 ≤ num % 131071 - 65535 := by omega
        have hq1 : num % 131071 - 65535 ≤ 65535 := by omega
        generalize num % 131071 - 65535 = m at *
        have h1 : (by_ * m).natAbs = by_.natAbs * m.natAbs := Int.natAbs_mul by_ m
        have h2 : by_.natAbs * m.natAbs ≤ 65535 * 65535 := Nat.mul_le_mul (by omega) (by omega)
        omega
      have hchk := check_loop l1 hl1 _ _ gap top (by omega) (naf 17 by_.toNat 0).length (K - 1) 1 (by omega) (by omega) (by omega)
      obtain ⟨K2, rfl⟩ : ∃ m, K = m + 1 := ⟨K - 1, by omega⟩
      rw [laws_FnPlans.j0]
      simp only [Bool.false_eq_true, if_false, if_true, hnum, Option.bind_some, Int.tmod_eq_emod_of_nonneg n0, w64 (num % 131071 - 65535) (by omega) (by omega), hd, hv, w64 _ (show -9223372036854775808 ≤ by_ * (num % 131071 - 65535) by omega) (by omega)]
      rw [laws_FnPlans.j1, decide_eq_false (by omega)]
      simpa using hchk
    · obtain ⟨q', g1, g2, g3⟩ := inb by_ 0 65535
      obtain rfl : q' = false := by cases q' with | false => rfl | true => have := g3.1 rfl; omega
      have : impl_PlanMul.f (K + 1) by_ = some ([], false) := by simp [impl_PlanMul.f, g2]
      rw [f2] at this
      simp only [Option.some.injEq, Prod.mk.injEq] at this
      obtain ⟨rfl, rfl⟩ := this
      rw [laws_FnPlans.j0]
      simp only [Bool.false_eq_true, if_false]
      exact tail_ok l1 hl1 K (by omega)

end Go.Proofs.Ytncagigpflfkbaa.Pure

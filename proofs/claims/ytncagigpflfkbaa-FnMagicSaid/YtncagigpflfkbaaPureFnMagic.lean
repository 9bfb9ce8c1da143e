/- The pure statement of FnMagic: the program returns what the reference returns, for all arguments. -/
import Derived.Test.YtncagigpflfkbaaXFnMagicx6
import Derived.Test.YtncagigpflfkbaaBits
namespace Go.Proofs.Ytncagigpflfkbaa.Pure
open Go.RowKit Go.Proofs.Ytncagigpflfkbaa.XFnMagic Go.Proofs.YtncagigpflfkbaaW.PrintWords Go.Proofs.YtncagigpflfkbaaW.PrintLast Go.Proofs.YtncagigpflfkbaaW.PrintMore Go.Proofs.YtncagigpflfkbaaBits

theorem good (a b c : Int) : ∃ r, spec_GoodMagic.f a b c = some r ∧ impl_isMagic.f a b c = some r ∧ (r = true ↔ (1 ≤ a ∧ a ≤ 65535) ∧ (0 ≤ b ∧ b ≤ 131071) ∧ (0 ≤ c ∧ c ≤ 32)) := by
  refine ⟨decide ((1 ≤ a ∧ a ≤ 65535) ∧ (0 ≤ b ∧ b ≤ 131071) ∧ (0 ≤ c ∧ c ≤ 32)), ?_, ?_, by simp⟩
  all_goals
    simp only [spec_GoodMagic.f, spec_l1In.f, impl_isMagic.f, impl_in.f]
    by_cases h1 : a ≥ 1 <;> by_cases h2 : a ≤ 65535 <;> by_cases h3 : b ≥ 0 <;> by_cases h4 : b ≤ 131071 <;> by_cases h5 : c ≥ 0 <;> simp [*]

theorem inb (a l h : Int) : ∃ r, spec_l1In.f a l h = some r ∧ impl_in.f a l h = some r ∧ (r = true ↔ l ≤ a ∧ a ≤ h) := by
  refine ⟨decide (l ≤ a ∧ a ≤ h), ?_, ?_, by simp⟩
  all_goals
    simp only [spec_l1In.f, impl_in.f]
    by_cases h1 : a ≥ l <;> simp [*]

theorem wrapU (c : Int) (h0 : 0 ≤ c) (h1 : c ≤ 32) : IntKind.u64.wrap c = c := by
  simp [IntKind.wrap, IntKind.bits, IntKind.signed]; omega
theorem l2div (a b c n : Int) (h0 : 0 ≤ c) (h1 : c ≤ 32) : spec_l2Div.f a b c n = some (shr .i64 (wrap64 (n * b)) c) := by
  simp [spec_l2Div.f, wrapU c h0 h1, h0]

theorem wf8 {x : Int} (h : (Lit.int .u8 x).wf = true) : 0 ≤ x ∧ x ≤ 255 := by
  have h' : IntKind.u8.min ≤ x ∧ x ≤ IntKind.u8.max := by simpa [Lit.wf] using h
  exact h'
theorem and255 (x : Int) : 0 ≤ wrap64 (Go.bits .and .u64 x 255) ∧ wrap64 (Go.bits .and .u64 x 255) ≤ 255 := by
  have e : Go.bits .and .u64 x 255 = IntKind.u64.wrap ((BitVec.ofInt 64 x &&& BitVec.ofInt 64 255).toNat : Int) := rfl
  have h : (BitVec.ofInt 64 x &&& BitVec.ofInt 64 255).toNat ≤ 255 := by
    rw [BitVec.toNat_and]
    exact Nat.and_le_right
  rw [e]
  generalize (BitVec.ofInt 64 x &&& BitVec.ofInt 64 255).toNat = q at h
  have e2 : IntKind.u64.wrap (q : Int) = q := by
    simp [IntKind.wrap, IntKind.bits, IntKind.signed]; omega
  rw [e2, w64 _ (by omega) (by omega)]
  omega
/-- The place of the reader: how far it has read at most. -/
def Cur (p : Int) (n : Nat) : Prop := 0 ≤ p ∧ p ≤ n ∧ n ≤ 4000000000000000000
theorem next_some (l : List Int) (hl : ∀ x ∈ l, (Lit.int .u8 x).wf = true) (p s : Int) (n : Nat) (h : Cur p n) (hn : n ≤ 3000000000000000000) : ∃ v p' s', spec_l1Cur_next.f l p s = some (v, p', s') ∧ 0 ≤ v ∧ v ≤ 255 ∧ Cur p' (n + 1) := by
  obtain ⟨h0, h1, h2⟩ := h
  have hp : wrap64 (p + 1) = p + 1 := w64 _ (by omega) (by omega)
  have hc : Cur (p + 1) (n + 1) := ⟨by omega, by omega, by omega⟩
  unfold spec_l1Cur_next.f
  simp only [hp]
  by_cases hlt : p < (l.length : Int)
  · have hm : rd l p ∈ l := by
      have : p.toNat < l.length := by omega
      simp only [rd, List.getD_eq_getElem?_getD, List.getElem?_eq_getElem this, Option.getD_some]
      exact List.getElem_mem this
    have hb := wf8 (hl _ hm)
    rw [if_pos hlt, if_pos h0]
    split
    · exact ⟨_, _, _, rfl, by rw [w64 _ (by omega) (by omega)]; exact hb.1, by rw [w64 _ (by omega) (by omega)]; exact hb.2, hc⟩
    · refine ⟨_, _, _, rfl, ?_, ?_, hc⟩
      · exact (and255 _).1
      · exact (and255 _).2
  · rw [if_neg hlt]
    split
    · exact ⟨_, _, _, rfl, by omega, by omega, hc⟩
    · refine ⟨_, _, _, rfl, ?_, ?_, hc⟩
      · exact (and255 _).1
      · exact (and255 _).2
theorem pick_some (l : List Int) (hl : ∀ x ∈ l, (Lit.int .u8 x).wf = true) (p s m : Int) (n : Nat) (h : Cur p n) (hn : n ≤ 2900000000000000000) : ∃ v p' s', spec_l1Cur_pick.f l p s m = some (v, p', s') ∧ 0 ≤ v ∧ (v < m ∨ v = 0) ∧ Cur p' (n + 2) := by
  unfold spec_l1Cur_pick.f
  by_cases hm : m ≤ 1
  · rw [if_pos hm]
    exact ⟨0, p, s, rfl, by omega, .inr rfl, h.1, by have := h.2.1; omega, by omega⟩
  · rw [if_neg hm]
    obtain ⟨v, p1, s1, e1, v0, v1, c1⟩ := next_some l hl p s n h (by omega)
    rw [e1]
    simp only [Option.bind_some]
    by_cases h2 : m > 200
    · obtain ⟨u, p2, s2, e2, u0, u1, c2⟩ := next_some l hl p1 s1 (n + 1) c1 (by omega)
      rw [if_pos h2, e2]
      simp only [Option.bind_some]
      rw [if_neg (by omega), w64 (v * 256) (by omega) (by omega), w64 (v * 256 + u) (by omega) (by omega), Int.tmod_eq_emod_of_nonneg (by omega)]
      exact ⟨_, _, _, rfl, Int.emod_nonneg _ (by omega), .inl (Int.emod_lt_of_pos _ (by omega)), c2⟩
    · rw [if_neg h2, if_neg (by omega), Int.tmod_eq_emod_of_nonneg v0]
      exact ⟨_, _, _, rfl, Int.emod_nonneg _ (by omega), .inl (Int.emod_lt_of_pos _ (by omega)), c1.1, by have := c1.2.1; omega, by omega⟩

theorem one_some (l : List Int) (hl : ∀ x ∈ l, (Lit.int .u8 x).wf = true) (p s m : Int) (n : Nat) (h : Cur p n) (hn : n ≤ 2900000000000000000) : ∃ v p' s', spec_l1Cur_one.f l p s m = some (v, p', s') ∧ Cur p' (n + 2) := by
  obtain ⟨v, p', s', e, _, _, c⟩ := pick_some l hl p s m n h hn
  exact ⟨v == 0, p', s', by simp [spec_l1Cur_one.f, e], c⟩

theorem among_some (l : List Int) (hl : ∀ x ∈ l, (Lit.int .u8 x).wf = true) (p s : Int) (q : List Int) (hq : 0 < q.length) (n : Nat) (h : Cur p n) (hn : n ≤ 2900000000000000000) : ∃ v p' s', spec_l1Cur_among.f l p s q = some (v, p', s') ∧ v ∈ q ∧ Cur p' (n + 2) := by
  obtain ⟨v, p', s', e, v0, v1, c⟩ := pick_some l hl p s (q.length : Int) n h hn
  have hlt : v < (q.length : Int) := by rcases v1 with h | h <;> omega
  refine ⟨rd q v, p', s', by simp [spec_l1Cur_among.f, e, v0, hlt], ?_, c⟩
  have : v.toNat < q.length := by omega
  simp only [rd, List.getD_eq_getElem?_getD, List.getElem?_eq_getElem this, Option.getD_some]
  exact List.getElem_mem this

theorem word_some (l : List Int) (hl : ∀ x ∈ l, (Lit.int .u8 x).wf = true) (p s : Int) (n : Nat) (h : Cur p n) (hn : n ≤ 2800000000000000000) : ∃ v p' s', spec_l1Cur_word.f l p s = some (v, p', s') ∧ (-1 ≤ v ∧ v ≤ 65536) ∧ Cur p' (n + 10) := by
  obtain ⟨b, p1, s1, e1, c1⟩ := one_some l hl p s 3 n h (by omega)
  unfold spec_l1Cur_word.f
  rw [e1]
  cases b with
  | true =>
    obtain ⟨v, p2, s2, e2, hv, c2⟩ := among_some l hl p1 s1 [(-1), 0, 1, 2, 3, 32767, 32768, 32769, 65534, 65535, 65536] (by decide) (n + 2) c1 (by omega)
    have hb : -1 ≤ v ∧ v ≤ 65536 := by simp at hv; omega
    exact ⟨v, p2, s2, by simp [e2], hb, c2.1, by have := c2.2.1; omega, by omega⟩
  | false =>
    obtain ⟨v, p2, s2, e2, v0, v1, c2⟩ := pick_some l hl p1 s1 256 (n + 2) c1 (by omega)
    obtain ⟨u, p3, s3, e3, u0, u1, c3⟩ := pick_some l hl p2 s2 256 (n + 2 + 2) c2 (by omega)
    have a1 : v ≤ 255 := by omega
    have a2 : u ≤ 255 := by omega
    refine ⟨v * 256 + u, p3, s3, by simp [e2, e3]; rw [w64 (v * 256) (by omega) (by omega), w64 (v * 256 + u) (by omega) (by omega)], by omega, c3.1, by have := c3.2.1; omega, by omega⟩

theorem numberOf_loop (l : List Int) (hb : ∀ x ∈ l, (Lit.int .u8 x).wf = true) (hl : l.length ≤ 4611686018427387904) (d : Nat) : ∀ (k i : Nat) (s : Int), 0 ≤ s → s < 1000003 → i ≤ l.length → l.length - i = d → d < k →
    ∃ r, laws_numberOf.l0 k s l (l.length : Int) i = some r ∧ 0 ≤ r ∧ r < 1000003 := by
  induction d with
  | zero =>
    intro k i s h0 h1 hi hd hk
    obtain ⟨k, rfl⟩ : ∃ m, k = m + 1 := ⟨k - 1, by omega⟩
    simp only [laws_numberOf.l0]
    rw [if_neg (by omega)]
    exact ⟨s, rfl, h0, h1⟩
  | succ d ih =>
    intro k i s h0 h1 hi hd hk
    obtain ⟨k, rfl⟩ : ∃ m, k = m + 1 := ⟨k - 1, by omega⟩
    have hlt : i < l.length := by omega
    have hm : rd l i ∈ l := by
      simp only [rd, Int.toNat_natCast, List.getD_eq_getElem?_getD, List.getElem?_eq_getElem hlt, Option.getD_some]
      exact List.getElem_mem hlt
    have hx := wf8 (hb _ hm)
    simp only [laws_numberOf.l0]
    rw [if_pos (by omega), if_pos (by omega), if_pos (by omega), w64 ((i : Int) + 1) (by omega) (by omega), w64 (31 * s) (by omega) (by omega), w64 (rd l i) (by omega) (by omega), w64 (31 * s + rd l i) (by omega) (by omega), Int.tmod_eq_emod_of_nonneg (by omega)]
    exact ih k (i + 1) _ (by omega) (by omega) (by omega) (by omega) (by omega)
theorem numberOf (l : List Int) (hb : ∀ x ∈ l, (Lit.int .u8 x).wf = true) (hl : l.length ≤ 4611686018427387904) (k : Nat) (hk : l.length < k) : ∃ r, laws_numberOf.f k l = some r ∧ 0 ≤ r ∧ r < 1000003 :=
  numberOf_loop l hb hl l.length k 0 0 (by omega) (by omega) (by omega) (by omega) (by omega)

theorem divisor_some (l : List Int) (hl : ∀ x ∈ l, (Lit.int .u8 x).wf = true) (p s : Int) (n : Nat) (h : Cur p n) (hn : n ≤ 2800000000000000000) : ∃ v p' s', spec_l1Cur_divisor.f l p s = some (v, p', s') ∧ (0 ≤ v ∧ v ≤ 65536) ∧ Cur p' (n + 10) := by
  obtain ⟨b, p1, s1, e1, c1⟩ := one_some l hl p s 3 n h (by omega)
  unfold spec_l1Cur_divisor.f
  rw [e1]
  cases b with
  | true =>
    obtain ⟨v, p2, s2, e2, hv, c2⟩ := among_some l hl p1 s1 [0, 1, 2, 3, 5, 7, 641, 32768, 65535, 65536] (by decide) (n + 2) c1 (by omega)
    have hb : 0 ≤ v ∧ v ≤ 65536 := by simp at hv; omega
    exact ⟨v, p2, s2, by simp [e2], hb, c2.1, by have := c2.2.1; omega, by omega⟩
  | false =>
    obtain ⟨v, p2, s2, e2, v0, v1, c2⟩ := pick_some l hl p1 s1 256 (n + 2) c1 (by omega)
    obtain ⟨u, p3, s3, e3, u0, u1, c3⟩ := pick_some l hl p2 s2 256 (n + 2 + 2) c2 (by omega)
    have a1 : v ≤ 255 := by omega
    have a2 : u ≤ 255 := by omega
    have m0 : 0 ≤ v * (1 + u) := Int.mul_nonneg v0 (by omega)
    have m1 : v * (1 + u) ≤ 255 * 256 := Int.mul_le_mul a1 (by omega) (by omega) (by omega)
    refine ⟨1 + v * (1 + u), p3, s3, by simp [e2, e3]; rw [w64 (1 + u) (by omega) (by omega), w64 (v * (1 + u)) (by omega) (by omega), w64 (1 + v * (1 + u)) (by omega) (by omega)], by omega, c3.1, by have := c3.2.1; omega, by omega⟩

theorem u64_of (c : Int) (h0 : 0 ≤ c) (h1 : c ≤ 64) : IntKind.u64.wrap c = c := by
  simp [IntKind.wrap, IntKind.bits, IntKind.signed]; omega
theorem pow_le (m : Nat) (h : m ≤ 16) : (1 : Int) ≤ 2 ^ m ∧ (2 : Int) ^ m ≤ 65536 := by
  have e : ((2 : Int) ^ m) = ((2 ^ m : Nat) : Int) := by simp
  have := Nat.two_pow_pos m
  have h2 : 2 ^ m ≤ 2 ^ 16 := Nat.pow_le_pow_right (by decide) h
  rw [e]
  omega
theorem pow_add16 (m : Nat) : (2 : Int) ^ (16 + m) = 65536 * 2 ^ m := by
  rw [Int.pow_add]; rfl
theorem shl_lo (m : Nat) (h : m ≤ 16) : shl .i64 1 (m : Int) = 2 ^ m := by
  obtain ⟨p0, p1⟩ := pow_le m h
  have e : min ((m : Int)).toNat IntKind.i64.bits = m := by
    have : IntKind.i64.bits = 64 := rfl
    omega
  unfold shl
  rw [e, IntKind.wrap_i64]
  generalize (2 : Int) ^ m = P at *
  omega
theorem shl_hi (m : Nat) (h : m ≤ 16) : shl .i64 1 (16 + (m : Int)) = 65536 * 2 ^ m := by
  obtain ⟨p0, p1⟩ := pow_le m h
  have e : min ((16 + (m : Int))).toNat IntKind.i64.bits = 16 + m := by
    have : IntKind.i64.bits = 64 := rfl
    omega
  unfold shl
  rw [e, IntKind.wrap_i64, pow_add16]
  generalize (2 : Int) ^ m = P at *
  omega
def Ms (x m s : Int) : Prop := 0 ≤ m ∧ m ≤ 131071 ∧ ∃ t : Nat, s = 16 + (t : Int) ∧ t ≤ 16 ∧ 65536 * 2 ^ t ≤ m * x ∧ m * x ≤ 65536 * 2 ^ t + 2 ^ t
theorem magic2 (x : Int) (hx0 : 1 ≤ x) (hx1 : x ≤ 65535) (d : Nat) : ∀ (k j : Nat), 16 - j = d → j ≤ 16 → d < k → (j = 0 ∨ (2 : Int) ^ j < 2 * x) →
    ∃ m s, spec_MagicFor.l0 k x (16 + (j : Int)) = some (x, m, s, true) ∧ impl_MagicFor.l0 k x (16 + (j : Int)) = some (x, m, s, true) ∧ Ms x m s := by
  induction d with
  | zero =>
    intro k j hd hj hk hi
    obtain ⟨k, rfl⟩ : ∃ m, k = m + 1 := ⟨k - 1, by omega⟩
    have e0 : x ≠ 0 := by omega
    obtain rfl : j = 16 := by omega
    have hP : (2 : Int) ^ 16 = 65536 := by decide
    have s1 := shl_hi 16 (by omega)
    have s2 := shl_lo 16 (by omega)
    have hc : ((16 : Nat) : Int) = 16 := rfl
    simp only [hc] at s1 s2
    rw [hP] at s1 s2 hi
    simp only [spec_MagicFor.l0, impl_MagicFor.l0, hc, show (16 : Int) + 16 = 32 from rfl, u64_of 32 (by decide) (by decide)]
    rw [show wrap64 ((32 : Int) - 16) = 16 from by rw [w64 _ (by decide) (by decide)]; rfl, u64_of 16 (by decide) (by decide), show shl .i64 1 32 = 65536 * 65536 from s1, s2]
    have w1 : wrap64 ((65536 * 65536 : Int) + x) = 4294967296 + x := by rw [w64 _ (by omega) (by omega)]; omega
    have w2 : wrap64 (4294967296 + x - 1) = 4294967296 + x - 1 := w64 _ (by omega) (by omega)
    have w3 : Int.tdiv (4294967296 + x - 1) x = (4294967296 + x - 1) / x := Int.tdiv_eq_ediv_of_nonneg (by omega)
    have hq0 : 0 ≤ (4294967296 + x - 1) / x := Int.ediv_nonneg (by omega) (by omega)
    have hq1 : (4294967296 + x - 1) / x * x ≤ 4294967296 + x - 1 := Int.ediv_mul_le _ e0
    have hq4 : 4294967296 + x - 1 < ((4294967296 + x - 1) / x + 1) * x := Int.lt_ediv_add_one_mul_self _ (by omega)
    have hq2 : (4294967296 + x - 1) / x ≤ (4294967296 + x - 1) / x * x := by
      have := Int.mul_le_mul_of_nonneg_left hx0 hq0
      omega
    simp only [w1, w2, w3]
    generalize (4294967296 + x - 1) / x = q at *
    have hq5 : (q + 1) * x = q * x + x := by rw [Int.add_mul]; omega
    have hm : q ≤ 131071 := by
      refine Int.not_lt.1 fun h => ?_
      have : 131072 * x ≤ q * x := Int.mul_le_mul_of_nonneg_right (by omega) (by omega)
      rcases hi with hi | hi <;> omega
    refine ⟨q, 32, ?_, ?_, hq0, hm, 16, rfl, by omega, ?_, ?_⟩
    · rw [if_pos (by decide), if_pos (by decide), if_neg e0, if_pos (by decide)]
      rw [w64 q (by omega) (by omega), w64 (q * x) (by omega) (by omega), w64 (q * x - 65536 * 65536) (by omega) (by omega), if_pos (by omega)]
    · rw [if_pos (by decide), if_neg e0, if_pos (by decide)]
      rw [w64 q (by omega) (by omega), w64 (q * x) (by omega) (by omega), w64 (q * x - 65536 * 65536) (by omega) (by omega), if_pos (by omega)]
    · rw [hP]; omega
    · rw [hP]; omega
  | succ d ih =>
    intro k j hd hj hk hi
    obtain ⟨k, rfl⟩ : ∃ m, k = m + 1 := ⟨k - 1, by omega⟩
    have e0 : x ≠ 0 := by omega
    obtain ⟨p0, p1⟩ := pow_le j hj
    have s1 := shl_hi j hj
    have s2 := shl_lo j hj
    have ih' := ih k (j + 1) (by omega) (by omega) (by omega)
    rw [Int.pow_succ] at ih'
    rw [show (16 : Int) + ((j + 1 : Nat) : Int) = 16 + (j : Int) + 1 by omega] at ih'
    simp only [spec_MagicFor.l0, impl_MagicFor.l0, u64_of (16 + (j : Int)) (by omega) (by omega), w64 (j : Int) (by omega) (by omega), show (16 : Int) + (j : Int) - 16 = (j : Int) by omega, u64_of (j : Int) (by omega) (by omega), s1, s2, w64 (16 + (j : Int) + 1) (by omega) (by omega)]
    rw [if_pos (show 16 + (j : Int) ≤ 32 by omega), if_pos (show 0 ≤ 16 + (j : Int) by omega), if_neg e0, if_pos (show 0 ≤ (j : Int) by omega), if_pos (show 0 ≤ 16 + (j : Int) by omega), if_neg e0, if_pos (show 0 ≤ (j : Int) by omega)]
    generalize hQ : (2 : Int) ^ j = Q at *
    have w1 : wrap64 (65536 * Q + x) = 65536 * Q + x := w64 _ (by omega) (by omega)
    have w2 : wrap64 (65536 * Q + x - 1) = 65536 * Q + x - 1 := w64 _ (by omega) (by omega)
    have w3 : Int.tdiv (65536 * Q + x - 1) x = (65536 * Q + x - 1) / x := Int.tdiv_eq_ediv_of_nonneg (by omega)
    have hq0 : 0 ≤ (65536 * Q + x - 1) / x := Int.ediv_nonneg (by omega) (by omega)
    have hq1 : (65536 * Q + x - 1) / x * x ≤ 65536 * Q + x - 1 := Int.ediv_mul_le _ e0
    have hq4 : 65536 * Q + x - 1 < ((65536 * Q + x - 1) / x + 1) * x := Int.lt_ediv_add_one_mul_self _ (by omega)
    have hq2 : (65536 * Q + x - 1) / x ≤ (65536 * Q + x - 1) / x * x := by
      have := Int.mul_le_mul_of_nonneg_left hx0 hq0
      omega
    simp only [w1, w2, w3]
    generalize (65536 * Q + x - 1) / x = q at *
    have hq5 : (q + 1) * x = q * x + x := by rw [Int.add_mul]; omega
    rw [w64 q (by omega) (by omega), w64 (q * x) (by omega) (by omega), w64 (q * x - 65536 * Q) (by omega) (by omega)]
    by_cases hf : q * x - 65536 * Q ≤ Q
    · rw [if_pos hf, if_pos hf]
      have hm : q ≤ 131071 := by
        refine Int.not_lt.1 fun h => ?_
        have : 131072 * x ≤ q * x := Int.mul_le_mul_of_nonneg_right (by omega) (by omega)
        rcases hi with hi | hi
        · subst hi
          have : (2 : Int) ^ 0 = 1 := rfl
          omega
        · omega
      exact ⟨q, _, rfl, rfl, hq0, hm, j, rfl, hj, by rw [hQ]; omega, by rw [hQ]; omega⟩
    · rw [if_neg hf, if_neg hf]
      exact ih' (.inr (by omega))
theorem ms_div (x m s n : Int) (hx0 : 1 ≤ x) (h : Ms x m s) (h0 : 0 ≤ n) (h1 : n ≤ 65535) : shr .i64 (wrap64 (n * m)) s = n / x ∧ (0 ≤ s ∧ s ≤ 32) := by
  obtain ⟨m0, m1, t, rfl, ht, g0, g1⟩ := h
  refine ⟨?_, by omega, by omega⟩
  have e : min ((16 + (t : Int))).toNat IntKind.i64.bits = 16 + t := by
    have : IntKind.i64.bits = 64 := rfl
    omega
  have n0 : 0 ≤ n * m := Int.mul_nonneg h0 m0
  have n1 : n * m ≤ 65535 * 131071 := Int.mul_le_mul h1 m1 m0 (by omega)
  unfold shr
  rw [e, pow_add16, w64 (n * m) (by omega) (by omega)]
  obtain ⟨p0, p1⟩ := pow_le t ht
  generalize (2 : Int) ^ t = Q at *
  have hq0 : n / x * x ≤ n := Int.ediv_mul_le _ (by omega)
  have hq1 : n < (n / x + 1) * x := Int.lt_ediv_add_one_mul_self _ (by omega)
  generalize n / x = q at *
  have hq5 : (q + 1) * x = q * x + x := by rw [Int.add_mul]; omega
  have k0 : n * (65536 * Q) ≤ n * (m * x) := Int.mul_le_mul_of_nonneg_left g0 h0
  have k1 : n * (m * x) ≤ n * (65536 * Q + Q) := Int.mul_le_mul_of_nonneg_left g1 h0
  have k2 : n * Q ≤ 65535 * Q := Int.mul_le_mul_of_nonneg_right h1 (by omega)
  have k3 : n * (65536 * Q + Q) = n * (65536 * Q) + n * Q := Int.mul_add _ _ _
  have a0 : q * (65536 * Q) ≤ n * m := by
    refine Int.le_of_mul_le_mul_right (a := x) ?_ (by omega)
    have e1 : q * (65536 * Q) * x = q * x * (65536 * Q) := by rw [Int.mul_assoc, Int.mul_comm (65536 * Q) x, ← Int.mul_assoc]
    have e2 : n * m * x = n * (m * x) := Int.mul_assoc _ _ _
    have e3 : q * x * (65536 * Q) ≤ n * (65536 * Q) := Int.mul_le_mul_of_nonneg_right hq0 (by omega)
    omega
  have a1 : n * m < (q + 1) * (65536 * Q) := by
    refine Int.lt_of_mul_lt_mul_right (a := x) ?_ (by omega)
    have e1 : (q + 1) * (65536 * Q) * x = (q + 1) * x * (65536 * Q) := by rw [Int.mul_assoc, Int.mul_comm (65536 * Q) x, ← Int.mul_assoc]
    have e2 : n * m * x = n * (m * x) := Int.mul_assoc _ _ _
    have e3 : (n + 1) * (65536 * Q) ≤ (q + 1) * x * (65536 * Q) := Int.mul_le_mul_of_nonneg_right (by omega) (by omega)
    have e4 : (n + 1) * (65536 * Q) = n * (65536 * Q) + 65536 * Q := by rw [Int.add_mul]; omega
    omega
  have b0 : q ≤ n * m / (65536 * Q) := Int.le_ediv_of_mul_le (by omega) a0
  have b1 : n * m / (65536 * Q) < q + 1 := Int.ediv_lt_of_lt_mul (by omega) a1
  omega

theorem right2 (a b c : Int) (ha0 : 1 ≤ a) (hc0 : 0 ≤ c) (hc1 : c ≤ 32) (d : Nat) : ∀ (k : Nat) (n : Int), 0 ≤ n → n ≤ 65536 → 65536 - n = d → d < k →
    ∃ r, spec_IsRight.l0 k n a b c = some (r, true) ∧ impl_IsRight.l0 k n a b c = some (r, true) ∧ (r = true → ∀ m, n ≤ m → m ≤ 65535 → shr .i64 (wrap64 (m * b)) c = wrap64 (Int.tdiv m a)) := by
  have e0 : a ≠ 0 := by omega
  induction d with
  | zero =>
    intro k n h0 h1 hd hk
    obtain ⟨k, rfl⟩ : ∃ m, k = m + 1 := ⟨k - 1, by omega⟩
    exact ⟨true, by simp only [spec_IsRight.l0]; rw [if_neg (by omega)], by simp only [impl_IsRight.l0]; rw [if_neg (by omega)], fun _ m g0 g1 => by omega⟩
  | succ d ih =>
    intro k n h0 h1 hd hk
    obtain ⟨k, rfl⟩ : ∃ m, k = m + 1 := ⟨k - 1, by omega⟩
    obtain ⟨r, e1, e2, e3⟩ := ih k (n + 1) (by omega) (by omega) (by omega) (by omega)
    simp only [spec_IsRight.l0, impl_IsRight.l0, l2div a b c n hc0 hc1, Option.bind_some]
    rw [if_pos (show n ≤ 65535 by omega), if_neg e0, if_pos (show n < 65536 by omega), if_pos hc0, if_neg e0, w64 (n + 1) (by omega) (by omega), e1, e2]
    split
    · rename_i hs
      refine ⟨r, rfl, rfl, fun hr m g0 g1 => ?_⟩
      by_cases hm : m = n
      · rw [hm]; exact hs
      · exact e3 hr m (by omega) g1
    · exact ⟨false, rfl, rfl, fun h => by cases h⟩

theorem magicFor (v : Int) (k : Nat) (hk : 17 < k) : ∃ a b c t, spec_MagicFor.f k v = some (a, b, c, t) ∧ impl_MagicFor.f k v = some (a, b, c, t) ∧ (t = true → a = v ∧ 1 ≤ v ∧ v ≤ 65535 ∧ Ms v b c) := by
  obtain ⟨q, g1, g2, g3⟩ := inb v 1 65535
  cases q with
  | false => exact ⟨0, 0, 0, false, by simp [spec_MagicFor.f, g1], by simp [impl_MagicFor.f, g2], fun h => by cases h⟩
  | true =>
    obtain ⟨h0, h1⟩ := g3.1 rfl
    obtain ⟨m, s, e1, e2, e3⟩ := magic2 v h0 h1 16 k 0 rfl (by omega) (by omega) (.inl rfl)
    rw [show (16 : Int) + ((0 : Nat) : Int) = 16 from rfl] at e1 e2
    exact ⟨v, m, s, true, by simp [spec_MagicFor.f, g1, e1], by simp [impl_MagicFor.f, g2, e2], fun _ => ⟨rfl, h0, h1, e3⟩⟩
theorem div_eq (a b c n : Int) : ∃ q t, impl_DivBy.f a b c n = some (q, t) ∧ spec_DivBy.f a b c n = some (q, t) ∧ (t = true → (0 ≤ n ∧ n ≤ 65535) ∧ q = shr .i64 (wrap64 (n * b)) c) := by
  obtain ⟨r, h1, h2, h3⟩ := good a b c
  obtain ⟨q, g1, g2, g3⟩ := inb n 0 65535
  cases r with
  | false => exact ⟨0, false, by simp [impl_DivBy.f, h2], by simp [spec_DivBy.f, h1], fun h => by cases h⟩
  | true =>
    obtain ⟨_, _, hc0, hc1⟩ := h3.1 rfl
    cases q with
    | false => exact ⟨0, false, by simp [impl_DivBy.f, h2, g2], by simp [spec_DivBy.f, h1, g1], fun h => by cases h⟩
    | true => exact ⟨_, true, by simp [impl_DivBy.f, h2, g2, hc0]; try rfl, by simp [spec_DivBy.f, h1, g1, l2div a b c n hc0 hc1], fun _ => ⟨g3.1 rfl, rfl⟩⟩
theorem mod_eq (a b c n : Int) : ∃ q t, impl_ModBy.f a b c n = some (q, t) ∧ spec_ModBy.f a b c n = some (q, t) := by
  obtain ⟨r, h1, h2, h3⟩ := good a b c
  obtain ⟨q, g1, g2, g3⟩ := inb n 0 65535
  cases r with
  | false => exact ⟨0, false, by simp [impl_ModBy.f, h2], by simp [spec_ModBy.f, h1]⟩
  | true =>
    obtain ⟨_, _, hc0, hc1⟩ := h3.1 rfl
    cases q with
    | false => exact ⟨0, false, by simp [impl_ModBy.f, h2, g2], by simp [spec_ModBy.f, h1, g1]⟩
    | true => exact ⟨_, true, by simp [impl_ModBy.f, h2, g2, hc0]; try rfl, by simp [spec_ModBy.f, h1, g1, l2div a b c n hc0 hc1]⟩
theorem signed_eq (a b c n : Int) (k : Nat) (hk : 0 < k) : ∃ q t, impl_DivSigned.f k a b c n = some (q, t) ∧ spec_DivSigned.f k a b c n = some (q, t) := by
  obtain ⟨k, rfl⟩ : ∃ m, k = m + 1 := ⟨k - 1, by omega⟩
  obtain ⟨r, h1, h2, h3⟩ := good a b c
  obtain ⟨q, g1, g2, _⟩ := inb n (-32768) 32767
  cases r with
  | false => exact ⟨0, false, by simp [impl_DivSigned.f, impl_DivSigned.j0, h2], by simp [spec_DivSigned.f, spec_DivSigned.j0, h1]⟩
  | true =>
    obtain ⟨_, _, hc0, hc1⟩ := h3.1 rfl
    cases q with
    | false => exact ⟨0, false, by simp [impl_DivSigned.f, impl_DivSigned.j0, h2, g2], by simp [spec_DivSigned.f, spec_DivSigned.j0, h1, g1]⟩
    | true =>
      by_cases hn : n < 0
      · exact ⟨_, true, by simp [impl_DivSigned.f, impl_DivSigned.j0, h2, g2, hn, hc0]; try rfl, by simp [spec_DivSigned.f, spec_DivSigned.j0, h1, g1, hn, l2div a b c _ hc0 hc1]⟩
      · exact ⟨_, true, by simp [impl_DivSigned.f, impl_DivSigned.j0, h2, g2, hn, hc0]; try rfl, by simp [spec_DivSigned.f, spec_DivSigned.j0, h1, g1, hn, l2div a b c _ hc0 hc1]⟩
theorem magic_draw (l : List Int) (hl : ∀ x ∈ l, (Lit.int .u8 x).wf = true) (k : Nat) (hk : 20 < k) : ∃ a b c p s, spec_l1Cur_magic.f k l 0 0 = some (a, b, c, p, s) ∧ Cur p 100 := by
  obtain ⟨k, rfl⟩ : ∃ m, k = m + 1 := ⟨k - 1, by omega⟩
  obtain ⟨v, p1, s1, e1, _, c1⟩ := divisor_some l hl 0 0 0 ⟨by omega, by omega, by omega⟩ (by omega)
  obtain ⟨x, y, z, t, f1, _, _⟩ := magicFor v (k + 1) (by omega)
  have tail : ∀ x y z : Int, ∃ a b c p s, spec_l1Cur_magic.j0 (k + 1) l p1 s1 x y z = some (a, b, c, p, s) ∧ Cur p 100 := by
    intro x y z
    have up : ∀ (p : Int) (n : Nat), Cur p n → n ≤ 100 → Cur p 100 := fun p n h hn => ⟨h.1, by have := h.2.1; omega, by omega⟩
    obtain ⟨w, p2, s2, e2, _, _, c2⟩ := pick_some l hl p1 s1 12 _ c1 (by omega)
    simp only [spec_l1Cur_magic.j0, e2, Option.bind_some]
    by_cases w0 : w = 0
    · rw [if_pos w0]
      obtain ⟨u, p3, s3, e3, _, _, c3⟩ := pick_some l hl p2 s2 5 _ c2 (by omega)
      exact ⟨_, _, _, _, _, by rw [e3]; rfl, up _ _ c3 (by omega)⟩
    · rw [if_neg w0]
      by_cases w1 : w = 1
      · rw [if_pos w1]
        obtain ⟨u, p3, s3, e3, _, c3⟩ := among_some l hl p2 s2 [(-1), 0, 15, 32, 33] (by decide) _ c2 (by omega)
        exact ⟨_, _, _, _, _, by rw [e3]; rfl, up _ _ c3 (by omega)⟩
      · rw [if_neg w1]
        by_cases w2 : w = 2
        · rw [if_pos w2]
          obtain ⟨u, p3, s3, e3, _, c3⟩ := divisor_some l hl p2 s2 _ c2 (by omega)
          exact ⟨_, _, _, _, _, by rw [e3]; rfl, up _ _ c3 (by omega)⟩
        · rw [if_neg w2]
          exact ⟨_, _, _, _, _, rfl, up _ _ c2 (by omega)⟩
  simp only [spec_l1Cur_magic.f, e1, f1, Option.bind_some]
  cases t with
  | true => simpa using tail x y z
  | false => simpa using tail 3 43691 17
theorem tail1 (l : List Int) (hl : ∀ x ∈ l, (Lit.int .u8 x).wf = true) (k : Nat) (hk : 70000 < k) : laws_FnMagic.j1 k l = some true := by
  obtain ⟨k, rfl⟩ : ∃ m, k = m + 1 + 1 := ⟨k - 2, by omega⟩
  obtain ⟨a, b, c, p, s, e1, c1⟩ := magic_draw l hl (k + 1) (by omega)
  obtain ⟨n, p2, s2, e2, _, _⟩ := word_some l hl p s _ c1 (by omega)
  have f1 : spec_DrawDivBy.f (k + 1) l = some (a, b, c, n) := by simp [spec_DrawDivBy.f, e1, e2]
  obtain ⟨w, p3, s3, e3, _, _, c3⟩ := pick_some l hl p s 60000 _ c1 (by omega)
  obtain ⟨y, p4, s4, e4, _, _⟩ := among_some l hl p3 s3 [(-32769), (-32768), (-1), 0, 1, 32767, 32768, wrap64 (w - 30000)] (by simp) _ c3 (by omega)
  have f2 : spec_DrawDivSigned.f (k + 1) l = some (a, b, c, y) := by simp [spec_DrawDivSigned.f, e1, e3, e4]
  obtain ⟨q, t, d1, d2, d3⟩ := div_eq a b c n
  obtain ⟨q2, t2, d4, d5⟩ := mod_eq a b c n
  obtain ⟨q3, t3, d6, d7⟩ := signed_eq a b c y (k + 1) (by omega)
  obtain ⟨r, h1, h2, h3⟩ := good a b c
  have h2' : impl_GoodMagic.f a b c = some r := by simp [impl_GoodMagic.f, h2]
  simp only [laws_FnMagic.j1, f1, f2, d1, d2, d4, d5, d6, d7, h1, h2', Option.bind_some, bne_self_eq_false, Bool.false_eq_true, if_false, if_true]
  cases r with
  | false => simp [laws_FnMagic.j2, spec_IsRight.f, impl_IsRight.f, h1, h2]
  | true =>
    obtain ⟨⟨ha, _⟩, _, hc0, hc1⟩ := h3.1 rfl
    have a0 : a ≠ 0 := by omega
    obtain ⟨r, g1, g2, g3⟩ := right2 a b c ha hc0 hc1 65536 k 0 (by decide) (by decide) (by decide) (by omega)
    cases r with
    | false => simp [laws_FnMagic.j2, spec_IsRight.f, impl_IsRight.f, h1, h2, g1, g2]
    | true =>
      cases t with
      | false => simp [laws_FnMagic.j2, spec_IsRight.f, impl_IsRight.f, h1, h2, g1, g2]
      | true =>
        obtain ⟨⟨n0, n1⟩, rfl⟩ := d3 rfl
        have := g3 rfl n n0 n1
        simp [laws_FnMagic.j2, spec_IsRight.f, impl_IsRight.f, h1, h2, g1, g2, a0, this]
theorem FnMagic (l l1 : List Int) (_ : l.length ≤ 9223372036854775807) (hl : ∀ x, x ∈ l → (Lit.int .u8 x).wf = true) (_ : l.length * 1 ≤ 140737488351232) (_ : l1.length ≤ 9223372036854775807) (hl1 : ∀ x, x ∈ l1 → (Lit.int .u8 x).wf = true) (hs1 : l1.length * 1 ≤ 140737488351232) : ∃ k, laws_FnMagic.f k l l1 = some true := by
  refine ⟨l1.length + 200000, ?_⟩
  obtain ⟨k, hk⟩ : ∃ k, l1.length + 199999 = k := ⟨_, rfl⟩
  rw [show l1.length + 200000 = k + 1 by omega]
  unfold laws_FnMagic.f
  by_cases hbig : wrap64 ((l.length : Int) + (l1.length : Int)) > 1048576
  · rw [if_pos hbig]
  rw [if_neg hbig]
  obtain ⟨v, p1, s1, e1, hb, _⟩ := divisor_some l hl 0 0 0 ⟨by omega, by omega, by omega⟩ (by omega)
  have f1 : spec_DrawMagicFor.f l = some v := by simp [spec_DrawMagicFor.f, e1]
  obtain ⟨a, m, s, t, g1, g2, g3⟩ := magicFor v (k + 1) (by omega)
  simp only [f1, g1, g2, Option.bind_some, bne_self_eq_false, Bool.false_eq_true, if_false, beq_self_eq_true, Bool.not_true, Bool.or_self, laws_FnMagic.j0]
  cases t with
  | false =>
    simp only [Bool.false_eq_true, if_false]
    exact tail1 l1 hl1 k (by omega)
  | true =>
    obtain ⟨rfl, v0, v1, hm⟩ := g3 rfl
    obtain ⟨n, e2, n0, n1⟩ := numberOf l1 hl1 (by omega) k (by omega)
    simp only [if_true, e2, Option.bind_some]
    have ha0 : a ≠ 0 := by omega
    rw [Int.tmod_eq_emod_of_nonneg n0]
    have w0 : 0 ≤ n % 65536 := Int.emod_nonneg _ (by omega)
    have w1 : n % 65536 ≤ 65535 := by have := Int.emod_lt_of_pos n (show (0 : Int) < 65536 by omega); omega
    generalize n % 65536 = w at *
    obtain ⟨z1, z2⟩ := ms_div a m s w v0 hm w0 w1
    obtain ⟨y1, _⟩ := ms_div a m s 65535 v0 hm (by omega) (by omega)
    have hg : impl_isMagic.f a m s = some true := by
      obtain ⟨r, h1, h2, h3⟩ := good a m s
      rw [h2, h3.2 ⟨⟨v0, v1⟩, ⟨hm.1, hm.2.1⟩, z2⟩]
    obtain ⟨q, _, i2, i3⟩ := inb w 0 65535
    obtain rfl := i3.2 ⟨w0, w1⟩
    obtain ⟨q, _, j2, j3⟩ := inb 65535 0 65535
    obtain rfl := j3.2 ⟨by omega, by omega⟩
    have b0 : 0 ≤ w / a := Int.ediv_nonneg w0 (by omega)
    have b1 : w / a ≤ w := Int.ediv_le_self _ w0
    have b2 : 0 ≤ 65535 / a := Int.ediv_nonneg (by omega) (by omega)
    have b3 : 65535 / a ≤ 65535 := Int.ediv_le_self _ (by omega)
    have b4 := Int.emod_add_mul_ediv w a
    have b5 : 0 ≤ w % a := Int.emod_nonneg _ ha0
    have b6 : w % a < a := Int.emod_lt_of_pos _ (by omega)
    have c1 : Int.tdiv w a = w / a := Int.tdiv_eq_ediv_of_nonneg w0
    have c4 : Int.tdiv 65535 a = 65535 / a := Int.tdiv_eq_ediv_of_nonneg (by omega)
    have c2 : Int.tmod w a = w % a := Int.tmod_eq_emod_of_nonneg w0
    have c3 : wrap64 (w - wrap64 (a * (w / a))) = w % a := by
      rw [w64 (a * (w / a)) (by omega) (by omega), w64 _ (by omega) (by omega)]; omega
    simp only [impl_DivBy.f, impl_ModBy.f, impl_GoodMagic.f, hg, i2, j2, Option.bind_some, if_true, if_pos z2.1, z1, y1, c1, c2, c3, c4, w64 (w / a) (by omega) (by omega), w64 (65535 / a) (by omega) (by omega), if_neg ha0]
    exact tail1 l1 hl1 k (by omega)

end Go.Proofs.Ytncagigpflfkbaa.Pure

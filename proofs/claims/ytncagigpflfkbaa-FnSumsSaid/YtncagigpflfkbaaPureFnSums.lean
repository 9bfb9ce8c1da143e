/- The pure statement of FnSums: the sums on words as they stand are the sums of their numbers, for every row of choices. -/
import Derived.Test.YtncagigpflfkbaaXFnSumsx3
import Derived.Test.YtncagigpflfkbaaBits
namespace Go.Proofs.Ytncagigpflfkbaa.Pure
open Go.RowKit Go.Proofs.Ytncagigpflfkbaa.XFnSums Go.Proofs.YtncagigpflfkbaaW.PrintWords Go.Proofs.YtncagigpflfkbaaW.PrintLast Go.Proofs.YtncagigpflfkbaaW.PrintMore Go.Proofs.YtncagigpflfkbaaBits

theorem word (a : Int) : ∃ r, impl_isWord.f a = some r ∧ spec_l1Word.f a = some r ∧ (r = true ↔ 0 ≤ a ∧ a ≤ 65535) := by
  refine ⟨decide (0 ≤ a ∧ a ≤ 65535), ?_, ?_, by simp⟩
  all_goals
    simp only [spec_l1Word.f, spec_l1In.f, impl_isWord.f, impl_in.f]
    by_cases h1 : a ≥ 0 <;> simp [*]
theorem tagged (a : Int) : ∃ r, impl_isTagged.f a = some r ∧ spec_IsSmall.f a = some r ∧ (r = true ↔ 0 ≤ a ∧ a ≤ 65535 ∧ a % 2 = 1) := by
  obtain ⟨r, h1, h2, h3⟩ := word a
  cases r with
  | false => exact ⟨false, by simp [impl_isTagged.f, h1], by simp [spec_IsSmall.f, h2], by simp at h3 ⊢; omega⟩
  | true =>
    have h := h3.1 rfl
    refine ⟨a % 2 == 1, by simp [impl_isTagged.f, h1, tmod2 a h.1], by simp [spec_IsSmall.f, h2, and_one], by simp; omega⟩
theorem untag (a : Int) (h0 : 0 ≤ a) (h1 : a ≤ 65535) (h2 : a % 2 = 1) : ∃ v, impl_untag.f a = some v ∧ spec_UntagSmall.f a = some (v, true) ∧ -16384 ≤ v ∧ v ≤ 16383 := by
  obtain ⟨r, _, hs, hr⟩ := tagged a
  obtain rfl : r = true := hr.2 ⟨h0, h1, h2⟩
  by_cases h : a ≥ 32768
  · refine ⟨(a - 65536) / 2, ?_, ?_, by omega, by omega⟩
    · have e : Int.tdiv (a - 65536 - 1) 2 = (a - 65536) / 2 := by rw [tdiv2_neg _ (by omega)]; omega
      simp [impl_untag.f, show a > 32767 by omega, w64 (a - 65536) (by omega) (by omega), w64 (a - 65536 - 1) (by omega) (by omega)]
      rw [e, w64 _ (by omega) (by omega)]
    · simp [spec_UntagSmall.f, hs, spec_l1Signed.f, h, w64 (a - 65536) (by omega) (by omega)]
  · refine ⟨a / 2, ?_, ?_, by omega, by omega⟩
    · have e : Int.tdiv (a - 1) 2 = a / 2 := by rw [tdiv2 _ (by omega)]; omega
      simp [impl_untag.f, show ¬ a > 32767 by omega, w64 (a - 1) (by omega) (by omega)]
      rw [e, w64 _ (by omega) (by omega)]
    · simp [spec_UntagSmall.f, hs, spec_l1Signed.f, h]
theorem untag_no (a : Int) (h : spec_IsSmall.f a = some false) : spec_UntagSmall.f a = some (0, false) := by simp [spec_UntagSmall.f, h]

theorem untag_back (a : Int) (h0 : 0 ≤ a) (h1 : a ≤ 65535) (h2 : a % 2 = 1) : ∃ v, impl_untag.f a = some v ∧ spec_UntagSmall.f a = some (v, true) ∧ -16384 ≤ v ∧ v ≤ 16383 ∧ a = (2 * v + 1) % 65536 := by
  obtain ⟨v, e1, e2, v0, v1⟩ := untag a h0 h1 h2
  refine ⟨v, e1, e2, v0, v1, ?_⟩
  unfold impl_untag.f at e1
  by_cases h : a > 32767
  · rw [if_pos h, w64 (a - 65536) (by omega) (by omega), w64 (a - 65536 - 1) (by omega) (by omega), tdiv2_neg _ (by omega), w64 _ (by omega) (by omega)] at e1
    have := Option.some.inj e1
    omega
  · rw [if_neg h, w64 (a - 1) (by omega) (by omega), tdiv2 _ (by omega), w64 _ (by omega) (by omega)] at e1
    have := Option.some.inj e1
    omega
theorem iuntag_yes (a v : Int) (h0 : 0 ≤ a) (h1 : a ≤ 65535) (h2 : a % 2 = 1) (hv : impl_untag.f a = some v) : impl_UntagSmall.f a = some (v, true) := by
  obtain ⟨r, e, _, hr⟩ := tagged a
  obtain rfl : r = true := hr.2 ⟨h0, h1, h2⟩
  simp [impl_UntagSmall.f, e, hv]
theorem untag_of (n : Int) (h0 : -16384 ≤ n) (h1 : n ≤ 16383) : impl_UntagSmall.f ((2 * n + 1) % 65536) = some (n, true) := by
  obtain ⟨v, e1, _, v0, v1, hv⟩ := untag_back ((2 * n + 1) % 65536) (by omega) (by omega) (by omega)
  rw [iuntag_yes _ v (by omega) (by omega) (by omega) e1]
  simp
  omega
def smallB (n : Int) : Bool := decide (-16384 ≤ n ∧ n ≤ 16383)
def tagV (n : Int) : Int := if smallB n = true then (2 * n + 1) % 65536 else 0
theorem told_val (n : Int) : spec_l1Tagged.f n = some (tagV n, smallB n, true) ∧ impl_told.f n = some (tagV n, smallB n, true) := by
  unfold tagV smallB
  by_cases h0 : n ≥ -16384
  · by_cases h1 : n ≤ 16383
    · have e : Go.bits .and .i64 (wrap64 (wrap64 (2 * n) + 1)) 65535 = (2 * n + 1) % 65536 := by rw [and_word, w64 (2 * n) (by omega) (by omega), w64 (2 * n + 1) (by omega) (by omega)]
      simp [spec_l1Tagged.f, spec_TagSmall.f, spec_l1Small.f, spec_l1In.f, impl_told.f, impl_isSmall.f, impl_in.f, impl_tag.f, h0, h1, e]
    · simp [spec_l1Tagged.f, spec_TagSmall.f, spec_l1Small.f, spec_l1In.f, impl_told.f, impl_isSmall.f, impl_in.f, impl_tag.f, h0, h1]
  · simp [spec_l1Tagged.f, spec_TagSmall.f, spec_l1Small.f, spec_l1In.f, impl_told.f, impl_isSmall.f, impl_in.f, impl_tag.f, h0]

theorem wf8 {x : Int} (h : (Lit.int .u8 x).wf = true) : 0 ≤ x ∧ x ≤ 255 := by
  have h' : IntKind.u8.min ≤ x ∧ x ≤ IntKind.u8.max := by simpa [Lit.wf] using h
  exact h'
theorem and255 (x : Int) : 0 ≤ wrap64 (Go.bits .and .u64 x 255) ∧ wrap64 (Go.bits .and .u64 x 255) ≤ 255 := by
  have e : Go.bits .and .u64 x 255 = IntKind.u64.wrap ((BitVec.ofInt 64 x &&& BitVec.ofInt 64 255).toNat : Int) := rfl
  have h : (BitVec.ofInt 64 x &&& BitVec.ofInt 64 255).toNat ≤ 255 := by
    rw [BitVec.toNat_and]
    exact Nat.and_le_right
  rw [e]
  generalize (BitVec.ofInt 64 x &&& BitVec.ofInt 64 255).toNat = q at h
  have e2 : IntKind.u64.wrap (q : Int) = q := by
    simp [IntKind.wrap, IntKind.bits, IntKind.signed]; omega
  rw [e2, w64 _ (by omega) (by omega)]
  omega
/-- The place of the reader: how far it has read at most. -/
def Cur (p : Int) (n : Nat) : Prop := 0 ≤ p ∧ p ≤ n ∧ n ≤ 4000000000000000000
theorem next_some (l : List Int) (hl : ∀ x ∈ l, (Lit.int .u8 x).wf = true) (p s : Int) (n : Nat) (h : Cur p n) (hn : n ≤ 3000000000000000000) : ∃ v p' s', spec_l1Cur_next.f l p s = some (v, p', s') ∧ 0 ≤ v ∧ v ≤ 255 ∧ Cur p' (n + 1) := by
  obtain ⟨h0, h1, h2⟩ := h
  have hp : wrap64 (p + 1) = p + 1 := w64 _ (by omega) (by omega)
  have hc : Cur (p + 1) (n + 1) := ⟨by omega, by omega, by omega⟩
  unfold spec_l1Cur_next.f
  simp only [hp]
  by_cases hlt : p < (l.length : Int)
  · have hm : rd l p ∈ l := by
      have : p.toNat < l.length := by omega
      simp only [rd, List.getD_eq_getElem?_getD, List.getElem?_eq_getElem this, Option.getD_some]
      exact List.getElem_mem this
    have hb := wf8 (hl _ hm)
    rw [if_pos hlt, if_pos h0]
    split
    · exact ⟨_, _, _, rfl, by rw [w64 _ (by omega) (by omega)]; exact hb.1, by rw [w64 _ (by omega) (by omega)]; exact hb.2, hc⟩
    · refine ⟨_, _, _, rfl, ?_, ?_, hc⟩
      · exact (and255 _).1
      · exact (and255 _).2
  · rw [if_neg hlt]
    split
    · exact ⟨_, _, _, rfl, by omega, by omega, hc⟩
    · refine ⟨_, _, _, rfl, ?_, ?_, hc⟩
      · exact (and255 _).1
      · exact (and255 _).2
theorem pick_some (l : List Int) (hl : ∀ x ∈ l, (Lit.int .u8 x).wf = true) (p s m : Int) (n : Nat) (h : Cur p n) (hn : n ≤ 2900000000000000000) : ∃ v p' s', spec_l1Cur_pick.f l p s m = some (v, p', s') ∧ 0 ≤ v ∧ (v < m ∨ v = 0) ∧ Cur p' (n + 2) := by
  unfold spec_l1Cur_pick.f
  by_cases hm : m ≤ 1
  · rw [if_pos hm]
    exact ⟨0, p, s, rfl, by omega, .inr rfl, h.1, by have := h.2.1; omega, by omega⟩
  · rw [if_neg hm]
    obtain ⟨v, p1, s1, e1, v0, v1, c1⟩ := next_some l hl p s n h (by omega)
    rw [e1]
    simp only [Option.bind_some]
    by_cases h2 : m > 200
    · obtain ⟨u, p2, s2, e2, u0, u1, c2⟩ := next_some l hl p1 s1 (n + 1) c1 (by omega)
      rw [if_pos h2, e2]
      simp only [Option.bind_some]
      rw [if_neg (by omega), w64 (v * 256) (by omega) (by omega), w64 (v * 256 + u) (by omega) (by omega), Int.tmod_eq_emod_of_nonneg (by omega)]
      exact ⟨_, _, _, rfl, Int.emod_nonneg _ (by omega), .inl (Int.emod_lt_of_pos _ (by omega)), c2⟩
    · rw [if_neg h2, if_neg (by omega), Int.tmod_eq_emod_of_nonneg v0]
      exact ⟨_, _, _, rfl, Int.emod_nonneg _ (by omega), .inl (Int.emod_lt_of_pos _ (by omega)), c1.1, by have := c1.2.1; omega, by omega⟩

theorem one_some (l : List Int) (hl : ∀ x ∈ l, (Lit.int .u8 x).wf = true) (p s m : Int) (n : Nat) (h : Cur p n) (hn : n ≤ 2900000000000000000) : ∃ v p' s', spec_l1Cur_one.f l p s m = some (v, p', s') ∧ Cur p' (n + 2) := by
  obtain ⟨v, p', s', e, _, _, c⟩ := pick_some l hl p s m n h hn
  exact ⟨v == 0, p', s', by simp [spec_l1Cur_one.f, e], c⟩

theorem among_some (l : List Int) (hl : ∀ x ∈ l, (Lit.int .u8 x).wf = true) (p s : Int) (q : List Int) (hq : 0 < q.length) (n : Nat) (h : Cur p n) (hn : n ≤ 2900000000000000000) : ∃ v p' s', spec_l1Cur_among.f l p s q = some (v, p', s') ∧ v ∈ q ∧ Cur p' (n + 2) := by
  obtain ⟨v, p', s', e, v0, v1, c⟩ := pick_some l hl p s (q.length : Int) n h hn
  have hlt : v < (q.length : Int) := by rcases v1 with h | h <;> omega
  refine ⟨rd q v, p', s', by simp [spec_l1Cur_among.f, e, v0, hlt], ?_, c⟩
  have : v.toNat < q.length := by omega
  simp only [rd, List.getD_eq_getElem?_getD, List.getElem?_eq_getElem this, Option.getD_some]
  exact List.getElem_mem this

theorem word_some (l : List Int) (hl : ∀ x ∈ l, (Lit.int .u8 x).wf = true) (p s : Int) (n : Nat) (h : Cur p n) (hn : n ≤ 2800000000000000000) : ∃ v p' s', spec_l1Cur_word.f l p s = some (v, p', s') ∧ (-1 ≤ v ∧ v ≤ 65536) ∧ Cur p' (n + 10) := by
  obtain ⟨b, p1, s1, e1, c1⟩ := one_some l hl p s 3 n h (by omega)
  unfold spec_l1Cur_word.f
  rw [e1]
  cases b with
  | true =>
    obtain ⟨v, p2, s2, e2, hv, c2⟩ := among_some l hl p1 s1 [(-1), 0, 1, 2, 3, 32767, 32768, 32769, 65534, 65535, 65536] (by decide) (n + 2) c1 (by omega)
    have hb : -1 ≤ v ∧ v ≤ 65536 := by simp at hv; omega
    exact ⟨v, p2, s2, by simp [e2], hb, c2.1, by have := c2.2.1; omega, by omega⟩
  | false =>
    obtain ⟨v, p2, s2, e2, v0, v1, c2⟩ := pick_some l hl p1 s1 256 (n + 2) c1 (by omega)
    obtain ⟨u, p3, s3, e3, u0, u1, c3⟩ := pick_some l hl p2 s2 256 (n + 2 + 2) c2 (by omega)
    have a1 : v ≤ 255 := by omega
    have a2 : u ≤ 255 := by omega
    refine ⟨v * 256 + u, p3, s3, by simp [e2, e3]; rw [w64 (v * 256) (by omega) (by omega), w64 (v * 256 + u) (by omega) (by omega)], by omega, c3.1, by have := c3.2.1; omega, by omega⟩

theorem tag_some (n : Int) : ∃ a b, spec_TagSmall.f n = some (a, b) := by
  by_cases h0 : n ≥ -16384 <;> by_cases h1 : n ≤ 16383 <;> simp [spec_TagSmall.f, spec_l1Small.f, spec_l1In.f, h0, h1]
theorem smallWord_some (l : List Int) (hl : ∀ x ∈ l, (Lit.int .u8 x).wf = true) (p s : Int) (n : Nat) (h : Cur p n) (hn : n ≤ 2700000000000000000) : ∃ v p' s', spec_l1Cur_smallWord.f l p s = some (v, p', s') ∧ Cur p' (n + 20) := by
  obtain ⟨b, p1, s1, e1, c1⟩ := one_some l hl p s 8 n h (by omega)
  unfold spec_l1Cur_smallWord.f
  rw [e1]
  cases b with
  | true =>
    obtain ⟨v, p2, s2, e2, _, c2⟩ := word_some l hl p1 s1 (n + 2) c1 (by omega)
    exact ⟨v, p2, s2, by simp [e2], c2.1, by have := c2.2.1; omega, by omega⟩
  | false =>
    obtain ⟨b2, p2, s2, e2, c2⟩ := one_some l hl p1 s1 2 (n + 2) c1 (by omega)
    simp only [Option.bind_some, Bool.false_eq_true, if_false, e2]
    cases b2 with
    | true =>
      obtain ⟨v, p3, s3, e3, _, _, c3⟩ := pick_some l hl p2 s2 40 (n + 2 + 2) c2 (by omega)
      obtain ⟨x, y, e4⟩ := tag_some (wrap64 (v - 20))
      exact ⟨x, p3, s3, by simp [e3, e4], c3.1, by have := c3.2.1; omega, by omega⟩
    | false =>
      obtain ⟨v, p3, s3, e3, _, c3⟩ := word_some l hl p2 s2 (n + 2 + 2) c2 (by omega)
      exact ⟨_, p3, s3, by simp [e3]; rfl, c3.1, by have := c3.2.1; omega, by omega⟩
theorem draw_add (l : List Int) (hl : ∀ x ∈ l, (Lit.int .u8 x).wf = true) : ∃ a b, spec_DrawAddTagged.f l = some (a, b) := by
  obtain ⟨a, p1, s1, e1, c1⟩ := smallWord_some l hl 0 0 0 ⟨by omega, by omega, by omega⟩ (by omega)
  obtain ⟨b, p2, s2, e2, c2⟩ := smallWord_some l hl p1 s1 20 c1 (by omega)
  exact ⟨a, b, by simp [spec_DrawAddTagged.f, e1, e2]⟩

theorem notag (a b : Int) (k : Nat) (hk : 1 ≤ k) (h : ¬ ((0 ≤ a ∧ a ≤ 65535 ∧ a % 2 = 1) ∧ (0 ≤ b ∧ b ≤ 65535 ∧ b % 2 = 1))) :
    impl_AddTagged.f k a b = some (0, false, false) ∧ spec_AddTagged.f a b = some (0, false, false) ∧ impl_SubTagged.f k a b = some (0, false, false) ∧ spec_SubTagged.f a b = some (0, false, false) ∧
    impl_MulTagged.f k a b = some (0, false, false) ∧ spec_MulTagged.f a b = some (0, false, false) ∧ impl_LessTagged.f k a b = some (false, false) ∧ spec_LessTagged.f a b = some (false, false) := by
  obtain ⟨k, rfl⟩ : ∃ m, k = m + 1 := ⟨k - 1, by omega⟩
  obtain ⟨r, i1, s1, t1⟩ := tagged a
  obtain ⟨q, i2, s2, t2⟩ := tagged b
  cases r with
  | false =>
    cases q with
    | false => simp [impl_AddTagged.f, impl_AddTagged.j0, impl_SubTagged.f, impl_SubTagged.j0, impl_MulTagged.f, impl_MulTagged.j0, impl_LessTagged.f, impl_LessTagged.j0, spec_AddTagged.f, spec_SubTagged.f, spec_MulTagged.f, spec_LessTagged.f, spec_l1Two.f, i1, i2, untag_no a s1, untag_no b s2]
    | true =>
      obtain ⟨h0, h1, h2⟩ := t2.1 rfl
      obtain ⟨v, _, hv, _⟩ := untag b h0 h1 h2
      simp [impl_AddTagged.f, impl_AddTagged.j0, impl_SubTagged.f, impl_SubTagged.j0, impl_MulTagged.f, impl_MulTagged.j0, impl_LessTagged.f, impl_LessTagged.j0, spec_AddTagged.f, spec_SubTagged.f, spec_MulTagged.f, spec_LessTagged.f, spec_l1Two.f, i1, i2, untag_no a s1, hv]
  | true =>
    obtain ⟨g0, g1, g2⟩ := t1.1 rfl
    obtain ⟨u, hu', hu, _⟩ := untag a g0 g1 g2
    cases q with
    | false => simp [impl_AddTagged.f, impl_AddTagged.j0, impl_SubTagged.f, impl_SubTagged.j0, impl_MulTagged.f, impl_MulTagged.j0, impl_LessTagged.f, impl_LessTagged.j0, spec_AddTagged.f, spec_SubTagged.f, spec_MulTagged.f, spec_LessTagged.f, spec_l1Two.f, i1, i2, hu, untag_no b s2]
    | true => exact absurd ⟨t1.1 rfl, t2.1 rfl⟩ h
theorem yestag (a b u v : Int) (k : Nat) (hk : 1 ≤ k) (ha : 0 ≤ a ∧ a ≤ 65535 ∧ a % 2 = 1) (hb : 0 ≤ b ∧ b ≤ 65535 ∧ b % 2 = 1) (hu' : impl_untag.f a = some u) (hu : spec_UntagSmall.f a = some (u, true)) (hv' : impl_untag.f b = some v) (hv : spec_UntagSmall.f b = some (v, true))
    (u0 : -16384 ≤ u) (u1 : u ≤ 16383) (v0 : -16384 ≤ v) (v1 : v ≤ 16383) :
    impl_AddTagged.f k a b = some (tagV (u + v), smallB (u + v), true) ∧ spec_AddTagged.f a b = some (tagV (u + v), smallB (u + v), true) ∧ impl_SubTagged.f k a b = some (tagV (u - v), smallB (u - v), true) ∧ spec_SubTagged.f a b = some (tagV (u - v), smallB (u - v), true) ∧
    impl_MulTagged.f k a b = some (tagV (u * v), smallB (u * v), true) ∧ spec_MulTagged.f a b = some (tagV (u * v), smallB (u * v), true) ∧ impl_LessTagged.f k a b = some (decide (u < v), true) ∧ spec_LessTagged.f a b = some (decide (u < v), true) := by
  obtain ⟨k, rfl⟩ : ∃ m, k = m + 1 := ⟨k - 1, by omega⟩
  obtain ⟨r, i1, s1, t1⟩ := tagged a
  obtain ⟨q, i2, s2, t2⟩ := tagged b
  obtain rfl : r = true := t1.2 ha
  obtain rfl : q = true := t2.2 hb
  have m0 : u * v ≤ 16384 * 16384 := by
    have h1 : (u * v).natAbs = u.natAbs * v.natAbs := Int.natAbs_mul u v
    have h2 : u.natAbs * v.natAbs ≤ 16384 * 16384 := Nat.mul_le_mul (by omega) (by omega)
    omega
  have m1 : -(16384 * 16384) ≤ u * v := by
    have h1 : (u * v).natAbs = u.natAbs * v.natAbs := Int.natAbs_mul u v
    have h2 : u.natAbs * v.natAbs ≤ 16384 * 16384 := Nat.mul_le_mul (by omega) (by omega)
    omega
  have w1 := w64 (u + v) (by omega) (by omega)
  have w2 := w64 (u - v) (by omega) (by omega)
  have w3 := w64 (u * v) (by omega) (by omega)
  have a1 := told_val (u + v)
  have a2 := told_val (u - v)
  have a3 := told_val (u * v)
  refine ⟨?_, ?_, ?_, ?_, ?_, ?_, ?_, ?_⟩ <;>
    simp [impl_AddTagged.f, impl_AddTagged.j0, impl_SubTagged.f, impl_SubTagged.j0, impl_MulTagged.f, impl_MulTagged.j0, impl_LessTagged.f, impl_LessTagged.j0, spec_AddTagged.f, spec_SubTagged.f, spec_MulTagged.f, spec_LessTagged.f, spec_l1Two.f, i1, i2, hu, hv, hu', hv', w1, w2, w3, a1.1, a1.2, a2.1, a2.2, a3.1, a3.2]
theorem FnSums (l : List Int) (_ : l.length ≤ 9223372036854775807) (hl : ∀ x, x ∈ l → (Lit.int .u8 x).wf = true) : ∃ k, laws_FnSums.f k l = some true := by
  refine ⟨10, ?_⟩
  unfold laws_FnSums.f
  by_cases hbig : (l.length : Int) > 1048576
  · rw [if_pos hbig]
  · rw [if_neg hbig]
    obtain ⟨a, b, hd⟩ := draw_add l hl
    rw [hd]
    simp only [Option.bind_some]
    by_cases h : (0 ≤ a ∧ a ≤ 65535 ∧ a % 2 = 1) ∧ (0 ≤ b ∧ b ≤ 65535 ∧ b % 2 = 1)
    · obtain ⟨ha, hb⟩ := h
      obtain ⟨u, hu', hu, u0, u1, eu⟩ := untag_back a ha.1 ha.2.1 ha.2.2
      obtain ⟨v, hv', hv, v0, v1, ev⟩ := untag_back b hb.1 hb.2.1 hb.2.2
      obtain ⟨r1, r2, r3, r4, r5, r6, r7, r8⟩ := yestag a b u v 10 (by decide) ha hb hu' hu hv' hv u0 u1 v0 v1
      have y1 := iuntag_yes a u ha.1 ha.2.1 ha.2.2 hu'
      have y2 := iuntag_yes b v hb.1 hb.2.1 hb.2.2 hv'
      have m0 : u * v ≤ 16384 * 16384 := by
        have h1 : (u * v).natAbs = u.natAbs * v.natAbs := Int.natAbs_mul u v
        have h2 : u.natAbs * v.natAbs ≤ 16384 * 16384 := Nat.mul_le_mul (by omega) (by omega)
        omega
      have m1 : -(16384 * 16384) ≤ u * v := by
        have h1 : (u * v).natAbs = u.natAbs * v.natAbs := Int.natAbs_mul u v
        have h2 : u.natAbs * v.natAbs ≤ 16384 * 16384 := Nat.mul_le_mul (by omega) (by omega)
        omega
      have w1 := w64 (u + v) (by omega) (by omega)
      have w3 := w64 (u * v) (by omega) (by omega)
      have z1 : tagV (u + v) = Go.bits .and .i64 (wrap64 (wrap64 (a + b) - 1)) 65535 ∨ smallB (u + v) = false := by
        rw [and_word, w64 (a + b) (by omega) (by omega), w64 (a + b - 1) (by omega) (by omega)]
        unfold tagV
        cases smallB (u + v) with
        | false => exact .inr rfl
        | true => rw [if_pos rfl]; left; omega
      have z2 : tagV (u - v) = Go.bits .and .i64 (wrap64 (wrap64 (a - b) + 1)) 65535 ∨ smallB (u - v) = false := by
        rw [and_word, w64 (a - b) (by omega) (by omega), w64 (a - b + 1) (by omega) (by omega)]
        unfold tagV
        cases smallB (u - v) with
        | false => exact .inr rfl
        | true => rw [if_pos rfl]; left; omega
      have z3 : smallB (u * v) = true → impl_UntagSmall.f (tagV (u * v)) = some (u * v, true) := by
        intro h
        unfold tagV
        rw [if_pos h]
        unfold smallB at h
        exact untag_of _ (by simp at h; omega) (by simp at h; omega)
      have j2 : ∀ k, laws_FnSums.j2 (k + 1) (tagV (u * v)) (smallB (u * v)) u v false = some true := by
        intro k
        cases hs : smallB (u * v) with
        | false => simp [laws_FnSums.j2]
        | true => simp [laws_FnSums.j2, z3 hs, w3]
      have j1 : ∀ k, laws_FnSums.j1 (k + 1 + 1) a b (tagV (u + v)) (smallB (u + v)) (tagV (u - v)) (smallB (u - v)) (tagV (u * v)) (smallB (u * v)) u v false = some true := by
        intro k
        rcases z1 with z1 | z1 <;> rcases z2 with z2 | z2
        · cases hs : smallB (u + v) <;> cases ht : smallB (u - v) <;> simp [laws_FnSums.j1, ← z1, ← z2, j2]
        · cases hs : smallB (u + v) <;> simp [laws_FnSums.j1, ← z1, z2, j2]
        · cases ht : smallB (u - v) <;> simp [laws_FnSums.j1, z1, ← z2, j2]
        · simp [laws_FnSums.j1, z1, z2, j2]
      have hfit : (if u + v ≥ -16384 then laws_FnSums.j1 9 a b (tagV (u + v)) (smallB (u + v)) (tagV (u - v)) (smallB (u - v)) (tagV (u * v)) (smallB (u * v)) u v (smallB (u + v) != decide (u + v ≤ 16383)) else laws_FnSums.j1 9 a b (tagV (u + v)) (smallB (u + v)) (tagV (u - v)) (smallB (u - v)) (tagV (u * v)) (smallB (u * v)) u v (smallB (u + v) != false)) = some true := by
        by_cases hc : u + v ≥ -16384
        · rw [if_pos hc, show (smallB (u + v) != decide (u + v ≤ 16383)) = false from by unfold smallB; simp [show -16384 ≤ u + v from hc]]
          exact j1 7
        · rw [if_neg hc, show (smallB (u + v) != false) = false from by unfold smallB; simp; omega]
          exact j1 7
      simp only [r1, r2, r3, r4, r5, r6, r7, r8, Option.bind_some]
      simp [laws_FnSums.j0, y1, y2, w1]
      simpa using hfit
    · obtain ⟨r1, r2, r3, r4, r5, r6, r7, r8⟩ := notag a b 10 (by decide) h
      simp only [r1, r2, r3, r4, r5, r6, r7, r8, Option.bind_some]
      simp [laws_FnSums.j0]

end Go.Proofs.Ytncagigpflfkbaa.Pure

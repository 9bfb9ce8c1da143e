/- The pure statement of FnTags: the program returns what the reference returns, for all arguments. -/
import Derived.Test.YtncagigpflfkbaaDoorXFnTagsx3
import Derived.Test.YtncagigpflfkbaaDoorBits
namespace Go.Proofs.YtncagigpflfkbaaDoor.Pure
open Go.RowKit Go.Proofs.YtncagigpflfkbaaDoor.XFnTags Go.Proofs.YtncagigpflfkbaaDoorW.PrintWords Go.Proofs.YtncagigpflfkbaaDoorW.PrintLast Go.Proofs.YtncagigpflfkbaaDoorW.PrintMore Go.Proofs.YtncagigpflfkbaaDoorBits

theorem inb (a l h : Int) : ∃ r, spec_l1In.f a l h = some r ∧ impl_in.f a l h = some r ∧ (r = true ↔ l ≤ a ∧ a ≤ h) := by
  refine ⟨decide (l ≤ a ∧ a ≤ h), ?_, ?_, by simp⟩
  all_goals
    simp only [spec_l1In.f, impl_in.f]
    by_cases h1 : a ≥ l <;> simp [*]

theorem word (a : Int) : ∃ r, impl_isWord.f a = some r ∧ spec_l1Word.f a = some r ∧ (r = true ↔ 0 ≤ a ∧ a ≤ 65535) := by
  refine ⟨decide (0 ≤ a ∧ a ≤ 65535), ?_, ?_, by simp⟩
  all_goals
    simp only [spec_l1Word.f, spec_l1In.f, impl_isWord.f, impl_in.f]
    by_cases h1 : a ≥ 0 <;> simp [*]
theorem tagged (a : Int) : ∃ r, impl_isTagged.f a = some r ∧ spec_IsSmall.f a = some r ∧ (r = true ↔ 0 ≤ a ∧ a ≤ 65535 ∧ a % 2 = 1) := by
  obtain ⟨r, h1, h2, h3⟩ := word a
  cases r with
  | false => exact ⟨false, by simp [impl_isTagged.f, h1], by simp [spec_IsSmall.f, h2], by simp at h3 ⊢; omega⟩
  | true =>
    have h := h3.1 rfl
    refine ⟨a % 2 == 1, by simp [impl_isTagged.f, h1, tmod2 a h.1], by simp [spec_IsSmall.f, h2, and_one], by simp; omega⟩
theorem untag (a : Int) (h0 : 0 ≤ a) (h1 : a ≤ 65535) (h2 : a % 2 = 1) : ∃ v, impl_untag.f a = some v ∧ spec_UntagSmall.f a = some (v, true) ∧ -16384 ≤ v ∧ v ≤ 16383 := by
  obtain ⟨r, _, hs, hr⟩ := tagged a
  obtain rfl : r = true := hr.2 ⟨h0, h1, h2⟩
  by_cases h : a ≥ 32768
  · refine ⟨(a - 65536) / 2, ?_, ?_, by omega, by omega⟩
    · have e : Int.tdiv (a - 65536 - 1) 2 = (a - 65536) / 2 := by rw [tdiv2_neg _ (by omega)]; omega
      simp [impl_untag.f, show a > 32767 by omega, w64 (a - 65536) (by omega) (by omega), w64 (a - 65536 - 1) (by omega) (by omega)]
      rw [e, w64 _ (by omega) (by omega)]
    · simp [spec_UntagSmall.f, hs, spec_l1Signed.f, h, w64 (a - 65536) (by omega) (by omega)]
  · refine ⟨a / 2, ?_, ?_, by omega, by omega⟩
    · have e : Int.tdiv (a - 1) 2 = a / 2 := by rw [tdiv2 _ (by omega)]; omega
      simp [impl_untag.f, show ¬ a > 32767 by omega, w64 (a - 1) (by omega) (by omega)]
      rw [e, w64 _ (by omega) (by omega)]
    · simp [spec_UntagSmall.f, hs, spec_l1Signed.f, h]
theorem untag_no (a : Int) (h : spec_IsSmall.f a = some false) : spec_UntagSmall.f a = some (0, false) := by simp [spec_UntagSmall.f, h]

theorem untag_back (a : Int) (h0 : 0 ≤ a) (h1 : a ≤ 65535) (h2 : a % 2 = 1) : ∃ v, impl_untag.f a = some v ∧ spec_UntagSmall.f a = some (v, true) ∧ -16384 ≤ v ∧ v ≤ 16383 ∧ a = (2 * v + 1) % 65536 := by
  obtain ⟨v, e1, e2, v0, v1⟩ := untag a h0 h1 h2
  refine ⟨v, e1, e2, v0, v1, ?_⟩
  unfold impl_untag.f at e1
  by_cases h : a > 32767
  · rw [if_pos h, w64 (a - 65536) (by omega) (by omega), w64 (a - 65536 - 1) (by omega) (by omega), tdiv2_neg _ (by omega), w64 _ (by omega) (by omega)] at e1
    have := Option.some.inj e1
    omega
  · rw [if_neg h, w64 (a - 1) (by omega) (by omega), tdiv2 _ (by omega), w64 _ (by omega) (by omega)] at e1
    have := Option.some.inj e1
    omega
theorem iuntag_yes (a v : Int) (h0 : 0 ≤ a) (h1 : a ≤ 65535) (h2 : a % 2 = 1) (hv : impl_untag.f a = some v) : impl_UntagSmall.f a = some (v, true) := by
  obtain ⟨r, e, _, hr⟩ := tagged a
  obtain rfl : r = true := hr.2 ⟨h0, h1, h2⟩
  simp [impl_UntagSmall.f, e, hv]
theorem untag_of (n : Int) (h0 : -16384 ≤ n) (h1 : n ≤ 16383) : impl_UntagSmall.f ((2 * n + 1) % 65536) = some (n, true) := by
  obtain ⟨v, e1, _, v0, v1, hv⟩ := untag_back ((2 * n + 1) % 65536) (by omega) (by omega) (by omega)
  rw [iuntag_yes _ v (by omega) (by omega) (by omega) e1]
  simp
  omega

theorem wf8 {x : Int} (h : (Lit.int .u8 x).wf = true) : 0 ≤ x ∧ x ≤ 255 := by
  have h' : IntKind.u8.min ≤ x ∧ x ≤ IntKind.u8.max := by simpa [Lit.wf] using h
  exact h'
theorem and255 (x : Int) : 0 ≤ wrap64 (Go.bits .and .u64 x 255) ∧ wrap64 (Go.bits .and .u64 x 255) ≤ 255 := by
  have e : Go.bits .and .u64 x 255 = IntKind.u64.wrap ((BitVec.ofInt 64 x &&& BitVec.ofInt 64 255).toNat : Int) := rfl
  have h : (BitVec.ofInt 64 x &&& BitVec.ofInt 64 255).toNat ≤ 255 := by
    rw [BitVec.toNat_and]
    exact Nat.and_le_right
  rw [e]
  generalize (BitVec.ofInt 64 x &&& BitVec.ofInt 64 255).toNat = q at h
  have e2 : IntKind.u64.wrap (q : Int) = q := by
    simp [IntKind.wrap, IntKind.bits, IntKind.signed]; omega
  rw [e2, w64 _ (by omega) (by omega)]
  omega
/-- The place of the reader: how far it has read at most. -/
def Cur (p : Int) (n : Nat) : Prop := 0 ≤ p ∧ p ≤ n ∧ n ≤ 4000000000000000000
theorem next_some (l : List Int) (hl : ∀ x ∈ l, (Lit.int .u8 x).wf = true) (p s : Int) (n : Nat) (h : Cur p n) (hn : n ≤ 3000000000000000000) : ∃ v p' s', spec_l1Cur_next.f l p s = some (v, p', s') ∧ 0 ≤ v ∧ v ≤ 255 ∧ Cur p' (n + 1) := by
  obtain ⟨h0, h1, h2⟩ := h
  have hp : wrap64 (p + 1) = p + 1 := w64 _ (by omega) (by omega)
  have hc : Cur (p + 1) (n + 1) := ⟨by omega, by omega, by omega⟩
  unfold spec_l1Cur_next.f
  simp only [hp]
  by_cases hlt : p < (l.length : Int)
  · have hm : rd l p ∈ l := by
      have : p.toNat < l.length := by omega
      simp only [rd, List.getD_eq_getElem?_getD, List.getElem?_eq_getElem this, Option.getD_some]
      exact List.getElem_mem this
    have hb := wf8 (hl _ hm)
    rw [if_pos hlt, if_pos h0]
    split
    · exact ⟨_, _, _, rfl, by rw [w64 _ (by omega) (by omega)]; exact hb.1, by rw [w64 _ (by omega) (by omega)]; exact hb.2, hc⟩
    · refine ⟨_, _, _, rfl, ?_, ?_, hc⟩
      · exact (and255 _).1
      · exact (and255 _).2
  · rw [if_neg hlt]
    split
    · exact ⟨_, _, _, rfl, by omega, by omega, hc⟩
    · refine ⟨_, _, _, rfl, ?_, ?_, hc⟩
      · exact (and255 _).1
      · exact (and255 _).2
theorem pick_some (l : List Int) (hl : ∀ x ∈ l, (Lit.int .u8 x).wf = true) (p s m : Int) (n : Nat) (h : Cur p n) (hn : n ≤ 2900000000000000000) : ∃ v p' s', spec_l1Cur_pick.f l p s m = some (v, p', s') ∧ 0 ≤ v ∧ (v < m ∨ v = 0) ∧ Cur p' (n + 2) := by
  unfold spec_l1Cur_pick.f
  by_cases hm : m ≤ 1
  · rw [if_pos hm]
    exact ⟨0, p, s, rfl, by omega, .inr rfl, h.1, by have := h.2.1; omega, by omega⟩
  · rw [if_neg hm]
    obtain ⟨v, p1, s1, e1, v0, v1, c1⟩ := next_some l hl p s n h (by omega)
    rw [e1]
    simp only [Option.bind_some]
    by_cases h2 : m > 200
    · obtain ⟨u, p2, s2, e2, u0, u1, c2⟩ := next_some l hl p1 s1 (n + 1) c1 (by omega)
      rw [if_pos h2, e2]
      simp only [Option.bind_some]
      rw [if_neg (by omega), w64 (v * 256) (by omega) (by omega), w64 (v * 256 + u) (by omega) (by omega), Int.tmod_eq_emod_of_nonneg (by omega)]
      exact ⟨_, _, _, rfl, Int.emod_nonneg _ (by omega), .inl (Int.emod_lt_of_pos _ (by omega)), c2⟩
    · rw [if_neg h2, if_neg (by omega), Int.tmod_eq_emod_of_nonneg v0]
      exact ⟨_, _, _, rfl, Int.emod_nonneg _ (by omega), .inl (Int.emod_lt_of_pos _ (by omega)), c1.1, by have := c1.2.1; omega, by omega⟩

theorem one_some (l : List Int) (hl : ∀ x ∈ l, (Lit.int .u8 x).wf = true) (p s m : Int) (n : Nat) (h : Cur p n) (hn : n ≤ 2900000000000000000) : ∃ v p' s', spec_l1Cur_one.f l p s m = some (v, p', s') ∧ Cur p' (n + 2) := by
  obtain ⟨v, p', s', e, _, _, c⟩ := pick_some l hl p s m n h hn
  exact ⟨v == 0, p', s', by simp [spec_l1Cur_one.f, e], c⟩

theorem among_some (l : List Int) (hl : ∀ x ∈ l, (Lit.int .u8 x).wf = true) (p s : Int) (q : List Int) (hq : 0 < q.length) (n : Nat) (h : Cur p n) (hn : n ≤ 2900000000000000000) : ∃ v p' s', spec_l1Cur_among.f l p s q = some (v, p', s') ∧ v ∈ q ∧ Cur p' (n + 2) := by
  obtain ⟨v, p', s', e, v0, v1, c⟩ := pick_some l hl p s (q.length : Int) n h hn
  have hlt : v < (q.length : Int) := by rcases v1 with h | h <;> omega
  refine ⟨rd q v, p', s', by simp [spec_l1Cur_among.f, e, v0, hlt], ?_, c⟩
  have : v.toNat < q.length := by omega
  simp only [rd, List.getD_eq_getElem?_getD, List.getElem?_eq_getElem this, Option.getD_some]
  exact List.getElem_mem this

theorem word_some (l : List Int) (hl : ∀ x ∈ l, (Lit.int .u8 x).wf = true) (p s : Int) (n : Nat) (h : Cur p n) (hn : n ≤ 2800000000000000000) : ∃ v p' s', spec_l1Cur_word.f l p s = some (v, p', s') ∧ (-1 ≤ v ∧ v ≤ 65536) ∧ Cur p' (n + 10) := by
  obtain ⟨b, p1, s1, e1, c1⟩ := one_some l hl p s 3 n h (by omega)
  unfold spec_l1Cur_word.f
  rw [e1]
  cases b with
  | true =>
    obtain ⟨v, p2, s2, e2, hv, c2⟩ := among_some l hl p1 s1 [(-1), 0, 1, 2, 3, 32767, 32768, 32769, 65534, 65535, 65536] (by decide) (n + 2) c1 (by omega)
    have hb : -1 ≤ v ∧ v ≤ 65536 := by simp at hv; omega
    exact ⟨v, p2, s2, by simp [e2], hb, c2.1, by have := c2.2.1; omega, by omega⟩
  | false =>
    obtain ⟨v, p2, s2, e2, v0, v1, c2⟩ := pick_some l hl p1 s1 256 (n + 2) c1 (by omega)
    obtain ⟨u, p3, s3, e3, u0, u1, c3⟩ := pick_some l hl p2 s2 256 (n + 2 + 2) c2 (by omega)
    have a1 : v ≤ 255 := by omega
    have a2 : u ≤ 255 := by omega
    refine ⟨v * 256 + u, p3, s3, by simp [e2, e3]; rw [w64 (v * 256) (by omega) (by omega), w64 (v * 256 + u) (by omega) (by omega)], by omega, c3.1, by have := c3.2.1; omega, by omega⟩

theorem and_u64 (n m : Nat) (hn : n < 18446744073709551616) (hm : m < 18446744073709551616) : Go.bits .and .u64 (n : Int) (m : Int) = ((n &&& m : Nat) : Int) :=
  (bits_nat .u64 64 (by decide) (fun x h0 h1 => by simp [IntKind.wrap, IntKind.bits, IntKind.signed]; omega) n m hn hm).1
theorem wrap_u64 (n : Nat) (hn : n < 18446744073709551616) : IntKind.u64.wrap (n : Int) = n := by
  simp [IntKind.wrap, IntKind.bits, IntKind.signed]; omega
def o1 (n : Nat) : Nat := (n / 2 &&& 6148914691236517205) + (n &&& 6148914691236517205)
def o2 (n : Nat) : Nat := (n / 4 &&& 3689348814741910323) + (n &&& 3689348814741910323)
def o3 (n : Nat) : Nat := (n / 16 + n) &&& 1085102592571150095
def o4 (n : Nat) : Nat := n + n / 256
def o5 (n : Nat) : Nat := n + n / 65536
def o6 (n : Nat) : Nat := n + n / 4294967296
def ones (n : Nat) : Nat := o6 (o5 (o4 (o3 (o2 (o1 n))))) &&& 127
def pc : Nat → Nat → Nat
  | 0, _ => 0
  | f + 1, n => n % 2 + pc f (n / 2)
theorem ones_pc0 : ((List.range 256).all fun a => (List.range 256).all fun b => Nat.beq (ones (256 * a + b)) (pc 16 (256 * a + b))) = true := by kernel_rfl
theorem ones_pc (n : Nat) (h : n < 65536) : ones n = pc 16 n := by
  have h1 := List.all_eq_true.1 ones_pc0 (n / 256) (List.mem_range.2 (by omega))
  have h2 := List.all_eq_true.1 h1 (n % 256) (List.mem_range.2 (by omega))
  rw [show 256 * (n / 256) + n % 256 = n by omega] at h2
  exact Nat.eq_of_beq_eq_true h2
theorem ones_go (n : Nat) (h : n < 65536) : bits_OnesCount64.f (n : Int) = some (ones n : Int) := by
  have b1 : o1 n < 98304 := by
    have := @Nat.and_le_left (n / 2) 6148914691236517205; have := @Nat.and_le_left n 6148914691236517205
    unfold o1; omega
  have b2 : o2 (o1 n) < 122880 := by
    have := @Nat.and_le_left (o1 n / 4) 3689348814741910323; have := @Nat.and_le_left (o1 n) 3689348814741910323
    unfold o2; omega
  have b3 : o3 (o2 (o1 n)) < 130561 := by
    have := @Nat.and_le_left (o2 (o1 n) / 16 + o2 (o1 n)) 1085102592571150095
    unfold o3; omega
  have b4 : o4 (o3 (o2 (o1 n))) < 131072 := by unfold o4; omega
  have b5 : o5 (o4 (o3 (o2 (o1 n)))) < 131075 := by unfold o5; omega
  have b6 : o6 (o5 (o4 (o3 (o2 (o1 n))))) < 131076 := by unfold o6; omega
  have e1 : IntKind.u64.wrap ((Go.bits .and .u64 ((n : Int) / 2) 6148914691236517205) + (Go.bits .and .u64 (n : Int) 6148914691236517205)) = (o1 n : Int) := by
    have z1 := and_u64 (n / 2) 6148914691236517205 (by omega) (by decide)
    have z2 := and_u64 n 6148914691236517205 (by omega) (by decide)
    have z3 := wrap_u64 (o1 n) (by omega)
    unfold o1 at z3 ⊢
    simp only [Int.cast_ofNat_Int, Int.natCast_ediv, Int.natCast_add] at z1 z2 z3 ⊢
    rw [z1, z2, z3]
  have e2 : IntKind.u64.wrap ((Go.bits .and .u64 ((o1 n : Int) / 4) 3689348814741910323) + (Go.bits .and .u64 (o1 n : Int) 3689348814741910323)) = (o2 (o1 n) : Int) := by
    generalize o1 n = m at *
    have z1 := and_u64 (m / 4) 3689348814741910323 (by omega) (by decide)
    have z2 := and_u64 m 3689348814741910323 (by omega) (by decide)
    have z3 := wrap_u64 (o2 m) (by omega)
    unfold o2 at z3 ⊢
    simp only [Int.cast_ofNat_Int, Int.natCast_ediv, Int.natCast_add] at z1 z2 z3 ⊢
    rw [z1, z2, z3]
  have e3 : Go.bits .and .u64 (IntKind.u64.wrap (((o2 (o1 n) : Int) / 16) + (o2 (o1 n) : Int))) 1085102592571150095 = (o3 (o2 (o1 n)) : Int) := by
    generalize o2 (o1 n) = m at *
    have z1 := and_u64 (m / 16 + m) 1085102592571150095 (by omega) (by decide)
    have z3 := wrap_u64 (m / 16 + m) (by omega)
    unfold o3
    simp only [Int.cast_ofNat_Int, Int.natCast_ediv, Int.natCast_add] at z1 z3 ⊢
    rw [z3, z1]
  have e4 : IntKind.u64.wrap ((o3 (o2 (o1 n)) : Int) + (o3 (o2 (o1 n)) : Int) / 256) = (o4 (o3 (o2 (o1 n))) : Int) := by
    have z3 := wrap_u64 (o4 (o3 (o2 (o1 n)))) (by omega)
    generalize o3 (o2 (o1 n)) = m at *
    unfold o4 at z3 ⊢
    simp only [Int.cast_ofNat_Int, Int.natCast_ediv, Int.natCast_add] at z3 ⊢
    exact z3
  have e5 : IntKind.u64.wrap ((o4 (o3 (o2 (o1 n))) : Int) + (o4 (o3 (o2 (o1 n))) : Int) / 65536) = (o5 (o4 (o3 (o2 (o1 n)))) : Int) := by
    have z3 := wrap_u64 (o5 (o4 (o3 (o2 (o1 n))))) (by omega)
    generalize o4 (o3 (o2 (o1 n))) = m at *
    unfold o5 at z3 ⊢
    simp only [Int.cast_ofNat_Int, Int.natCast_ediv, Int.natCast_add] at z3 ⊢
    exact z3
  have e6 : IntKind.u64.wrap ((o5 (o4 (o3 (o2 (o1 n)))) : Int) + (o5 (o4 (o3 (o2 (o1 n)))) : Int) / 4294967296) = (o6 (o5 (o4 (o3 (o2 (o1 n))))) : Int) := by
    have z3 := wrap_u64 (o6 (o5 (o4 (o3 (o2 (o1 n)))))) (by omega)
    generalize o5 (o4 (o3 (o2 (o1 n)))) = m at *
    unfold o6 at z3 ⊢
    simp only [Int.cast_ofNat_Int, Int.natCast_ediv, Int.natCast_add] at z3 ⊢
    exact z3
  unfold bits_OnesCount64.f ones
  rw [e1, e2, e3, e4, e5, e6]
  generalize o6 (o5 (o4 (o3 (o2 (o1 n))))) = m at *
  rw [w64 m (by omega) (by omega)]
  have z := (bits_nat .i64 62 (by decide) (fun x h0 h1 => wrap_small x h0 (by omega)) m 127 (by omega) (by decide)).1
  simp only [Int.cast_ofNat_Int] at z
  rw [z]
theorem spec_ones (f : Nat) : ∀ (k : Nat) (x : Nat) (c : Int), x < 2 ^ f → 0 ≤ c → c ≤ 1000 - f → f < k → spec_CountOnes.l0 k x c = some (c + pc f x, true) := by
  induction f with
  | zero =>
    intro k x c hx h0 h1 hk
    obtain ⟨k, rfl⟩ : ∃ m, k = m + 1 := ⟨k - 1, by omega⟩
    obtain rfl : x = 0 := by omega
    simp [spec_CountOnes.l0, pc]
  | succ f ih =>
    intro k x c hx h0 h1 hk
    obtain ⟨k, rfl⟩ : ∃ m, k = m + 1 := ⟨k - 1, by omega⟩
    by_cases hx0 : x = 0
    · subst hx0
      have hp : ∀ f, pc f 0 = 0 := by
        intro f
        induction f with
        | zero => rfl
        | succ f ih => simp [pc, ih]
      simp [spec_CountOnes.l0, hp]
    · simp only [spec_CountOnes.l0]
      rw [if_pos (by omega), and_one, w64 _ (by omega) (by omega)]
      have := ih k (x / 2) (c + (x : Int) % 2) (by rw [Nat.pow_succ] at hx; omega) (by omega) (by omega) (by omega)
      rw [show ((x / 2 : Nat) : Int) = (x : Int) / 2 by omega] at this
      rw [this]
      simp only [pc, Option.some.injEq, Prod.mk.injEq, and_true]
      omega

theorem low_loop (f : Nat) : ∀ (k x : Nat) (c : Int), 0 < x → x < 2 ^ f → x ≤ 65535 → 0 ≤ c → c ≤ 1000 - f → f < k → spec_LowestOne.l0 k x c = some (c + (Lib.ctzFrom f x : Nat), true) := by
  induction f with
  | zero =>
    intro k x c h0 hx
    simp at hx
    omega
  | succ f ih =>
    intro k x c h0 hx hw h1 h2 hk
    obtain ⟨k, rfl⟩ : ∃ m, k = m + 1 := ⟨k - 1, by omega⟩
    simp only [spec_LowestOne.l0, Lib.ctzFrom]
    rw [and_one]
    by_cases hb : x % 2 = 1
    · rw [if_neg (by omega), if_pos hb]
      simp
    · rw [if_pos (by omega), if_neg hb, w64 _ (by omega) (by omega)]
      have := ih k (x / 2) (c + 1) (by omega) (by rw [Nat.pow_succ] at hx; omega) (by omega) (by omega) (by omega) (by omega)
      rw [show ((x / 2 : Nat) : Int) = (x : Int) / 2 by omega] at this
      rw [this]
      congr 2
      omega
theorem tz_nat (x : Nat) (h : (x : Int) < 18446744073709551616) (f : Nat) (hf : f = 64) : Tz.tz (x : Int) = some ((Lib.ctz f x : Nat) : Int) := by
  have h0 : (0 : Int) ≤ (x : Int) := Int.natCast_nonneg x
  have e : (x : Int).toNat = x := Int.toNat_natCast x
  unfold Tz.tz
  rw [if_pos h0, if_pos h, e, hf]

theorem ctz_same (f : Nat) : ∀ (x g : Nat), 0 < x → x < 2 ^ f → f ≤ g → Lib.ctzFrom g x = Lib.ctzFrom f x := by
  induction f with
  | zero =>
    intro x g h0 h1
    simp at h1
    omega
  | succ f ih =>
    intro x g h0 h1 hg
    obtain ⟨g, rfl⟩ : ∃ m, g = m + 1 := ⟨g - 1, by omega⟩
    simp only [Lib.ctzFrom]
    by_cases hb : x % 2 = 1
    · rw [if_pos hb, if_pos hb]
    · rw [if_neg hb, if_neg hb, ih (x / 2) g (by omega) (by rw [Nat.pow_succ] at h1; omega) (by omega)]
theorem lowbit (f : Nat) : ∀ x : Nat, 0 < x → x < 2 ^ f → Lib.ctzFrom f x < f ∧ 2 ^ Lib.ctzFrom f x ≤ x ∧ pc f (x - 2 ^ Lib.ctzFrom f x) + 1 = pc f x ∧ x / 2 ^ Lib.ctzFrom f x % 2 = 1 := by
  induction f with
  | zero =>
    intro x h0 h1
    simp at h1
    omega
  | succ f ih =>
    intro x h0 h1
    simp only [Lib.ctzFrom]
    by_cases hb : x % 2 = 1
    · rw [if_pos hb]
      refine ⟨by omega, by simp; omega, ?_, by simpa using hb⟩
      simp only [pc, Nat.pow_zero]
      rw [show (x - 1) % 2 = 0 by omega, show (x - 1) / 2 = x / 2 by omega, hb]
      omega
    · rw [if_neg hb]
      obtain ⟨g1, g2, g3, g4⟩ := ih (x / 2) (by omega) (by rw [Nat.pow_succ] at h1; omega)
      generalize Lib.ctzFrom f (x / 2) = c at *
      have e : 2 ^ (1 + c) = 2 * 2 ^ c := by rw [Nat.pow_add]
      rw [e]
      have d : x / (2 * 2 ^ c) = x / 2 / 2 ^ c := (Nat.div_div_eq_div_mul x 2 (2 ^ c)).symm
      rw [d]
      generalize 2 ^ c = P at *
      refine ⟨by omega, by omega, ?_, g4⟩
      simp only [pc]
      rw [show (x - 2 * P) % 2 = 0 by omega, show (x - 2 * P) / 2 = x / 2 - P by omega]
      omega
theorem low2 (a : Int) (k : Nat) (hk : 70 < k) : ∃ r t, spec_LowestOne.f k a = some (r, t) ∧ impl_LowestOne.f a = some (r, t) ∧ (t = true → ∃ x : Nat, a = x ∧ 0 < x ∧ x ≤ 65535 ∧ r = (Lib.ctzFrom 16 x : Nat)) := by
  obtain ⟨k, rfl⟩ : ∃ m, k = m + 1 := ⟨k - 1, by omega⟩
  obtain ⟨q, g1, g2, g3⟩ := inb a 0 65535
  cases q with
  | false => exact ⟨0, false, by simp [spec_LowestOne.f, spec_LowestOne.j0, spec_l1Word.f, g1], by simp [impl_LowestOne.f, impl_isWord.f, g2], fun h => by cases h⟩
  | true =>
    obtain ⟨h0, h1⟩ := g3.1 rfl
    by_cases ha : a = 0
    · subst ha
      exact ⟨0, false, by simp [spec_LowestOne.f, spec_LowestOne.j0, spec_l1Word.f, g1], by simp [impl_LowestOne.f, impl_isWord.f, g2], fun h => by cases h⟩
    · obtain ⟨x, rfl⟩ := Int.eq_ofNat_of_zero_le h0
      have hx : x ≠ 0 := by omega
      have hu : IntKind.u64.wrap (x : Int) = x := by
        simp [IntKind.wrap, IntKind.bits, IntKind.signed]; omega
      obtain ⟨f, hf⟩ : ∃ f, f = 64 := ⟨_, rfl⟩
      have e : Lib.ctz f x = Lib.ctzFrom f x := if_neg hx
      have h16 : 2 ^ 16 ≤ 2 ^ f := Nat.pow_le_pow_right (by decide) (by omega)
      have hp : x < 2 ^ f := by omega
      refine ⟨(Lib.ctz f x : Nat), true, ?_, ?_, fun _ => ⟨x, rfl, by omega, by omega, by rw [e, ctz_same 16 x f (by omega) (by omega) (by omega)]⟩⟩
      · have := low_loop f k x 0 (by omega) hp (by omega) (by omega) (by omega) (by omega)
        rw [Int.zero_add, ← e] at this
        have hb : ((x : Int) == 0) = false := beq_false_of_ne ha
        simp only [spec_LowestOne.f, spec_LowestOne.j0, spec_l1Word.f, g1, Option.bind_some, if_true, hb, Bool.false_eq_true, if_false]
        exact this
      · have t := tz_nat x (by omega) f hf
        simp only [impl_LowestOne.f, impl_isWord.f, g2, Option.bind_some, if_true, if_neg ha, hu, bits_TrailingZeros.f, t]
theorem count_of (x : Nat) (h : x ≤ 65535) (k : Nat) (hk : 20 < k) : impl_CountOnes.f (x : Int) = some (((pc 16 x : Nat) : Int), true) ∧ spec_CountOnes.f k (x : Int) = some (((pc 16 x : Nat) : Int), true) := by
  obtain ⟨q, g1, g2, g3⟩ := inb (x : Int) 0 65535
  obtain rfl := g3.2 ⟨by omega, by omega⟩
  have e1 := spec_ones 16 k x 0 (by omega) (by omega) (by omega) (by omega)
  have e2 := ones_go x (by omega)
  rw [ones_pc x (by omega)] at e2
  have e3 := wrap_u64 x (by omega)
  exact ⟨by simp [impl_CountOnes.f, impl_isWord.f, bits_OnesCount.f, g2, e2, e3], by simp [spec_CountOnes.f, spec_l1Word.f, g1, e1]⟩
theorem count_any (a : Int) (k : Nat) (hk : 20 < k) : ∃ r t, impl_CountOnes.f a = some (r, t) ∧ spec_CountOnes.f k a = some (r, t) := by
  obtain ⟨q, g1, g2, g3⟩ := inb a 0 65535
  cases q with
  | false => exact ⟨0, false, by simp [impl_CountOnes.f, impl_isWord.f, g2], by simp [spec_CountOnes.f, spec_l1Word.f, g1]⟩
  | true =>
    obtain ⟨h0, h1⟩ := g3.1 rfl
    obtain ⟨x, rfl⟩ := Int.eq_ofNat_of_zero_le h0
    obtain ⟨e1, e2⟩ := count_of x (by omega) k hk
    exact ⟨_, _, e1, e2⟩
theorem pc_le (f : Nat) : ∀ x : Nat, pc f x ≤ f := by
  induction f with
  | zero => intro x; simp [pc]
  | succ f ih =>
    intro x
    have := ih (x / 2)
    simp only [pc]
    omega
theorem pow16 (m : Nat) (h : m ≤ 16) : (1 : Int) ≤ 2 ^ m ∧ (2 : Int) ^ m ≤ 65536 := by
  have e : ((2 : Int) ^ m) = ((2 ^ m : Nat) : Int) := by simp
  have := Nat.two_pow_pos m
  have h2 : 2 ^ m ≤ 2 ^ 16 := Nat.pow_le_pow_right (by decide) h
  rw [e]
  omega
theorem shl_lo (m : Nat) (h : m ≤ 16) : shl .i64 1 (m : Int) = 2 ^ m := by
  obtain ⟨p0, p1⟩ := pow16 m h
  have e : min ((m : Int)).toNat IntKind.i64.bits = m := by
    have : IntKind.i64.bits = 64 := rfl
    omega
  unfold shl
  rw [e, IntKind.wrap_i64]
  generalize (2 : Int) ^ m = P at *
  omega
theorem shr_lo (a : Int) (m : Nat) (h : m ≤ 16) : shr .i64 a (m : Int) = a / 2 ^ m := by
  have e : min ((m : Int)).toNat IntKind.i64.bits = m := by
    have : IntKind.i64.bits = 64 := rfl
    omega
  unfold shr
  rw [e]

theorem tagSmall_no (n : Int) (h : ¬(-16384 ≤ n ∧ n ≤ 16383)) : impl_TagSmall.f n = some (0, false) ∧ spec_TagSmall.f n = some (0, false) := by
  obtain ⟨q, g1, g2, g3⟩ := inb n (-16384) 16383
  obtain rfl : q = false := by cases q with | false => rfl | true => exact absurd (g3.1 rfl) h
  exact ⟨by simp [impl_TagSmall.f, impl_isSmall.f, g2], by simp [spec_TagSmall.f, spec_l1Small.f, g1]⟩
theorem tagSmall_yes (n : Int) (h0 : -16384 ≤ n) (h1 : n ≤ 16383) : impl_TagSmall.f n = some ((2 * n + 1) % 65536, true) ∧ spec_TagSmall.f n = some ((2 * n + 1) % 65536, true) := by
  obtain ⟨q, g1, g2, g3⟩ := inb n (-16384) 16383
  obtain rfl := g3.2 ⟨h0, h1⟩
  have e : Go.bits .and .i64 (wrap64 (wrap64 (2 * n) + 1)) 65535 = (2 * n + 1) % 65536 := by rw [and_word, w64 (2 * n) (by omega) (by omega), w64 (2 * n + 1) (by omega) (by omega)]
  exact ⟨by simp [impl_TagSmall.f, impl_isSmall.f, impl_tag.f, g2, e], by simp [spec_TagSmall.f, spec_l1Small.f, g1, e]⟩
theorem tagAddr (n : Int) : ∃ r t, impl_TagAddr.f n = some (r, t) ∧ spec_TagAddr.f n = some (r, t) ∧ (0 ≤ n → n ≤ 32767 → r = 2 * n ∧ t = true) := by
  obtain ⟨q, g1, g2, g3⟩ := inb n 0 32767
  cases q with
  | false => exact ⟨0, false, by simp [impl_TagAddr.f, g2], by simp [spec_TagAddr.f, g1], fun h0 h1 => by cases g3.2 ⟨h0, h1⟩⟩
  | true =>
    obtain ⟨h0, h1⟩ := g3.1 rfl
    exact ⟨2 * n, true, by simp [impl_TagAddr.f, g2, w64 (2 * n) (by omega) (by omega)], by simp [spec_TagAddr.f, g1, w64 (2 * n) (by omega) (by omega)], fun _ _ => ⟨rfl, rfl⟩⟩
theorem untagAddr (v : Int) : ∃ r t, impl_UntagAddr.f v = some (r, t) ∧ spec_UntagAddr.f v = some (r, t) ∧ (t = true → 0 ≤ v ∧ v ≤ 65535 ∧ v % 2 = 0 ∧ r = v / 2) := by
  obtain ⟨q, h1, h2, h3⟩ := word v
  cases q with
  | false => exact ⟨0, false, by simp [impl_UntagAddr.f, h1], by simp [spec_UntagAddr.f, h2], fun h => by cases h⟩
  | true =>
    obtain ⟨a, b⟩ := h3.1 rfl
    have m2 := tmod2 v a
    have d2 := tdiv2 v a
    by_cases ho : v % 2 = 1
    · exact ⟨0, false, by simp [impl_UntagAddr.f, h1, m2, ho], by simp [spec_UntagAddr.f, h2, and_one, ho], fun h => by cases h⟩
    · exact ⟨v / 2, true, by simp [impl_UntagAddr.f, h1, m2, ho, d2, w64 (v / 2) (by omega) (by omega)], by simp [spec_UntagAddr.f, h2, and_one, ho, d2, w64 (v / 2) (by omega) (by omega)], fun _ => ⟨a, b, by omega, rfl⟩⟩
theorem untagSmall (v : Int) : ∃ r t, impl_UntagSmall.f v = some (r, t) ∧ spec_UntagSmall.f v = some (r, t) ∧ impl_IsSmall.f v = some t ∧ (t = true → v % 2 = 1 ∧ -16384 ≤ r ∧ r ≤ 16383 ∧ v = (2 * r + 1) % 65536) := by
  obtain ⟨t, h1, h2, h3⟩ := tagged v
  cases t with
  | false => exact ⟨0, false, by simp [impl_UntagSmall.f, h1], untag_no v h2, by simp [impl_IsSmall.f, h1], fun h => by cases h⟩
  | true =>
    obtain ⟨a, b, c⟩ := h3.1 rfl
    obtain ⟨r, e1, e2, e3, e4, e5⟩ := untag_back v a b c
    exact ⟨r, true, iuntag_yes v r a b c e1, e2, by simp [impl_IsSmall.f, h1], fun _ => ⟨c, e3, e4, e5⟩⟩
theorem draw_small (l : List Int) (hl : ∀ x ∈ l, (Lit.int .u8 x).wf = true) : ∃ n, spec_DrawTagSmall.f l = some n := by
  obtain ⟨b, p1, s1, e1, c1⟩ := one_some l hl 0 0 2 0 ⟨by omega, by omega, by omega⟩ (by omega)
  cases b with
  | true =>
    obtain ⟨v, p2, s2, e2, _, _⟩ := among_some l hl p1 s1 [(-16385), (-16384), (-1), 0, 1, 16383, 16384] (by decide) _ c1 (by omega)
    exact ⟨v, by simp [spec_DrawTagSmall.f, e1, e2]⟩
  | false =>
    obtain ⟨v, p2, s2, e2, _, _, _⟩ := pick_some l hl p1 s1 30000 _ c1 (by omega)
    exact ⟨_, by simp [spec_DrawTagSmall.f, e1, e2]; rfl⟩
theorem end_ok (l : List Int) (hl : ∀ x ∈ l, (Lit.int .u8 x).wf = true) : ((spec_DrawTagAddr.f l).bind fun t213 => ((impl_TagAddr.f t213).bind fun bt214 => ((spec_TagAddr.f t213).bind fun bt216 => (if (bt214.2 == bt216.2) = true then (some (bt214.1 == bt216.1)) else (some false))))) = some true := by
  obtain ⟨v, p2, s2, e2, _, _⟩ := among_some l hl 0 0 [(-1), 0, 5, 32767, 32768] (by decide) 0 ⟨by omega, by omega, by omega⟩ (by omega)
  obtain ⟨r, t, f1, f2, _⟩ := tagAddr v
  simp [spec_DrawTagAddr.f, e2, f1, f2]
theorem j4_ok (l : List Int) (hl : ∀ x ∈ l, (Lit.int .u8 x).wf = true) (v : Int) (k : Nat) (hk : 100 < k) : laws_FnTags.j4 k l v = some true := by
  obtain ⟨k, rfl⟩ : ∃ m, k = m + 1 + 1 + 1 := ⟨k - 3, by omega⟩
  obtain ⟨c, t, c1, c2⟩ := count_any v (k + 1 + 1) (by omega)
  obtain ⟨r, u, l1, l2, l3⟩ := low2 v (k + 1 + 1) (by omega)
  simp only [laws_FnTags.j4, c1, c2, l1, l2, Option.bind_some, bne_self_eq_false, Bool.false_eq_true, if_false, if_true]
  cases u with
  | false =>
    simp only [laws_FnTags.j5, Bool.false_eq_true, if_false]
    exact end_ok l hl
  | true =>
    obtain ⟨x, rfl, x0, x1, rfl⟩ := l3 rfl
    obtain ⟨b1, b2, b3, b4⟩ := lowbit 16 x x0 (by omega)
    obtain ⟨a1, _⟩ := count_of x x1 21 (by omega)
    rw [c1] at a1
    obtain ⟨rfl, _⟩ := Prod.mk.inj (Option.some.inj a1)
    generalize Lib.ctzFrom 16 x = z at *
    have hu := wrap_u64 z (by omega)
    have hs := shl_lo z (by omega)
    have hr := shr_lo x z (by omega)
    have e2 : ((2 : Int) ^ z) = ((2 ^ z : Nat) : Int) := by simp
    rw [e2] at hs hr
    have hle := Nat.sub_le x (2 ^ z)
    have hpc := pc_le 16 x
    obtain ⟨d1, _⟩ := count_of (x - 2 ^ z) (Nat.le_trans hle x1) 21 (by omega)
    have hb : ((x : Int) / ((2 ^ z : Nat) : Int)) % 2 = 1 := by
      rw [← Int.natCast_ediv]
      omega
    simp only [laws_FnTags.j5, hu, hs, hr, Bool.false_eq_true, if_false, if_true]
    generalize 2 ^ z = P at *
    rw [if_pos (by omega), show wrap64 ((x : Int) - (P : Int)) = ((x - P : Nat) : Int) by rw [w64 _ (by omega) (by omega)]; omega, d1]
    simp only [Option.bind_some, if_true]
    rw [if_pos (by rw [w64 _ (by omega) (by omega)]; omega), and_one, hb]
    simp only [laws_FnTags.j6, bne_self_eq_false, Bool.false_eq_true, if_false]
    exact end_ok l hl
theorem j1_ok (l : List Int) (hl : ∀ x ∈ l, (Lit.int .u8 x).wf = true) (k : Nat) (hk : 110 < k) : laws_FnTags.j1 k l = some true := by
  obtain ⟨k, rfl⟩ : ∃ m, k = m + 1 + 1 + 1 := ⟨k - 3, by omega⟩
  obtain ⟨v, p1, s1, e1, hv, _⟩ := word_some l hl 0 0 0 ⟨by omega, by omega, by omega⟩ (by omega)
  have f1 : spec_DrawUntagSmall.f l = some v := by simp [spec_DrawUntagSmall.f, e1]
  obtain ⟨x, is_, u1, u2, u3, u4⟩ := untagSmall v
  obtain ⟨a, one, w1, w2, w3⟩ := untagAddr v
  have j4 := j4_ok l hl v k (by omega)
  have j3 : laws_FnTags.j3 (k + 1) l v a one = some true := by
    cases one with
    | false => simpa [laws_FnTags.j3] using j4
    | true =>
      obtain ⟨v0, v1, v2, rfl⟩ := w3 rfl
      obtain ⟨r, t, t1, _, t3⟩ := tagAddr (v / 2)
      obtain ⟨rfl, rfl⟩ := t3 (by omega) (by omega)
      have : 2 * (v / 2) = v := by omega
      simpa [laws_FnTags.j3, t1, this] using j4
  simp only [laws_FnTags.j1, f1, u1, u2, u3, w1, w2, Option.bind_some, bne_self_eq_false, Bool.false_eq_true, if_false, if_true]
  cases is_ with
  | false =>
    simp only [Bool.false_eq_true, if_false, laws_FnTags.j2]
    exact j3
  | true =>
    obtain ⟨o, x0, x1, hx⟩ := u4 rfl
    obtain rfl : one = false := by
      cases one with
      | false => rfl
      | true => obtain ⟨_, _, h, _⟩ := w3 rfl; omega
    have t1 := (tagSmall_yes x x0 x1).1
    rw [← hx] at t1
    simp only [if_true, Bool.false_eq_true, if_false, laws_FnTags.j2, t1, Option.bind_some]
    exact j3
theorem FnTags (l l1 : List Int) (_ : l.length ≤ 9223372036854775807) (hl : ∀ x, x ∈ l → (Lit.int .u8 x).wf = true) (_ : l1.length ≤ 9223372036854775807) (hl1 : ∀ x, x ∈ l1 → (Lit.int .u8 x).wf = true) : ∃ k, laws_FnTags.f k l l1 = some true := by
  refine ⟨200, ?_⟩
  obtain ⟨k, hk⟩ : ∃ k, k = 199 := ⟨_, rfl⟩
  rw [show 200 = k + 1 by omega]
  unfold laws_FnTags.f
  by_cases hbig : wrap64 ((l.length : Int) + (l1.length : Int)) > 1048576
  · rw [if_pos hbig]
  rw [if_neg hbig]
  obtain ⟨n, e1⟩ := draw_small l hl
  have j1 := j1_ok l1 hl1 k (by omega)
  by_cases hn : -16384 ≤ n ∧ n ≤ 16383
  · obtain ⟨t1, t2⟩ := tagSmall_yes n hn.1 hn.2
    have b := untag_of n hn.1 hn.2
    obtain ⟨r, t, u1, _, u3, _⟩ := untagSmall ((2 * n + 1) % 65536)
    rw [b] at u1
    obtain ⟨_, rfl⟩ := Prod.mk.inj (Option.some.inj u1)
    obtain ⟨a, one, w1, _, w3⟩ := untagAddr ((2 * n + 1) % 65536)
    obtain rfl : one = false := by
      cases one with
      | false => rfl
      | true => obtain ⟨_, _, h, _⟩ := w3 rfl; omega
    simp only [e1, t1, t2, Option.bind_some, bne_self_eq_false, Bool.false_eq_true, if_false, laws_FnTags.j0, if_true, b, w1, u3]
    exact j1
  · obtain ⟨t1, t2⟩ := tagSmall_no n hn
    simp only [e1, t1, t2, Option.bind_some, bne_self_eq_false, Bool.false_eq_true, if_false, laws_FnTags.j0]
    exact j1

end Go.Proofs.YtncagigpflfkbaaDoor.Pure

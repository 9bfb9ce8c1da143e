/- The pure statement of FnExactNamesNeeded: the program returns what the reference returns, for all arguments. -/
import Derived.Test.YtoggmpihojkbfaaXFnExactNamesNeededx6
import Derived.Test.YtoggmpihojkbfaaBits
namespace Go.Proofs.Ytoggmpihojkbfaa.Pure
open Go.RowKit Go.Proofs.Ytoggmpihojkbfaa.XFnExactNamesNeeded Go.Proofs.YtoggmpihojkbfaaW.PrintWords Go.Proofs.YtoggmpihojkbfaaW.PrintLast Go.Proofs.YtoggmpihojkbfaaW.PrintMore Go.Proofs.YtoggmpihojkbfaaBits

theorem rd_at45 (l : List S45) (i : Nat) (h : i < l.length) : rd_T45 l i = l[i] := by
  simp [rd_T45, List.getD_eq_getElem?_getD, List.getElem?_eq_getElem h]

def toI (x : S48) : S45 := ⟨x.f0, x.f1, x.f2, x.f3, x.f4⟩
theorem rd_at48 (l : List S48) (i : Nat) (h : i < l.length) : rd_T48 l i = l[i] := by
  simp [rd_T48, List.getD_eq_getElem?_getD, List.getElem?_eq_getElem h]
theorem toInstrS_loop (l : List S48) (hl : l.length ≤ 1048576) (d : Nat) : ∀ (k i : Nat) (m : List S45), m.length = l.length → i ≤ l.length → l.length - i = d → d < k → m.take i = (l.map toI).take i → laws_toInstrS.l0 k l m i = some (l.map toI) := by
  induction d with
  | zero =>
    intro k i m hm hi hd hk ht
    obtain ⟨k, rfl⟩ : ∃ m, k = m + 1 := ⟨k - 1, by omega⟩
    simp only [laws_toInstrS.l0]
    rw [if_neg (by omega)]
    rw [List.take_of_length_le (by omega), List.take_of_length_le (by simp; omega)] at ht
    rw [ht]
  | succ d ih =>
    intro k i m hm hi hd hk ht
    obtain ⟨k, rfl⟩ : ∃ m, k = m + 1 := ⟨k - 1, by omega⟩
    have hlt : i < l.length := by omega
    simp only [laws_toInstrS.l0, laws_toInstr.f, Option.bind_some]
    rw [if_pos (by omega), if_pos (by omega), if_pos (by omega), w64 _ (by omega) (by omega), rd_at48 l i hlt]
    refine ih k (i + 1) (m.set ((i : Int)).toNat (toI l[i])) (by simpa using hm) (by omega) (by omega) (by omega) ?_
    rw [Int.toNat_natCast, List.take_succ_eq_append_getElem (by rw [List.length_set]; omega), List.take_succ_eq_append_getElem (by simpa using hlt), List.take_set_of_le (Nat.le_refl _), ht]
    simp
theorem toInstrS (l : List S48) (hl : l.length ≤ 1048576) (k : Nat) (hk : l.length < k) : laws_toInstrS.f k l = some (l.map toI) := by
  unfold laws_toInstrS.f
  rw [if_pos (by omega), if_pos (by omega)]
  exact toInstrS_loop l hl l.length k 0 _ (by simp) (by omega) (by omega) (by omega) (by simp)
theorem szInstrS (l : List S48) (hl : l.length ≤ 9223372036854775807) : ∃ s, laws_szInstrS.f l 1048576 = some s ∧ (s < 0 ∨ l.length ≤ 1048576) := by
  unfold laws_szInstrS.f
  rw [w64 _ (by omega) (by omega)]
  split
  · exact ⟨-1, rfl, .inl (by decide)⟩
  · exact ⟨_, rfl, .inr (by omega)⟩

theorem szInstrS2 (l : List S48) (hl : l.length ≤ 9223372036854775807) : ∃ s, laws_szInstrS.f l 1048576 = some s ∧ s ≤ 1048576 ∧ (s < 0 ∨ l.length ≤ 1048576) := by
  unfold laws_szInstrS.f
  rw [w64 _ (by omega) (by omega)]
  split
  · exact ⟨-1, rfl, by decide, .inl (by decide)⟩
  · exact ⟨_, rfl, by omega, .inr (by omega)⟩

theorem eqInstrS_loop (l : List S45) (hl : l.length ≤ 4611686018427387904) (d : Nat) : ∀ (k i : Nat), i ≤ l.length → l.length - i = d → d < k → laws_eqInstrS.l0 k l l i = some true := by
  induction d with
  | zero =>
    intro k i hi hd hk
    obtain ⟨k, rfl⟩ : ∃ m, k = m + 1 := ⟨k - 1, by omega⟩
    simp only [laws_eqInstrS.l0]
    rw [if_neg (by omega)]
  | succ d ih =>
    intro k i hi hd hk
    obtain ⟨k, rfl⟩ : ∃ m, k = m + 1 := ⟨k - 1, by omega⟩
    simp only [laws_eqInstrS.l0, laws_eqInstr.f, if_true, Option.bind_some]
    rw [if_pos (by omega), if_pos (by omega), if_pos (by omega), w64 _ (by omega) (by omega)]
    exact ih k (i + 1) (by omega) (by omega) (by omega)
theorem eqInstrS (l : List S45) (hl : l.length ≤ 4611686018427387904) (k : Nat) (hk : l.length < k) : laws_eqInstrS.f k l l = some true := by
  unfold laws_eqInstrS.f
  rw [if_pos rfl]
  exact eqInstrS_loop l hl l.length k 0 (by omega) (by omega) (by omega)

def goodB (x : S45) : Bool := decide ((0 ≤ x.f1 ∧ x.f1 ≤ 7) ∧ (0 ≤ x.f2 ∧ x.f2 ≤ 7) ∧ (0 ≤ x.f3 ∧ x.f3 ≤ 7) ∧ (0 ≤ x.f4 ∧ x.f4 ≤ 65535) ∧ (x.f0 = 1 ∧ x.f2 = 0 ∧ x.f3 = 0 ∨ x.f0 = 2 ∧ x.f3 = 0 ∧ x.f4 = 0 ∨ (3 ≤ x.f0 ∧ x.f0 ≤ 7) ∧ x.f4 = 0 ∨ x.f0 = 8 ∧ x.f1 = 0 ∧ x.f3 = 0 ∧ x.f4 = 0))
theorem inS (a l h : Int) : spec_l1In.f a l h = some (decide (l ≤ a ∧ a ≤ h)) := by
  simp only [spec_l1In.f]
  by_cases h1 : a ≥ l <;> simp [*]
theorem inI (a l h : Int) : impl_in.f a l h = some (decide (l ≤ a ∧ a ≤ h)) := by
  simp only [impl_in.f]
  by_cases h1 : a ≥ l <;> simp [*]
theorem good_spec (x : S45) : spec_l3Good.f x.f0 x.f1 x.f2 x.f3 x.f4 = some (goodB x) := by
  simp only [spec_l3Good.f, spec_l3Name.f, spec_l3Two.f, spec_l1Word.f, inS, Option.bind_some, goodB]
  repeat' split
  all_goals first | rfl | (congr 1; simp_all; done) | (congr 1; simp_all; omega) | (congr 1; rw [Bool.eq_iff_iff]; simp_all; done) | (congr 1; rw [Bool.eq_iff_iff]; simp_all; omega)
theorem good_j0t (k : Nat) (a b c d e : Int) : impl_isInstr.j0 (k + 1) true a b c d e = some false := by simp [impl_isInstr.j0]
theorem good_j0f (k : Nat) (a b c d e : Int) : impl_isInstr.j0 (k + 1 + 1) false a b c d e = some (decide (a = 1 ∧ c = 0 ∧ d = 0 ∨ a = 2 ∧ d = 0 ∧ e = 0 ∨ (3 ≤ a ∧ a ≤ 7) ∧ e = 0 ∨ a = 8 ∧ b = 0 ∧ d = 0 ∧ e = 0)) := by
  simp only [impl_isInstr.j0, impl_isInstr.j1, Bool.false_eq_true, if_false]
  repeat' split
  all_goals first | rfl | (congr 1; simp_all; done) | (congr 1; simp_all; omega) | (congr 1; rw [Bool.eq_iff_iff]; simp_all; done) | (congr 1; rw [Bool.eq_iff_iff]; simp_all; omega)
theorem good_impl (x : S45) (k : Nat) (hk : 2 ≤ k) : impl_isInstr.f k x.f0 x.f1 x.f2 x.f3 x.f4 = some (goodB x) := by
  obtain ⟨k, rfl⟩ : ∃ m, k = m + 1 + 1 := ⟨k - 2, by omega⟩
  simp only [impl_isInstr.f, impl_isName.f, impl_isWord.f, inI, Option.bind_some, goodB]
  by_cases h1 : 0 ≤ x.f1 ∧ x.f1 ≤ 7
  · by_cases h2 : 0 ≤ x.f2 ∧ x.f2 ≤ 7
    · by_cases h3 : 0 ≤ x.f3 ∧ x.f3 ≤ 7
      · by_cases h4 : 0 ≤ x.f4 ∧ x.f4 ≤ 65535
        · simp only [eq_true h1, eq_true h2, eq_true h3, eq_true h4, decide_true, if_true, Bool.not_true, good_j0f, true_and]
        · simp only [eq_true h1, eq_true h2, eq_true h3, eq_false h4, decide_true, if_true, decide_false, Bool.not_false, good_j0t, false_and, and_false]
      · simp only [eq_true h1, eq_true h2, eq_false h3, decide_true, if_true, decide_false, Bool.false_eq_true, if_false, good_j0t, false_and, and_false]
    · simp only [eq_true h1, eq_false h2, decide_true, if_true, decide_false, Bool.false_eq_true, if_false, good_j0t, false_and, and_false]
  · simp only [eq_false h1, decide_false, Bool.false_eq_true, if_false, good_j0t, false_and]

theorem goodCode_loop (l : List S45) (hl : l.length ≤ 4611686018427387904) (d : Nat) : ∀ (k i : Nat), i ≤ l.length → l.length - i = d → d < k →
    spec_GoodCode.l0 k l l (l.length : Int) i = some ((l.drop i).all goodB && decide (l.length ≤ 30)) := by
  induction d with
  | zero =>
    intro k i hi hd hk
    obtain ⟨k, rfl⟩ : ∃ m, k = m + 1 := ⟨k - 1, by omega⟩
    simp only [spec_GoodCode.l0]
    rw [if_neg (by omega), List.drop_of_length_le (by omega)]
    simp
    omega
  | succ d ih =>
    intro k i hi hd hk
    obtain ⟨k, rfl⟩ : ∃ m, k = m + 1 := ⟨k - 1, by omega⟩
    have hlt : i < l.length := by omega
    simp only [spec_GoodCode.l0, good_spec, Option.bind_some]
    rw [if_pos (by omega), if_pos (by omega), if_pos (by omega), w64 _ (by omega) (by omega), rd_at45 l i hlt, List.drop_eq_getElem_cons hlt, List.all_cons]
    cases goodB l[i] with
    | true => simpa using ih k (i + 1) (by omega) (by omega) (by omega)
    | false => simp
def codeB (l : List S45) : Bool := l.all goodB && decide (l.length ≤ 30)
theorem spec_good (l : List S45) (hl : l.length ≤ 4611686018427387904) (k : Nat) (hk : l.length < k) : spec_GoodCode.f k l = some (codeB l) := by
  have := goodCode_loop l hl l.length k 0 (by omega) (by omega) (by omega)
  simpa [spec_GoodCode.f, codeB] using this
theorem index_loop (l : List S45) (hl : l.length ≤ 4611686018427387904) (d : Nat) : ∀ (k i : Nat), i ≤ l.length → l.length - i = d → d + 3 < k →
    ∃ r, slices_IndexFunc_at46.l0 k l (l.length : Int) i = some r ∧ decide (r ≥ 0) = !(l.drop i).all goodB := by
  induction d with
  | zero =>
    intro k i hi hd hk
    obtain ⟨k, rfl⟩ : ∃ m, k = m + 1 := ⟨k - 1, by omega⟩
    simp only [slices_IndexFunc_at46.l0]
    rw [if_neg (by omega), List.drop_of_length_le (by omega)]
    exact ⟨-1, rfl, by simp⟩
  | succ d ih =>
    intro k i hi hd hk
    obtain ⟨k, rfl⟩ : ∃ m, k = m + 1 := ⟨k - 1, by omega⟩
    have hlt : i < l.length := by omega
    simp only [slices_IndexFunc_at46.l0, impl_isCode_1.f, good_impl _ k (by omega), Option.bind_some]
    rw [if_pos (by omega), if_pos (by omega), if_pos (by omega), w64 _ (by omega) (by omega), rd_at45 l i hlt, List.drop_eq_getElem_cons hlt, List.all_cons]
    cases goodB l[i] with
    | true =>
      obtain ⟨r, h1, h2⟩ := ih k (i + 1) (by omega) (by omega) (by omega)
      exact ⟨r, by simpa using h1, by simpa using h2⟩
    | false => exact ⟨i, by simp, by simp⟩
theorem isCode_eq (l : List S45) (k : Nat) (hk : 40 < k) : impl_isCode.f k l = some (codeB l) := by
  unfold impl_isCode.f codeB
  by_cases h : (l.length : Int) ≤ 30
  · rw [if_pos h]
    obtain ⟨r, h1, h2⟩ := index_loop l (by omega) l.length k 0 (by omega) (by omega) (by omega)
    simp only [slices_ContainsFunc_at46.f, slices_IndexFunc_at46.f]
    rw [show (0 : Int) = ((0 : Nat) : Int) from rfl, h1]
    simp only [Option.bind_some]
    rw [show ((0 : Nat) : Int) = 0 from rfl, h2, show decide (l.length ≤ 30) = true from decide_eq_true (by omega)]
    simp
  · rw [if_neg h, show decide (l.length ≤ 30) = false from decide_eq_false (by omega)]
    simp

theorem rd_setI (l : List S45) (v : S45) (i : Nat) (h : i < l.length) : rd_T45 (l.set i v) (i : Int) = v := by
  simp [rd_T45, h]
theorem markInstrS_loop (d : Nat) : ∀ (k : Nat) (l : List S45) (i : Nat) (s : Int), l.length ≤ 1048576 → i ≤ l.length → l.length - i = d → d < k → 0 ≤ s → s ≤ 1000000000000 + 5 * (i : Int) →
    ∃ l', laws_markInstrS.l0 k l s i = some (s + 5 * (d : Int), l') ∧ l'.length = l.length := by
  induction d with
  | zero =>
    intro k l i s hl hi hd hk h0 h1
    obtain ⟨k, rfl⟩ : ∃ m, k = m + 1 := ⟨k - 1, by omega⟩
    simp only [laws_markInstrS.l0]
    rw [if_neg (by omega)]
    exact ⟨l, by simp, rfl⟩
  | succ d ih =>
    intro k l i s hl hi hd hk h0 h1
    obtain ⟨k, rfl⟩ : ∃ m, k = m + 1 := ⟨k - 1, by omega⟩
    have hlt : i < l.length := by omega
    have c1 : (i : Int) < (l.length : Int) := by omega
    have c2 : (0 : Int) ≤ i := by omega
    simp only [laws_markInstrS.l0, if_pos c1, if_pos c2, Option.bind_some, Int.toNat_natCast, List.set_set, rd_setI l _ i hlt, w64 ((i : Int) + 1) (by omega) (by omega), w64 (s + 1) (by omega) (by omega), w64 (s + 1 + 1) (by omega) (by omega), w64 (s + 1 + 1 + 1) (by omega) (by omega), w64 (s + 1 + 1 + 1 + 1) (by omega) (by omega), w64 (s + 1 + 1 + 1 + 1 + 1) (by omega) (by omega)]
    generalize hv : l.set i _ = l2
    have e2 : l2.length = l.length := by rw [← hv]; simp
    obtain ⟨l', g1, g2⟩ := ih k l2 (i + 1) (s + 1 + 1 + 1 + 1 + 1) (by omega) (by omega) (by omega) (by omega) (by omega) (by omega)
    refine ⟨l', ?_, by omega⟩
    rw [show (i : Int) + 1 = ((i + 1 : Nat) : Int) by omega, g1]
    congr 2
    omega
theorem markInstrS (l : List S45) (hl : l.length ≤ 1048576) (s : Int) (h0 : 0 ≤ s) (h1 : s ≤ 1000000000000) (k : Nat) (hk : l.length < k) : ∃ l', laws_markInstrS.f k l s = some (s + 5 * (l.length : Int), l') := by
  obtain ⟨l', g1, _⟩ := markInstrS_loop l.length k l 0 s hl (by omega) (by omega) (by omega) h0 (by omega)
  exact ⟨l', g1⟩

theorem eqIntS_loop (l : List Int) (hl : l.length ≤ 4611686018427387904) (d : Nat) : ∀ (k i : Nat), i ≤ l.length → l.length - i = d → d < k → laws_eqIntS.l0 k l l i = some true := by
  induction d with
  | zero =>
    intro k i hi hd hk
    obtain ⟨k, rfl⟩ : ∃ m, k = m + 1 := ⟨k - 1, by omega⟩
    simp only [laws_eqIntS.l0]
    rw [if_neg (by omega)]
  | succ d ih =>
    intro k i hi hd hk
    obtain ⟨k, rfl⟩ : ∃ m, k = m + 1 := ⟨k - 1, by omega⟩
    simp only [laws_eqIntS.l0]
    rw [if_pos (by omega), if_pos (by omega), if_pos (by omega), if_pos True.intro, w64 _ (by omega) (by omega)]
    exact ih k (i + 1) (by omega) (by omega) (by omega)
theorem eqIntS (l : List Int) (hl : l.length ≤ 4611686018427387904) (k : Nat) (hk : l.length < k) : laws_eqIntS.f k l l = some true := by
  unfold laws_eqIntS.f
  rw [if_pos rfl]
  exact eqIntS_loop l hl l.length k 0 (by omega) (by omega) (by omega)

def ramp (a : Int) (n : Nat) : List Int := (List.range n).map fun i => a + (i : Nat)
theorem ramp_length (a : Int) (n : Nat) : (ramp a n).length = n := by simp [ramp]
theorem ramp_rd (a : Int) (n i : Nat) (h : i < n) : rd (ramp a n) i = a + i := by
  simp [ramp, rd, List.getD_eq_getElem?_getD, List.getElem?_map, List.getElem?_range h]

theorem markIntS_loop (n : Nat) (hn : n ≤ 1048576) (b : Int) (hb0 : 0 ≤ b) (hb1 : b ≤ 1000000000) (d : Nat) : ∀ (k i : Nat) (m : List Int), m.length = n → i ≤ n → n - i = d → d < k → m.take i = (ramp b n).take i →
    laws_markIntS.l0 k m (b + i) i = some (b + n, ramp b n) := by
  induction d with
  | zero =>
    intro k i m hm hi hd hk ht
    obtain ⟨k, rfl⟩ : ∃ m, k = m + 1 := ⟨k - 1, by omega⟩
    simp only [laws_markIntS.l0]
    rw [if_neg (by omega)]
    rw [List.take_of_length_le (by omega), List.take_of_length_le (by rw [ramp_length]; omega)] at ht
    rw [ht, show i = n by omega]
  | succ d ih =>
    intro k i m hm hi hd hk ht
    obtain ⟨k, rfl⟩ : ∃ m, k = m + 1 := ⟨k - 1, by omega⟩
    simp only [laws_markIntS.l0]
    rw [if_pos (by omega), if_pos (by omega), w64 _ (by omega) (by omega), w64 _ (by omega) (by omega)]
    have hlt : i < (ramp b n).length := by rw [ramp_length]; omega
    rw [show b + (i : Int) + 1 = b + ((i + 1 : Nat) : Int) by omega]
    refine ih k (i + 1) (m.set ((i : Int)).toNat (b + i)) (by simpa using hm) (by omega) (by omega) (by omega) ?_
    rw [Int.toNat_natCast, List.take_succ_eq_append_getElem (by rw [List.length_set]; omega), List.take_succ_eq_append_getElem hlt, List.take_set_of_le (Nat.le_refl _), ht]
    simp [ramp]
theorem markIntS (m : List Int) (hn : m.length ≤ 1048576) (b : Int) (hb0 : 0 ≤ b) (hb1 : b ≤ 1000000000) (k : Nat) (hk : m.length < k) : laws_markIntS.f k m b = some (b + m.length, ramp b m.length) := by
  unfold laws_markIntS.f
  have := markIntS_loop m.length hn b hb0 hb1 m.length k 0 m rfl (by omega) (by omega) (by omega) (by simp)
  rw [show b + ((0 : Nat) : Int) = b by omega] at this
  exact this
theorem heldIntS_loop (n : Nat) (hn : n ≤ 1048576) (b : Int) (hb0 : 0 ≤ b) (hb1 : b ≤ 1000000000) (d : Nat) : ∀ (k i : Nat), i ≤ n → n - i = d → d < k →
    laws_heldIntS.l0 k (ramp b n) (b + i) i = some (b + n) := by
  induction d with
  | zero =>
    intro k i hi hd hk
    obtain ⟨k, rfl⟩ : ∃ m, k = m + 1 := ⟨k - 1, by omega⟩
    simp only [laws_heldIntS.l0]
    rw [if_neg (by rw [ramp_length]; omega), show i = n by omega]
  | succ d ih =>
    intro k i hi hd hk
    obtain ⟨k, rfl⟩ : ∃ m, k = m + 1 := ⟨k - 1, by omega⟩
    simp only [laws_heldIntS.l0]
    rw [if_pos (by rw [ramp_length]; omega), if_pos (by omega), if_pos (ramp_rd b n i (by omega)), w64 _ (by omega) (by omega), w64 _ (by omega) (by omega)]
    rw [show b + (i : Int) + 1 = b + ((i + 1 : Nat) : Int) by omega]
    exact ih k (i + 1) (by omega) (by omega) (by omega)
theorem heldIntS (n : Nat) (hn : n ≤ 1048576) (b : Int) (hb0 : 0 ≤ b) (hb1 : b ≤ 1000000000) (k : Nat) (hk : n < k) : laws_heldIntS.f k (ramp b n) b = some (b + n) := by
  unfold laws_heldIntS.f
  have := heldIntS_loop n hn b hb0 hb1 n k 0 (by omega) (by omega) (by omega)
  rw [show b + ((0 : Nat) : Int) = b by omega] at this
  exact this

def put : List Int → Int → List Int
  | [], n => [n]
  | x :: t, n => if x < n then x :: put t n else if x = n then x :: t else n :: x :: t
theorem put_len : ∀ (l : List Int) (n : Int), (put l n).length ≤ l.length + 1
  | [], n => by simp [put]
  | x :: t, n => by
    have := put_len t n
    unfold put
    split
    · simp only [List.length_cons]; omega
    · split
      · simp only [List.length_cons]; omega
      · simp only [List.length_cons]; omega
theorem mem_put : ∀ (l : List Int) (n x : Int), x ∈ put l n ↔ x = n ∨ x ∈ l
  | [], n, x => by simp [put]
  | y :: t, n, x => by
    have ih := mem_put t n x
    unfold put
    split
    · simp only [List.mem_cons, ih]
      constructor
      · rintro (h | h | h) <;> simp [h]
      · rintro (h | h | h) <;> simp [h]
    · split
      · rename_i h
        subst h
        simp
      · simp
theorem put_strict : ∀ (l : List Int) (n : Int), l.Pairwise (· < ·) → (put l n).Pairwise (· < ·)
  | [], n, _ => by simp [put]
  | y :: t, n, h => by
    obtain ⟨h1, h2⟩ := List.pairwise_cons.1 h
    unfold put
    split
    · rename_i hy
      refine List.pairwise_cons.2 ⟨fun x hx => ?_, put_strict t n h2⟩
      rcases (mem_put t n x).1 hx with rfl | hx
      · exact hy
      · exact h1 x hx
    · split
      · exact h
      · refine List.pairwise_cons.2 ⟨fun x hx => ?_, h⟩
        rcases List.mem_cons.1 hx with rfl | hx
        · omega
        · have := h1 x hx
          omega
theorem strict_ext : ∀ l m : List Int, l.Pairwise (· < ·) → m.Pairwise (· < ·) → (∀ x, x ∈ l ↔ x ∈ m) → l = m
  | [], [], _, _, _ => rfl
  | [], b :: m, _, _, h => by have := (h b).2 (by simp); simp at this
  | a :: l, [], _, _, h => by have := (h a).1 (by simp); simp at this
  | a :: l, b :: m, hl, hm, h => by
    obtain ⟨l1, l2⟩ := List.pairwise_cons.1 hl
    obtain ⟨m1, m2⟩ := List.pairwise_cons.1 hm
    have e : a = b := by
      rcases List.mem_cons.1 ((h a).1 (by simp)) with e | ha
      · exact e
      · rcases List.mem_cons.1 ((h b).2 (by simp)) with e | hb
        · exact e.symm
        · have := m1 a ha
          have := l1 b hb
          omega
    subst e
    rw [strict_ext l m l2 m2 (fun x => ?_)]
    constructor
    · intro hx
      rcases List.mem_cons.1 ((h x).1 (List.mem_cons_of_mem _ hx)) with rfl | hx2
      · have := l1 x hx; omega
      · exact hx2
    · intro hx
      rcases List.mem_cons.1 ((h x).2 (List.mem_cons_of_mem _ hx)) with rfl | hx2
      · have := m1 x hx; omega
      · exact hx2
theorem foldl_put (v : List Int) : ∀ l : List Int, l.Pairwise (· < ·) → (v.foldl put l).Pairwise (· < ·) ∧ (∀ x, x ∈ v.foldl put l ↔ x ∈ v ∨ x ∈ l) ∧ (v.foldl put l).length ≤ l.length + v.length := by
  induction v with
  | nil => intro l h; exact ⟨h, fun x => by simp, by simp⟩
  | cons n v ih =>
    intro l h
    obtain ⟨a, b, c⟩ := ih (put l n) (put_strict l n h)
    rw [List.foldl_cons]
    refine ⟨a, fun x => ?_, by have := put_len l n; simp only [List.length_cons]; omega⟩
    rw [b x, mem_put, List.mem_cons]
    constructor
    · rintro (h | h | h) <;> simp [h]
    · rintro ((h | h) | h) <;> simp [h]
theorem compact_sorted (d : Array Int) (hs : ∀ i j, i ≤ j → j < d.size → d[i]! ≤ d[j]!) : ∀ m, m ≤ d.size → (Lib.compactUpTo d m).Pairwise (· < ·) ∧ ∀ x, x ∈ Lib.compactUpTo d m ↔ ∃ j, j < m ∧ d[j]! = x := by
  intro m
  induction m with
  | zero => intro _; exact ⟨by simp [Lib.compactUpTo], fun x => by simp [Lib.compactUpTo]⟩
  | succ m ih =>
    intro hm
    obtain ⟨a, b⟩ := ih (by omega)
    rw [Lib.compactUpTo_succ]
    by_cases hk : Lib.keeps d m = true
    · rw [if_pos hk]
      have hk2 := of_decide_eq_true hk
      refine ⟨List.pairwise_append.2 ⟨a, by simp, fun x hx y hy => ?_⟩, fun x => ?_⟩
      · obtain rfl : y = d[m]! := by simpa using hy
        obtain ⟨j, hj, rfl⟩ := (b x).1 hx
        have h1 := hs j (m - 1) (by omega) (by omega)
        have h2 := hs (m - 1) m (by omega) (by omega)
        rcases hk2 with hk2 | hk2
        · omega
        · omega
      · rw [List.mem_append, b x]
        constructor
        · rintro (⟨j, h1, h2⟩ | h)
          · exact ⟨j, by omega, h2⟩
          · exact ⟨m, by omega, (List.mem_singleton.1 h).symm⟩
        · rintro ⟨j, h1, h2⟩
          by_cases hj : j = m
          · subst hj; exact .inr (by simp [h2])
          · exact .inl ⟨j, by omega, h2⟩
    · rw [if_neg hk, List.append_nil]
      have hk2 : ¬(m = 0 ∨ d[m]! ≠ d[m - 1]!) := fun h => hk (decide_eq_true h)
      have hm0 : m ≠ 0 := fun h => hk2 (.inl h)
      have he : d[m]! = d[m - 1]! := Classical.byContradiction fun h => hk2 (.inr h)
      refine ⟨a, fun x => ?_⟩
      rw [b x]
      constructor
      · rintro ⟨j, h1, h2⟩
        exact ⟨j, by omega, h2⟩
      · rintro ⟨j, h1, h2⟩
        by_cases hj : j = m
        · subst hj; exact ⟨j - 1, by omega, by rw [← he]; exact h2⟩
        · exact ⟨j, by omega, h2⟩
theorem compact_put (v : List Int) : Lib.compact (v.mergeSort fun x y => decide (x ≤ y)) = v.foldl put [] := by
  have hp : (v.mergeSort fun x y => decide (x ≤ y)).Pairwise (fun a b => decide (a ≤ b) = true) :=
    List.pairwise_mergeSort (le := fun x y => decide (x ≤ y)) (fun a b c h1 h2 => by simp only [decide_eq_true_eq] at *; omega) (fun a b => by simp only [Bool.or_eq_true, decide_eq_true_eq]; omega) v
  have hmem : ∀ x, x ∈ (v.mergeSort fun x y => decide (x ≤ y)) ↔ x ∈ v := fun x => List.mem_mergeSort
  generalize (v.mergeSort fun x y => decide (x ≤ y)) = s at *
  have hs : ∀ i j, i ≤ j → j < s.toArray.size → s.toArray[i]! ≤ s.toArray[j]! := by
    intro i j hij hj
    have hj' : j < s.length := by simpa using hj
    by_cases h : i = j
    · subst h; exact Int.le_refl _
    · have := List.pairwise_iff_getElem.1 hp i j (by omega) hj' (by omega)
      simpa [getElem!_pos, hj', show i < s.length by omega] using of_decide_eq_true this
  obtain ⟨a, b⟩ := compact_sorted s.toArray hs s.toArray.size (Nat.le_refl _)
  obtain ⟨c, d, _⟩ := foldl_put v [] (by simp)
  refine strict_ext _ _ (by simpa [Lib.compact] using a) c (fun x => ?_)
  rw [d x, ← hmem x]
  have hb := b x
  simp only [List.size_toArray] at hb
  rw [show Lib.compact s = Lib.compactUpTo s.toArray s.length from rfl, hb]
  simp only [List.not_mem_nil, or_false]
  constructor
  · rintro ⟨j, h1, h2⟩
    rw [← h2]
    simp [getElem!_pos, h1]
  · intro hx
    obtain ⟨j, h1, h2⟩ := List.getElem_of_mem hx
    exact ⟨j, h1, by simpa [getElem!_pos, h1] using h2⟩
theorem rd_atZ (l : List Int) (i : Nat) (h : i < l.length) : rd l i = l[i] := by
  simp [rd, List.getD_eq_getElem?_getD, List.getElem?_eq_getElem h]
theorem put_loop (l : List Int) (n : Int) (hl : l.length ≤ 1000000) (d : Nat) : ∀ (k i : Nat), i ≤ l.length → l.length - i = d → d < k → spec_l1Put.l0 k l n i = some (l.take i ++ put (l.drop i) n) := by
  induction d with
  | zero =>
    intro k i hi hd hk
    obtain ⟨k, rfl⟩ : ∃ m, k = m + 1 := ⟨k - 1, by omega⟩
    obtain rfl : i = l.length := by omega
    have c1 : ¬((l.length : Int) < (l.length : Int)) := by omega
    have c2 : (0 : Int) ≤ (l.length : Int) := by omega
    have c3 : (l.length : Int) ≤ (l.length : Int) := by omega
    simp only [spec_l1Put.l0, if_neg c1, if_pos c2, if_pos c3, Option.bind_some, Int.toNat_natCast, List.length_nil, List.nil_append, List.take_length, List.drop_length, List.length_append, List.length_cons]
    rw [if_pos (by omega), if_pos (by omega), if_pos (by omega)]
    simp [put]
  | succ d ih =>
    intro k i hi hd hk
    obtain ⟨k, rfl⟩ : ∃ m, k = m + 1 := ⟨k - 1, by omega⟩
    have hlt : i < l.length := by omega
    have c1 : (i : Int) < (l.length : Int) := by omega
    have c2 : (0 : Int) ≤ (i : Int) := by omega
    have c3 : (i : Int) ≤ (l.length : Int) := by omega
    have t1 : (l.take i).length = i := by rw [List.length_take]; omega
    have t2 : (l.drop i).length = l.length - i := List.length_drop ..
    simp only [spec_l1Put.l0, if_pos c1, if_pos c2, if_pos c3, Option.bind_some, Int.toNat_natCast, List.length_nil, List.nil_append, List.length_append, List.length_cons, t1, t2, w64 ((i : Int) + 1) (by omega) (by omega), rd_atZ l i hlt]
    rw [List.drop_eq_getElem_cons hlt]
    by_cases h1 : l[i] < n
    · rw [if_pos h1, show (i : Int) + 1 = ((i + 1 : Nat) : Int) by omega, ih k (i + 1) (by omega) (by omega) (by omega), put, if_pos h1, List.take_succ_eq_append_getElem hlt]
      simp only [List.append_assoc, List.cons_append, List.nil_append]
    · rw [if_neg h1]
      by_cases h2 : l[i] = n
      · rw [if_pos h2, put, if_neg h1, if_pos h2, ← List.drop_eq_getElem_cons hlt, List.take_append_drop]
      · rw [if_neg h2, if_pos (by omega), if_pos (by omega), if_pos (by omega), put, if_neg h1, if_neg h2]
        simp
theorem l1put (l : List Int) (n : Int) (hl : l.length ≤ 1000000) (k : Nat) (hk : l.length < k) : spec_l1Put.f k l n = some (put l n) := by
  have := put_loop l n hl l.length k 0 (by omega) (by omega) (by omega)
  simpa [spec_l1Put.f] using this

def uses (x : S45) : List Int := if x.f0 = 1 then [] else if x.f0 = 2 then [x.f2] else if x.f0 = 8 then [x.f2] else [x.f2, x.f3]
theorem uses_spec (x : S45) (hg : goodB x = true) : spec_l3Uses.f x.f0 x.f1 x.f2 x.f3 x.f4 = some (uses x) ∧ impl_Instr_looks.f x.f0 x.f1 x.f2 x.f3 x.f4 = some (uses x) ∧ (uses x).length ≤ 2 ∧ (∀ v ∈ uses x, 0 ≤ v ∧ v ≤ 7) ∧ (0 ≤ x.f1 ∧ x.f1 ≤ 7) := by
  obtain ⟨⟨d0, d1⟩, ⟨a0, a1⟩, ⟨b0, b1⟩, ⟨n0, n1⟩, ho⟩ := of_decide_eq_true hg
  simp only [spec_l3Uses.f, spec_l3Two.f, inS, impl_Instr_looks.f, Option.bind_some, decide_eq_true_eq, uses]
  by_cases h1 : x.f0 = 1
  · simp [h1, d0, d1]
  · by_cases h2 : x.f0 = 2
    · simp [h2, d0, d1, a0, a1]
    · by_cases h8 : x.f0 = 8
      · simp [h8, d0, d1, a0, a1]
      · have h3 : 3 ≤ x.f0 ∧ x.f0 ≤ 7 := by omega
        simp [h1, h2, h8, h3, d0, d1, a0, a1, b0, b1]
theorem has_loop (l : List Int) (n : Int) (hl : l.length ≤ 1000000) (d : Nat) : ∀ (k i : Nat), i ≤ l.length → l.length - i = d → d < k → spec_l1Has.l0 k n l (l.length : Int) i = some (decide (n ∈ l.drop i)) := by
  induction d with
  | zero =>
    intro k i hi hd hk
    obtain ⟨k, rfl⟩ : ∃ m, k = m + 1 := ⟨k - 1, by omega⟩
    simp only [spec_l1Has.l0]
    rw [if_neg (by omega), List.drop_of_length_le (by omega)]
    simp
  | succ d ih =>
    intro k i hi hd hk
    obtain ⟨k, rfl⟩ : ∃ m, k = m + 1 := ⟨k - 1, by omega⟩
    have hlt : i < l.length := by omega
    simp only [spec_l1Has.l0]
    rw [if_pos (by omega), if_pos (by omega), if_pos (by omega), w64 _ (by omega) (by omega), rd_atZ l i hlt, List.drop_eq_getElem_cons hlt]
    by_cases h : l[i] = n
    · rw [if_pos h]
      simp [h]
    · rw [if_neg h, show (i : Int) + 1 = ((i + 1 : Nat) : Int) by omega, ih k (i + 1) (by omega) (by omega) (by omega)]
      have h' : ¬(n = l[i]) := fun e => h e.symm
      simp only [List.mem_cons, h', false_or]
theorem l1has (l : List Int) (n : Int) (hl : l.length ≤ 1000000) (k : Nat) (hk : l.length < k) : spec_l1Has.f k l n = some (decide (n ∈ l)) := by
  have := has_loop l n hl l.length k 0 (by omega) (by omega) (by omega)
  simpa [spec_l1Has.f] using this
structure Rel (S O A : List Int) (B : List Bool) : Prop where
  len : B.length = 8
  out : O = A.foldl put []
  mem : ∀ v : Int, 0 ≤ v → v ≤ 7 → (v ∈ S ↔ rdOf false B v = true)
theorem out_len {S O A : List Int} {B : List Bool} (h : Rel S O A B) : O.length ≤ A.length := by
  have := (foldl_put A [] (by simp)).2.2
  rw [h.out]
  simpa using this
theorem inner (c : List S45) (us : List Int) (hu : us.length ≤ 2) (hv : ∀ v ∈ us, 0 ≤ v ∧ v ≤ 7) (n : Int) (i op d1 d2 d3 d4 : Int) (S : List Int) (hS : S.length ≤ 100) (B : List Bool) (e : Nat) : ∀ (k j : Nat) (O A : List Int), 200 < k → Rel S O A B → A.length + e ≤ 100 → j ≤ us.length → us.length - j = e →
    ∃ O' A', Rel S O' A' B ∧ A'.length ≤ A.length + e ∧
      spec_NamesNeeded.l1 (k + e + 1) S O c n i us (us.length : Int) j op d1 d2 d3 d4 = (if op = 8 then (spec_NamesNeeded.l0 k S O' c n (wrap64 (i + 1))) else ((spec_l1Put.f k S d1).bind fun t195 => (spec_NamesNeeded.l0 k t195 O' c n (wrap64 (i + 1))))) ∧
      impl_NamesNeeded.l1 (k + e + 1) A B c n i us (us.length : Int) j op d1 d2 d3 d4 = (if op = 8 then (impl_NamesNeeded.l0 k A' B c n (wrap64 (i + 1))) else (if 0 ≤ d1 then (if d1 < (B.length : Int) then (impl_NamesNeeded.l0 k A' (B.set (d1 : Int).toNat true) c n (wrap64 (i + 1))) else (none)) else (none))) := by
  induction e with
  | zero =>
    intro k j O A hk hR hA hj he
    refine ⟨O, A, hR, by omega, ?_, ?_⟩
    · simp only [spec_NamesNeeded.l1]
      rw [if_neg (show ¬((j : Int) < (us.length : Int)) by omega)]
    · simp only [impl_NamesNeeded.l1]
      rw [if_neg (show ¬((j : Int) < (us.length : Int)) by omega)]
  | succ e ih =>
    intro k j O A hk hR hA hj he
    have hlt : j < us.length := by omega
    have hvj := hv us[j] (List.getElem_mem hlt)
    have c1 : (j : Int) < (us.length : Int) := by omega
    have c2 : (0 : Int) ≤ j := by omega
    have c3 : A.length < 17592186044416 := by omega
    have c4 : us[j] < (B.length : Int) := by rw [hR.len]; omega
    have hO := out_len hR
    obtain ⟨K, hK⟩ : ∃ K, K = k + e + 1 := ⟨_, rfl⟩
    rw [show k + (e + 1) + 1 = K + 1 by omega]
    simp only [spec_NamesNeeded.l1, impl_NamesNeeded.l1, if_pos c1, if_pos c2, if_pos c3, w64 ((j : Int) + 1) (by omega) (by omega), rd_atZ us j hlt, l1has S us[j] (by omega) K (by omega), Option.bind_some, if_pos hvj.1, if_pos c4, decide_eq_true_eq]
    rw [show (j : Int) + 1 = ((j + 1 : Nat) : Int) by omega]
    have hm := hR.mem us[j] hvj.1 hvj.2
    by_cases hin : us[j] ∈ S
    · rw [if_pos hin, if_pos (hm.1 hin)]
      obtain ⟨O', A', h1, h2, h3, h4⟩ := ih k (j + 1) O A hk hR (by omega) (by omega) (by omega)
      rw [← hK] at h3 h4
      exact ⟨O', A', h1, by omega, h3, h4⟩
    · rw [if_neg hin, if_neg (fun h => hin (hm.2 h)), l1put O us[j] (by omega) K (by omega)]
      simp only [Option.bind_some]
      have hR2 : Rel S (put O us[j]) (A ++ [us[j]]) B := ⟨hR.len, by rw [List.foldl_append, ← hR.out]; rfl, hR.mem⟩
      obtain ⟨O', A', h1, h2, h3, h4⟩ := ih k (j + 1) _ _ hk hR2 (by simp; omega) (by omega) (by omega)
      rw [← hK] at h3 h4
      exact ⟨O', A', h1, by simp at h2; omega, h3, h4⟩
theorem outer (c : List S45) (hc : c.length ≤ 30) (hg : c.all goodB = true) (d : Nat) : ∀ (k i : Nat) (S O A : List Int) (B : List Bool), Rel S O A B → S.length ≤ i → A.length ≤ 2 * i → i ≤ c.length → c.length - i = d → 4 * d + 210 < k →
    ∃ r, spec_NamesNeeded.l0 k S O c (c.length : Int) i = some (r, true) ∧ impl_NamesNeeded.l0 k A B c (c.length : Int) i = some (r, true) ∧ r.length ≤ 60 := by
  induction d with
  | zero =>
    intro k i S O A B hR hS hA hi hd hk
    obtain ⟨k, rfl⟩ : ∃ m, k = m + 1 := ⟨k - 1, by omega⟩
    have c1 : ¬((i : Int) < (c.length : Int)) := by omega
    have h1 : A.length < 4611686018427387904 := by omega
    have h2 : (A.mergeSort fun x y => decide (x ≤ y)).length < 4611686018427387904 := by rw [List.length_mergeSort]; exact h1
    have hO := out_len hR
    refine ⟨O, by simp only [spec_NamesNeeded.l0, if_neg c1], ?_, by omega⟩
    simp only [impl_NamesNeeded.l0, if_neg c1, slices_Sort_int_int.f, slices_Compact_int_int.f, Srt.srt, Srt.cmp, if_pos h1, Option.bind_some, if_pos h2, compact_put]
    rw [hR.out]
  | succ d ih =>
    intro k i S O A B hR hS hA hi hd hk
    have hlt : i < c.length := by omega
    obtain ⟨u1, u2, u3, u4, u5⟩ := uses_spec c[i] (List.all_eq_true.1 hg _ (List.getElem_mem hlt))
    obtain ⟨k, rfl⟩ : ∃ m, k = (m + (uses c[i]).length + 1) + 1 := ⟨k - (uses c[i]).length - 2, by omega⟩
    have c1 : (i : Int) < (c.length : Int) := by omega
    have c2 : (0 : Int) ≤ i := by omega
    obtain ⟨O', A', hR', hA', e1, e2⟩ := inner c (uses c[i]) u3 u4 (c.length : Int) (i : Int) c[i].f0 c[i].f1 c[i].f2 c[i].f3 c[i].f4 S (by omega) B (uses c[i]).length k 0 O A (by omega) hR (by omega) (by omega) (by omega)
    simp only [spec_NamesNeeded.l0, impl_NamesNeeded.l0, if_pos c1, if_pos c2, rd_at45 c i hlt, u1, u2, Option.bind_some]
    rw [show (0 : Int) = ((0 : Nat) : Int) from rfl] at *
    rw [e1, e2, w64 ((i : Int) + 1) (by omega) (by omega), show (i : Int) + 1 = ((i + 1 : Nat) : Int) by omega]
    by_cases h8 : c[i].f0 = 8
    · rw [if_pos h8, if_pos h8]
      exact ih k (i + 1) S O' A' B hR' (by omega) (by omega) (by omega) (by omega) (by omega)
    · rw [if_neg h8, if_neg h8, l1put S c[i].f1 (by omega) k (by omega)]
      simp only [Option.bind_some]
      rw [if_pos u5.1, if_pos (show c[i].f1 < (B.length : Int) by rw [hR.len]; omega)]
      refine ih k (i + 1) (put S c[i].f1) O' A' _ ⟨by rw [List.length_set]; exact hR.len, hR'.out, fun v v0 v1 => ?_⟩ (by have := put_len S c[i].f1; omega) (by omega) (by omega) (by omega) (by omega)
      rw [mem_put]
      have hm := hR.mem v v0 v1
      have hb := hR.len
      have hvl : v.toNat < B.length := by omega
      by_cases hv : v = c[i].f1
      · subst hv
        simp [rdOf, hvl]
      · have hne : ¬(c[i].f1.toNat = v.toNat) := by omega
        simp only [rdOf, List.getD_eq_getElem?_getD, List.getElem?_set_ne hne] at hm ⊢
        simp [hv, hm]
theorem both0 (c : List S45) (hc : c.length ≤ 1048576) (k : Nat) (hk : 1048700 < k) : ∃ r b, spec_NamesNeeded.f k c = some (r, b) ∧ impl_NamesNeeded.f k c = some (r, b) ∧ r.length ≤ 60 := by
  simp only [spec_NamesNeeded.f, impl_NamesNeeded.f, spec_good c (by omega) k (by omega), isCode_eq c k (by omega), Option.bind_some]
  cases hcb : codeB c with
  | false => exact ⟨[], false, by simp, by simp, by simp⟩
  | true =>
    simp only [codeB, Bool.and_eq_true, decide_eq_true_eq] at hcb
    obtain ⟨r, e1, e2, e3⟩ := outer c hcb.2 hcb.1 c.length k 0 [] [] [] (List.replicate 8 false) ⟨by simp, rfl, fun v _ _ => by
      have e : rdOf false (List.replicate 8 false) v = false := by
        unfold rdOf
        rw [List.getD_eq_getElem?_getD, List.getElem?_replicate]
        split <;> rfl
      rw [e]
      simp⟩ (by simp) (by simp) (by omega) (by omega) (by omega)
    simp only [if_true]
    exact ⟨r, true, e1, by simpa using e2, e3⟩
theorem fix (c : List S45) (hc : c.length ≤ 1048576) : ∃ r b, r.length ≤ 60 ∧ ∀ k, 1048700 < k → spec_NamesNeeded.f k c = some (r, b) ∧ impl_NamesNeeded.f k c = some (r, b) := by
  obtain ⟨r, b, e1, e2, e3⟩ := both0 c hc 1048701 (by omega)
  refine ⟨r, b, e3, fun k hk => ?_⟩
  have up : ∀ m, spec_NamesNeeded.f (1048701 + m) c = some (r, b) := by
    intro m
    induction m with
    | zero => exact e1
    | succ m ih => exact spec_NamesNeeded.mono c (1048701 + m) _ ih
  have e := up (k - 1048701)
  rw [show 1048701 + (k - 1048701) = k by omega] at e
  obtain ⟨r', b', f1, f2, _⟩ := both0 c hc k hk
  rw [e] at f1
  obtain ⟨rfl, rfl⟩ : r = r' ∧ b = b' := by simpa using f1
  exact ⟨e, f2⟩
theorem FnExactNamesNeeded (l : List S48) (hl : l.length ≤ 9223372036854775807) (_ : ∀ x, x ∈ l → (Lit.int .i64 x.f0).wf = true ∧ (Lit.int .i64 x.f1).wf = true ∧ (Lit.int .i64 x.f2).wf = true ∧ (Lit.int .i64 x.f3).wf = true ∧ (Lit.int .i64 x.f4).wf = true) : ∃ k, laws_FnExactNamesNeeded.f k l = some true := by
  suffices H : ∀ k, 1048800 < k → laws_FnExactNamesNeeded.f k l = some true from ⟨1048801, H _ (by omega)⟩
  intro k hk
  obtain ⟨s, hs, hs1, hs2⟩ := szInstrS2 l hl
  unfold laws_FnExactNamesNeeded.f
  rw [hs]
  simp only [Option.bind_some]
  by_cases h0 : s < 0
  · rw [if_pos h0]
  rw [if_neg h0]
  have hl' : l.length ≤ 1048576 := by omega
  obtain ⟨k, rfl⟩ : ∃ m, k = m + 1 + 1 + 1 := ⟨k - 3, by omega⟩
  have hc : (l.map toI).length ≤ 1048576 := by simpa using hl'
  have tI := fun k hk => toInstrS l hl' k hk
  generalize l.map toI = c at *
  obtain ⟨r, b, al, hb⟩ := fix c hc
  have b1 := fun k hk => (hb k hk).1
  have b2 := fun k hk => (hb k hk).2
  have eC := fun k hk => eqInstrS c (by omega) k hk
  have eR := fun k hk => eqIntS r (by omega) k hk
  obtain ⟨c', mI⟩ := markInstrS c hc 1 (by omega) (by omega) (k + 1 + 1) (by omega)
  have mR := markIntS r (by omega) 1 (by omega) (by omega) (k + 1) (by omega)
  have hR := fun k hk => heldIntS r.length (by omega) 1 (by omega) (by omega) k hk
  have n1 : ¬(1 + 5 * (c.length : Int) < 0) := by omega
  have n2 : ¬(1 + (r.length : Int) < 0) := by omega
  simp only [tI _ (show l.length < k + 1 + 1 + 1 by omega), b1 _ (show 1048700 < k + 1 + 1 + 1 by omega), b2 _ (show 1048700 < k + 1 + 1 + 1 by omega), eR _ (show r.length < k + 1 + 1 + 1 by omega), Option.bind_some, bne_self_eq_false, if_true]
  simp only [laws_FnExactNamesNeeded.j0, Bool.false_eq_true, if_false, tI _ (show l.length < k + 1 + 1 by omega), eC _ (show c.length < k + 1 + 1 by omega), eR _ (show r.length < k + 1 + 1 by omega), mI, if_neg n1, Option.bind_some, bne_self_eq_false, if_true]
  simp only [laws_FnExactNamesNeeded.j1, Bool.false_eq_true, if_false, mR, hR _ (show r.length < k + 1 by omega), if_neg n2, tI _ (show l.length < k + 1 by omega), b2 _ (show 1048700 < k + 1 by omega), eR _ (show r.length < k + 1 by omega), Option.bind_some, bne_self_eq_false, if_true]
  simp only [laws_FnExactNamesNeeded.j2, Bool.false_eq_true, if_false, hR _ (show r.length < k by omega), if_neg n2, Option.bind_some, if_true]

end Go.Proofs.Ytoggmpihojkbfaa.Pure

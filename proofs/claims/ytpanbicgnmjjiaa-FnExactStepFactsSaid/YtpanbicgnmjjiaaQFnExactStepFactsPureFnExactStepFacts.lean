/- The pure statement of FnExactStepFacts: the program returns what the reference returns, for all arguments. -/
import Derived.Test.YtpanbicgnmjjiaaQFnExactStepFactsXFnExactStepFactsx11
import Derived.Test.YtpanbicgnmjjiaaQFnExactStepFactsBits
namespace Go.Proofs.Ytpanbicgnmjjiaa.Pure
open Go.RowKit Go.Proofs.Ytpanbicgnmjjiaa.XFnExactStepFacts Go.Proofs.YtpanbicgnmjjiaaW.PrintWords Go.Proofs.YtpanbicgnmjjiaaW.PrintLast Go.Proofs.YtpanbicgnmjjiaaW.PrintMore Go.Proofs.YtpanbicgnmjjiaaBits

theorem rd_at65 (l : List S65) (i : Nat) (h : i < l.length) : rd_T65 l i = l[i] := by
  simp [rd_T65, List.getD_eq_getElem?_getD, List.getElem?_eq_getElem h]

def toI (x : S67) : S65 := ⟨x.f0, x.f1, x.f2, x.f3, x.f4⟩
theorem rd_at67 (l : List S67) (i : Nat) (h : i < l.length) : rd_T67 l i = l[i] := by
  simp [rd_T67, List.getD_eq_getElem?_getD, List.getElem?_eq_getElem h]
theorem toInstrS_loop (l : List S67) (hl : l.length ≤ 1048576) (d : Nat) : ∀ (k i : Nat) (m : List S65), m.length = l.length → i ≤ l.length → l.length - i = d → d < k → m.take i = (l.map toI).take i → laws_toInstrS.l0 k l m i = some (l.map toI) := by
  induction d with
  | zero =>
    intro k i m hm hi hd hk ht
    obtain ⟨k, rfl⟩ : ∃ m, k = m + 1 := ⟨k - 1, by omega⟩
    simp only [laws_toInstrS.l0]
    rw [if_neg (by omega)]
    rw [List.take_of_length_le (by omega), List.take_of_length_le (by simp; omega)] at ht
    rw [ht]
  | succ d ih =>
    intro k i m hm hi hd hk ht
    obtain ⟨k, rfl⟩ : ∃ m, k = m + 1 := ⟨k - 1, by omega⟩
    have hlt : i < l.length := by omega
    simp only [laws_toInstrS.l0, laws_toInstr.f, Option.bind_some]
    rw [if_pos (by omega), if_pos (by omega), if_pos (by omega), w64 _ (by omega) (by omega), rd_at67 l i hlt]
    refine ih k (i + 1) (m.set ((i : Int)).toNat (toI l[i])) (by simpa using hm) (by omega) (by omega) (by omega) ?_
    rw [Int.toNat_natCast, List.take_succ_eq_append_getElem (by rw [List.length_set]; omega), List.take_succ_eq_append_getElem (by simpa using hlt), List.take_set_of_le (Nat.le_refl _), ht]
    simp
theorem toInstrS (l : List S67) (hl : l.length ≤ 1048576) (k : Nat) (hk : l.length < k) : laws_toInstrS.f k l = some (l.map toI) := by
  unfold laws_toInstrS.f
  rw [if_pos (by omega), if_pos (by omega)]
  exact toInstrS_loop l hl l.length k 0 _ (by simp) (by omega) (by omega) (by omega) (by simp)
theorem szInstrS (l : List S67) (hl : l.length ≤ 9223372036854775807) : ∃ s, laws_szInstrS.f l 1048576 = some s ∧ (s < 0 ∨ l.length ≤ 1048576) := by
  unfold laws_szInstrS.f
  rw [w64 _ (by omega) (by omega)]
  split
  · exact ⟨-1, rfl, .inl (by decide)⟩
  · exact ⟨_, rfl, .inr (by omega)⟩

theorem szInstrS2 (l : List S67) (hl : l.length ≤ 9223372036854775807) : ∃ s, laws_szInstrS.f l 1048576 = some s ∧ s ≤ 1048576 ∧ (s < 0 ∨ l.length ≤ 1048576) := by
  unfold laws_szInstrS.f
  rw [w64 _ (by omega) (by omega)]
  split
  · exact ⟨-1, rfl, by decide, .inl (by decide)⟩
  · exact ⟨_, rfl, by omega, .inr (by omega)⟩

theorem eqInstrS_loop (l : List S65) (hl : l.length ≤ 4611686018427387904) (d : Nat) : ∀ (k i : Nat), i ≤ l.length → l.length - i = d → d < k → laws_eqInstrS.l0 k l l i = some true := by
  induction d with
  | zero =>
    intro k i hi hd hk
    obtain ⟨k, rfl⟩ : ∃ m, k = m + 1 := ⟨k - 1, by omega⟩
    simp only [laws_eqInstrS.l0]
    rw [if_neg (by omega)]
  | succ d ih =>
    intro k i hi hd hk
    obtain ⟨k, rfl⟩ : ∃ m, k = m + 1 := ⟨k - 1, by omega⟩
    simp only [laws_eqInstrS.l0, laws_eqInstr.f, if_true, Option.bind_some]
    rw [if_pos (by omega), if_pos (by omega), if_pos (by omega), w64 _ (by omega) (by omega)]
    exact ih k (i + 1) (by omega) (by omega) (by omega)
theorem eqInstrS (l : List S65) (hl : l.length ≤ 4611686018427387904) (k : Nat) (hk : l.length < k) : laws_eqInstrS.f k l l = some true := by
  unfold laws_eqInstrS.f
  rw [if_pos rfl]
  exact eqInstrS_loop l hl l.length k 0 (by omega) (by omega) (by omega)

def goodB (x : S65) : Bool := decide ((0 ≤ x.f1 ∧ x.f1 ≤ 7) ∧ (0 ≤ x.f2 ∧ x.f2 ≤ 7) ∧ (0 ≤ x.f3 ∧ x.f3 ≤ 7) ∧ (0 ≤ x.f4 ∧ x.f4 ≤ 65535) ∧ (x.f0 = 1 ∧ x.f2 = 0 ∧ x.f3 = 0 ∨ x.f0 = 2 ∧ x.f3 = 0 ∧ x.f4 = 0 ∨ (3 ≤ x.f0 ∧ x.f0 ≤ 7) ∧ x.f4 = 0 ∨ x.f0 = 8 ∧ x.f1 = 0 ∧ x.f3 = 0 ∧ x.f4 = 0))
theorem inS (a l h : Int) : spec_l1In.f a l h = some (decide (l ≤ a ∧ a ≤ h)) := by
  simp only [spec_l1In.f]
  by_cases h1 : a ≥ l <;> simp [*]
theorem inI (a l h : Int) : impl_in.f a l h = some (decide (l ≤ a ∧ a ≤ h)) := by
  simp only [impl_in.f]
  by_cases h1 : a ≥ l <;> simp [*]
theorem good_spec (x : S65) : spec_l3Good.f x.f0 x.f1 x.f2 x.f3 x.f4 = some (goodB x) := by
  simp only [spec_l3Good.f, spec_l3Name.f, spec_l3Two.f, spec_l1Word.f, inS, Option.bind_some, goodB]
  repeat' split
  all_goals first | rfl | (congr 1; simp_all; done) | (congr 1; simp_all; omega) | (congr 1; rw [Bool.eq_iff_iff]; simp_all; done) | (congr 1; rw [Bool.eq_iff_iff]; simp_all; omega)
theorem good_j0t (k : Nat) (a b c d e : Int) : impl_isInstr.j0 (k + 1) true a b c d e = some false := by simp [impl_isInstr.j0]
theorem good_j0f (k : Nat) (a b c d e : Int) : impl_isInstr.j0 (k + 1 + 1) false a b c d e = some (decide (a = 1 ∧ c = 0 ∧ d = 0 ∨ a = 2 ∧ d = 0 ∧ e = 0 ∨ (3 ≤ a ∧ a ≤ 7) ∧ e = 0 ∨ a = 8 ∧ b = 0 ∧ d = 0 ∧ e = 0)) := by
  simp only [impl_isInstr.j0, impl_isInstr.j1, Bool.false_eq_true, if_false]
  repeat' split
  all_goals first | rfl | (congr 1; simp_all; done) | (congr 1; simp_all; omega) | (congr 1; rw [Bool.eq_iff_iff]; simp_all; done) | (congr 1; rw [Bool.eq_iff_iff]; simp_all; omega)
theorem good_impl (x : S65) (k : Nat) (hk : 2 ≤ k) : impl_isInstr.f k x.f0 x.f1 x.f2 x.f3 x.f4 = some (goodB x) := by
  obtain ⟨k, rfl⟩ : ∃ m, k = m + 1 + 1 := ⟨k - 2, by omega⟩
  simp only [impl_isInstr.f, impl_isName.f, impl_isWord.f, inI, Option.bind_some, goodB]
  by_cases h1 : 0 ≤ x.f1 ∧ x.f1 ≤ 7
  · by_cases h2 : 0 ≤ x.f2 ∧ x.f2 ≤ 7
    · by_cases h3 : 0 ≤ x.f3 ∧ x.f3 ≤ 7
      · by_cases h4 : 0 ≤ x.f4 ∧ x.f4 ≤ 65535
        · simp only [eq_true h1, eq_true h2, eq_true h3, eq_true h4, decide_true, if_true, Bool.not_true, good_j0f, true_and]
        · simp only [eq_true h1, eq_true h2, eq_true h3, eq_false h4, decide_true, if_true, decide_false, Bool.not_false, good_j0t, false_and, and_false]
      · simp only [eq_true h1, eq_true h2, eq_false h3, decide_true, if_true, decide_false, Bool.false_eq_true, if_false, good_j0t, false_and, and_false]
    · simp only [eq_true h1, eq_false h2, decide_true, if_true, decide_false, Bool.false_eq_true, if_false, good_j0t, false_and, and_false]
  · simp only [eq_false h1, decide_false, Bool.false_eq_true, if_false, good_j0t, false_and]

theorem goodCode_loop (l : List S65) (hl : l.length ≤ 4611686018427387904) (d : Nat) : ∀ (k i : Nat), i ≤ l.length → l.length - i = d → d < k →
    spec_GoodCode.l0 k l l (l.length : Int) i = some ((l.drop i).all goodB && decide (l.length ≤ 30)) := by
  induction d with
  | zero =>
    intro k i hi hd hk
    obtain ⟨k, rfl⟩ : ∃ m, k = m + 1 := ⟨k - 1, by omega⟩
    simp only [spec_GoodCode.l0]
    rw [if_neg (by omega), List.drop_of_length_le (by omega)]
    simp
    omega
  | succ d ih =>
    intro k i hi hd hk
    obtain ⟨k, rfl⟩ : ∃ m, k = m + 1 := ⟨k - 1, by omega⟩
    have hlt : i < l.length := by omega
    simp only [spec_GoodCode.l0, good_spec, Option.bind_some]
    rw [if_pos (by omega), if_pos (by omega), if_pos (by omega), w64 _ (by omega) (by omega), rd_at65 l i hlt, List.drop_eq_getElem_cons hlt, List.all_cons]
    cases goodB l[i] with
    | true => simpa using ih k (i + 1) (by omega) (by omega) (by omega)
    | false => simp
def codeB (l : List S65) : Bool := l.all goodB && decide (l.length ≤ 30)
theorem spec_good (l : List S65) (hl : l.length ≤ 4611686018427387904) (k : Nat) (hk : l.length < k) : spec_GoodCode.f k l = some (codeB l) := by
  have := goodCode_loop l hl l.length k 0 (by omega) (by omega) (by omega)
  simpa [spec_GoodCode.f, codeB] using this
theorem index_loop (l : List S65) (hl : l.length ≤ 4611686018427387904) (d : Nat) : ∀ (k i : Nat), i ≤ l.length → l.length - i = d → d + 3 < k →
    ∃ r, slices_IndexFunc_at73.l0 k l (l.length : Int) i = some r ∧ decide (r ≥ 0) = !(l.drop i).all goodB := by
  induction d with
  | zero =>
    intro k i hi hd hk
    obtain ⟨k, rfl⟩ : ∃ m, k = m + 1 := ⟨k - 1, by omega⟩
    simp only [slices_IndexFunc_at73.l0]
    rw [if_neg (by omega), List.drop_of_length_le (by omega)]
    exact ⟨-1, rfl, by simp⟩
  | succ d ih =>
    intro k i hi hd hk
    obtain ⟨k, rfl⟩ : ∃ m, k = m + 1 := ⟨k - 1, by omega⟩
    have hlt : i < l.length := by omega
    simp only [slices_IndexFunc_at73.l0, impl_isCode_1.f, good_impl _ k (by omega), Option.bind_some]
    rw [if_pos (by omega), if_pos (by omega), if_pos (by omega), w64 _ (by omega) (by omega), rd_at65 l i hlt, List.drop_eq_getElem_cons hlt, List.all_cons]
    cases goodB l[i] with
    | true =>
      obtain ⟨r, h1, h2⟩ := ih k (i + 1) (by omega) (by omega) (by omega)
      exact ⟨r, by simpa using h1, by simpa using h2⟩
    | false => exact ⟨i, by simp, by simp⟩
theorem isCode_eq (l : List S65) (k : Nat) (hk : 40 < k) : impl_isCode.f k l = some (codeB l) := by
  unfold impl_isCode.f codeB
  by_cases h : (l.length : Int) ≤ 30
  · rw [if_pos h]
    obtain ⟨r, h1, h2⟩ := index_loop l (by omega) l.length k 0 (by omega) (by omega) (by omega)
    simp only [slices_ContainsFunc_at73.f, slices_IndexFunc_at73.f]
    rw [show (0 : Int) = ((0 : Nat) : Int) from rfl, h1]
    simp only [Option.bind_some]
    rw [show ((0 : Nat) : Int) = 0 from rfl, h2, show decide (l.length ≤ 30) = true from decide_eq_true (by omega)]
    simp
  · rw [if_neg h, show decide (l.length ≤ 30) = false from decide_eq_false (by omega)]
    simp

theorem szFactS (l : List S77) (t : Int) (h0 : 0 ≤ t) (h1 : t ≤ 1048576) (hl : l.length ≤ 9223372036854775807) : ∃ s, laws_szFactS.f l t = some s ∧ s ≤ 1048576 ∧ (s < 0 ∨ l.length ≤ 1048576) := by
  unfold laws_szFactS.f
  rw [w64 _ (by omega) (by omega)]
  split
  · exact ⟨-1, rfl, by decide, .inl (by decide)⟩
  · exact ⟨_, rfl, by omega, .inr (by omega)⟩

theorem rd_setI (l : List S65) (v : S65) (i : Nat) (h : i < l.length) : rd_T65 (l.set i v) (i : Int) = v := by
  simp [rd_T65, h]
theorem markInstrS_loop (d : Nat) : ∀ (k : Nat) (l : List S65) (i : Nat) (s : Int), l.length ≤ 1048576 → i ≤ l.length → l.length - i = d → d < k → 0 ≤ s → s ≤ 1000000000000 + 5 * (i : Int) →
    ∃ l', laws_markInstrS.l0 k l s i = some (s + 5 * (d : Int), l') ∧ l'.length = l.length := by
  induction d with
  | zero =>
    intro k l i s hl hi hd hk h0 h1
    obtain ⟨k, rfl⟩ : ∃ m, k = m + 1 := ⟨k - 1, by omega⟩
    simp only [laws_markInstrS.l0]
    rw [if_neg (by omega)]
    exact ⟨l, by simp, rfl⟩
  | succ d ih =>
    intro k l i s hl hi hd hk h0 h1
    obtain ⟨k, rfl⟩ : ∃ m, k = m + 1 := ⟨k - 1, by omega⟩
    have hlt : i < l.length := by omega
    have c1 : (i : Int) < (l.length : Int) := by omega
    have c2 : (0 : Int) ≤ i := by omega
    simp only [laws_markInstrS.l0, if_pos c1, if_pos c2, Option.bind_some, Int.toNat_natCast, List.set_set, rd_setI l _ i hlt, w64 ((i : Int) + 1) (by omega) (by omega), w64 (s + 1) (by omega) (by omega), w64 (s + 1 + 1) (by omega) (by omega), w64 (s + 1 + 1 + 1) (by omega) (by omega), w64 (s + 1 + 1 + 1 + 1) (by omega) (by omega), w64 (s + 1 + 1 + 1 + 1 + 1) (by omega) (by omega)]
    generalize hv : l.set i _ = l2
    have e2 : l2.length = l.length := by rw [← hv]; simp
    obtain ⟨l', g1, g2⟩ := ih k l2 (i + 1) (s + 1 + 1 + 1 + 1 + 1) (by omega) (by omega) (by omega) (by omega) (by omega) (by omega)
    refine ⟨l', ?_, by omega⟩
    rw [show (i : Int) + 1 = ((i + 1 : Nat) : Int) by omega, g1]
    congr 2
    omega
theorem markInstrS (l : List S65) (hl : l.length ≤ 1048576) (s : Int) (h0 : 0 ≤ s) (h1 : s ≤ 1000000000000) (k : Nat) (hk : l.length < k) : ∃ l', laws_markInstrS.f k l s = some (s + 5 * (l.length : Int), l') := by
  obtain ⟨l', g1, _⟩ := markInstrS_loop l.length k l 0 s hl (by omega) (by omega) (by omega) h0 (by omega)
  exact ⟨l', g1⟩

def toF (x : S77) : S75 := ⟨x.f0, x.f1, x.f2⟩
theorem rd_at77 (l : List S77) (i : Nat) (h : i < l.length) : rd_T77 l i = l[i] := by
  simp [rd_T77, List.getD_eq_getElem?_getD, List.getElem?_eq_getElem h]
theorem rd_at75 (l : List S75) (i : Nat) (h : i < l.length) : rd_T75 l i = l[i] := by
  simp [rd_T75, List.getD_eq_getElem?_getD, List.getElem?_eq_getElem h]
theorem rd_setF (l : List S75) (v : S75) (i : Nat) (h : i < l.length) : rd_T75 (l.set i v) (i : Int) = v := by
  simp [rd_T75, h]
theorem toFactS_loop (l : List S77) (hl : l.length ≤ 1048576) (d : Nat) : ∀ (k i : Nat) (m : List S75), m.length = l.length → i ≤ l.length → l.length - i = d → d < k → m.take i = (l.map toF).take i → laws_toFactS.l0 k l m i = some (l.map toF) := by
  induction d with
  | zero =>
    intro k i m hm hi hd hk ht
    obtain ⟨k, rfl⟩ : ∃ m, k = m + 1 := ⟨k - 1, by omega⟩
    simp only [laws_toFactS.l0]
    rw [if_neg (by omega)]
    rw [List.take_of_length_le (by omega), List.take_of_length_le (by simp; omega)] at ht
    rw [ht]
  | succ d ih =>
    intro k i m hm hi hd hk ht
    obtain ⟨k, rfl⟩ : ∃ m, k = m + 1 := ⟨k - 1, by omega⟩
    have hlt : i < l.length := by omega
    simp only [laws_toFactS.l0, laws_toFact.f, Option.bind_some]
    rw [if_pos (by omega), if_pos (by omega), if_pos (by omega), w64 _ (by omega) (by omega), rd_at77 l i hlt]
    refine ih k (i + 1) (m.set ((i : Int)).toNat (toF l[i])) (by simpa using hm) (by omega) (by omega) (by omega) ?_
    rw [Int.toNat_natCast, List.take_succ_eq_append_getElem (by rw [List.length_set]; omega), List.take_succ_eq_append_getElem (by simpa using hlt), List.take_set_of_le (Nat.le_refl _), ht]
    simp
theorem toFactS (l : List S77) (hl : l.length ≤ 1048576) (k : Nat) (hk : l.length < k) : laws_toFactS.f k l = some (l.map toF) := by
  unfold laws_toFactS.f
  rw [if_pos (by omega), if_pos (by omega)]
  exact toFactS_loop l hl l.length k 0 _ (by simp) (by omega) (by omega) (by omega) (by simp)
theorem eqFactS_loop (l : List S75) (hl : l.length ≤ 4611686018427387904) (d : Nat) : ∀ (k i : Nat), i ≤ l.length → l.length - i = d → d < k → laws_eqFactS.l0 k l l i = some true := by
  induction d with
  | zero =>
    intro k i hi hd hk
    obtain ⟨k, rfl⟩ : ∃ m, k = m + 1 := ⟨k - 1, by omega⟩
    simp only [laws_eqFactS.l0]
    rw [if_neg (by omega)]
  | succ d ih =>
    intro k i hi hd hk
    obtain ⟨k, rfl⟩ : ∃ m, k = m + 1 := ⟨k - 1, by omega⟩
    simp only [laws_eqFactS.l0, laws_eqFact.f, bne_self_eq_false, Bool.false_eq_true, if_false, if_true, Option.bind_some]
    rw [if_pos (by omega), if_pos (by omega), if_pos (by omega), w64 _ (by omega) (by omega)]
    exact ih k (i + 1) (by omega) (by omega) (by omega)
theorem eqFactS (l : List S75) (hl : l.length ≤ 4611686018427387904) (k : Nat) (hk : l.length < k) : laws_eqFactS.f k l l = some true := by
  unfold laws_eqFactS.f
  rw [if_pos rfl]
  exact eqFactS_loop l hl l.length k 0 (by omega) (by omega) (by omega)

def mkF (s : Int) : S75 := ⟨(Int.tmod s 3) == 0, (Int.tmod (s + 1) 3) == 0, s + 2⟩
theorem markFactS_loop (d : Nat) : ∀ (k : Nat) (l : List S75) (i : Nat) (s : Int), l.length ≤ 1048576 → i ≤ l.length → l.length - i = d → d < k → 0 ≤ s → s ≤ 1000000000000 + 3 * (i : Int) →
    ∃ l', laws_markFactS.l0 k l s i = some (s + 3 * (d : Int), l') ∧ l'.length = l.length ∧ (∀ j : Nat, j < i → rd_T75 l' j = rd_T75 l j) ∧ (∀ j : Nat, i ≤ j → j < l.length → rd_T75 l' j = mkF (s + 3 * ((j : Int) - i))) := by
  induction d with
  | zero =>
    intro k l i s hl hi hd hk h0 h1
    obtain ⟨k, rfl⟩ : ∃ m, k = m + 1 := ⟨k - 1, by omega⟩
    simp only [laws_markFactS.l0]
    rw [if_neg (by omega)]
    exact ⟨l, by simp, rfl, fun _ _ => rfl, fun j h1 h2 => by omega⟩
  | succ d ih =>
    intro k l i s hl hi hd hk h0 h1
    obtain ⟨k, rfl⟩ : ∃ m, k = m + 1 := ⟨k - 1, by omega⟩
    have hlt : i < l.length := by omega
    have c1 : (i : Int) < (l.length : Int) := by omega
    have c2 : (0 : Int) ≤ i := by omega
    simp only [laws_markFactS.l0, if_pos c1, if_pos c2, Option.bind_some, Int.toNat_natCast, List.set_set, rd_setF l _ i hlt, w64 ((i : Int) + 1) (by omega) (by omega), w64 (s + 1) (by omega) (by omega), w64 (s + 1 + 1) (by omega) (by omega), w64 (s + 1 + 1 + 1) (by omega) (by omega)]
    obtain ⟨l', g1, g2, g3, g4⟩ := ih k (l.set i (⟨(Int.tmod s 3) == 0, (Int.tmod (s + 1) 3) == 0, s + 1 + 1⟩ : S75)) (i + 1) (s + 1 + 1 + 1) (by simpa using hl) (by simp; omega) (by simp; omega) (by omega) (by omega) (by omega)
    refine ⟨l', ?_, by rw [g2, List.length_set], fun j hj => ?_, fun j hj hj2 => ?_⟩
    · rw [show (i : Int) + 1 = ((i + 1 : Nat) : Int) by omega, g1]
      congr 2
      omega
    · rw [g3 j (by omega)]
      simp only [rd_T75, Int.toNat_natCast, List.getD_eq_getElem?_getD]
      rw [List.getElem?_set_ne (by omega)]
    · by_cases he : j = i
      · subst he
        rw [g3 j (by omega), rd_setF l _ j hlt]
        simp only [mkF]
        rw [show s + 3 * ((j : Int) - j) = s by omega, show s + 1 + 1 = s + 2 by omega]
      · rw [g4 j (by omega) (by rw [List.length_set]; omega)]
        congr 1
        omega
theorem markFactS (l : List S75) (hl : l.length ≤ 1048576) (s : Int) (h0 : 0 ≤ s) (h1 : s ≤ 1000000000000) (k : Nat) (hk : l.length < k) : ∃ l', laws_markFactS.f k l s = some (s + 3 * (l.length : Int), l') ∧ l'.length = l.length ∧ ∀ j : Nat, j < l.length → rd_T75 l' j = mkF (s + 3 * (j : Int)) := by
  obtain ⟨l', g1, g2, _, g4⟩ := markFactS_loop l.length k l 0 s hl (by omega) (by omega) (by omega) h0 (by omega)
  refine ⟨l', g1, g2, fun j hj => ?_⟩
  rw [g4 j (by omega) hj, show s + 3 * ((j : Int) - ((0 : Nat) : Int)) = s + 3 * (j : Int) by omega]
theorem heldFactS_loop (l : List S75) (s0 : Int) (hl : l.length ≤ 1048576) (h0 : 0 ≤ s0) (h1 : s0 ≤ 1000000000000) (hm : ∀ j : Nat, j < l.length → rd_T75 l j = mkF (s0 + 3 * (j : Int))) (d : Nat) : ∀ (k i : Nat), i ≤ l.length → l.length - i = d → d < k →
    laws_heldFactS.l0 k l (s0 + 3 * (i : Int)) i = some (s0 + 3 * (l.length : Int)) := by
  induction d with
  | zero =>
    intro k i hi hd hk
    obtain ⟨k, rfl⟩ : ∃ m, k = m + 1 := ⟨k - 1, by omega⟩
    simp only [laws_heldFactS.l0]
    rw [if_neg (by omega), show i = l.length by omega]
  | succ d ih =>
    intro k i hi hd hk
    obtain ⟨k, rfl⟩ : ∃ m, k = m + 1 := ⟨k - 1, by omega⟩
    have hlt : i < l.length := by omega
    have c1 : (i : Int) < (l.length : Int) := by omega
    have c2 : (0 : Int) ≤ i := by omega
    simp only [laws_heldFactS.l0, if_pos c1, if_pos c2, hm i hlt, mkF, bne_self_eq_false, Bool.false_eq_true, if_false, w64 ((i : Int) + 1) (by omega) (by omega), w64 (s0 + 3 * (i : Int) + 1) (by omega) (by omega), w64 (s0 + 3 * (i : Int) + 1 + 1) (by omega) (by omega), w64 (s0 + 3 * (i : Int) + 1 + 1 + 1) (by omega) (by omega)]
    rw [if_pos (by omega), show s0 + 3 * (i : Int) + 1 + 1 + 1 = s0 + 3 * ((i + 1 : Nat) : Int) by omega]
    exact ih k (i + 1) (by omega) (by omega) (by omega)
theorem heldFactS (l : List S75) (s0 : Int) (hl : l.length ≤ 1048576) (h0 : 0 ≤ s0) (h1 : s0 ≤ 1000000000000) (hm : ∀ j : Nat, j < l.length → rd_T75 l j = mkF (s0 + 3 * (j : Int))) (k : Nat) (hk : l.length < k) : laws_heldFactS.f k l s0 = some (s0 + 3 * (l.length : Int)) := by
  have := heldFactS_loop l s0 hl h0 h1 hm l.length k 0 (by omega) (by omega) (by omega)
  simpa [laws_heldFactS.f] using this

def okF (x : S75) : Bool := decide (0 ≤ x.f2 ∧ x.f2 ≤ 65535) && (x.f1 || x.f2 == 0) && !x.f0
theorem okF_is (x : S75) : ∃ g, spec_GoodFact.f x.f0 x.f1 x.f2 = some g ∧ (g && !x.f0) = okF x ∧ impl_areFacts_1.f x.f0 x.f1 x.f2 = some (!okF x) := by
  obtain ⟨a, b, c⟩ := x
  simp only [spec_GoodFact.f, spec_l1Word.f, inS, impl_areFacts_1.f, impl_isFact.f, impl_isWord.f, inI, okF, Option.bind_some]
  cases a <;> cases b <;> by_cases h1 : 0 ≤ c ∧ c ≤ 65535 <;> by_cases h2 : c = 0 <;> first | omega | simp [*] | (simp [*]; omega)
theorem facts_loop (l : List S75) (hl : l.length ≤ 4611686018427387904) (d : Nat) : ∀ (k i : Nat), i ≤ l.length → l.length - i = d → d < k →
    spec_l5Facts.l0 k l l (l.length : Int) i = some ((l.drop i).all okF && decide (l.length = 8)) := by
  induction d with
  | zero =>
    intro k i hi hd hk
    obtain ⟨k, rfl⟩ : ∃ m, k = m + 1 := ⟨k - 1, by omega⟩
    simp only [spec_l5Facts.l0]
    rw [if_neg (by omega), List.drop_of_length_le (by omega)]
    by_cases h8 : l.length = 8
    · simp [h8]
    · have : ¬((l.length : Int) = 8) := by omega
      simp [h8, this]
  | succ d ih =>
    intro k i hi hd hk
    obtain ⟨k, rfl⟩ : ∃ m, k = m + 1 := ⟨k - 1, by omega⟩
    have hlt : i < l.length := by omega
    simp only [spec_l5Facts.l0]
    rw [if_pos (by omega), if_pos (by omega), if_pos (by omega), w64 _ (by omega) (by omega), rd_at75 l i hlt, List.drop_eq_getElem_cons hlt, List.all_cons]
    obtain ⟨g, g1, g2, _⟩ := okF_is l[i]
    rw [g1, ← g2]
    simp only [Option.bind_some]
    cases g with
    | false => simp
    | true =>
      cases l[i].f0 with
      | true => simp
      | false => simpa using ih k (i + 1) (by omega) (by omega) (by omega)
def factsB (l : List S75) : Bool := l.all okF && decide (l.length = 8)
theorem spec_facts (l : List S75) (hl : l.length ≤ 4611686018427387904) (k : Nat) (hk : l.length < k) : spec_l5Facts.f k l = some (factsB l) := by
  have := facts_loop l hl l.length k 0 (by omega) (by omega) (by omega)
  simpa [spec_l5Facts.f, factsB] using this
theorem indexF_loop (l : List S75) (hl : l.length ≤ 4611686018427387904) (d : Nat) : ∀ (k i : Nat), i ≤ l.length → l.length - i = d → d < k →
    ∃ r, slices_IndexFunc_at80.l0 k l (l.length : Int) i = some r ∧ decide (r ≥ 0) = !(l.drop i).all okF := by
  induction d with
  | zero =>
    intro k i hi hd hk
    obtain ⟨k, rfl⟩ : ∃ m, k = m + 1 := ⟨k - 1, by omega⟩
    simp only [slices_IndexFunc_at80.l0]
    rw [if_neg (by omega), List.drop_of_length_le (by omega)]
    exact ⟨-1, rfl, by simp⟩
  | succ d ih =>
    intro k i hi hd hk
    obtain ⟨k, rfl⟩ : ∃ m, k = m + 1 := ⟨k - 1, by omega⟩
    have hlt : i < l.length := by omega
    simp only [slices_IndexFunc_at80.l0]
    rw [if_pos (by omega), if_pos (by omega), if_pos (by omega), w64 _ (by omega) (by omega), rd_at75 l i hlt, List.drop_eq_getElem_cons hlt, List.all_cons]
    obtain ⟨_, _, _, g3⟩ := okF_is l[i]
    rw [g3]
    cases okF l[i] with
    | true =>
      obtain ⟨r, h1, h2⟩ := ih k (i + 1) (by omega) (by omega) (by omega)
      exact ⟨r, by simpa using h1, by simpa using h2⟩
    | false => exact ⟨i, by simp, by simp⟩
theorem areFacts_eq (l : List S75) (k : Nat) (hk : 40 < k) : impl_areFacts.f k l = some (factsB l) := by
  unfold impl_areFacts.f factsB
  by_cases h : (l.length : Int) = 8
  · rw [if_pos h]
    obtain ⟨r, h1, h2⟩ := indexF_loop l (by omega) l.length k 0 (by omega) (by omega) (by omega)
    simp only [slices_ContainsFunc_at80.f, slices_IndexFunc_at80.f]
    rw [show (0 : Int) = ((0 : Nat) : Int) from rfl, h1]
    simp only [Option.bind_some]
    rw [show ((0 : Nat) : Int) = 0 from rfl, h2, show decide (l.length = 8) = true from decide_eq_true (by omega)]
    simp
  · rw [if_neg h, show decide (l.length = 8) = false from decide_eq_false (by omega)]
    simp

def dd (op a b : Int) : Int := if op = 3 then Go.bits .and .i64 (wrap64 (a + b)) 65535 else if op = 4 then Go.bits .and .i64 (wrap64 (a - b)) 65535 else if op = 5 then Go.bits .and .i64 (wrap64 (a * b)) 65535 else if op = 6 then (if a < b then 1 else 0) else (if a = b then 1 else 0)
theorem do_spec (op a b : Int) : spec_l3Do.f op a b = some (dd op a b) := by
  simp only [spec_l3Do.f, spec_l3Bit.f, dd]
  by_cases h1 : a < b <;> by_cases h2 : a = b <;> repeat' split
  all_goals first | rfl | omega | (simp_all; done) | (simp_all; omega)
theorem do_impl (op a b : Int) (h0 : 3 ≤ op) (h1 : op ≤ 7) : impl_reckon.f op a b = some (dd op a b) := by
  simp only [impl_reckon.f, dd]
  repeat' split
  all_goals first | rfl | omega
def isZ (x : S75) : Bool := !x.f0 && (x.f1 && (x.f2 == 0))
def two (op : Int) (a b : S75) : S75 := if (a.f1 && b.f1) = true then ⟨false, true, dd op a.f2 b.f2⟩ else if op = 5 then (if isZ a = true then ⟨false, true, 0⟩ else if isZ b = true then ⟨false, true, 0⟩ else ⟨false, false, 0⟩) else ⟨false, false, 0⟩
theorem two_spec (k : Nat) (hk : 0 < k) (op : Int) (a b : S75) : spec_l5Two.f k op a.f0 a.f1 a.f2 b.f0 b.f1 b.f2 = some ((two op a b).f0, (two op a b).f1, (two op a b).f2) := by
  obtain ⟨k, rfl⟩ : ∃ m, k = m + 1 := ⟨k - 1, by omega⟩
  obtain ⟨a0, a1, a2⟩ := a
  obtain ⟨b0, b1, b2⟩ := b
  simp only [spec_l5Two.f, spec_l5Two.j0, do_spec, Option.bind_some, two, isZ]
  cases a1 <;> cases b1 <;> cases a0 <;> cases b0 <;> by_cases h5 : op = 5 <;> by_cases z1 : a2 = 0 <;> by_cases z2 : b2 = 0 <;> simp [*]
theorem fact_impl (k : Nat) (hk : 0 < k) (op d a b n : Int) (l : List S75) (ha : 0 ≤ a ∧ a < l.length) (hb : 0 ≤ b ∧ b < l.length) (h1 : op ≠ 1) (h2 : op ≠ 2) (h3 : 3 ≤ op) (h7 : op ≤ 7) :
    impl_Instr_fact.f k op d a b n l = some ((two op (rd_T75 l a) (rd_T75 l b)).f0, (two op (rd_T75 l a) (rd_T75 l b)).f1, (two op (rd_T75 l a) (rd_T75 l b)).f2) := by
  obtain ⟨k, rfl⟩ : ∃ m, k = m + 1 := ⟨k - 1, by omega⟩
  simp only [impl_Instr_fact.f, impl_Instr_fact.j0, if_pos ha.1, if_pos ha.2, if_pos hb.1, if_pos hb.2, if_neg h1, if_neg h2, do_impl op _ _ h3 h7, Option.bind_some, two, isZ]
  generalize rd_T75 l a = x
  generalize rd_T75 l b = y
  obtain ⟨a0, a1, a2⟩ := x
  obtain ⟨b0, b1, b2⟩ := y
  cases a1 <;> cases b1 <;> cases a0 <;> cases b0 <;> by_cases h5 : op = 5 <;> by_cases z1 : a2 = 0 <;> by_cases z2 : b2 = 0 <;> simp [*]
def stp (l : List S75) (x : S65) : List S75 := if x.f0 = 1 then l.set x.f1.toNat ⟨false, true, x.f4⟩ else if x.f0 = 2 then l.set x.f1.toNat (rd_T75 l x.f2) else if 3 ≤ x.f0 ∧ x.f0 ≤ 7 then l.set x.f1.toNat (two x.f0 (rd_T75 l x.f2) (rd_T75 l x.f3)) else l
theorem stp_len (l : List S75) (x : S65) : (stp l x).length = l.length := by
  unfold stp
  repeat' split
  all_goals simp
theorem stps_len (c : List S65) : ∀ l : List S75, (c.foldl stp l).length = l.length := by
  induction c with
  | nil => intro l; rfl
  | cons x c ih => intro l; rw [List.foldl_cons, ih, stp_len]
theorem step_loops (c : List S65) (hc : c.length ≤ 30) (hg : c.all goodB = true) (d : Nat) : ∀ (k i : Nat) (l : List S75), l.length = 8 → i ≤ c.length → c.length - i = d → d + 3 < k →
    spec_l5Step.l0 k l c (c.length : Int) i = some ((c.drop i).foldl stp l) ∧ impl_stepFacts.l0 k l c (c.length : Int) i = some ((c.drop i).foldl stp l) := by
  induction d with
  | zero =>
    intro k i l hl hi hd hk
    obtain ⟨k, rfl⟩ : ∃ m, k = m + 1 := ⟨k - 1, by omega⟩
    have c1 : ¬((i : Int) < (c.length : Int)) := by omega
    simp only [spec_l5Step.l0, impl_stepFacts.l0, if_neg c1]
    rw [List.drop_of_length_le (by omega)]
    exact ⟨rfl, rfl⟩
  | succ d ih =>
    intro k i l hl hi hd hk
    obtain ⟨k, rfl⟩ : ∃ m, k = m + 1 := ⟨k - 1, by omega⟩
    have hlt : i < c.length := by omega
    have hgi : goodB c[i] = true := List.all_eq_true.1 hg _ (List.getElem_mem hlt)
    have c1 : (i : Int) < (c.length : Int) := by omega
    have c2 : (0 : Int) ≤ i := by omega
    simp only [spec_l5Step.l0, impl_stepFacts.l0, if_pos c1, if_pos c2, w64 ((i : Int) + 1) (by omega) (by omega), rd_at65 c i hlt, spec_l3Two.f, inS, Option.bind_some]
    rw [List.drop_eq_getElem_cons hlt, List.foldl_cons]
    have ih' := fun l hl => ih k (i + 1) l hl (by omega) (by omega) (by omega)
    generalize c[i] = x at *
    have hgi := of_decide_eq_true hgi
    obtain ⟨⟨d0, d1⟩, ⟨a0, a1⟩, ⟨b0, b1⟩, ⟨n0, n1⟩, ho⟩ := hgi
    have l1 : x.f1 < (l.length : Int) := by omega
    have l2 : x.f2 < (l.length : Int) := by omega
    have l3 : x.f3 < (l.length : Int) := by omega
    by_cases h1 : x.f0 = 1
    · have h8 : ¬(x.f0 = 8) := by omega
      simp only [if_pos h1, if_neg h8, if_pos d0, if_pos l1]
      have e : impl_Instr_fact.f k x.f0 x.f1 x.f2 x.f3 x.f4 l = some (false, true, x.f4) := by
        simp only [impl_Instr_fact.f, if_pos a0, if_pos l2, if_pos b0, if_pos l3, if_pos h1]
      rw [e]
      simp only [Option.bind_some]
      have es : stp l x = l.set x.f1.toNat ⟨false, true, x.f4⟩ := by unfold stp; rw [if_pos h1]
      rw [es]
      exact ih' _ (by simpa using hl)
    · by_cases h2 : x.f0 = 2
      · have h8 : ¬(x.f0 = 8) := by omega
        simp only [if_neg h1, if_pos h2, if_neg h8, if_pos d0, if_pos l1, if_pos a0, if_pos l2]
        have e : impl_Instr_fact.f k x.f0 x.f1 x.f2 x.f3 x.f4 l = some ((rd_T75 l x.f2).f0, (rd_T75 l x.f2).f1, (rd_T75 l x.f2).f2) := by
          simp only [impl_Instr_fact.f, if_pos a0, if_pos l2, if_pos b0, if_pos l3, if_neg h1, if_pos h2]
        rw [e]
        simp only [Option.bind_some]
        have es : stp l x = l.set x.f1.toNat (rd_T75 l x.f2) := by unfold stp; rw [if_neg h1, if_pos h2]
        rw [es]
        exact ih' _ (by simpa using hl)
      · by_cases h8 : x.f0 = 8
        · have h37 : ¬(3 ≤ x.f0 ∧ x.f0 ≤ 7) := by omega
          simp only [if_neg h1, if_neg h2, if_pos h8, decide_eq_true_eq, if_neg h37]
          have es : stp l x = l := by unfold stp; rw [if_neg h1, if_neg h2, if_neg h37]
          rw [es]
          exact ih' _ hl
        · have h37 : 3 ≤ x.f0 ∧ x.f0 ≤ 7 := by omega
          simp only [if_neg h1, if_neg h2, if_neg h8, decide_eq_true_eq, if_pos h37, if_pos d0, if_pos l1, if_pos a0, if_pos l2, if_pos b0, if_pos l3]
          rw [two_spec k (by omega), fact_impl k (by omega) x.f0 x.f1 x.f2 x.f3 x.f4 l ⟨a0, l2⟩ ⟨b0, l3⟩ h1 h2 h37.1 h37.2]
          simp only [Option.bind_some]
          have es : stp l x = l.set x.f1.toNat (two x.f0 (rd_T75 l x.f2) (rd_T75 l x.f3)) := by unfold stp; rw [if_neg h1, if_neg h2, if_pos h37]
          rw [es]
          exact ih' _ (by simpa using hl)
theorem steps_spec (c : List S65) (hc : c.length ≤ 30) (hg : c.all goodB = true) (l : List S75) (hl : l.length = 8) (k : Nat) (hk : 40 < k) : spec_l5Step.f k c l = some (c.foldl stp l) := by
  have := (step_loops c hc hg c.length k 0 l hl (by omega) (by omega) (by omega)).1
  simp only [spec_l5Step.f, Option.bind_some, List.length_nil, List.nil_append]
  rw [if_pos (by omega)]
  simpa using this
theorem steps_impl (c : List S65) (hc : c.length ≤ 30) (hg : c.all goodB = true) (l : List S75) (hl : l.length = 8) (k : Nat) (hk : 40 < k) : impl_stepFacts.f k c l = some (c.foldl stp l) := by
  have := (step_loops c hc hg c.length k 0 l hl (by omega) (by omega) (by omega)).2
  simp only [impl_stepFacts.f, Option.bind_some, List.length_nil, List.nil_append]
  rw [if_pos (by omega)]
  simpa using this

def ans (c : List S65) (l : List S75) : List S75 × Bool := if codeB c = true then (if factsB l = true then (c.foldl stp l, true) else ([], false)) else ([], false)
theorem both (c : List S65) (hc : c.length ≤ 1048576) (l : List S75) (hl : l.length ≤ 1048576) (k : Nat) (hk : 1048700 < k) : spec_StepFacts.f k c l = some (ans c l) ∧ impl_StepFacts.f k c l = some (ans c l) := by
  simp only [ans, spec_StepFacts.f, impl_StepFacts.f, spec_good c (by omega) k (by omega), isCode_eq c k (by omega), spec_facts l (by omega) k (by omega), areFacts_eq l k (by omega), Option.bind_some]
  cases hcb : codeB c with
  | false => simp
  | true =>
    cases hfb : factsB l with
    | false => simp
    | true =>
      simp only [codeB, Bool.and_eq_true, decide_eq_true_eq] at hcb
      simp only [factsB, Bool.and_eq_true, decide_eq_true_eq] at hfb
      rw [steps_spec c hcb.2 hcb.1 l hfb.2 k (by omega), steps_impl c hcb.2 hcb.1 l hfb.2 k (by omega)]
      simp
theorem ans_len (c : List S65) (l : List S75) : (ans c l).1.length ≤ 8 := by
  unfold ans
  split
  · split
    · rename_i h
      simp only [factsB, Bool.and_eq_true, decide_eq_true_eq] at h
      rw [stps_len]
      omega
    · simp
  · simp
theorem FnExactStepFacts (l : List S67) (l1 : List S77) (hl : l.length ≤ 9223372036854775807) (_ : ∀ x, x ∈ l → (Lit.int .i64 x.f0).wf = true ∧ (Lit.int .i64 x.f1).wf = true ∧ (Lit.int .i64 x.f2).wf = true ∧ (Lit.int .i64 x.f3).wf = true ∧ (Lit.int .i64 x.f4).wf = true) (hl1 : l1.length ≤ 9223372036854775807) (_ : ∀ x, x ∈ l1 → True ∧ True ∧ (Lit.int .i64 x.f2).wf = true) : ∃ k, laws_FnExactStepFacts.f k l l1 = some true := by
  suffices H : ∀ k, 1048800 < k → laws_FnExactStepFacts.f k l l1 = some true from ⟨1048801, H _ (by omega)⟩
  intro k hk
  obtain ⟨s, hs, hs1, hs2⟩ := szInstrS2 l hl
  unfold laws_FnExactStepFacts.f
  rw [hs]
  simp only [Option.bind_some]
  by_cases h0 : s < 0
  · rw [if_pos h0]
  rw [if_neg h0]
  obtain ⟨t, ht, ht1, ht2⟩ := szFactS l1 s (by omega) hs1 hl1
  rw [ht]
  simp only [Option.bind_some]
  by_cases h1 : t < 0
  · rw [if_pos h1]
  rw [if_neg h1]
  have hl' : l.length ≤ 1048576 := by omega
  have hl1' : l1.length ≤ 1048576 := by omega
  obtain ⟨k, rfl⟩ : ∃ m, k = m + 1 + 1 + 1 := ⟨k - 3, by omega⟩
  have hc : (l.map toI).length ≤ 1048576 := by simpa using hl'
  have hf : (l1.map toF).length ≤ 1048576 := by simpa using hl1'
  have tI := fun k hk => toInstrS l hl' k hk
  have tF := fun k hk => toFactS l1 hl1' k hk
  have al := ans_len (l.map toI) (l1.map toF)
  generalize l.map toI = c at *
  generalize l1.map toF = m at *
  have b1 := fun k hk => (both c hc m hf k hk).1
  have b2 := fun k hk => (both c hc m hf k hk).2
  generalize ans c m = r at *
  obtain ⟨r, b⟩ := r
  have al : r.length ≤ 8 := al
  have eC := fun k hk => eqInstrS c (by omega) k hk
  have eM := fun k hk => eqFactS m (by omega) k hk
  have eR := fun k hk => eqFactS r (by omega) k hk
  obtain ⟨c', mI⟩ := markInstrS c hc 1 (by omega) (by omega) (k + 1 + 1) (by omega)
  obtain ⟨m', mF, _⟩ := markFactS m hf (1 + 5 * (c.length : Int)) (by omega) (by omega) (k + 1 + 1) (by omega)
  obtain ⟨r', mR, mR1, mR2⟩ := markFactS r (by omega) 1 (by omega) (by omega) (k + 1) (by omega)
  have hR := fun k hk => heldFactS r' 1 (by omega) (by omega) (by omega) (fun j hj => mR2 j (by omega)) k hk
  rw [mR1] at hR
  have n1 : ¬(1 + 5 * (c.length : Int) + 3 * (m.length : Int) < 0) := by omega
  have n2 : ¬(1 + 3 * (r.length : Int) < 0) := by omega
  simp only [tI _ (show l.length < k + 1 + 1 + 1 by omega), tF _ (show l1.length < k + 1 + 1 + 1 by omega), b1 _ (show 1048700 < k + 1 + 1 + 1 by omega), b2 _ (show 1048700 < k + 1 + 1 + 1 by omega), eR _ (show r.length < k + 1 + 1 + 1 by omega), Option.bind_some, bne_self_eq_false, if_true]
  simp only [laws_FnExactStepFacts.j0, Bool.false_eq_true, if_false, tI _ (show l.length < k + 1 + 1 by omega), eC _ (show c.length < k + 1 + 1 by omega), tF _ (show l1.length < k + 1 + 1 by omega), eM _ (show m.length < k + 1 + 1 by omega), eR _ (show r.length < k + 1 + 1 by omega), mI, mF, if_neg n1, Option.bind_some, bne_self_eq_false, if_true]
  simp only [laws_FnExactStepFacts.j1, Bool.false_eq_true, if_false, mR, hR _ (show r.length < k + 1 by omega), if_neg n2, tI _ (show l.length < k + 1 by omega), tF _ (show l1.length < k + 1 by omega), b2 _ (show 1048700 < k + 1 by omega), eR _ (show r.length < k + 1 by omega), Option.bind_some, bne_self_eq_false, if_true]
  simp only [laws_FnExactStepFacts.j2, Bool.false_eq_true, if_false, hR _ (show r.length < k by omega), if_neg n2, Option.bind_some, if_true]

end Go.Proofs.Ytpanbicgnmjjiaa.Pure

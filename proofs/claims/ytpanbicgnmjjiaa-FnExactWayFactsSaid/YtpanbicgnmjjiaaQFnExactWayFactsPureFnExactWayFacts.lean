/- The pure statement of FnExactWayFacts: the program returns what the reference returns, for all arguments. -/
import Derived.Test.YtpanbicgnmjjiaaQFnExactWayFactsXFnExactWayFactsx19
import Derived.Test.YtpanbicgnmjjiaaQFnExactWayFactsBits
namespace Go.Proofs.Ytpanbicgnmjjiaa.Pure
open Go.RowKit Go.Proofs.Ytpanbicgnmjjiaa.XFnExactWayFacts Go.Proofs.YtpanbicgnmjjiaaW.PrintWords Go.Proofs.YtpanbicgnmjjiaaW.PrintLast Go.Proofs.YtpanbicgnmjjiaaW.PrintMore Go.Proofs.YtpanbicgnmjjiaaBits

theorem rd_at65 (l : List S65) (i : Nat) (h : i < l.length) : rd_T65 l i = l[i] := by
  simp [rd_T65, List.getD_eq_getElem?_getD, List.getElem?_eq_getElem h]

def toI (x : S67) : S65 := ⟨x.f0, x.f1, x.f2, x.f3, x.f4⟩
theorem rd_at67 (l : List S67) (i : Nat) (h : i < l.length) : rd_T67 l i = l[i] := by
  simp [rd_T67, List.getD_eq_getElem?_getD, List.getElem?_eq_getElem h]
theorem toInstrS_loop (l : List S67) (hl : l.length ≤ 1048576) (d : Nat) : ∀ (k i : Nat) (m : List S65), m.length = l.length → i ≤ l.length → l.length - i = d → d < k → m.take i = (l.map toI).take i → laws_toInstrS.l0 k l m i = some (l.map toI) := by
  induction d with
  | zero =>
    intro k i m hm hi hd hk ht
    obtain ⟨k, rfl⟩ : ∃ m, k = m + 1 := ⟨k - 1, by omega⟩
    simp only [laws_toInstrS.l0]
    rw [if_neg (by omega)]
    rw [List.take_of_length_le (by omega), List.take_of_length_le (by simp; omega)] at ht
    rw [ht]
  | succ d ih =>
    intro k i m hm hi hd hk ht
    obtain ⟨k, rfl⟩ : ∃ m, k = m + 1 := ⟨k - 1, by omega⟩
    have hlt : i < l.length := by omega
    simp only [laws_toInstrS.l0, laws_toInstr.f, Option.bind_some]
    rw [if_pos (by omega), if_pos (by omega), if_pos (by omega), w64 _ (by omega) (by omega), rd_at67 l i hlt]
    refine ih k (i + 1) (m.set ((i : Int)).toNat (toI l[i])) (by simpa using hm) (by omega) (by omega) (by omega) ?_
    rw [Int.toNat_natCast, List.take_succ_eq_append_getElem (by rw [List.length_set]; omega), List.take_succ_eq_append_getElem (by simpa using hlt), List.take_set_of_le (Nat.le_refl _), ht]
    simp
theorem toInstrS (l : List S67) (hl : l.length ≤ 1048576) (k : Nat) (hk : l.length < k) : laws_toInstrS.f k l = some (l.map toI) := by
  unfold laws_toInstrS.f
  rw [if_pos (by omega), if_pos (by omega)]
  exact toInstrS_loop l hl l.length k 0 _ (by simp) (by omega) (by omega) (by omega) (by simp)
theorem szInstrS (l : List S67) (hl : l.length ≤ 9223372036854775807) : ∃ s, laws_szInstrS.f l 1048576 = some s ∧ (s < 0 ∨ l.length ≤ 1048576) := by
  unfold laws_szInstrS.f
  rw [w64 _ (by omega) (by omega)]
  split
  · exact ⟨-1, rfl, .inl (by decide)⟩
  · exact ⟨_, rfl, .inr (by omega)⟩

theorem szInstrS2 (l : List S67) (hl : l.length ≤ 9223372036854775807) : ∃ s, laws_szInstrS.f l 1048576 = some s ∧ s ≤ 1048576 ∧ (s < 0 ∨ l.length ≤ 1048576) := by
  unfold laws_szInstrS.f
  rw [w64 _ (by omega) (by omega)]
  split
  · exact ⟨-1, rfl, by decide, .inl (by decide)⟩
  · exact ⟨_, rfl, by omega, .inr (by omega)⟩

theorem eqInstrS_loop (l : List S65) (hl : l.length ≤ 4611686018427387904) (d : Nat) : ∀ (k i : Nat), i ≤ l.length → l.length - i = d → d < k → laws_eqInstrS.l0 k l l i = some true := by
  induction d with
  | zero =>
    intro k i hi hd hk
    obtain ⟨k, rfl⟩ : ∃ m, k = m + 1 := ⟨k - 1, by omega⟩
    simp only [laws_eqInstrS.l0]
    rw [if_neg (by omega)]
  | succ d ih =>
    intro k i hi hd hk
    obtain ⟨k, rfl⟩ : ∃ m, k = m + 1 := ⟨k - 1, by omega⟩
    simp only [laws_eqInstrS.l0, laws_eqInstr.f, if_true, Option.bind_some]
    rw [if_pos (by omega), if_pos (by omega), if_pos (by omega), w64 _ (by omega) (by omega)]
    exact ih k (i + 1) (by omega) (by omega) (by omega)
theorem eqInstrS (l : List S65) (hl : l.length ≤ 4611686018427387904) (k : Nat) (hk : l.length < k) : laws_eqInstrS.f k l l = some true := by
  unfold laws_eqInstrS.f
  rw [if_pos rfl]
  exact eqInstrS_loop l hl l.length k 0 (by omega) (by omega) (by omega)

def goodB (x : S65) : Bool := decide ((0 ≤ x.f1 ∧ x.f1 ≤ 7) ∧ (0 ≤ x.f2 ∧ x.f2 ≤ 7) ∧ (0 ≤ x.f3 ∧ x.f3 ≤ 7) ∧ (0 ≤ x.f4 ∧ x.f4 ≤ 65535) ∧ (x.f0 = 1 ∧ x.f2 = 0 ∧ x.f3 = 0 ∨ x.f0 = 2 ∧ x.f3 = 0 ∧ x.f4 = 0 ∨ (3 ≤ x.f0 ∧ x.f0 ≤ 7) ∧ x.f4 = 0 ∨ x.f0 = 8 ∧ x.f1 = 0 ∧ x.f3 = 0 ∧ x.f4 = 0))
theorem inS (a l h : Int) : spec_l1In.f a l h = some (decide (l ≤ a ∧ a ≤ h)) := by
  simp only [spec_l1In.f]
  by_cases h1 : a ≥ l <;> simp [*]
theorem inI (a l h : Int) : impl_in.f a l h = some (decide (l ≤ a ∧ a ≤ h)) := by
  simp only [impl_in.f]
  by_cases h1 : a ≥ l <;> simp [*]
theorem good_spec (x : S65) : spec_l3Good.f x.f0 x.f1 x.f2 x.f3 x.f4 = some (goodB x) := by
  simp only [spec_l3Good.f, spec_l3Name.f, spec_l3Two.f, spec_l1Word.f, inS, Option.bind_some, goodB]
  repeat' split
  all_goals first | rfl | (congr 1; simp_all; done) | (congr 1; simp_all; omega) | (congr 1; rw [Bool.eq_iff_iff]; simp_all; done) | (congr 1; rw [Bool.eq_iff_iff]; simp_all; omega)
theorem good_j0t (k : Nat) (a b c d e : Int) : impl_isInstr.j0 (k + 1) true a b c d e = some false := by simp [impl_isInstr.j0]
theorem good_j0f (k : Nat) (a b c d e : Int) : impl_isInstr.j0 (k + 1 + 1) false a b c d e = some (decide (a = 1 ∧ c = 0 ∧ d = 0 ∨ a = 2 ∧ d = 0 ∧ e = 0 ∨ (3 ≤ a ∧ a ≤ 7) ∧ e = 0 ∨ a = 8 ∧ b = 0 ∧ d = 0 ∧ e = 0)) := by
  simp only [impl_isInstr.j0, impl_isInstr.j1, Bool.false_eq_true, if_false]
  repeat' split
  all_goals first | rfl | (congr 1; simp_all; done) | (congr 1; simp_all; omega) | (congr 1; rw [Bool.eq_iff_iff]; simp_all; done) | (congr 1; rw [Bool.eq_iff_iff]; simp_all; omega)
theorem good_impl (x : S65) (k : Nat) (hk : 2 ≤ k) : impl_isInstr.f k x.f0 x.f1 x.f2 x.f3 x.f4 = some (goodB x) := by
  obtain ⟨k, rfl⟩ : ∃ m, k = m + 1 + 1 := ⟨k - 2, by omega⟩
  simp only [impl_isInstr.f, impl_isName.f, impl_isWord.f, inI, Option.bind_some, goodB]
  by_cases h1 : 0 ≤ x.f1 ∧ x.f1 ≤ 7
  · by_cases h2 : 0 ≤ x.f2 ∧ x.f2 ≤ 7
    · by_cases h3 : 0 ≤ x.f3 ∧ x.f3 ≤ 7
      · by_cases h4 : 0 ≤ x.f4 ∧ x.f4 ≤ 65535
        · simp only [eq_true h1, eq_true h2, eq_true h3, eq_true h4, decide_true, if_true, Bool.not_true, good_j0f, true_and]
        · simp only [eq_true h1, eq_true h2, eq_true h3, eq_false h4, decide_true, if_true, decide_false, Bool.not_false, good_j0t, false_and, and_false]
      · simp only [eq_true h1, eq_true h2, eq_false h3, decide_true, if_true, decide_false, Bool.false_eq_true, if_false, good_j0t, false_and, and_false]
    · simp only [eq_true h1, eq_false h2, decide_true, if_true, decide_false, Bool.false_eq_true, if_false, good_j0t, false_and, and_false]
  · simp only [eq_false h1, decide_false, Bool.false_eq_true, if_false, good_j0t, false_and]

theorem goodCode_loop (l : List S65) (hl : l.length ≤ 4611686018427387904) (d : Nat) : ∀ (k i : Nat), i ≤ l.length → l.length - i = d → d < k →
    spec_GoodCode.l0 k l l (l.length : Int) i = some ((l.drop i).all goodB && decide (l.length ≤ 30)) := by
  induction d with
  | zero =>
    intro k i hi hd hk
    obtain ⟨k, rfl⟩ : ∃ m, k = m + 1 := ⟨k - 1, by omega⟩
    simp only [spec_GoodCode.l0]
    rw [if_neg (by omega), List.drop_of_length_le (by omega)]
    simp
    omega
  | succ d ih =>
    intro k i hi hd hk
    obtain ⟨k, rfl⟩ : ∃ m, k = m + 1 := ⟨k - 1, by omega⟩
    have hlt : i < l.length := by omega
    simp only [spec_GoodCode.l0, good_spec, Option.bind_some]
    rw [if_pos (by omega), if_pos (by omega), if_pos (by omega), w64 _ (by omega) (by omega), rd_at65 l i hlt, List.drop_eq_getElem_cons hlt, List.all_cons]
    cases goodB l[i] with
    | true => simpa using ih k (i + 1) (by omega) (by omega) (by omega)
    | false => simp
def codeB (l : List S65) : Bool := l.all goodB && decide (l.length ≤ 30)
theorem spec_good (l : List S65) (hl : l.length ≤ 4611686018427387904) (k : Nat) (hk : l.length < k) : spec_GoodCode.f k l = some (codeB l) := by
  have := goodCode_loop l hl l.length k 0 (by omega) (by omega) (by omega)
  simpa [spec_GoodCode.f, codeB] using this
theorem index_loop (l : List S65) (hl : l.length ≤ 4611686018427387904) (d : Nat) : ∀ (k i : Nat), i ≤ l.length → l.length - i = d → d + 3 < k →
    ∃ r, slices_IndexFunc_at73.l0 k l (l.length : Int) i = some r ∧ decide (r ≥ 0) = !(l.drop i).all goodB := by
  induction d with
  | zero =>
    intro k i hi hd hk
    obtain ⟨k, rfl⟩ : ∃ m, k = m + 1 := ⟨k - 1, by omega⟩
    simp only [slices_IndexFunc_at73.l0]
    rw [if_neg (by omega), List.drop_of_length_le (by omega)]
    exact ⟨-1, rfl, by simp⟩
  | succ d ih =>
    intro k i hi hd hk
    obtain ⟨k, rfl⟩ : ∃ m, k = m + 1 := ⟨k - 1, by omega⟩
    have hlt : i < l.length := by omega
    simp only [slices_IndexFunc_at73.l0, impl_isCode_1.f, good_impl _ k (by omega), Option.bind_some]
    rw [if_pos (by omega), if_pos (by omega), if_pos (by omega), w64 _ (by omega) (by omega), rd_at65 l i hlt, List.drop_eq_getElem_cons hlt, List.all_cons]
    cases goodB l[i] with
    | true =>
      obtain ⟨r, h1, h2⟩ := ih k (i + 1) (by omega) (by omega) (by omega)
      exact ⟨r, by simpa using h1, by simpa using h2⟩
    | false => exact ⟨i, by simp, by simp⟩
theorem isCode_eq (l : List S65) (k : Nat) (hk : 40 < k) : impl_isCode.f k l = some (codeB l) := by
  unfold impl_isCode.f codeB
  by_cases h : (l.length : Int) ≤ 30
  · rw [if_pos h]
    obtain ⟨r, h1, h2⟩ := index_loop l (by omega) l.length k 0 (by omega) (by omega) (by omega)
    simp only [slices_ContainsFunc_at73.f, slices_IndexFunc_at73.f]
    rw [show (0 : Int) = ((0 : Nat) : Int) from rfl, h1]
    simp only [Option.bind_some]
    rw [show ((0 : Nat) : Int) = 0 from rfl, h2, show decide (l.length ≤ 30) = true from decide_eq_true (by omega)]
    simp
  · rw [if_neg h, show decide (l.length ≤ 30) = false from decide_eq_false (by omega)]
    simp

theorem szFactS (l : List S77) (t : Int) (h0 : 0 ≤ t) (h1 : t ≤ 1048576) (hl : l.length ≤ 9223372036854775807) : ∃ s, laws_szFactS.f l t = some s ∧ s ≤ 1048576 ∧ (s < 0 ∨ l.length ≤ 1048576) := by
  unfold laws_szFactS.f
  rw [w64 _ (by omega) (by omega)]
  split
  · exact ⟨-1, rfl, by decide, .inl (by decide)⟩
  · exact ⟨_, rfl, by omega, .inr (by omega)⟩

theorem rd_setI (l : List S65) (v : S65) (i : Nat) (h : i < l.length) : rd_T65 (l.set i v) (i : Int) = v := by
  simp [rd_T65, h]
theorem markInstrS_loop (d : Nat) : ∀ (k : Nat) (l : List S65) (i : Nat) (s : Int), l.length ≤ 1048576 → i ≤ l.length → l.length - i = d → d < k → 0 ≤ s → s ≤ 1000000000000 + 5 * (i : Int) →
    ∃ l', laws_markInstrS.l0 k l s i = some (s + 5 * (d : Int), l') ∧ l'.length = l.length := by
  induction d with
  | zero =>
    intro k l i s hl hi hd hk h0 h1
    obtain ⟨k, rfl⟩ : ∃ m, k = m + 1 := ⟨k - 1, by omega⟩
    simp only [laws_markInstrS.l0]
    rw [if_neg (by omega)]
    exact ⟨l, by simp, rfl⟩
  | succ d ih =>
    intro k l i s hl hi hd hk h0 h1
    obtain ⟨k, rfl⟩ : ∃ m, k = m + 1 := ⟨k - 1, by omega⟩
    have hlt : i < l.length := by omega
    have c1 : (i : Int) < (l.length : Int) := by omega
    have c2 : (0 : Int) ≤ i := by omega
    simp only [laws_markInstrS.l0, if_pos c1, if_pos c2, Option.bind_some, Int.toNat_natCast, List.set_set, rd_setI l _ i hlt, w64 ((i : Int) + 1) (by omega) (by omega), w64 (s + 1) (by omega) (by omega), w64 (s + 1 + 1) (by omega) (by omega), w64 (s + 1 + 1 + 1) (by omega) (by omega), w64 (s + 1 + 1 + 1 + 1) (by omega) (by omega), w64 (s + 1 + 1 + 1 + 1 + 1) (by omega) (by omega)]
    generalize hv : l.set i _ = l2
    have e2 : l2.length = l.length := by rw [← hv]; simp
    obtain ⟨l', g1, g2⟩ := ih k l2 (i + 1) (s + 1 + 1 + 1 + 1 + 1) (by omega) (by omega) (by omega) (by omega) (by omega) (by omega)
    refine ⟨l', ?_, by omega⟩
    rw [show (i : Int) + 1 = ((i + 1 : Nat) : Int) by omega, g1]
    congr 2
    omega
theorem markInstrS (l : List S65) (hl : l.length ≤ 1048576) (s : Int) (h0 : 0 ≤ s) (h1 : s ≤ 1000000000000) (k : Nat) (hk : l.length < k) : ∃ l', laws_markInstrS.f k l s = some (s + 5 * (l.length : Int), l') := by
  obtain ⟨l', g1, _⟩ := markInstrS_loop l.length k l 0 s hl (by omega) (by omega) (by omega) h0 (by omega)
  exact ⟨l', g1⟩

def toF (x : S77) : S75 := ⟨x.f0, x.f1, x.f2⟩
theorem rd_at77 (l : List S77) (i : Nat) (h : i < l.length) : rd_T77 l i = l[i] := by
  simp [rd_T77, List.getD_eq_getElem?_getD, List.getElem?_eq_getElem h]
theorem rd_at75 (l : List S75) (i : Nat) (h : i < l.length) : rd_T75 l i = l[i] := by
  simp [rd_T75, List.getD_eq_getElem?_getD, List.getElem?_eq_getElem h]
theorem rd_setF (l : List S75) (v : S75) (i : Nat) (h : i < l.length) : rd_T75 (l.set i v) (i : Int) = v := by
  simp [rd_T75, h]
theorem toFactS_loop (l : List S77) (hl : l.length ≤ 1048576) (d : Nat) : ∀ (k i : Nat) (m : List S75), m.length = l.length → i ≤ l.length → l.length - i = d → d < k → m.take i = (l.map toF).take i → laws_toFactS.l0 k l m i = some (l.map toF) := by
  induction d with
  | zero =>
    intro k i m hm hi hd hk ht
    obtain ⟨k, rfl⟩ : ∃ m, k = m + 1 := ⟨k - 1, by omega⟩
    simp only [laws_toFactS.l0]
    rw [if_neg (by omega)]
    rw [List.take_of_length_le (by omega), List.take_of_length_le (by simp; omega)] at ht
    rw [ht]
  | succ d ih =>
    intro k i m hm hi hd hk ht
    obtain ⟨k, rfl⟩ : ∃ m, k = m + 1 := ⟨k - 1, by omega⟩
    have hlt : i < l.length := by omega
    simp only [laws_toFactS.l0, laws_toFact.f, Option.bind_some]
    rw [if_pos (by omega), if_pos (by omega), if_pos (by omega), w64 _ (by omega) (by omega), rd_at77 l i hlt]
    refine ih k (i + 1) (m.set ((i : Int)).toNat (toF l[i])) (by simpa using hm) (by omega) (by omega) (by omega) ?_
    rw [Int.toNat_natCast, List.take_succ_eq_append_getElem (by rw [List.length_set]; omega), List.take_succ_eq_append_getElem (by simpa using hlt), List.take_set_of_le (Nat.le_refl _), ht]
    simp
theorem toFactS (l : List S77) (hl : l.length ≤ 1048576) (k : Nat) (hk : l.length < k) : laws_toFactS.f k l = some (l.map toF) := by
  unfold laws_toFactS.f
  rw [if_pos (by omega), if_pos (by omega)]
  exact toFactS_loop l hl l.length k 0 _ (by simp) (by omega) (by omega) (by omega) (by simp)
theorem eqFactS_loop (l : List S75) (hl : l.length ≤ 4611686018427387904) (d : Nat) : ∀ (k i : Nat), i ≤ l.length → l.length - i = d → d < k → laws_eqFactS.l0 k l l i = some true := by
  induction d with
  | zero =>
    intro k i hi hd hk
    obtain ⟨k, rfl⟩ : ∃ m, k = m + 1 := ⟨k - 1, by omega⟩
    simp only [laws_eqFactS.l0]
    rw [if_neg (by omega)]
  | succ d ih =>
    intro k i hi hd hk
    obtain ⟨k, rfl⟩ : ∃ m, k = m + 1 := ⟨k - 1, by omega⟩
    simp only [laws_eqFactS.l0, laws_eqFact.f, bne_self_eq_false, Bool.false_eq_true, if_false, if_true, Option.bind_some]
    rw [if_pos (by omega), if_pos (by omega), if_pos (by omega), w64 _ (by omega) (by omega)]
    exact ih k (i + 1) (by omega) (by omega) (by omega)
theorem eqFactS (l : List S75) (hl : l.length ≤ 4611686018427387904) (k : Nat) (hk : l.length < k) : laws_eqFactS.f k l l = some true := by
  unfold laws_eqFactS.f
  rw [if_pos rfl]
  exact eqFactS_loop l hl l.length k 0 (by omega) (by omega) (by omega)

def mkF (s : Int) : S75 := ⟨(Int.tmod s 3) == 0, (Int.tmod (s + 1) 3) == 0, s + 2⟩
theorem markFactS_loop (d : Nat) : ∀ (k : Nat) (l : List S75) (i : Nat) (s : Int), l.length ≤ 1048576 → i ≤ l.length → l.length - i = d → d < k → 0 ≤ s → s ≤ 1000000000000 + 3 * (i : Int) →
    ∃ l', laws_markFactS.l0 k l s i = some (s + 3 * (d : Int), l') ∧ l'.length = l.length ∧ (∀ j : Nat, j < i → rd_T75 l' j = rd_T75 l j) ∧ (∀ j : Nat, i ≤ j → j < l.length → rd_T75 l' j = mkF (s + 3 * ((j : Int) - i))) := by
  induction d with
  | zero =>
    intro k l i s hl hi hd hk h0 h1
    obtain ⟨k, rfl⟩ : ∃ m, k = m + 1 := ⟨k - 1, by omega⟩
    simp only [laws_markFactS.l0]
    rw [if_neg (by omega)]
    exact ⟨l, by simp, rfl, fun _ _ => rfl, fun j h1 h2 => by omega⟩
  | succ d ih =>
    intro k l i s hl hi hd hk h0 h1
    obtain ⟨k, rfl⟩ : ∃ m, k = m + 1 := ⟨k - 1, by omega⟩
    have hlt : i < l.length := by omega
    have c1 : (i : Int) < (l.length : Int) := by omega
    have c2 : (0 : Int) ≤ i := by omega
    simp only [laws_markFactS.l0, if_pos c1, if_pos c2, Option.bind_some, Int.toNat_natCast, List.set_set, rd_setF l _ i hlt, w64 ((i : Int) + 1) (by omega) (by omega), w64 (s + 1) (by omega) (by omega), w64 (s + 1 + 1) (by omega) (by omega), w64 (s + 1 + 1 + 1) (by omega) (by omega)]
    obtain ⟨l', g1, g2, g3, g4⟩ := ih k (l.set i (⟨(Int.tmod s 3) == 0, (Int.tmod (s + 1) 3) == 0, s + 1 + 1⟩ : S75)) (i + 1) (s + 1 + 1 + 1) (by simpa using hl) (by simp; omega) (by simp; omega) (by omega) (by omega) (by omega)
    refine ⟨l', ?_, by rw [g2, List.length_set], fun j hj => ?_, fun j hj hj2 => ?_⟩
    · rw [show (i : Int) + 1 = ((i + 1 : Nat) : Int) by omega, g1]
      congr 2
      omega
    · rw [g3 j (by omega)]
      simp only [rd_T75, Int.toNat_natCast, List.getD_eq_getElem?_getD]
      rw [List.getElem?_set_ne (by omega)]
    · by_cases he : j = i
      · subst he
        rw [g3 j (by omega), rd_setF l _ j hlt]
        simp only [mkF]
        rw [show s + 3 * ((j : Int) - j) = s by omega, show s + 1 + 1 = s + 2 by omega]
      · rw [g4 j (by omega) (by rw [List.length_set]; omega)]
        congr 1
        omega
theorem markFactS (l : List S75) (hl : l.length ≤ 1048576) (s : Int) (h0 : 0 ≤ s) (h1 : s ≤ 1000000000000) (k : Nat) (hk : l.length < k) : ∃ l', laws_markFactS.f k l s = some (s + 3 * (l.length : Int), l') ∧ l'.length = l.length ∧ ∀ j : Nat, j < l.length → rd_T75 l' j = mkF (s + 3 * (j : Int)) := by
  obtain ⟨l', g1, g2, _, g4⟩ := markFactS_loop l.length k l 0 s hl (by omega) (by omega) (by omega) h0 (by omega)
  refine ⟨l', g1, g2, fun j hj => ?_⟩
  rw [g4 j (by omega) hj, show s + 3 * ((j : Int) - ((0 : Nat) : Int)) = s + 3 * (j : Int) by omega]
theorem heldFactS_loop (l : List S75) (s0 : Int) (hl : l.length ≤ 1048576) (h0 : 0 ≤ s0) (h1 : s0 ≤ 1000000000000) (hm : ∀ j : Nat, j < l.length → rd_T75 l j = mkF (s0 + 3 * (j : Int))) (d : Nat) : ∀ (k i : Nat), i ≤ l.length → l.length - i = d → d < k →
    laws_heldFactS.l0 k l (s0 + 3 * (i : Int)) i = some (s0 + 3 * (l.length : Int)) := by
  induction d with
  | zero =>
    intro k i hi hd hk
    obtain ⟨k, rfl⟩ : ∃ m, k = m + 1 := ⟨k - 1, by omega⟩
    simp only [laws_heldFactS.l0]
    rw [if_neg (by omega), show i = l.length by omega]
  | succ d ih =>
    intro k i hi hd hk
    obtain ⟨k, rfl⟩ : ∃ m, k = m + 1 := ⟨k - 1, by omega⟩
    have hlt : i < l.length := by omega
    have c1 : (i : Int) < (l.length : Int) := by omega
    have c2 : (0 : Int) ≤ i := by omega
    simp only [laws_heldFactS.l0, if_pos c1, if_pos c2, hm i hlt, mkF, bne_self_eq_false, Bool.false_eq_true, if_false, w64 ((i : Int) + 1) (by omega) (by omega), w64 (s0 + 3 * (i : Int) + 1) (by omega) (by omega), w64 (s0 + 3 * (i : Int) + 1 + 1) (by omega) (by omega), w64 (s0 + 3 * (i : Int) + 1 + 1 + 1) (by omega) (by omega)]
    rw [if_pos (by omega), show s0 + 3 * (i : Int) + 1 + 1 + 1 = s0 + 3 * ((i + 1 : Nat) : Int) by omega]
    exact ih k (i + 1) (by omega) (by omega) (by omega)
theorem heldFactS (l : List S75) (s0 : Int) (hl : l.length ≤ 1048576) (h0 : 0 ≤ s0) (h1 : s0 ≤ 1000000000000) (hm : ∀ j : Nat, j < l.length → rd_T75 l j = mkF (s0 + 3 * (j : Int))) (k : Nat) (hk : l.length < k) : laws_heldFactS.f k l s0 = some (s0 + 3 * (l.length : Int)) := by
  have := heldFactS_loop l s0 hl h0 h1 hm l.length k 0 (by omega) (by omega) (by omega)
  simpa [laws_heldFactS.f] using this

def okF (x : S75) : Bool := decide (0 ≤ x.f2 ∧ x.f2 ≤ 65535) && (x.f1 || x.f2 == 0) && !x.f0
theorem okF_is (x : S75) : ∃ g, spec_GoodFact.f x.f0 x.f1 x.f2 = some g ∧ (g && !x.f0) = okF x ∧ impl_areFacts_1.f x.f0 x.f1 x.f2 = some (!okF x) := by
  obtain ⟨a, b, c⟩ := x
  simp only [spec_GoodFact.f, spec_l1Word.f, inS, impl_areFacts_1.f, impl_isFact.f, impl_isWord.f, inI, okF, Option.bind_some]
  cases a <;> cases b <;> by_cases h1 : 0 ≤ c ∧ c ≤ 65535 <;> by_cases h2 : c = 0 <;> first | omega | simp [*] | (simp [*]; omega)
theorem facts_loop (l : List S75) (hl : l.length ≤ 4611686018427387904) (d : Nat) : ∀ (k i : Nat), i ≤ l.length → l.length - i = d → d < k →
    spec_l5Facts.l0 k l l (l.length : Int) i = some ((l.drop i).all okF && decide (l.length = 8)) := by
  induction d with
  | zero =>
    intro k i hi hd hk
    obtain ⟨k, rfl⟩ : ∃ m, k = m + 1 := ⟨k - 1, by omega⟩
    simp only [spec_l5Facts.l0]
    rw [if_neg (by omega), List.drop_of_length_le (by omega)]
    by_cases h8 : l.length = 8
    · simp [h8]
    · have : ¬((l.length : Int) = 8) := by omega
      simp [h8, this]
  | succ d ih =>
    intro k i hi hd hk
    obtain ⟨k, rfl⟩ : ∃ m, k = m + 1 := ⟨k - 1, by omega⟩
    have hlt : i < l.length := by omega
    simp only [spec_l5Facts.l0]
    rw [if_pos (by omega), if_pos (by omega), if_pos (by omega), w64 _ (by omega) (by omega), rd_at75 l i hlt, List.drop_eq_getElem_cons hlt, List.all_cons]
    obtain ⟨g, g1, g2, _⟩ := okF_is l[i]
    rw [g1, ← g2]
    simp only [Option.bind_some]
    cases g with
    | false => simp
    | true =>
      cases l[i].f0 with
      | true => simp
      | false => simpa using ih k (i + 1) (by omega) (by omega) (by omega)
def factsB (l : List S75) : Bool := l.all okF && decide (l.length = 8)
theorem spec_facts (l : List S75) (hl : l.length ≤ 4611686018427387904) (k : Nat) (hk : l.length < k) : spec_l5Facts.f k l = some (factsB l) := by
  have := facts_loop l hl l.length k 0 (by omega) (by omega) (by omega)
  simpa [spec_l5Facts.f, factsB] using this
theorem indexF_loop (l : List S75) (hl : l.length ≤ 4611686018427387904) (d : Nat) : ∀ (k i : Nat), i ≤ l.length → l.length - i = d → d < k →
    ∃ r, slices_IndexFunc_at80.l0 k l (l.length : Int) i = some r ∧ decide (r ≥ 0) = !(l.drop i).all okF := by
  induction d with
  | zero =>
    intro k i hi hd hk
    obtain ⟨k, rfl⟩ : ∃ m, k = m + 1 := ⟨k - 1, by omega⟩
    simp only [slices_IndexFunc_at80.l0]
    rw [if_neg (by omega), List.drop_of_length_le (by omega)]
    exact ⟨-1, rfl, by simp⟩
  | succ d ih =>
    intro k i hi hd hk
    obtain ⟨k, rfl⟩ : ∃ m, k = m + 1 := ⟨k - 1, by omega⟩
    have hlt : i < l.length := by omega
    simp only [slices_IndexFunc_at80.l0]
    rw [if_pos (by omega), if_pos (by omega), if_pos (by omega), w64 _ (by omega) (by omega), rd_at75 l i hlt, List.drop_eq_getElem_cons hlt, List.all_cons]
    obtain ⟨_, _, _, g3⟩ := okF_is l[i]
    rw [g3]
    cases okF l[i] with
    | true =>
      obtain ⟨r, h1, h2⟩ := ih k (i + 1) (by omega) (by omega) (by omega)
      exact ⟨r, by simpa using h1, by simpa using h2⟩
    | false => exact ⟨i, by simp, by simp⟩
theorem areFacts_eq (l : List S75) (k : Nat) (hk : 40 < k) : impl_areFacts.f k l = some (factsB l) := by
  unfold impl_areFacts.f factsB
  by_cases h : (l.length : Int) = 8
  · rw [if_pos h]
    obtain ⟨r, h1, h2⟩ := indexF_loop l (by omega) l.length k 0 (by omega) (by omega) (by omega)
    simp only [slices_ContainsFunc_at80.f, slices_IndexFunc_at80.f]
    rw [show (0 : Int) = ((0 : Nat) : Int) from rfl, h1]
    simp only [Option.bind_some]
    rw [show ((0 : Nat) : Int) = 0 from rfl, h2, show decide (l.length = 8) = true from decide_eq_true (by omega)]
    simp
  · rw [if_neg h, show decide (l.length = 8) = false from decide_eq_false (by omega)]
    simp

def dd (op a b : Int) : Int := if op = 3 then Go.bits .and .i64 (wrap64 (a + b)) 65535 else if op = 4 then Go.bits .and .i64 (wrap64 (a - b)) 65535 else if op = 5 then Go.bits .and .i64 (wrap64 (a * b)) 65535 else if op = 6 then (if a < b then 1 else 0) else (if a = b then 1 else 0)
theorem do_spec (op a b : Int) : spec_l3Do.f op a b = some (dd op a b) := by
  simp only [spec_l3Do.f, spec_l3Bit.f, dd]
  by_cases h1 : a < b <;> by_cases h2 : a = b <;> repeat' split
  all_goals first | rfl | omega | (simp_all; done) | (simp_all; omega)
theorem do_impl (op a b : Int) (h0 : 3 ≤ op) (h1 : op ≤ 7) : impl_reckon.f op a b = some (dd op a b) := by
  simp only [impl_reckon.f, dd]
  repeat' split
  all_goals first | rfl | omega
def isZ (x : S75) : Bool := !x.f0 && (x.f1 && (x.f2 == 0))
def two (op : Int) (a b : S75) : S75 := if (a.f1 && b.f1) = true then ⟨false, true, dd op a.f2 b.f2⟩ else if op = 5 then (if isZ a = true then ⟨false, true, 0⟩ else if isZ b = true then ⟨false, true, 0⟩ else ⟨false, false, 0⟩) else ⟨false, false, 0⟩
theorem two_spec (k : Nat) (hk : 0 < k) (op : Int) (a b : S75) : spec_l5Two.f k op a.f0 a.f1 a.f2 b.f0 b.f1 b.f2 = some ((two op a b).f0, (two op a b).f1, (two op a b).f2) := by
  obtain ⟨k, rfl⟩ : ∃ m, k = m + 1 := ⟨k - 1, by omega⟩
  obtain ⟨a0, a1, a2⟩ := a
  obtain ⟨b0, b1, b2⟩ := b
  simp only [spec_l5Two.f, spec_l5Two.j0, do_spec, Option.bind_some, two, isZ]
  cases a1 <;> cases b1 <;> cases a0 <;> cases b0 <;> by_cases h5 : op = 5 <;> by_cases z1 : a2 = 0 <;> by_cases z2 : b2 = 0 <;> simp [*]
theorem fact_impl (k : Nat) (hk : 0 < k) (op d a b n : Int) (l : List S75) (ha : 0 ≤ a ∧ a < l.length) (hb : 0 ≤ b ∧ b < l.length) (h1 : op ≠ 1) (h2 : op ≠ 2) (h3 : 3 ≤ op) (h7 : op ≤ 7) :
    impl_Instr_fact.f k op d a b n l = some ((two op (rd_T75 l a) (rd_T75 l b)).f0, (two op (rd_T75 l a) (rd_T75 l b)).f1, (two op (rd_T75 l a) (rd_T75 l b)).f2) := by
  obtain ⟨k, rfl⟩ : ∃ m, k = m + 1 := ⟨k - 1, by omega⟩
  simp only [impl_Instr_fact.f, impl_Instr_fact.j0, if_pos ha.1, if_pos ha.2, if_pos hb.1, if_pos hb.2, if_neg h1, if_neg h2, do_impl op _ _ h3 h7, Option.bind_some, two, isZ]
  generalize rd_T75 l a = x
  generalize rd_T75 l b = y
  obtain ⟨a0, a1, a2⟩ := x
  obtain ⟨b0, b1, b2⟩ := y
  cases a1 <;> cases b1 <;> cases a0 <;> cases b0 <;> by_cases h5 : op = 5 <;> by_cases z1 : a2 = 0 <;> by_cases z2 : b2 = 0 <;> simp [*]
def stp (l : List S75) (x : S65) : List S75 := if x.f0 = 1 then l.set x.f1.toNat ⟨false, true, x.f4⟩ else if x.f0 = 2 then l.set x.f1.toNat (rd_T75 l x.f2) else if 3 ≤ x.f0 ∧ x.f0 ≤ 7 then l.set x.f1.toNat (two x.f0 (rd_T75 l x.f2) (rd_T75 l x.f3)) else l
theorem stp_len (l : List S75) (x : S65) : (stp l x).length = l.length := by
  unfold stp
  repeat' split
  all_goals simp
theorem stps_len (c : List S65) : ∀ l : List S75, (c.foldl stp l).length = l.length := by
  induction c with
  | nil => intro l; rfl
  | cons x c ih => intro l; rw [List.foldl_cons, ih, stp_len]
theorem step_loops (c : List S65) (hc : c.length ≤ 30) (hg : c.all goodB = true) (d : Nat) : ∀ (k i : Nat) (l : List S75), l.length = 8 → i ≤ c.length → c.length - i = d → d + 3 < k →
    spec_l5Step.l0 k l c (c.length : Int) i = some ((c.drop i).foldl stp l) ∧ impl_stepFacts.l0 k l c (c.length : Int) i = some ((c.drop i).foldl stp l) := by
  induction d with
  | zero =>
    intro k i l hl hi hd hk
    obtain ⟨k, rfl⟩ : ∃ m, k = m + 1 := ⟨k - 1, by omega⟩
    have c1 : ¬((i : Int) < (c.length : Int)) := by omega
    simp only [spec_l5Step.l0, impl_stepFacts.l0, if_neg c1]
    rw [List.drop_of_length_le (by omega)]
    exact ⟨rfl, rfl⟩
  | succ d ih =>
    intro k i l hl hi hd hk
    obtain ⟨k, rfl⟩ : ∃ m, k = m + 1 := ⟨k - 1, by omega⟩
    have hlt : i < c.length := by omega
    have hgi : goodB c[i] = true := List.all_eq_true.1 hg _ (List.getElem_mem hlt)
    have c1 : (i : Int) < (c.length : Int) := by omega
    have c2 : (0 : Int) ≤ i := by omega
    simp only [spec_l5Step.l0, impl_stepFacts.l0, if_pos c1, if_pos c2, w64 ((i : Int) + 1) (by omega) (by omega), rd_at65 c i hlt, spec_l3Two.f, inS, Option.bind_some]
    rw [List.drop_eq_getElem_cons hlt, List.foldl_cons]
    have ih' := fun l hl => ih k (i + 1) l hl (by omega) (by omega) (by omega)
    generalize c[i] = x at *
    have hgi := of_decide_eq_true hgi
    obtain ⟨⟨d0, d1⟩, ⟨a0, a1⟩, ⟨b0, b1⟩, ⟨n0, n1⟩, ho⟩ := hgi
    have l1 : x.f1 < (l.length : Int) := by omega
    have l2 : x.f2 < (l.length : Int) := by omega
    have l3 : x.f3 < (l.length : Int) := by omega
    by_cases h1 : x.f0 = 1
    · have h8 : ¬(x.f0 = 8) := by omega
      simp only [if_pos h1, if_neg h8, if_pos d0, if_pos l1]
      have e : impl_Instr_fact.f k x.f0 x.f1 x.f2 x.f3 x.f4 l = some (false, true, x.f4) := by
        simp only [impl_Instr_fact.f, if_pos a0, if_pos l2, if_pos b0, if_pos l3, if_pos h1]
      rw [e]
      simp only [Option.bind_some]
      have es : stp l x = l.set x.f1.toNat ⟨false, true, x.f4⟩ := by unfold stp; rw [if_pos h1]
      rw [es]
      exact ih' _ (by simpa using hl)
    · by_cases h2 : x.f0 = 2
      · have h8 : ¬(x.f0 = 8) := by omega
        simp only [if_neg h1, if_pos h2, if_neg h8, if_pos d0, if_pos l1, if_pos a0, if_pos l2]
        have e : impl_Instr_fact.f k x.f0 x.f1 x.f2 x.f3 x.f4 l = some ((rd_T75 l x.f2).f0, (rd_T75 l x.f2).f1, (rd_T75 l x.f2).f2) := by
          simp only [impl_Instr_fact.f, if_pos a0, if_pos l2, if_pos b0, if_pos l3, if_neg h1, if_pos h2]
        rw [e]
        simp only [Option.bind_some]
        have es : stp l x = l.set x.f1.toNat (rd_T75 l x.f2) := by unfold stp; rw [if_neg h1, if_pos h2]
        rw [es]
        exact ih' _ (by simpa using hl)
      · by_cases h8 : x.f0 = 8
        · have h37 : ¬(3 ≤ x.f0 ∧ x.f0 ≤ 7) := by omega
          simp only [if_neg h1, if_neg h2, if_pos h8, decide_eq_true_eq, if_neg h37]
          have es : stp l x = l := by unfold stp; rw [if_neg h1, if_neg h2, if_neg h37]
          rw [es]
          exact ih' _ hl
        · have h37 : 3 ≤ x.f0 ∧ x.f0 ≤ 7 := by omega
          simp only [if_neg h1, if_neg h2, if_neg h8, decide_eq_true_eq, if_pos h37, if_pos d0, if_pos l1, if_pos a0, if_pos l2, if_pos b0, if_pos l3]
          rw [two_spec k (by omega), fact_impl k (by omega) x.f0 x.f1 x.f2 x.f3 x.f4 l ⟨a0, l2⟩ ⟨b0, l3⟩ h1 h2 h37.1 h37.2]
          simp only [Option.bind_some]
          have es : stp l x = l.set x.f1.toNat (two x.f0 (rd_T75 l x.f2) (rd_T75 l x.f3)) := by unfold stp; rw [if_neg h1, if_neg h2, if_pos h37]
          rw [es]
          exact ih' _ (by simpa using hl)
theorem steps_spec (c : List S65) (hc : c.length ≤ 30) (hg : c.all goodB = true) (l : List S75) (hl : l.length = 8) (k : Nat) (hk : 40 < k) : spec_l5Step.f k c l = some (c.foldl stp l) := by
  have := (step_loops c hc hg c.length k 0 l hl (by omega) (by omega) (by omega)).1
  simp only [spec_l5Step.f, Option.bind_some, List.length_nil, List.nil_append]
  rw [if_pos (by omega)]
  simpa using this
theorem steps_impl (c : List S65) (hc : c.length ≤ 30) (hg : c.all goodB = true) (l : List S75) (hl : l.length = 8) (k : Nat) (hk : 40 < k) : impl_stepFacts.f k c l = some (c.foldl stp l) := by
  have := (step_loops c hc hg c.length k 0 l hl (by omega) (by omega) (by omega)).2
  simp only [impl_stepFacts.f, Option.bind_some, List.length_nil, List.nil_append]
  rw [if_pos (by omega)]
  simpa using this

def toB (x : S81) : S87 := ⟨x.f0.map toI, x.f1, x.f2, x.f3⟩
theorem rd_at81 (l : List S81) (i : Nat) (h : i < l.length) : rd_T81 l i = l[i] := by
  simp [rd_T81, List.getD_eq_getElem?_getD, List.getElem?_eq_getElem h]
theorem rd_at87 (l : List S87) (i : Nat) (h : i < l.length) : rd_T87 l i = l[i] := by
  simp [rd_T87, List.getD_eq_getElem?_getD, List.getElem?_eq_getElem h]
theorem szI (c : List S67) (s : Int) (h0 : 0 ≤ s) (h1 : s ≤ 1048576) (hc : c.length ≤ 9223372036854775807) : ∃ r, laws_szInstrS.f c s = some r ∧ r ≤ 1048576 ∧ (r < 0 ∨ c.length ≤ 1048576) := by
  unfold laws_szInstrS.f
  rw [w64 _ (by omega) (by omega)]
  split
  · exact ⟨-1, rfl, by decide, .inl (by decide)⟩
  · exact ⟨_, rfl, by omega, .inr (by omega)⟩
theorem szBlockS_loop (l : List S81) (hl : l.length ≤ 1048576) (hin : ∀ i : Nat, i < l.length → (rd_T81 l i).f0.length ≤ 9223372036854775807) (d : Nat) : ∀ (k i : Nat) (s : Int), 0 ≤ s → s ≤ 1048576 → i ≤ l.length → l.length - i = d → d < k →
    ∃ r, laws_szBlockS.l0 k l s i = some r ∧ (r < 0 ∨ ∀ j : Nat, i ≤ j → j < l.length → (rd_T81 l j).f0.length ≤ 1048576) := by
  induction d with
  | zero =>
    intro k i s h0 h1 hi hd hk
    obtain ⟨k, rfl⟩ : ∃ m, k = m + 1 := ⟨k - 1, by omega⟩
    simp only [laws_szBlockS.l0]
    rw [if_neg (by omega)]
    exact ⟨s, rfl, .inr fun j a b => by omega⟩
  | succ d ih =>
    intro k i s h0 h1 hi hd hk
    obtain ⟨k, rfl⟩ : ∃ m, k = m + 1 := ⟨k - 1, by omega⟩
    obtain ⟨r, e1, e2, e3⟩ := szI (rd_T81 l i).f0 s h0 h1 (hin i (by omega))
    simp only [laws_szBlockS.l0, laws_szBlock.f, e1, Option.bind_some]
    rw [if_pos (by omega), if_pos (by omega), w64 _ (by omega) (by omega)]
    by_cases hr : r < 0
    · rw [if_pos hr]
      exact ⟨-1, by simp, .inl (by decide)⟩
    · rw [if_neg hr]
      simp only [Option.bind_some]
      rw [if_neg hr]
      obtain ⟨r2, f1, f2⟩ := ih k (i + 1) r (by omega) e2 (by omega) (by omega) (by omega)
      refine ⟨r2, f1, ?_⟩
      rcases f2 with f2 | f2
      · exact .inl f2
      · refine .inr fun j a b => ?_
        by_cases hj : j = i
        · subst hj; omega
        · exact f2 j (by omega) b
theorem szBlockS (l : List S81) (hl : l.length ≤ 9223372036854775807) (hin : ∀ i : Nat, i < l.length → (rd_T81 l i).f0.length ≤ 9223372036854775807) (k : Nat) (hk : 1048577 < k) : ∃ r, laws_szBlockS.f k l 1048576 = some r ∧ (r < 0 ∨ l.length ≤ 1048576 ∧ ∀ x ∈ l, x.f0.length ≤ 1048576) := by
  unfold laws_szBlockS.f
  rw [w64 _ (by omega) (by omega)]
  by_cases h : (1048576 : Int) - (l.length : Int) < 0
  · rw [if_pos h]
    exact ⟨-1, rfl, .inl (by decide)⟩
  · rw [if_neg h]
    obtain ⟨r, e1, e2⟩ := szBlockS_loop l (by omega) hin l.length k 0 (1048576 - (l.length : Int)) (by omega) (by omega) (by omega) (by omega) (by omega)
    refine ⟨r, e1, ?_⟩
    rcases e2 with e2 | e2
    · exact .inl e2
    · refine .inr ⟨by omega, fun x hx => ?_⟩
      obtain ⟨j, hj, rfl⟩ := List.getElem_of_mem hx
      have := e2 j (by omega) hj
      rwa [rd_at81 l j hj] at this
theorem toBlockS_loop (l : List S81) (hl : l.length ≤ 1048576) (hc : ∀ x ∈ l, x.f0.length ≤ 1048576) (d : Nat) : ∀ (k i : Nat) (m : List S87), m.length = l.length → i ≤ l.length → l.length - i = d → d + 1048578 < k → m.take i = (l.map toB).take i → laws_toBlockS.l0 k l m i = some (l.map toB) := by
  induction d with
  | zero =>
    intro k i m hm hi hd hk ht
    obtain ⟨k, rfl⟩ : ∃ m, k = m + 1 := ⟨k - 1, by omega⟩
    simp only [laws_toBlockS.l0]
    rw [if_neg (by omega)]
    rw [List.take_of_length_le (by omega), List.take_of_length_le (by simp; omega)] at ht
    rw [ht]
  | succ d ih =>
    intro k i m hm hi hd hk ht
    obtain ⟨k, rfl⟩ : ∃ m, k = m + 1 := ⟨k - 1, by omega⟩
    have hlt : i < l.length := by omega
    have hci := hc l[i] (List.getElem_mem hlt)
    simp only [laws_toBlockS.l0, laws_toBlock.f, rd_at81 l i hlt, toInstrS l[i].f0 hci k (by omega), Option.bind_some]
    rw [if_pos (by omega), if_pos (by omega), if_pos (by omega), w64 _ (by omega) (by omega)]
    refine ih k (i + 1) (m.set ((i : Int)).toNat (toB l[i])) (by simpa using hm) (by omega) (by omega) (by omega) ?_
    rw [Int.toNat_natCast, List.take_succ_eq_append_getElem (by rw [List.length_set]; omega), List.take_succ_eq_append_getElem (by simpa using hlt), List.take_set_of_le (Nat.le_refl _), ht]
    simp
theorem toBlockS (l : List S81) (hl : l.length ≤ 1048576) (hc : ∀ x ∈ l, x.f0.length ≤ 1048576) (k : Nat) (hk : 2097160 < k) : laws_toBlockS.f k l = some (l.map toB) := by
  unfold laws_toBlockS.f
  rw [if_pos (by omega), if_pos (by omega)]
  exact toBlockS_loop l hl hc l.length k 0 _ (by simp) (by omega) (by omega) (by omega) (by simp)
theorem eqBlockS_loop (l : List S87) (hl : l.length ≤ 1048576) (hc : ∀ x ∈ l, x.f0.length ≤ 1048576) (d : Nat) : ∀ (k i : Nat), i ≤ l.length → l.length - i = d → d + 1048578 < k → laws_eqBlockS.l0 k l l i = some true := by
  induction d with
  | zero =>
    intro k i hi hd hk
    obtain ⟨k, rfl⟩ : ∃ m, k = m + 1 := ⟨k - 1, by omega⟩
    simp only [laws_eqBlockS.l0]
    rw [if_neg (by omega)]
  | succ d ih =>
    intro k i hi hd hk
    obtain ⟨k, rfl⟩ : ∃ m, k = m + 1 := ⟨k - 1, by omega⟩
    have hlt : i < l.length := by omega
    have hci := hc l[i] (List.getElem_mem hlt)
    simp only [laws_eqBlockS.l0, laws_eqBlock.f, rd_at87 l i hlt, eqInstrS l[i].f0 (by omega) k (by omega), if_true, Option.bind_some]
    rw [if_pos (by omega), if_pos (by omega), if_pos (by omega), w64 _ (by omega) (by omega)]
    exact ih k (i + 1) (by omega) (by omega) (by omega)
theorem eqBlockS (l : List S87) (hl : l.length ≤ 1048576) (hc : ∀ x ∈ l, x.f0.length ≤ 1048576) (k : Nat) (hk : 2097160 < k) : laws_eqBlockS.f k l l = some true := by
  unfold laws_eqBlockS.f
  rw [if_pos rfl]
  exact eqBlockS_loop l hl hc l.length k 0 (by omega) (by omega) (by omega)

def blockB (n : Int) (b : S87) : Bool := codeB b.f0 && (decide (0 ≤ b.f1 ∧ b.f1 ≤ 7) && (decide (-1 ≤ b.f2 ∧ b.f2 ≤ n - 1) && decide (-1 ≤ b.f3 ∧ b.f3 ≤ n - 1)))
theorem block_impl (n : Int) (b : S87) (k : Nat) (hk : 40 < k) (h0 : 0 ≤ n) (h1 : n ≤ 1048576) : impl_isFlow_1.f k b.f0 b.f1 b.f2 b.f3 n = some (!blockB n b) := by
  simp only [impl_isFlow_1.f, impl_isName.f, isCode_eq b.f0 k hk, inI, Option.bind_some, w64 (n - 1) (by omega) (by omega), blockB]
  cases codeB b.f0 <;> by_cases h2 : 0 ≤ b.f1 ∧ b.f1 ≤ 7 <;> by_cases h3 : -1 ≤ b.f2 ∧ b.f2 ≤ n - 1 <;> simp [h2, h3]
theorem flow_loop (l : List S87) (hl : l.length ≤ 1048576) (hc : ∀ x ∈ l, x.f0.length ≤ 1048576) (d : Nat) : ∀ (k i : Nat), i ≤ l.length → l.length - i = d → d + 1048578 < k →
    spec_GoodFlow.l0 k l l (l.length : Int) i = some ((l.drop i).all (blockB (l.length : Int)) && decide (1 ≤ (l.length : Int) ∧ (l.length : Int) ≤ 8)) := by
  induction d with
  | zero =>
    intro k i hi hd hk
    obtain ⟨k, rfl⟩ : ∃ m, k = m + 1 := ⟨k - 1, by omega⟩
    simp only [spec_GoodFlow.l0, inS]
    rw [if_neg (by omega), List.drop_of_length_le (by omega)]
    simp
  | succ d ih =>
    intro k i hi hd hk
    obtain ⟨k, rfl⟩ : ∃ m, k = m + 1 := ⟨k - 1, by omega⟩
    have hlt : i < l.length := by omega
    have hci := hc l[i] (List.getElem_mem hlt)
    have c1 : (i : Int) < (l.length : Int) := by omega
    have c2 : (0 : Int) ≤ i := by omega
    simp only [spec_GoodFlow.l0, spec_l3Name.f, rd_at87 l i hlt, spec_good l[i].f0 (by omega) k (by omega), inS, Option.bind_some, if_pos c1, if_pos c2, w64 ((i : Int) + 1) (by omega) (by omega), w64 ((l.length : Int) - 1) (by omega) (by omega)]
    rw [List.drop_eq_getElem_cons hlt, List.all_cons]
    have ih' := ih k (i + 1) (by omega) (by omega) (by omega)
    rw [show (i : Int) + 1 = ((i + 1 : Nat) : Int) by omega, ih']
    generalize (l.drop (i + 1)).all (blockB (l.length : Int)) = R
    generalize (l.length : Int) = n at *
    simp only [blockB]
    cases codeB l[i].f0 <;> by_cases h2 : 0 ≤ l[i].f1 ∧ l[i].f1 ≤ 7 <;> by_cases h3 : -1 ≤ l[i].f2 ∧ l[i].f2 ≤ n - 1 <;> by_cases h4 : -1 ≤ l[i].f3 ∧ l[i].f3 ≤ n - 1 <;> simp [h2, h3, h4]
theorem indexB_loop (l : List S87) (hl : l.length ≤ 1048576) (d : Nat) : ∀ (k i : Nat), i ≤ l.length → l.length - i = d → d + 41 < k →
    ∃ r, slices_IndexFunc_at85.l0 k l (l.length : Int) i (l.length : Int) = some r ∧ decide (r ≥ 0) = !(l.drop i).all (blockB (l.length : Int)) := by
  induction d with
  | zero =>
    intro k i hi hd hk
    obtain ⟨k, rfl⟩ : ∃ m, k = m + 1 := ⟨k - 1, by omega⟩
    simp only [slices_IndexFunc_at85.l0]
    rw [if_neg (by omega), List.drop_of_length_le (by omega)]
    exact ⟨-1, rfl, by simp⟩
  | succ d ih =>
    intro k i hi hd hk
    obtain ⟨k, rfl⟩ : ∃ m, k = m + 1 := ⟨k - 1, by omega⟩
    have hlt : i < l.length := by omega
    simp only [slices_IndexFunc_at85.l0, block_impl (l.length : Int) _ k (by omega) (by omega) (by omega), Option.bind_some]
    rw [if_pos (by omega), if_pos (by omega), if_pos (by omega), w64 _ (by omega) (by omega), rd_at87 l i hlt, List.drop_eq_getElem_cons hlt, List.all_cons]
    cases blockB (l.length : Int) l[i] with
    | true =>
      obtain ⟨r, h1, h2⟩ := ih k (i + 1) (by omega) (by omega) (by omega)
      exact ⟨r, by simpa using h1, by simpa using h2⟩
    | false => exact ⟨i, by simp, by simp⟩
def flowB (l : List S87) : Bool := l.all (blockB (l.length : Int)) && decide (1 ≤ (l.length : Int) ∧ (l.length : Int) ≤ 8)
theorem spec_flow (l : List S87) (hl : l.length ≤ 1048576) (hc : ∀ x ∈ l, x.f0.length ≤ 1048576) (k : Nat) (hk : 2097160 < k) : spec_GoodFlow.f k l = some (flowB l) := by
  have := flow_loop l hl hc l.length k 0 (by omega) (by omega) (by omega)
  simpa [spec_GoodFlow.f, flowB] using this
theorem isFlow_eq (l : List S87) (k : Nat) (hk : 100 < k) : impl_isFlow.f k l = some (flowB l) := by
  simp only [impl_isFlow.f, inI, Option.bind_some, flowB, decide_eq_true_eq]
  by_cases h : 1 ≤ (l.length : Int) ∧ (l.length : Int) ≤ 8
  · obtain ⟨r, h1, h2⟩ := indexB_loop l (by omega) l.length k 0 (by omega) (by omega) (by omega)
    simp only [slices_ContainsFunc_at85.f, slices_IndexFunc_at85.f]
    rw [show (0 : Int) = ((0 : Nat) : Int) from rfl, h1]
    simp only [Option.bind_some]
    rw [show ((0 : Nat) : Int) = 0 from rfl, h2, if_pos h]
    simp [h]
  · rw [if_neg h]
    simp [h]

theorem szI2 (c : List S67) (s : Int) (h0 : 0 ≤ s) (h1 : s ≤ 1048576) (hc : c.length ≤ 9223372036854775807) : ∃ r, laws_szInstrS.f c s = some r ∧ r ≤ 1048576 ∧ (r < 0 ∨ (c.length : Int) + r = s) := by
  unfold laws_szInstrS.f
  rw [w64 _ (by omega) (by omega)]
  split
  · exact ⟨-1, rfl, by decide, .inl (by decide)⟩
  · exact ⟨_, rfl, by omega, .inr (by omega)⟩
def sumK (l : List S81) : Nat := (l.map fun x => x.f0.length).sum
def sumB (l : List S87) : Nat := (l.map fun x => x.f0.length).sum
theorem sumB_mem (l : List S87) : ∀ x ∈ l, x.f0.length ≤ sumB l := by
  induction l with
  | nil => intro x hx; cases hx
  | cons y l ih =>
    intro x hx
    have e : sumB (y :: l) = y.f0.length + sumB l := by simp [sumB]
    rcases List.mem_cons.1 hx with rfl | h
    · omega
    · have := ih x h
      omega
theorem sum_map (l : List S81) : sumB (l.map toB) = sumK l := by
  induction l with
  | nil => rfl
  | cons y l ih =>
    have e1 : sumB ((y :: l).map toB) = (toB y).f0.length + sumB (l.map toB) := by simp [sumB]
    have e2 : sumK (y :: l) = y.f0.length + sumK l := by simp [sumK]
    rw [e1, e2, ih]
    simp [toB]
theorem szSum_loop (l : List S81) (hl : l.length ≤ 1048576) (hin : ∀ i : Nat, i < l.length → (rd_T81 l i).f0.length ≤ 9223372036854775807) (d : Nat) : ∀ (k i : Nat) (s : Int), 0 ≤ s → s ≤ 1048576 → i ≤ l.length → l.length - i = d → d < k →
    ∃ r, laws_szBlockS.l0 k l s i = some r ∧ (r < 0 ∨ (sumK (l.drop i) : Int) + r = s) := by
  induction d with
  | zero =>
    intro k i s h0 h1 hi hd hk
    obtain ⟨k, rfl⟩ : ∃ m, k = m + 1 := ⟨k - 1, by omega⟩
    simp only [laws_szBlockS.l0]
    rw [if_neg (by omega), List.drop_of_length_le (by omega)]
    exact ⟨s, rfl, .inr (by simp [sumK])⟩
  | succ d ih =>
    intro k i s h0 h1 hi hd hk
    obtain ⟨k, rfl⟩ : ∃ m, k = m + 1 := ⟨k - 1, by omega⟩
    have hlt : i < l.length := by omega
    obtain ⟨r, e1, e2, e3⟩ := szI2 (rd_T81 l i).f0 s h0 h1 (hin i (by omega))
    simp only [laws_szBlockS.l0, laws_szBlock.f, e1, Option.bind_some]
    rw [if_pos (by omega), if_pos (by omega), w64 _ (by omega) (by omega)]
    by_cases hr : r < 0
    · rw [if_pos hr]
      exact ⟨-1, by simp, .inl (by decide)⟩
    · rw [if_neg hr]
      simp only [Option.bind_some]
      rw [if_neg hr]
      obtain ⟨r2, f1, f2⟩ := ih k (i + 1) r (by omega) e2 (by omega) (by omega) (by omega)
      refine ⟨r2, f1, ?_⟩
      have e4 : sumK (l.drop i) = (rd_T81 l i).f0.length + sumK (l.drop (i + 1)) := by
        rw [List.drop_eq_getElem_cons hlt, rd_at81 l i hlt]
        show ((l[i] :: l.drop (i + 1)).map fun x => x.f0.length).sum = _
        rw [List.map_cons, List.sum_cons]
        rfl
      omega
theorem szBlockS2 (l : List S81) (hl : l.length ≤ 9223372036854775807) (hin : ∀ i : Nat, i < l.length → (rd_T81 l i).f0.length ≤ 9223372036854775807) (k : Nat) (hk : 1048577 < k) : ∃ r, laws_szBlockS.f k l 1048576 = some r ∧ (r < 0 ∨ l.length ≤ 1048576 ∧ sumB (l.map toB) ≤ 1048576) := by
  unfold laws_szBlockS.f
  rw [w64 _ (by omega) (by omega)]
  by_cases h : (1048576 : Int) - (l.length : Int) < 0
  · rw [if_pos h]
    exact ⟨-1, rfl, .inl (by decide)⟩
  · rw [if_neg h]
    obtain ⟨r, e1, e2⟩ := szSum_loop l (by omega) hin l.length k 0 (1048576 - (l.length : Int)) (by omega) (by omega) (by omega) (by omega) (by omega)
    refine ⟨r, e1, ?_⟩
    rw [sum_map]
    rw [List.drop_zero] at e2
    omega
theorem markBlockS_loop (d : Nat) : ∀ (k : Nat) (l : List S87) (i : Nat) (s : Int), l.length ≤ 1048576 → sumB (l.drop i) ≤ 1048576 → i ≤ l.length → l.length - i = d → d + 1048580 < k → 0 ≤ s → s + 5 * (sumB (l.drop i) : Int) + 3 * (d : Int) ≤ 1000000000 →
    laws_markBlockS.l0 k l s i = some (s + 5 * (sumB (l.drop i) : Int) + 3 * (d : Int)) := by
  induction d with
  | zero =>
    intro k l i s hl hs hi hd hk h0 h1
    obtain ⟨k, rfl⟩ : ∃ m, k = m + 1 := ⟨k - 1, by omega⟩
    simp only [laws_markBlockS.l0]
    rw [if_neg (by omega), List.drop_of_length_le (by omega)]
    simp [sumB]
  | succ d ih =>
    intro k l i s hl hs hi hd hk h0 h1
    obtain ⟨k, rfl⟩ : ∃ m, k = m + 1 := ⟨k - 1, by omega⟩
    have hlt : i < l.length := by omega
    have e4 : sumB (l.drop i) = l[i].f0.length + sumB (l.drop (i + 1)) := by
      rw [List.drop_eq_getElem_cons hlt]
      show ((l[i] :: l.drop (i + 1)).map fun x => x.f0.length).sum = _
      rw [List.map_cons, List.sum_cons]
      rfl
    obtain ⟨c', g1⟩ := markInstrS l[i].f0 (by omega) s h0 (by omega) k (by omega)
    simp only [laws_markBlockS.l0, rd_at87 l i hlt, g1, Option.bind_some]
    rw [if_pos (by omega), if_pos (by omega), w64 ((i : Int) + 1) (by omega) (by omega), w64 (s + 5 * (l[i].f0.length : Int) + 1) (by omega) (by omega), w64 (s + 5 * (l[i].f0.length : Int) + 1 + 1) (by omega) (by omega), w64 (s + 5 * (l[i].f0.length : Int) + 1 + 1 + 1) (by omega) (by omega)]
    generalize hv : l.set (i : Int).toNat _ = l2
    have hv2 : l2.length = l.length := by rw [← hv]; simp
    have hv3 : l2.drop (i + 1) = l.drop (i + 1) := by
      rw [← hv, Int.toNat_natCast, List.drop_set_of_lt (by omega)]
    have := ih k l2 (i + 1) (s + 5 * (l[i].f0.length : Int) + 1 + 1 + 1) (by omega) (by rw [hv3]; omega) (by omega) (by omega) (by omega) (by omega) (by rw [hv3]; omega)
    rw [show (i : Int) + 1 = ((i + 1 : Nat) : Int) by omega, this, hv3, e4]
    congr 1
    omega
theorem markBlockS (l : List S87) (hl : l.length ≤ 1048576) (hs : sumB l ≤ 1048576) (k : Nat) (hk : 2097160 < k) : ∃ r, laws_markBlockS.f k l 1 = some r ∧ 0 ≤ r ∧ r ≤ 100000000 := by
  have := markBlockS_loop l.length k l 0 1 hl (by simpa using hs) (by omega) (by omega) (by omega) (by omega) (by rw [List.drop_zero]; omega)
  rw [List.drop_zero] at this
  exact ⟨_, this, by omega, by omega⟩

def Ev {α : Type} (f : Nat → Option α) (r : α) : Prop := ∃ K, ∀ k, K ≤ k → f k = some r
theorem Ev.step {α : Type} {f g : Nat → Option α} {r : α} (hg : Ev g r) (h : ∀ k, f (k + 1) = g k) : Ev f r := by
  obtain ⟨K, hK⟩ := hg
  refine ⟨K + 1, fun k hk => ?_⟩
  obtain ⟨k, rfl⟩ : ∃ m, k = m + 1 := ⟨k - 1, by omega⟩
  rw [h k]
  exact hK k (by omega)
theorem Ev.stepFrom {α : Type} {f g : Nat → Option α} {r : α} (hg : Ev g r) (L : Nat) (h : ∀ k, L ≤ k → f (k + 1) = g k) : Ev f r := by
  obtain ⟨K, hK⟩ := hg
  refine ⟨K + L + 1, fun k hk => ?_⟩
  obtain ⟨k, rfl⟩ : ∃ m, k = m + 1 := ⟨k - 1, by omega⟩
  rw [h k (by omega)]
  exact hK k (by omega)
theorem Ev.same {α : Type} {f : Nat → Option α} {r : α} (r' : α) (h : r = r') (hf : Ev f r) : Ev f r' := h ▸ hf

theorem eqF {x y : S75} (h0 : x.f0 = y.f0) (h1 : x.f1 = y.f1) (h2 : x.f2 = y.f2) : x = y := by
  obtain ⟨a, b, c⟩ := x
  obtain ⟨d, e, f⟩ := y
  simp only at h0 h1 h2
  subst h0 h1 h2
  rfl
def jn (a b : S75) : S75 := if a.f0 = true then b else if b.f0 = true then a else if (a.f0 == b.f0 && (a.f1 == b.f1 && (a.f2 == b.f2))) = true then a else ⟨false, false, 0⟩
theorem jn_spec (a b : S75) : spec_l5Join.f a.f0 a.f1 a.f2 b.f0 b.f1 b.f2 = some ((jn a b).f0, (jn a b).f1, (jn a b).f2) := by
  simp only [spec_l5Join.f, jn]
  repeat' split
  all_goals rfl
theorem jn_impl (a b : S75) : impl_joinFacts.f a.f0 a.f1 a.f2 b.f0 b.f1 b.f2 = some ((jn a b).f0, (jn a b).f1, (jn a b).f2) := by
  simp only [impl_joinFacts.f, jn]
  repeat' split
  all_goals rfl
def chg (y x : S75) : Bool := !(y.f0 == x.f0) || (!(y.f1 == x.f1) || !(y.f2 == x.f2))
theorem chg_no {y x : S75} (h : ¬ chg y x = true) : y = x := by
  obtain ⟨a, b, c⟩ := y
  obtain ⟨d, e, f⟩ := x
  simp only [chg, Bool.or_eq_true, Bool.not_eq_true', beq_eq_false_iff_ne, ne_eq, not_or, Decidable.not_not] at h
  obtain ⟨h0, h1, h2⟩ := h
  subst h0 h1 h2
  rfl
theorem chg_self (x : S75) : ¬ chg x x = true := by simp [chg]
/-- A fact as it is kept: Top says nothing else, and what is not known has no number. -/
def wfF (x : S75) : Prop := (x.f0 = true → x.f1 = false) ∧ (x.f1 = false → x.f2 = 0)
theorem jn_wf {a b : S75} (ha : wfF a) (hb : wfF b) : wfF (jn a b) := by
  unfold jn
  repeat' split
  · exact hb
  · exact ha
  · exact ha
  · exact ⟨fun h => (by cases h), fun _ => rfl⟩
theorem jn_idem {a b : S75} (ha : wfF a) (hb : wfF b) : jn (jn a b) b = jn a b := by
  obtain ⟨a0, a1, a2⟩ := a
  obtain ⟨b0, b1, b2⟩ := b
  obtain ⟨h1, h2⟩ := ha
  obtain ⟨g1, g2⟩ := hb
  simp only at h1 h2 g1 g2
  cases a0 <;> cases b0 <;> cases a1 <;> cases b1 <;> simp_all [jn]
  all_goals (by_cases e : a2 = b2 <;> simp_all)
def ht (x : S75) : Nat := if x.f0 = true then 2 else if x.f1 = true then 1 else 0
theorem jn_ht {a b : S75} (ha : wfF a) (hb : wfF b) (h : chg (jn a b) a = true) : ht (jn a b) < ht a := by
  obtain ⟨a0, a1, a2⟩ := a
  obtain ⟨b0, b1, b2⟩ := b
  obtain ⟨h1, h2⟩ := ha
  obtain ⟨g1, g2⟩ := hb
  simp only at h1 h2 g1 g2
  cases a0 <;> cases b0 <;> cases a1 <;> cases b1 <;> simp_all [jn, ht, chg]
  all_goals (by_cases e : a2 = b2 <;> simp_all)

def rowB (l : List S75) : Prop := l.length = 8 ∧ ∀ x ∈ l, wfF x
def OKX (n : Nat) (X : List (List S75)) : Prop := X.length = n ∧ ∀ r ∈ X, rowB r
theorem rdF_nat (l : List S75) (i : Nat) (h : i < l.length) : rd_T75 l (i : Int) = l[i] := by
  simp [rd_T75, List.getD_eq_getElem?_getD, List.getElem?_eq_getElem h]
theorem rdL_nat (X : List (List S75)) (i : Nat) (h : i < X.length) : rd_L10 X (i : Int) = X[i] := by
  simp [rd_L10, List.getD_eq_getElem?_getD, List.getElem?_eq_getElem h]
theorem rowB_rd {l : List S75} (h : rowB l) (i : Nat) (hi : i < 8) : wfF (rd_T75 l (i : Int)) := by
  rw [rdF_nat l i (by have := h.1; omega)]
  exact h.2 _ (List.getElem_mem _)
theorem OKX_rd {n : Nat} {X : List (List S75)} (h : OKX n X) (t : Nat) (ht : t < n) : rowB (rd_L10 X (t : Int)) := by
  rw [rdL_nat X t (by have := h.1; omega)]
  exact h.2 _ (List.getElem_mem _)
theorem rowB_set {l : List S75} (h : rowB l) (i : Nat) {y : S75} (hy : wfF y) : rowB (l.set i y) := by
  refine ⟨by simpa using h.1, fun x hx => ?_⟩
  rcases List.mem_or_eq_of_mem_set hx with h1 | h1
  · exact h.2 x h1
  · exact h1 ▸ hy
theorem OKX_set {n : Nat} {X : List (List S75)} (h : OKX n X) (t : Nat) {r : List S75} (hr : rowB r) : OKX n (X.set t r) := by
  refine ⟨by simpa using h.1, fun x hx => ?_⟩
  rcases List.mem_or_eq_of_mem_set hx with h1 | h1
  · exact h.2 x h1
  · exact h1 ▸ hr
theorem rdL_set (X : List (List S75)) (t : Nat) (r : List S75) (h : t < X.length) : rd_L10 (X.set t r) (t : Int) = r := by
  rw [rdL_nat _ t (by simpa using h)]
  simp
theorem rdF_set (l : List S75) (i j : Nat) (y : S75) (h : j < l.length) : rd_T75 (l.set i y) (j : Int) = if i = j then y else rd_T75 l (j : Int) := by
  rw [rdF_nat _ j (by simpa using h), rdF_nat _ j h, List.getElem_set]
/-- What is kept of a row that is joined. -/
def jy (o : List S75) (X : List (List S75)) (t i : Nat) : S75 := jn (rd_T75 (rd_L10 X (t : Int)) (i : Int)) (rd_T75 o (i : Int))
def inn (o : List S75) (t : Nat) : Nat → Nat → List (List S75) × Bool → List (List S75) × Bool
  | 0, _, T => T
  | d + 1, i, T => if chg (jy o T.1 t i) (rd_T75 (rd_L10 T.1 (t : Int)) (i : Int)) = true then inn o t d (i + 1) (T.1.set t ((rd_L10 T.1 (t : Int)).set i (jy o T.1 t i)), true) else inn o t d (i + 1) T
theorem jy_wf {n : Nat} {o : List S75} {X : List (List S75)} (hX : OKX n X) (ho : rowB o) {t i : Nat} (ht : t < n) (hi : i < 8) : wfF (jy o X t i) := jn_wf (rowB_rd (OKX_rd hX t ht) i hi) (rowB_rd ho i hi)
theorem inn_ok {n : Nat} {o : List S75} (ho : rowB o) {t : Nat} (ht : t < n) (d : Nat) : ∀ (i : Nat) (T : List (List S75) × Bool), i + d ≤ 8 → OKX n T.1 → OKX n (inn o t d i T).1 := by
  induction d with
  | zero => intro i T _ h; exact h
  | succ d ih =>
    intro i T hi h
    simp only [inn]
    split
    · exact ih _ _ (by omega) (OKX_set h t (rowB_set (OKX_rd h t ht) i (jy_wf h ho ht (by omega))))
    · exact ih _ _ (by omega) h
theorem inn_rd {n : Nat} {o : List S75} (ho : rowB o) {t : Nat} (ht : t < n) (d : Nat) : ∀ (i : Nat) (T : List (List S75) × Bool), i + d ≤ 8 → OKX n T.1 → ∀ j : Nat, j < 8 →
    rd_T75 (rd_L10 (inn o t d i T).1 (t : Int)) (j : Int) = if i ≤ j ∧ j < i + d then jy o T.1 t j else rd_T75 (rd_L10 T.1 (t : Int)) (j : Int) := by
  induction d with
  | zero => intro i T _ h j hj; rw [if_neg (by omega)]; rfl
  | succ d ih =>
    intro i T hi h j hj
    have hr := OKX_rd h t ht
    have hX : t < T.1.length := by have := h.1; omega
    simp only [inn]
    split
    · rename_i hc
      rw [ih _ _ (by omega) (OKX_set h t (rowB_set hr i (jy_wf h ho ht (by omega)))) j hj]
      simp only [jy, rdL_set T.1 t _ hX, rdF_set _ i j _ (show j < (rd_L10 T.1 (t : Int)).length by have := hr.1; omega)]
      by_cases e : i = j
      · subst e
        rw [if_neg (by omega), if_pos rfl, if_pos (by omega)]
      · rw [if_neg e]
        by_cases c : i + 1 ≤ j ∧ j < i + 1 + d
        · rw [if_pos c, if_pos (by omega)]
        · rw [if_neg c, if_neg (by omega)]
    · rename_i hc
      rw [ih _ _ (by omega) h j hj]
      by_cases e : i = j
      · subst e
        rw [if_neg (by omega), if_pos (by omega)]
        exact (chg_no hc).symm
      · by_cases c : i + 1 ≤ j ∧ j < i + 1 + d
        · rw [if_pos c, if_pos (by omega)]
        · rw [if_neg c, if_neg (by omega)]
theorem inn_same (o : List S75) (t : Nat) (d : Nat) : ∀ (i : Nat) (T : List (List S75) × Bool), (∀ j, i ≤ j → j < i + d → ¬ chg (jy o T.1 t j) (rd_T75 (rd_L10 T.1 (t : Int)) (j : Int)) = true) → inn o t d i T = T := by
  induction d with
  | zero => intro i T _; rfl
  | succ d ih =>
    intro i T h
    simp only [inn]
    rw [if_neg (h i (by omega) (by omega))]
    exact ih _ _ (fun j h1 h2 => h j (by omega) (by omega))
theorem inn_idem {n : Nat} {o : List S75} (ho : rowB o) {t : Nat} (ht : t < n) {T : List (List S75) × Bool} (h : OKX n T.1) : inn o t 8 0 (inn o t 8 0 T) = inn o t 8 0 T := by
  refine inn_same o t 8 0 _ (fun j _ hj => ?_)
  have hj8 : j < 8 := by omega
  have e := inn_rd ho ht 8 0 T (by omega) h j hj8
  rw [if_pos (by omega)] at e
  unfold jy
  rw [e]
  unfold jy
  rw [jn_idem (rowB_rd (OKX_rd h t ht) j hj8) (rowB_rd ho j hj8)]
  exact chg_self _
/-- How much can still be told. -/
def hR (l : List S75) : Nat := (l.map ht).sum
def hX (X : List (List S75)) : Nat := (X.map hR).sum
theorem sum_set_lt (l : List Nat) : ∀ (i v : Nat) (h : i < l.length), v < l[i] → (l.set i v).sum < l.sum := by
  induction l with
  | nil => intro i v h; simp at h
  | cons a l ih =>
    intro i v h hv
    cases i with
    | zero => simp only [List.set_cons_zero, List.sum_cons, List.getElem_cons_zero] at hv ⊢; omega
    | succ i =>
      simp only [List.set_cons_succ, List.sum_cons, List.getElem_cons_succ] at hv ⊢
      have := ih i v (by simpa using h) hv
      omega
theorem hX_set {n : Nat} {X : List (List S75)} (h : OKX n X) {t i : Nat} (ht' : t < n) (hi : i < 8) {y : S75} (hy : ht y < ht (rd_T75 (rd_L10 X (t : Int)) (i : Int))) : hX (X.set t ((rd_L10 X (t : Int)).set i y)) < hX X := by
  have hXl : t < X.length := by have := h.1; omega
  have hr := OKX_rd h t ht'
  have hl : i < (rd_L10 X (t : Int)).length := by have := hr.1; omega
  rw [rdF_nat _ i hl] at hy
  unfold hX
  rw [List.map_set]
  refine sum_set_lt _ _ _ (by simpa using hXl) ?_
  rw [List.getElem_map]
  have e : X[t] = rd_L10 X (t : Int) := (rdL_nat X t hXl).symm
  rw [e]
  unfold hR
  rw [List.map_set]
  refine sum_set_lt _ _ _ (by simpa using hl) ?_
  rw [List.getElem_map]
  exact hy
def Rel (T T' : List (List S75) × Bool) : Prop := T' = T ∨ (T'.2 = true ∧ hX T'.1 < hX T.1)
theorem Rel.refl (T : List (List S75) × Bool) : Rel T T := Or.inl rfl
theorem Rel.trans {T T' T'' : List (List S75) × Bool} (h1 : Rel T T') (h2 : Rel T' T'') : Rel T T'' := by
  rcases h1 with h1 | ⟨h1, h3⟩
  · exact h1 ▸ h2
  · rcases h2 with h2 | ⟨h2, h4⟩
    · exact Or.inr (by rw [h2]; exact ⟨h1, h3⟩)
    · exact Or.inr ⟨h2, Nat.lt_trans h4 h3⟩
theorem inn_rel {n : Nat} {o : List S75} (ho : rowB o) {t : Nat} (ht : t < n) (d : Nat) : ∀ (i : Nat) (T : List (List S75) × Bool), i + d ≤ 8 → OKX n T.1 → Rel T (inn o t d i T) := by
  induction d with
  | zero => intro i T _ h; exact Rel.refl T
  | succ d ih =>
    intro i T hi h
    simp only [inn]
    split
    · rename_i hc
      have hlt := hX_set h ht (show i < 8 by omega) (jn_ht (rowB_rd (OKX_rd h t ht) i (by omega)) (rowB_rd ho i (by omega)) hc)
      refine Rel.trans (T' := (T.1.set t ((rd_L10 T.1 (t : Int)).set i (jy o T.1 t i)), true)) (Or.inr ⟨rfl, hlt⟩) (ih _ _ (by omega) (OKX_set h t (rowB_set (OKX_rd h t ht) i (jy_wf h ho ht (by omega)))))
    · exact ih _ _ (by omega) h
/-- One target of the reference, one of the program (which may pass it by). -/
def tg (o : List S75) (T : List (List S75) × Bool) (t : Int) : List (List S75) × Bool := if t < 0 then T else inn o t.toNat 8 0 T
def ti (sk : Int → Bool) (o : List S75) (T : List (List S75) × Bool) (t : Int) : List (List S75) × Bool := if t < 0 then T else if sk t = true then T else inn o t.toNat 8 0 T
theorem tg_ok {n : Nat} {o : List S75} (ho : rowB o) {t : Int} (ht : t < n) {T : List (List S75) × Bool} (h : OKX n T.1) : OKX n (tg o T t).1 := by
  unfold tg
  split
  · exact h
  · exact inn_ok ho (by omega) 8 0 T (by omega) h
theorem tg_rel {n : Nat} {o : List S75} (ho : rowB o) {t : Int} (ht : t < n) {T : List (List S75) × Bool} (h : OKX n T.1) : Rel T (tg o T t) := by
  unfold tg
  split
  · exact Rel.refl T
  · exact inn_rel ho (by omega) 8 0 T (by omega) h
theorem tg_idem {n : Nat} {o : List S75} (ho : rowB o) {t : Int} (ht : t < n) {T : List (List S75) × Bool} (h : OKX n T.1) : tg o (tg o T t) t = tg o T t := by
  unfold tg
  split
  · rfl
  · exact inn_idem ho (by omega) h

theorem s5 {c : List S87} {way : Bool} {o : List S75} (ho : rowB o) {n t : Nat} (ht : t < n) (c40 : List S87) (x41 x42 : Int) (x64 : List Int) (x65 x66 : Int) (r : List (List S75)) (d : Nat) : ∀ (i : Nat) (X : List (List S75)) (fl : Bool), i + d = 8 → OKX n X →
    Ev (fun k => spec_l5All.l4 k c way (inn o t d i (X, fl)).1 (inn o t d i (X, fl)).2 o c40 x41 x42 x64 x65 (wrap64 (x66 + 1))) r → Ev (fun k => spec_l5All.l5 k c way X fl o (t : Int) c40 x41 x42 x64 x65 x66 (o.length : Int) (i : Int)) r := by
  have ho8 := ho.1
  induction d with
  | zero =>
    intro i X fl hi h hE
    refine hE.step (fun k => ?_)
    simp only [spec_l5All.l5]
    rw [if_neg (by omega)]
    rfl
  | succ d ih =>
    intro i X fl hi h hE
    have hr := OKX_rd h t ht
    have h8 := hr.1
    have hl := h.1
    have e : ∀ k, spec_l5All.l5 (k + 1) c way X fl o (t : Int) c40 x41 x42 x64 x65 x66 (o.length : Int) (i : Int) = if chg (jy o X t i) (rd_T75 (rd_L10 X (t : Int)) (i : Int)) = true then spec_l5All.l5 k c way (X.set t ((rd_L10 X (t : Int)).set i (jy o X t i))) true o (t : Int) c40 x41 x42 x64 x65 x66 (o.length : Int) ((i + 1 : Nat) : Int) else spec_l5All.l5 k c way X fl o (t : Int) c40 x41 x42 x64 x65 x66 (o.length : Int) ((i + 1 : Nat) : Int) := by
      intro k
      simp only [spec_l5All.l5]
      rw [if_pos (by omega), if_pos (by omega), if_pos (by omega), if_pos (by omega), if_pos (by omega), if_pos (by omega), jn_spec, w64 ((i : Int) + 1) (by omega) (by omega)]
      rfl
    simp only [inn] at hE
    by_cases hc : chg (jy o X t i) (rd_T75 (rd_L10 X (t : Int)) (i : Int)) = true
    · rw [if_pos hc] at hE
      exact (ih _ _ _ (by omega) (OKX_set h t (rowB_set hr i (jy_wf h ho ht (by omega)))) hE).step (fun k => by rw [e k, if_pos hc])
    · rw [if_neg hc] at hE
      exact (ih _ _ _ (by omega) h hE).step (fun k => by rw [e k, if_neg hc])
theorem i5 {c : List S87} {way : Bool} {o : List S75} (ho : rowB o) {n t : Nat} (ht : t < n) (c40 : List S87) (x41 x42 : Int) (x64 : List Int) (x65 x66 : Int) (b0 : List S65) (b1 b2 b3 : Int) (f0 f1 : Bool) (f2 : Int) (r : List (List S75)) (d : Nat) : ∀ (i : Nat) (X : List (List S75)) (fl : Bool), i + d = 8 → OKX n X →
    Ev (fun k => impl_flowFacts.l4 k c way (inn o t d i (X, fl)).1 (inn o t d i (X, fl)).2 o c40 x41 x42 x64 x65 (wrap64 (x66 + 1)) b0 b1 b2 b3 f0 f1 f2) r → Ev (fun k => impl_flowFacts.l5 k c way X fl o (t : Int) c40 x41 x42 x64 x65 x66 (o.length : Int) (i : Int) b0 b1 b2 b3 f0 f1 f2) r := by
  have ho8 := ho.1
  induction d with
  | zero =>
    intro i X fl hi h hE
    refine hE.step (fun k => ?_)
    simp only [impl_flowFacts.l5]
    rw [if_neg (by omega)]
    rfl
  | succ d ih =>
    intro i X fl hi h hE
    have hr := OKX_rd h t ht
    have h8 := hr.1
    have hl := h.1
    have e : ∀ k, impl_flowFacts.l5 (k + 1) c way X fl o (t : Int) c40 x41 x42 x64 x65 x66 (o.length : Int) (i : Int) b0 b1 b2 b3 f0 f1 f2 = if chg (jy o X t i) (rd_T75 (rd_L10 X (t : Int)) (i : Int)) = true then impl_flowFacts.l5 k c way (X.set t ((rd_L10 X (t : Int)).set i (jy o X t i))) true o (t : Int) c40 x41 x42 x64 x65 x66 (o.length : Int) ((i + 1 : Nat) : Int) b0 b1 b2 b3 f0 f1 f2 else impl_flowFacts.l5 k c way X fl o (t : Int) c40 x41 x42 x64 x65 x66 (o.length : Int) ((i + 1 : Nat) : Int) b0 b1 b2 b3 f0 f1 f2 := by
      intro k
      simp only [impl_flowFacts.l5]
      rw [if_pos (by omega), if_pos (by omega), if_pos (by omega), if_pos (by omega), if_pos (by omega), if_pos (by omega), jn_impl, w64 ((i : Int) + 1) (by omega) (by omega)]
      rfl
    simp only [inn] at hE
    by_cases hc : chg (jy o X t i) (rd_T75 (rd_L10 X (t : Int)) (i : Int)) = true
    · rw [if_pos hc] at hE
      exact (ih _ _ _ (by omega) (OKX_set h t (rowB_set hr i (jy_wf h ho ht (by omega)))) hE).step (fun k => by rw [e k, if_pos hc])
    · rw [if_neg hc] at hE
      exact (ih _ _ _ (by omega) h hE).step (fun k => by rw [e k, if_neg hc])
theorem s4 {c : List S87} {way : Bool} {o : List S75} (ho : rowB o) {n : Nat} (c40 : List S87) (x41 x42 : Int) (L : List Int) (hL : L.length ≤ 8) (hLn : ∀ t ∈ L, t < (n : Int)) (r : List (List S75)) (d : Nat) : ∀ (j : Nat) (T : List (List S75) × Bool), j + d = L.length → OKX n T.1 →
    Ev (fun k => spec_l5All.l3 k c way ((L.drop j).foldl (tg o) T).1 ((L.drop j).foldl (tg o) T).2 c40 x41 (wrap64 (x42 + 1))) r → Ev (fun k => spec_l5All.l4 k c way T.1 T.2 o c40 x41 x42 L (L.length : Int) (j : Int)) r := by
  induction d with
  | zero =>
    intro j T hj h hE
    rw [List.drop_of_length_le (by omega)] at hE
    refine hE.step (fun k => ?_)
    simp only [spec_l5All.l4]
    rw [if_neg (by omega)]
    rfl
  | succ d ih =>
    intro j T hj h hE
    have hlt : j < L.length := by omega
    rw [List.drop_eq_getElem_cons hlt, List.foldl_cons] at hE
    have hrd : rd L (j : Int) = L[j] := by simp [rd, List.getD_eq_getElem?_getD, List.getElem?_eq_getElem hlt]
    have htn := hLn _ (List.getElem_mem hlt)
    have hE2 := ih (j + 1) (tg o T L[j]) (by omega) (tg_ok ho htn h) hE
    have e : ∀ k, spec_l5All.l4 (k + 1) c way T.1 T.2 o c40 x41 x42 L (L.length : Int) (j : Int) = if L[j] < 0 then spec_l5All.l4 k c way T.1 T.2 o c40 x41 x42 L (L.length : Int) (wrap64 ((j : Int) + 1)) else spec_l5All.l5 k c way T.1 T.2 o L[j] c40 x41 x42 L (L.length : Int) (j : Int) (o.length : Int) 0 := by
      intro k
      simp only [spec_l5All.l4]
      rw [if_pos (by omega), if_pos (by omega), if_pos (by omega), hrd]
    have ew : wrap64 ((j : Int) + 1) = ((j + 1 : Nat) : Int) := w64 ((j : Int) + 1) (by omega) (by omega)
    by_cases h0 : L[j] < 0
    · have et : tg o T L[j] = T := by unfold tg; rw [if_pos h0]
      rw [et] at hE2
      exact hE2.step (fun k => by rw [e k, if_pos h0, ew])
    · have et : tg o T L[j] = inn o L[j].toNat 8 0 T := by unfold tg; rw [if_neg h0]
      rw [et] at hE2
      have := s5 (c := c) (way := way) ho (n := n) (t := L[j].toNat) (by omega) c40 x41 x42 L (L.length : Int) (j : Int) r 8 0 T.1 T.2 (by omega) h (by rw [ew]; exact hE2)
      rw [Int.toNat_of_nonneg (by omega)] at this
      exact this.step (fun k => by rw [e k, if_neg h0]; rfl)
def skp (way : Bool) (b : S87) (f : S75) (t : Int) : Bool := way && (f.f1 && (if f.f2 = 0 then !decide (t = b.f3) else t != b.f2))
theorem i4 {c : List S87} {way : Bool} {o : List S75} (ho : rowB o) {n : Nat} (c40 : List S87) (x41 x42 : Int) (b : S87) (f : S75) (L : List Int) (hL : L.length ≤ 8) (hLn : ∀ t ∈ L, t < (n : Int)) (r : List (List S75)) (d : Nat) : ∀ (j : Nat) (T : List (List S75) × Bool), j + d = L.length → OKX n T.1 →
    Ev (fun k => impl_flowFacts.l3 k c way ((L.drop j).foldl (ti (skp way b f) o) T).1 ((L.drop j).foldl (ti (skp way b f) o) T).2 c40 x41 (wrap64 (x42 + 1))) r → Ev (fun k => impl_flowFacts.l4 k c way T.1 T.2 o c40 x41 x42 L (L.length : Int) (j : Int) b.f0 b.f1 b.f2 b.f3 f.f0 f.f1 f.f2) r := by
  induction d with
  | zero =>
    intro j T hj h hE
    rw [List.drop_of_length_le (by omega)] at hE
    refine hE.step (fun k => ?_)
    simp only [impl_flowFacts.l4]
    rw [if_neg (by omega)]
    rfl
  | succ d ih =>
    intro j T hj h hE
    have hlt : j < L.length := by omega
    rw [List.drop_eq_getElem_cons hlt, List.foldl_cons] at hE
    have hrd : rd L (j : Int) = L[j] := by simp [rd, List.getD_eq_getElem?_getD, List.getElem?_eq_getElem hlt]
    have htn := hLn _ (List.getElem_mem hlt)
    have hok : OKX n (ti (skp way b f) o T L[j]).1 := by
      unfold ti
      split
      · exact h
      · split
        · exact h
        · exact inn_ok ho (by omega) 8 0 T (by omega) h
    have hE2 := ih (j + 1) (ti (skp way b f) o T L[j]) (by omega) hok hE
    have ew : wrap64 ((j : Int) + 1) = ((j + 1 : Nat) : Int) := w64 ((j : Int) + 1) (by omega) (by omega)
    have e4 : ∀ k, impl_flowFacts.l4 (k + 1) c way T.1 T.2 o c40 x41 x42 L (L.length : Int) (j : Int) b.f0 b.f1 b.f2 b.f3 f.f0 f.f1 f.f2 = impl_flowFacts.j5 k c way T.1 T.2 o L[j] (skp way b f L[j]) c40 x41 x42 L (L.length : Int) (j : Int) b.f0 b.f1 b.f2 b.f3 f.f0 f.f1 f.f2 := by
      intro k
      simp only [impl_flowFacts.l4]
      rw [if_pos (by omega), if_pos (by omega), if_pos (by omega), hrd]
      cases hw : way with
      | false => rw [if_neg (by decide)]; rfl
      | true =>
        rw [if_pos rfl]
        cases hf : f.f1 with
        | false => rw [if_neg (by decide)]; simp [skp, hf]
        | true =>
          rw [if_pos rfl]
          by_cases hn : f.f2 = 0
          · rw [if_pos hn]
            by_cases hq : L[j] = b.f3
            · rw [if_pos hq]; simp [skp, hf, hn, hq]
            · rw [if_neg hq]; simp [skp, hf, hn, hq]
          · rw [if_neg hn]; simp [skp, hf, hn]
    by_cases h0 : L[j] < 0
    · have et : ti (skp way b f) o T L[j] = T := by unfold ti; rw [if_pos h0]
      rw [et] at hE2
      refine Ev.step (g := fun k => impl_flowFacts.j5 k c way T.1 T.2 o L[j] (skp way b f L[j]) c40 x41 x42 L (L.length : Int) (j : Int) b.f0 b.f1 b.f2 b.f3 f.f0 f.f1 f.f2) ?_ e4
      refine Ev.step (g := fun k => impl_flowFacts.j6 k c way T.1 T.2 o L[j] c40 x41 x42 L (L.length : Int) (j : Int) true b.f0 b.f1 b.f2 b.f3 f.f0 f.f1 f.f2) ?_ (fun k => by simp only [impl_flowFacts.j5]; rw [if_pos h0])
      exact hE2.step (fun k => by simp only [impl_flowFacts.j6]; rw [if_pos trivial, ew])
    · refine Ev.step (g := fun k => impl_flowFacts.j5 k c way T.1 T.2 o L[j] (skp way b f L[j]) c40 x41 x42 L (L.length : Int) (j : Int) b.f0 b.f1 b.f2 b.f3 f.f0 f.f1 f.f2) ?_ e4
      refine Ev.step (g := fun k => impl_flowFacts.j6 k c way T.1 T.2 o L[j] c40 x41 x42 L (L.length : Int) (j : Int) (skp way b f L[j]) b.f0 b.f1 b.f2 b.f3 f.f0 f.f1 f.f2) ?_ (fun k => by simp only [impl_flowFacts.j5]; rw [if_neg h0])
      cases hs : skp way b f L[j] with
      | true =>
        have et : ti (skp way b f) o T L[j] = T := by unfold ti; rw [if_neg h0, if_pos hs]
        rw [et] at hE2
        exact hE2.step (fun k => by simp only [impl_flowFacts.j6]; rw [if_pos trivial, ew])
      | false =>
        have et : ti (skp way b f) o T L[j] = inn o L[j].toNat 8 0 T := by unfold ti; rw [if_neg h0, if_neg (by rw [hs]; decide)]
        rw [et] at hE2
        have := i5 (c := c) (way := way) ho (n := n) (t := L[j].toNat) (by omega) c40 x41 x42 L (L.length : Int) (j : Int) b.f0 b.f1 b.f2 b.f3 f.f0 f.f1 f.f2 r 8 0 T.1 T.2 (by omega) h (by rw [ew]; exact hE2)
        rw [Int.toNat_of_nonneg (by omega)] at this
        exact this.step (fun k => by simp only [impl_flowFacts.j6]; rw [if_neg (by decide)]; rfl)

def tgs (way : Bool) (b : S87) (f : S75) : List Int := if (way && f.f1) = true then (if f.f2 = 0 then [b.f3] else [b.f2]) else [b.f2, b.f3]
theorem next_s (way : Bool) (b : S87) (o : List S75) (h0 : 0 ≤ b.f1) (h1 : b.f1 < (o.length : Int)) (k : Nat) (hk : 0 < k) : spec_l5Next.f k b.f0 b.f1 b.f2 b.f3 o way = some (tgs way b (rd_T75 o b.f1)) := by
  obtain ⟨k, rfl⟩ : ∃ m, k = m + 1 := ⟨k - 1, by omega⟩
  simp only [spec_l5Next.f, spec_l5Next.j0, if_pos h0, if_pos h1, tgs]
  generalize rd_T75 o b.f1 = f
  cases way <;> cases e : f.f1 <;> by_cases z : f.f2 = 0 <;> simp [z]
theorem node_eq {n : Nat} {o : List S75} (ho : rowB o) (way : Bool) (b : S87) (f : S75) (h2 : b.f2 < (n : Int)) (h3 : b.f3 < (n : Int)) {T : List (List S75) × Bool} (h : OKX n T.1) :
    ([b.f2, b.f3].foldl (ti (skp way b f) o) T) = (tgs way b f).foldl (tg o) T := by
  have no : ∀ (T : List (List S75) × Bool) t, skp way b f t = false → ti (skp way b f) o T t = tg o T t := by
    intro T t e
    unfold ti tg
    rw [e]
    simp
  have yes : ∀ (T : List (List S75) × Bool) t, skp way b f t = true → ti (skp way b f) o T t = T := by
    intro T t e
    unfold ti
    rw [e]
    simp
  simp only [List.foldl_cons, List.foldl_nil]
  unfold tgs
  by_cases hw : (way && f.f1) = true
  · rw [if_pos hw]
    have hw' := hw
    rw [Bool.and_eq_true] at hw'
    by_cases hz : f.f2 = 0
    · rw [if_pos hz]
      have e : ∀ t, skp way b f t = !decide (t = b.f3) := by intro t; simp [skp, hw'.1, hw'.2, hz]
      simp only [List.foldl_cons, List.foldl_nil]
      rw [no _ b.f3 (by rw [e]; simp)]
      by_cases q : b.f2 = b.f3
      · rw [no _ b.f2 (by rw [e, q]; simp), q]
        exact tg_idem ho h3 h
      · rw [yes _ b.f2 (by rw [e]; simp [q])]
    · rw [if_neg hz]
      have e : ∀ t, skp way b f t = (t != b.f2) := by intro t; simp [skp, hw'.1, hw'.2, hz]
      simp only [List.foldl_cons, List.foldl_nil]
      rw [no _ b.f2 (by rw [e]; simp)]
      by_cases q : b.f3 = b.f2
      · rw [no _ b.f3 (by rw [e, q]; simp), q]
        exact tg_idem ho h2 h
      · rw [yes _ b.f3 (by rw [e]; simp [q])]
  · rw [if_neg hw]
    have e : ∀ t, skp way b f t = false := by
      intro t
      simp only [skp]
      cases way <;> cases q : f.f1 <;> simp_all
    rw [no _ _ (e _), no _ _ (e _)]
    rfl
theorem two_wf (op : Int) (a b : S75) : wfF (two op a b) := by
  unfold two
  repeat' split
  all_goals exact ⟨fun h => (by first | rfl | cases h), fun h => (by first | rfl | cases h)⟩
theorem stp_row {l : List S75} (h : rowB l) (x : S65) (hg : goodB x = true) : rowB (stp l x) := by
  have hg := of_decide_eq_true hg
  obtain ⟨⟨d0, d1⟩, ⟨a0, a1⟩, ⟨b0, b1⟩, _, _⟩ := hg
  unfold stp
  split
  · exact rowB_set h _ ⟨fun h => (by cases h), fun h => (by cases h)⟩
  · split
    · refine rowB_set h _ ?_
      have := rowB_rd h x.f2.toNat (by omega)
      rwa [Int.toNat_of_nonneg a0] at this
    · split
      · exact rowB_set h _ (two_wf _ _ _)
      · exact h
theorem stps_row (c : List S65) (hg : c.all goodB = true) : ∀ l : List S75, rowB l → rowB (c.foldl stp l) := by
  induction c with
  | nil => intro l h; exact h
  | cons x c ih =>
    intro l h
    simp only [List.all_cons, Bool.and_eq_true] at hg
    exact ih hg.2 _ (stp_row h x hg.1)
def node (way : Bool) (b : S87) (i : Nat) (T : List (List S75) × Bool) : List (List S75) × Bool :=
  if (rd_T75 (rd_L10 T.1 (i : Int)) 0).f0 = true then T else (tgs way b (rd_T75 (b.f0.foldl stp (rd_L10 T.1 (i : Int))) b.f1)).foldl (tg (b.f0.foldl stp (rd_L10 T.1 (i : Int)))) T
def rnd (way : Bool) (c : List S87) : Nat → Nat → List (List S75) × Bool → List (List S75) × Bool
  | 0, _, T => T
  | d + 1, i, T => rnd way c d (i + 1) (node way (rd_T87 c (i : Int)) i T)
structure BlkOK (n : Nat) (b : S87) : Prop where
  good : b.f0.all goodB = true
  len : b.f0.length ≤ 30
  t0 : 0 ≤ b.f1
  t1 : b.f1 ≤ 7
  x1 : b.f2 < (n : Int)
  y1 : b.f3 < (n : Int)
theorem tgs_ok {n : Nat} {o : List S75} (ho : rowB o) (way : Bool) {b : S87} (hb : BlkOK n b) (f : S75) {T : List (List S75) × Bool} (h : OKX n T.1) : OKX n ((tgs way b f).foldl (tg o) T).1 ∧ Rel T ((tgs way b f).foldl (tg o) T) := by
  have a2 := tg_ok ho hb.x1 h
  have r2 := tg_rel ho hb.x1 h
  unfold tgs
  split
  · split
    · exact ⟨tg_ok ho hb.y1 h, tg_rel ho hb.y1 h⟩
    · exact ⟨a2, r2⟩
  · exact ⟨tg_ok ho hb.y1 a2, r2.trans (tg_rel ho hb.y1 a2)⟩
theorem node_ok (way : Bool) {n i : Nat} (hi : i < n) {b : S87} (hb : BlkOK n b) {T : List (List S75) × Bool} (h : OKX n T.1) : OKX n (node way b i T).1 ∧ Rel T (node way b i T) := by
  unfold node
  split
  · exact ⟨h, Rel.refl T⟩
  · exact tgs_ok (stps_row b.f0 hb.good _ (OKX_rd h i hi)) way hb _ h
theorem rnd_ok (way : Bool) (c : List S87) (hc : ∀ i : Nat, i < c.length → BlkOK c.length (rd_T87 c (i : Int))) (d : Nat) : ∀ (i : Nat) (T : List (List S75) × Bool), i + d = c.length → OKX c.length T.1 → OKX c.length (rnd way c d i T).1 ∧ Rel T (rnd way c d i T) := by
  induction d with
  | zero => intro i T _ h; exact ⟨h, Rel.refl T⟩
  | succ d ih =>
    intro i T hi h
    obtain ⟨h1, h2⟩ := node_ok way (show i < c.length by omega) (hc i (by omega)) h
    obtain ⟨h3, h4⟩ := ih (i + 1) _ (by omega) h1
    exact ⟨h3, h2.trans h4⟩
theorem s3 (way : Bool) (c : List S87) (hn : c.length ≤ 8) (hc : ∀ i : Nat, i < c.length → BlkOK c.length (rd_T87 c (i : Int))) (r : List (List S75)) (d : Nat) : ∀ (i : Nat) (T : List (List S75) × Bool), i + d = c.length → OKX c.length T.1 →
    Ev (fun k => if (rnd way c d i T).2 = true then spec_l5All.l2 k c way (rnd way c d i T).1 else some (rnd way c d i T).1) r → Ev (fun k => spec_l5All.l3 k c way T.1 T.2 c (c.length : Int) (i : Int)) r := by
  induction d with
  | zero =>
    intro i T hi h hE
    refine hE.step (fun k => ?_)
    simp only [spec_l5All.l3]
    rw [if_neg (by omega)]
    rfl
  | succ d ih =>
    intro i T hi h hE
    have hlt : i < c.length := by omega
    have hb := hc i hlt
    have hr := OKX_rd h i hlt
    have h8 := hr.1
    have hl := h.1
    have ew : wrap64 ((i : Int) + 1) = ((i + 1 : Nat) : Int) := w64 ((i : Int) + 1) (by omega) (by omega)
    have hE2 := ih (i + 1) (node way (rd_T87 c (i : Int)) i T) (by omega) (node_ok way hlt hb h).1 hE
    by_cases ht : (rd_T75 (rd_L10 T.1 (i : Int)) 0).f0 = true
    · have en : node way (rd_T87 c (i : Int)) i T = T := by unfold node; rw [if_pos ht]
      rw [en] at hE2
      refine hE2.step (fun k => ?_)
      simp only [spec_l5All.l3]
      rw [if_pos (by omega), if_pos (by omega), if_pos (by omega), if_pos (by omega), if_pos (by omega), if_pos ht, ew]
    · have en : node way (rd_T87 c (i : Int)) i T = (tgs way (rd_T87 c (i : Int)) (rd_T75 ((rd_T87 c (i : Int)).f0.foldl stp (rd_L10 T.1 (i : Int))) (rd_T87 c (i : Int)).f1)).foldl (tg ((rd_T87 c (i : Int)).f0.foldl stp (rd_L10 T.1 (i : Int)))) T := by unfold node; rw [if_neg ht]
      rw [en] at hE2
      have ho := stps_row (rd_T87 c (i : Int)).f0 hb.good _ hr
      have hL : (tgs way (rd_T87 c (i : Int)) (rd_T75 ((rd_T87 c (i : Int)).f0.foldl stp (rd_L10 T.1 (i : Int))) (rd_T87 c (i : Int)).f1)).length ≤ 8 ∧ ∀ t ∈ tgs way (rd_T87 c (i : Int)) (rd_T75 ((rd_T87 c (i : Int)).f0.foldl stp (rd_L10 T.1 (i : Int))) (rd_T87 c (i : Int)).f1), t < (c.length : Int) := by
        have x1 := hb.x1
        have y1 := hb.y1
        unfold tgs
        repeat' split
        all_goals simp [x1, y1]
      have h4 := s4 (c := c) (way := way) ho (n := c.length) c (c.length : Int) (i : Int) _ hL.1 hL.2 r _ 0 T (Nat.zero_add _) h (by rw [ew]; exact hE2)
      refine h4.stepFrom 41 (fun k hk => ?_)
      simp only [spec_l5All.l3]
      rw [if_pos (by omega), if_pos (by omega), if_pos (by omega), if_pos (by omega), if_pos (by omega), if_neg ht, steps_spec _ hb.len hb.good _ h8 k (by omega)]
      simp only [Option.bind_some]
      rw [next_s way _ _ hb.t0 (by have := ho.1; have := hb.t1; omega) k (by omega)]
      rfl
theorem i3 (way : Bool) (c : List S87) (hn : c.length ≤ 8) (hc : ∀ i : Nat, i < c.length → BlkOK c.length (rd_T87 c (i : Int))) (r : List (List S75)) (d : Nat) : ∀ (i : Nat) (T : List (List S75) × Bool), i + d = c.length → OKX c.length T.1 →
    Ev (fun k => impl_flowFacts.l2 k c way (rnd way c d i T).1 (rnd way c d i T).2) r → Ev (fun k => impl_flowFacts.l3 k c way T.1 T.2 c (c.length : Int) (i : Int)) r := by
  induction d with
  | zero =>
    intro i T hi h hE
    refine hE.step (fun k => ?_)
    simp only [impl_flowFacts.l3]
    rw [if_neg (by omega)]
    rfl
  | succ d ih =>
    intro i T hi h hE
    have hlt : i < c.length := by omega
    have hb := hc i hlt
    have hr := OKX_rd h i hlt
    have h8 := hr.1
    have hl := h.1
    have ew : wrap64 ((i : Int) + 1) = ((i + 1 : Nat) : Int) := w64 ((i : Int) + 1) (by omega) (by omega)
    have hE2 := ih (i + 1) (node way (rd_T87 c (i : Int)) i T) (by omega) (node_ok way hlt hb h).1 hE
    by_cases ht : (rd_T75 (rd_L10 T.1 (i : Int)) 0).f0 = true
    · have en : node way (rd_T87 c (i : Int)) i T = T := by unfold node; rw [if_pos ht]
      rw [en] at hE2
      refine hE2.step (fun k => ?_)
      simp only [impl_flowFacts.l3]
      rw [if_pos (by omega), if_pos (by omega), if_pos (by omega), if_pos (by omega), if_pos (by omega), if_pos ht, ew]
    · have en : node way (rd_T87 c (i : Int)) i T = (tgs way (rd_T87 c (i : Int)) (rd_T75 ((rd_T87 c (i : Int)).f0.foldl stp (rd_L10 T.1 (i : Int))) (rd_T87 c (i : Int)).f1)).foldl (tg ((rd_T87 c (i : Int)).f0.foldl stp (rd_L10 T.1 (i : Int)))) T := by unfold node; rw [if_neg ht]
      rw [en] at hE2
      have ho := stps_row (rd_T87 c (i : Int)).f0 hb.good _ hr
      rw [← node_eq ho way (rd_T87 c (i : Int)) _ hb.x1 hb.y1 h] at hE2
      have h4 := i4 (c := c) (way := way) ho (n := c.length) c (c.length : Int) (i : Int) (rd_T87 c (i : Int)) _ [(rd_T87 c (i : Int)).f2, (rd_T87 c (i : Int)).f3] (by simp) (by simp [hb.x1, hb.y1]) r _ 0 T (Nat.zero_add _) h (by rw [ew]; exact hE2)
      refine h4.stepFrom 41 (fun k hk => ?_)
      simp only [impl_flowFacts.l3]
      rw [if_pos (by omega), if_pos (by omega), if_pos (by omega), if_pos (by omega), if_pos (by omega), if_neg ht, steps_impl _ hb.len hb.good _ h8 k (by omega)]
      simp only [Option.bind_some]
      rw [if_pos hb.t0, if_pos (by have := ho.1; have := hb.t1; omega)]
      rfl
theorem l2_both (way : Bool) (c : List S87) (hn : c.length ≤ 8) (hc : ∀ i : Nat, i < c.length → BlkOK c.length (rd_T87 c (i : Int))) (m : Nat) : ∀ X : List (List S75), OKX c.length X → hX X < m →
    ∃ R, OKX c.length R ∧ Ev (fun k => spec_l5All.l2 k c way X) R ∧ Ev (fun k => impl_flowFacts.l2 k c way X true) R := by
  induction m with
  | zero => intro X _ h; omega
  | succ m ih =>
    intro X h hm
    obtain ⟨h1, h2⟩ := rnd_ok way c hc c.length 0 (X, false) (by omega) h
    have E : ∀ R, Ev (fun k => if (rnd way c c.length 0 (X, false)).2 = true then spec_l5All.l2 k c way (rnd way c c.length 0 (X, false)).1 else some (rnd way c c.length 0 (X, false)).1) R → Ev (fun k => impl_flowFacts.l2 k c way (rnd way c c.length 0 (X, false)).1 (rnd way c c.length 0 (X, false)).2) R →
        Ev (fun k => spec_l5All.l2 k c way X) R ∧ Ev (fun k => impl_flowFacts.l2 k c way X true) R := by
      intro R a b
      refine ⟨(s3 way c hn hc R c.length 0 (X, false) (by omega) h a).step (fun k => ?_), (i3 way c hn hc R c.length 0 (X, false) (by omega) h b).step (fun k => ?_)⟩
      · simp only [spec_l5All.l2]; rfl
      · simp only [impl_flowFacts.l2]; rfl
    generalize rnd way c c.length 0 (X, false) = T at h1 h2 E
    obtain ⟨Y, fl⟩ := T
    cases fl with
    | true =>
      have hlt : hX Y < hX X := by
        rcases h2 with h2 | h2
        · injection h2 with _ h2; cases h2
        · exact h2.2
      obtain ⟨R, hR, a, b⟩ := ih Y h1 (by omega)
      exact ⟨R, hR, E R (by simpa using a) (by simpa using b)⟩
    | false =>
      refine ⟨Y, h1, E Y ⟨0, fun k _ => by simp⟩ ⟨1, fun k hk => ?_⟩⟩
      obtain ⟨k, rfl⟩ : ∃ m, k = m + 1 := ⟨k - 1, by omega⟩
      simp [impl_flowFacts.l2]

abbrev topF : S75 := ⟨true, false, 0⟩
abbrev topR : List S75 := List.replicate 8 topF
theorem topR_ok : rowB topR := ⟨by simp, fun x hx => by rw [List.eq_of_mem_replicate hx]; exact ⟨fun _ => rfl, fun _ => rfl⟩⟩
theorem rep_snoc {α : Type} (X : List α) (d : Nat) (y : α) : X ++ List.replicate (d + 1) y = (X ++ [y]) ++ List.replicate d y := by
  rw [List.replicate_succ]
  simp
theorem s1 (way : Bool) (c : List S87) (v : List S75) (X : List (List S75)) (hX : X.length ≤ 8) (n i : Int) (r : List (List S75)) (d : Nat) : ∀ (j : Nat) (row : List S75), j + d = 8 → row.length = j →
    Ev (fun k => spec_l5All.l0 k c v way (X ++ [row ++ List.replicate d topF]) n (wrap64 (i + 1))) r → Ev (fun k => spec_l5All.l1 k c v way X row (j : Int) n i) r := by
  induction d with
  | zero =>
    intro j row hj hr hE
    refine hE.step (fun k => ?_)
    simp only [spec_l5All.l1]
    rw [if_neg (by omega), if_pos (by omega)]
    simp
  | succ d ih =>
    intro j row hj hr hE
    rw [rep_snoc] at hE
    refine (ih (j + 1) (row ++ [topF]) (by omega) (by simp; omega) hE).step (fun k => ?_)
    simp only [spec_l5All.l1]
    rw [if_pos (by omega), if_pos (by omega), w64 ((j : Int) + 1) (by omega) (by omega)]
    rfl
theorem i1 (way : Bool) (c : List S87) (v : List S75) (X : List (List S75)) (hX : X.length ≤ 8) (n i : Int) (r : List (List S75)) (d : Nat) : ∀ (j : Nat) (row : List S75), j + d = 8 → row.length = j →
    Ev (fun k => impl_flowFacts.l0 k c v way (X ++ [row ++ List.replicate d topF]) n (wrap64 (i + 1))) r → Ev (fun k => impl_flowFacts.l1 k c v way X row n i (j : Int)) r := by
  induction d with
  | zero =>
    intro j row hj hr hE
    refine hE.step (fun k => ?_)
    simp only [impl_flowFacts.l1]
    rw [if_neg (by omega), if_pos (by omega)]
    simp
  | succ d ih =>
    intro j row hj hr hE
    rw [rep_snoc] at hE
    refine (ih (j + 1) (row ++ [topF]) (by omega) (by simp; omega) hE).step (fun k => ?_)
    simp only [impl_flowFacts.l1]
    rw [if_pos (by omega), if_pos (by omega), w64 ((j : Int) + 1) (by omega) (by omega)]
    rfl
theorem s0 (way : Bool) (c : List S87) (v : List S75) (hv : v.length = 8) (n : Nat) (h0 : 0 < n) (hn : n ≤ 8) (r : List (List S75)) (d : Nat) : ∀ (i : Nat) (X : List (List S75)), i + d = n → X.length = i →
    Ev (fun k => spec_l5All.l2 k c way ((X ++ List.replicate d topR).set 0 v)) r → Ev (fun k => spec_l5All.l0 k c v way X (n : Int) (i : Int)) r := by
  induction d with
  | zero =>
    intro i X hi hX hE
    refine hE.step (fun k => ?_)
    simp only [spec_l5All.l0, Option.bind_some, List.length_nil, List.nil_append]
    rw [if_neg (by omega), if_pos (by omega), if_pos (by omega)]
    simp
  | succ d ih =>
    intro i X hi hX hE
    rw [rep_snoc] at hE
    have a := ih (i + 1) (X ++ [topR]) (by omega) (by simp; omega) hE
    have ew : wrap64 ((i : Int) + 1) = ((i + 1 : Nat) : Int) := w64 ((i : Int) + 1) (by omega) (by omega)
    rw [← ew] at a
    refine (s1 way c v X (by omega) (n : Int) (i : Int) r 8 0 [] (by omega) rfl (by rw [List.nil_append]; exact a)).step (fun k => ?_)
    simp only [spec_l5All.l0]
    rw [if_pos (by omega)]
    rfl
theorem i0 (way : Bool) (c : List S87) (v : List S75) (hv : v.length = 8) (n : Nat) (h0 : 0 < n) (hn : n ≤ 8) (r : List (List S75)) (d : Nat) : ∀ (i : Nat) (X : List (List S75)), i + d = n → X.length = i → (∀ x ∈ X, rowB x) →
    Ev (fun k => impl_flowFacts.l2 k c way ((X ++ List.replicate d topR).set 0 v) true) r → Ev (fun k => impl_flowFacts.l0 k c v way X (n : Int) (i : Int)) r := by
  induction d with
  | zero =>
    intro i X hi hX hB hE
    refine hE.step (fun k => ?_)
    have h8 := (OKX_rd (n := n) ⟨by omega, hB⟩ 0 h0).1
    simp only [impl_flowFacts.l0]
    rw [if_neg (by omega), if_pos (by omega), if_pos (by rw [hv]; exact h8.symm)]
    simp
  | succ d ih =>
    intro i X hi hX hB hE
    rw [rep_snoc] at hE
    have a := ih (i + 1) (X ++ [topR]) (by omega) (by simp; omega) (by intro x hx; rcases List.mem_append.1 hx with h | h; exact hB x h; rw [List.mem_singleton.1 h]; exact topR_ok) hE
    have ew : wrap64 ((i : Int) + 1) = ((i + 1 : Nat) : Int) := w64 ((i : Int) + 1) (by omega) (by omega)
    rw [← ew] at a
    refine (i1 way c v X (by omega) (n : Int) (i : Int) r 8 0 [] (by omega) rfl (by rw [List.nil_append]; exact a)).step (fun k => ?_)
    simp only [impl_flowFacts.l0]
    rw [if_pos (by omega)]
    rfl
theorem flow_both (way : Bool) (c : List S87) (h0 : 0 < c.length) (hn : c.length ≤ 8) (hc : ∀ i : Nat, i < c.length → BlkOK c.length (rd_T87 c (i : Int))) (v : List S75) (hv : rowB v) :
    ∃ R, OKX c.length R ∧ Ev (fun k => spec_l5All.f k c v way) R ∧ Ev (fun k => impl_flowFacts.f k c v way) R := by
  have ok : OKX c.length (([] ++ List.replicate c.length topR).set 0 v) := OKX_set ⟨by simp, fun r hr => by rw [List.nil_append] at hr; rw [List.eq_of_mem_replicate hr]; exact topR_ok⟩ 0 hv
  obtain ⟨R, hR, a, b⟩ := l2_both way c hn hc _ _ ok (Nat.lt_succ_self _)
  exact ⟨R, hR, s0 way c v hv.1 c.length h0 hn R c.length 0 [] (by omega) rfl a, i0 way c v hv.1 c.length h0 hn R c.length 0 [] (by omega) rfl (by simp) b⟩

theorem szBlockS3 (l : List S81) (hl : l.length ≤ 9223372036854775807) (hin : ∀ i : Nat, i < l.length → (rd_T81 l i).f0.length ≤ 9223372036854775807) (k : Nat) (hk : 1048577 < k) : ∃ r, laws_szBlockS.f k l 1048576 = some r ∧ r ≤ 1048576 ∧ (r < 0 ∨ l.length ≤ 1048576 ∧ sumB (l.map toB) ≤ 1048576) := by
  unfold laws_szBlockS.f
  rw [w64 _ (by omega) (by omega)]
  by_cases h : (1048576 : Int) - (l.length : Int) < 0
  · rw [if_pos h]
    exact ⟨-1, rfl, by decide, .inl (by decide)⟩
  · rw [if_neg h]
    obtain ⟨r, e1, e2⟩ := szSum_loop l (by omega) hin l.length k 0 (1048576 - (l.length : Int)) (by omega) (by omega) (by omega) (by omega) (by omega)
    refine ⟨r, e1, ?_, ?_⟩
    · omega
    · rw [sum_map]
      rw [List.drop_zero] at e2
      omega
theorem eqSS_loop (X : List (List S75)) (hn : X.length ≤ 8) (hX : ∀ r ∈ X, r.length = 8) (d : Nat) : ∀ (k i : Nat), i + d = X.length → d + 20 < k → laws_eqFactSS.l0 k X X (i : Int) = some true := by
  induction d with
  | zero =>
    intro k i hi hk
    obtain ⟨k, rfl⟩ : ∃ m, k = m + 1 := ⟨k - 1, by omega⟩
    simp only [laws_eqFactSS.l0]
    rw [if_neg (by omega)]
  | succ d ih =>
    intro k i hi hk
    obtain ⟨k, rfl⟩ : ∃ m, k = m + 1 := ⟨k - 1, by omega⟩
    have hlt : i < X.length := by omega
    have h8 : (rd_L10 X (i : Int)).length = 8 := by rw [rdL_nat X i hlt]; exact hX _ (List.getElem_mem _)
    simp only [laws_eqFactSS.l0]
    rw [if_pos (by omega), if_pos (by omega), if_pos (by omega), eqFactS _ (by omega) k (by omega), w64 ((i : Int) + 1) (by omega) (by omega)]
    simp only [Option.bind_some, if_true]
    exact ih k (i + 1) (by omega) (by omega)
theorem eqSS (X : List (List S75)) (hn : X.length ≤ 8) (hX : ∀ r ∈ X, r.length = 8) (k : Nat) (hk : 40 < k) : laws_eqFactSS.f k X X = some true := by
  unfold laws_eqFactSS.f
  rw [if_pos rfl]
  exact eqSS_loop X hn hX X.length k 0 (by omega) (by omega)
theorem markSS_loop (n : Nat) (hn : n ≤ 8) (d : Nat) : ∀ (k i : Nat) (X : List (List S75)) (s : Int), X.length = n → (∀ r ∈ X, r.length = 8) → i + d = n → d + 20 < k → 0 ≤ s → s ≤ 1000 + 24 * (i : Int) →
    ∃ Y, laws_markFactSS.l0 k X s (i : Int) = some (s + 24 * (d : Int), Y) ∧ Y.length = n ∧ (∀ r ∈ Y, r.length = 8) ∧ (∀ j : Nat, j < i → rd_L10 Y (j : Int) = rd_L10 X (j : Int)) ∧ ∀ j : Nat, i ≤ j → j < n → ∀ q : Nat, q < 8 → rd_T75 (rd_L10 Y (j : Int)) (q : Int) = mkF (s + 24 * ((j : Int) - i) + 3 * (q : Int)) := by
  induction d with
  | zero =>
    intro k i X s hX h8 hi hk h0 h1
    obtain ⟨k, rfl⟩ : ∃ m, k = m + 1 := ⟨k - 1, by omega⟩
    simp only [laws_markFactSS.l0]
    rw [if_neg (by omega)]
    exact ⟨X, by simp, hX, h8, fun _ _ => rfl, fun j h1 h2 => by omega⟩
  | succ d ih =>
    intro k i X s hX h8 hi hk h0 h1
    obtain ⟨k, rfl⟩ : ∃ m, k = m + 1 := ⟨k - 1, by omega⟩
    have hlt : i < X.length := by omega
    have hr8 : (rd_L10 X (i : Int)).length = 8 := by rw [rdL_nat X i hlt]; exact h8 _ (List.getElem_mem _)
    obtain ⟨l', g1, g2, g3⟩ := markFactS (rd_L10 X (i : Int)) (by omega) s h0 (by omega) k (by omega)
    simp only [laws_markFactSS.l0]
    rw [if_pos (by omega), if_pos (by omega), show rdFF X (i : Int) = rd_L10 X (i : Int) from rfl, g1, w64 ((i : Int) + 1) (by omega) (by omega)]
    simp only [Option.bind_some, Int.toNat_natCast]
    have hl8 : l'.length = 8 := by omega
    obtain ⟨Y, y1, y2, y3, y4, y5⟩ := ih k (i + 1) (X.set i l') (s + 3 * ((rd_L10 X (i : Int)).length : Int)) (by simpa using hX) (by
      intro r hr
      rcases List.mem_or_eq_of_mem_set hr with h | h
      · exact h8 r h
      · exact h ▸ hl8) (by omega) (by omega) (by omega) (by omega)
    refine ⟨Y, ?_, y2, y3, fun j hj => ?_, fun j hj hjn q hq => ?_⟩
    · rw [show (i : Int) + 1 = ((i + 1 : Nat) : Int) by omega, y1]
      congr 2
      omega
    · rw [y4 j (by omega), rdL_nat _ j (by rw [List.length_set]; omega), rdL_nat X j (by omega), List.getElem_set, if_neg (by omega)]
    · by_cases he : j = i
      · subst he
        rw [y4 j (by omega), rdL_set X j l' hlt, g3 q (by omega)]
        congr 1
        omega
      · rw [y5 j (by omega) hjn q hq]
        congr 1
        omega
theorem heldSS_loop (n : Nat) (hn : n ≤ 8) (Y : List (List S75)) (hY : Y.length = n) (h8 : ∀ r ∈ Y, r.length = 8) (s0 : Int) (h0 : 0 ≤ s0) (h1 : s0 ≤ 1000) (hm : ∀ j : Nat, j < n → ∀ q : Nat, q < 8 → rd_T75 (rd_L10 Y (j : Int)) (q : Int) = mkF (s0 + 24 * (j : Int) + 3 * (q : Int))) (d : Nat) : ∀ (k i : Nat), i + d = n → d + 20 < k →
    laws_heldFactSS.l0 k Y (s0 + 24 * (i : Int)) (i : Int) = some (s0 + 24 * (n : Int)) := by
  induction d with
  | zero =>
    intro k i hi hk
    obtain ⟨k, rfl⟩ : ∃ m, k = m + 1 := ⟨k - 1, by omega⟩
    simp only [laws_heldFactSS.l0]
    rw [if_neg (by omega), show i = n by omega]
  | succ d ih =>
    intro k i hi hk
    obtain ⟨k, rfl⟩ : ∃ m, k = m + 1 := ⟨k - 1, by omega⟩
    have hlt : i < Y.length := by omega
    have hr8 : (rd_L10 Y (i : Int)).length = 8 := by rw [rdL_nat Y i hlt]; exact h8 _ (List.getElem_mem _)
    simp only [laws_heldFactSS.l0]
    rw [if_pos (by omega), if_pos (by omega), heldFactS _ (s0 + 24 * (i : Int)) (by omega) (by omega) (by omega) (fun q hq => hm i (by omega) q (by omega)) k (by omega), w64 ((i : Int) + 1) (by omega) (by omega)]
    simp only [Option.bind_some]
    rw [if_neg (by omega), show s0 + 24 * (i : Int) + 3 * ((rd_L10 Y (i : Int)).length : Int) = s0 + 24 * ((i + 1 : Nat) : Int) by omega]
    exact ih k (i + 1) (by omega) (by omega)
theorem marks (X : List (List S75)) (hn : X.length ≤ 8) (h8 : ∀ r ∈ X, r.length = 8) (k : Nat) (hk : 40 < k) : ∃ m Y, laws_markFactSS.f k X 1 = some (m, Y) ∧ laws_heldFactSS.f k Y 1 = some m ∧ ¬ m < 0 := by
  obtain ⟨Y, y1, y2, y3, _, y5⟩ := markSS_loop X.length hn X.length k 0 X 1 rfl h8 (by omega) (by omega) (by omega) (by omega)
  refine ⟨_, Y, y1, ?_, by omega⟩
  have := heldSS_loop X.length hn Y y2 y3 1 (by omega) (by omega) (fun j hj q hq => by
    rw [y5 j (by omega) hj q hq]
    congr 1
    try omega) X.length k 0 (by omega) (by omega)
  simpa [laws_heldFactSS.f] using this
theorem blk_ok {c : List S87} (h : flowB c = true) : 0 < c.length ∧ c.length ≤ 8 ∧ ∀ i : Nat, i < c.length → BlkOK c.length (rd_T87 c (i : Int)) := by
  have hf : c.all (blockB (c.length : Int)) = true ∧ (1 ≤ (c.length : Int) ∧ (c.length : Int) ≤ 8) := by simpa only [flowB, Bool.and_eq_true, decide_eq_true_eq] using h
  refine ⟨by omega, by omega, fun i hi => ?_⟩
  have hb : blockB (c.length : Int) (rd_T87 c (i : Int)) = true := by
    rw [rd_at87 c i hi]
    exact List.all_eq_true.1 hf.1 _ (List.getElem_mem _)
  simp only [blockB, codeB, Bool.and_eq_true, decide_eq_true_eq] at hb
  obtain ⟨⟨g1, g2⟩, ⟨t0, t1⟩, ⟨x0, x1⟩, ⟨y0, y1⟩⟩ := hb
  exact ⟨g1, g2, t0, t1, by omega, by omega⟩
theorem facts_row {v : List S75} (h : factsB v = true) : rowB v := by
  simp only [factsB, Bool.and_eq_true, decide_eq_true_eq] at h
  refine ⟨h.2, fun x hx => ?_⟩
  have := List.all_eq_true.1 h.1 x hx
  simp only [okF, Bool.and_eq_true, decide_eq_true_eq, Bool.or_eq_true, beq_iff_eq, Bool.not_eq_true'] at this
  obtain ⟨⟨_, h1⟩, h2⟩ := this
  exact ⟨fun e => (by rw [h2] at e; cases e), fun e => h1.resolve_left (by rw [e]; decide)⟩
theorem both (c : List S87) (hm : c.length ≤ 1048576) (hc : ∀ x ∈ c, x.f0.length ≤ 1048576) (v : List S75) (hv : v.length ≤ 1048576) :
    ∃ res b K, (res.length ≤ 8 ∧ ∀ r ∈ res, r.length = 8) ∧ ∀ k, K ≤ k → spec_WayFacts.f k c v = some (res, b) ∧ impl_WayFacts.f k c v = some (res, b) := by
  have e1 := fun k hk => spec_flow c hm hc k hk
  have e2 := fun k hk => isFlow_eq c k hk
  have e3 := fun k hk => spec_facts v (by omega) k hk
  have e4 := fun k hk => areFacts_eq v k hk
  cases hf : flowB c with
  | false =>
    refine ⟨[], false, 3000000, ⟨by simp, by simp⟩, fun k hk => ?_⟩
    simp only [spec_WayFacts.f, impl_WayFacts.f, e1 k (by omega), e2 k (by omega), hf, Option.bind_some]
    exact ⟨rfl, rfl⟩
  | true =>
    cases hg : factsB v with
    | false =>
      refine ⟨[], false, 3000000, ⟨by simp, by simp⟩, fun k hk => ?_⟩
      simp only [spec_WayFacts.f, impl_WayFacts.f, e1 k (by omega), e2 k (by omega), e3 k (by omega), e4 k (by omega), hf, hg, Option.bind_some]
      exact ⟨rfl, rfl⟩
    | true =>
      obtain ⟨b0, b1, b2⟩ := blk_ok hf
      obtain ⟨R, hR, ⟨K1, g1⟩, ⟨K2, g2⟩⟩ := flow_both true c b0 b1 b2 v (facts_row hg)
      refine ⟨R, true, K1 + K2 + 3000000, ⟨by have := hR.1; omega, fun r hr => (hR.2 r hr).1⟩, fun k hk => ?_⟩
      simp only [spec_WayFacts.f, impl_WayFacts.f, e1 k (by omega), e2 k (by omega), e3 k (by omega), e4 k (by omega), hf, hg, g1 k (by omega), g2 k (by omega), Option.bind_some]
      exact ⟨rfl, rfl⟩
theorem FnExactWayFacts (l : List S81) (l1 : List S77) (hl : l.length ≤ 9223372036854775807) (hin : ∀ i : Nat, i < l.length → (rd_T81 l i).f0.length ≤ 9223372036854775807) (hl1 : l1.length ≤ 9223372036854775807) (_ : ∀ x, x ∈ l1 → True ∧ True ∧ (Lit.int .i64 x.f2).wf = true) : ∃ k, laws_FnExactWayFacts.f k l l1 = some true := by
  by_cases hf : (l.length ≤ 1048576 ∧ sumB (l.map toB) ≤ 1048576) ∧ l1.length ≤ 1048576
  · obtain ⟨⟨h1, h2⟩, h3⟩ := hf
    have hcl : ∀ x ∈ l, x.f0.length ≤ 1048576 := by
      intro x hx
      have := sumB_mem (l.map toB) (toB x) (List.mem_map_of_mem hx)
      have e : (toB x).f0.length = x.f0.length := by simp [toB]
      omega
    have tB := fun k hk => toBlockS l h1 hcl k hk
    have tV := fun k hk => toFactS l1 h3 k hk
    have hm : (l.map toB).length ≤ 1048576 := by simpa using h1
    have hvl : (l1.map toF).length ≤ 1048576 := by simpa using h3
    have hc : ∀ x ∈ l.map toB, x.f0.length ≤ 1048576 := fun x hx => by have := sumB_mem (l.map toB) x hx; omega
    obtain ⟨res, b, K, ⟨n8, r8⟩, hK⟩ := both (l.map toB) hm hc (l1.map toF) hvl
    refine ⟨K + 4000001, laws_FnExactWayFacts.of ?_⟩
    generalize hk : K + 4000001 = k
    obtain ⟨g1, g2⟩ := hK k (by omega)
    obtain ⟨s0, e1, e2, e3⟩ := szBlockS3 l hl hin k (by omega)
    by_cases c0 : s0 < 0
    · exact Or.inl ⟨s0, e1, c0⟩
    obtain ⟨s1, e4, e5, e6⟩ := szFactS l1 s0 (by omega) e2 hl1
    by_cases c1 : s1 < 0
    · exact Or.inr (Or.inl ⟨s0, s1, e1, c0, e4, c1⟩)
    obtain ⟨m1, q1, q2, q3⟩ := markBlockS (l.map toB) hm h2 k (by omega)
    obtain ⟨fv2, q4, _, _⟩ := markFactS (l1.map toF) hvl m1 q2 (by omega) k (by omega)
    obtain ⟨m3, res2, q5, q6, q7⟩ := marks res n8 r8 k (by omega)
    exact Or.inr (Or.inr ⟨s0, s1, m1, _, m3, _, _, fv2, res, res2, b, e1, c0, e4, c1, tB k (by omega), tV k (by omega), g1, g2, eqSS res n8 r8 k (by omega), eqBlockS _ hm hc k (by omega), eqFactS _ (by omega) k (by omega), q1, q4, by omega, q5, q6, q7⟩)
  · refine ⟨4000001, laws_FnExactWayFacts.of ?_⟩
    obtain ⟨s0, e1, e2, e3⟩ := szBlockS3 l hl hin 4000001 (by omega)
    by_cases c0 : s0 < 0
    · exact Or.inl ⟨s0, e1, c0⟩
    obtain ⟨s1, e4, e5, e6⟩ := szFactS l1 s0 (by omega) e2 hl1
    refine Or.inr (Or.inl ⟨s0, s1, e1, c0, e4, e6.resolve_right (fun h => hf ⟨e3.resolve_left c0, h⟩)⟩)

end Go.Proofs.Ytpanbicgnmjjiaa.Pure

/- The pure statement of FnExactRunFlow: the program returns what the reference returns, for all arguments. -/
import Derived.Test.YtpanbicgnmjjiaaQFnExactRunFlowXFnExactRunFlowx11
import Derived.Test.YtpanbicgnmjjiaaQFnExactRunFlowBits
namespace Go.Proofs.Ytpanbicgnmjjiaa.Pure
open Go.RowKit Go.Proofs.Ytpanbicgnmjjiaa.XFnExactRunFlow Go.Proofs.YtpanbicgnmjjiaaW.PrintWords Go.Proofs.YtpanbicgnmjjiaaW.PrintLast Go.Proofs.YtpanbicgnmjjiaaW.PrintMore Go.Proofs.YtpanbicgnmjjiaaBits

theorem rd_at65 (l : List S65) (i : Nat) (h : i < l.length) : rd_T65 l i = l[i] := by
  simp [rd_T65, List.getD_eq_getElem?_getD, List.getElem?_eq_getElem h]

def toI (x : S67) : S65 := ⟨x.f0, x.f1, x.f2, x.f3, x.f4⟩
theorem rd_at67 (l : List S67) (i : Nat) (h : i < l.length) : rd_T67 l i = l[i] := by
  simp [rd_T67, List.getD_eq_getElem?_getD, List.getElem?_eq_getElem h]
theorem toInstrS_loop (l : List S67) (hl : l.length ≤ 1048576) (d : Nat) : ∀ (k i : Nat) (m : List S65), m.length = l.length → i ≤ l.length → l.length - i = d → d < k → m.take i = (l.map toI).take i → laws_toInstrS.l0 k l m i = some (l.map toI) := by
  induction d with
  | zero =>
    intro k i m hm hi hd hk ht
    obtain ⟨k, rfl⟩ : ∃ m, k = m + 1 := ⟨k - 1, by omega⟩
    simp only [laws_toInstrS.l0]
    rw [if_neg (by omega)]
    rw [List.take_of_length_le (by omega), List.take_of_length_le (by simp; omega)] at ht
    rw [ht]
  | succ d ih =>
    intro k i m hm hi hd hk ht
    obtain ⟨k, rfl⟩ : ∃ m, k = m + 1 := ⟨k - 1, by omega⟩
    have hlt : i < l.length := by omega
    simp only [laws_toInstrS.l0, laws_toInstr.f, Option.bind_some]
    rw [if_pos (by omega), if_pos (by omega), if_pos (by omega), w64 _ (by omega) (by omega), rd_at67 l i hlt]
    refine ih k (i + 1) (m.set ((i : Int)).toNat (toI l[i])) (by simpa using hm) (by omega) (by omega) (by omega) ?_
    rw [Int.toNat_natCast, List.take_succ_eq_append_getElem (by rw [List.length_set]; omega), List.take_succ_eq_append_getElem (by simpa using hlt), List.take_set_of_le (Nat.le_refl _), ht]
    simp
theorem toInstrS (l : List S67) (hl : l.length ≤ 1048576) (k : Nat) (hk : l.length < k) : laws_toInstrS.f k l = some (l.map toI) := by
  unfold laws_toInstrS.f
  rw [if_pos (by omega), if_pos (by omega)]
  exact toInstrS_loop l hl l.length k 0 _ (by simp) (by omega) (by omega) (by omega) (by simp)
theorem szInstrS (l : List S67) (hl : l.length ≤ 9223372036854775807) : ∃ s, laws_szInstrS.f l 1048576 = some s ∧ (s < 0 ∨ l.length ≤ 1048576) := by
  unfold laws_szInstrS.f
  rw [w64 _ (by omega) (by omega)]
  split
  · exact ⟨-1, rfl, .inl (by decide)⟩
  · exact ⟨_, rfl, .inr (by omega)⟩

theorem szInstrS2 (l : List S67) (hl : l.length ≤ 9223372036854775807) : ∃ s, laws_szInstrS.f l 1048576 = some s ∧ s ≤ 1048576 ∧ (s < 0 ∨ l.length ≤ 1048576) := by
  unfold laws_szInstrS.f
  rw [w64 _ (by omega) (by omega)]
  split
  · exact ⟨-1, rfl, by decide, .inl (by decide)⟩
  · exact ⟨_, rfl, by omega, .inr (by omega)⟩

theorem eqInstrS_loop (l : List S65) (hl : l.length ≤ 4611686018427387904) (d : Nat) : ∀ (k i : Nat), i ≤ l.length → l.length - i = d → d < k → laws_eqInstrS.l0 k l l i = some true := by
  induction d with
  | zero =>
    intro k i hi hd hk
    obtain ⟨k, rfl⟩ : ∃ m, k = m + 1 := ⟨k - 1, by omega⟩
    simp only [laws_eqInstrS.l0]
    rw [if_neg (by omega)]
  | succ d ih =>
    intro k i hi hd hk
    obtain ⟨k, rfl⟩ : ∃ m, k = m + 1 := ⟨k - 1, by omega⟩
    simp only [laws_eqInstrS.l0, laws_eqInstr.f, if_true, Option.bind_some]
    rw [if_pos (by omega), if_pos (by omega), if_pos (by omega), w64 _ (by omega) (by omega)]
    exact ih k (i + 1) (by omega) (by omega) (by omega)
theorem eqInstrS (l : List S65) (hl : l.length ≤ 4611686018427387904) (k : Nat) (hk : l.length < k) : laws_eqInstrS.f k l l = some true := by
  unfold laws_eqInstrS.f
  rw [if_pos rfl]
  exact eqInstrS_loop l hl l.length k 0 (by omega) (by omega) (by omega)

def goodB (x : S65) : Bool := decide ((0 ≤ x.f1 ∧ x.f1 ≤ 7) ∧ (0 ≤ x.f2 ∧ x.f2 ≤ 7) ∧ (0 ≤ x.f3 ∧ x.f3 ≤ 7) ∧ (0 ≤ x.f4 ∧ x.f4 ≤ 65535) ∧ (x.f0 = 1 ∧ x.f2 = 0 ∧ x.f3 = 0 ∨ x.f0 = 2 ∧ x.f3 = 0 ∧ x.f4 = 0 ∨ (3 ≤ x.f0 ∧ x.f0 ≤ 7) ∧ x.f4 = 0 ∨ x.f0 = 8 ∧ x.f1 = 0 ∧ x.f3 = 0 ∧ x.f4 = 0))
theorem inS (a l h : Int) : spec_l1In.f a l h = some (decide (l ≤ a ∧ a ≤ h)) := by
  simp only [spec_l1In.f]
  by_cases h1 : a ≥ l <;> simp [*]
theorem inI (a l h : Int) : impl_in.f a l h = some (decide (l ≤ a ∧ a ≤ h)) := by
  simp only [impl_in.f]
  by_cases h1 : a ≥ l <;> simp [*]
theorem good_spec (x : S65) : spec_l3Good.f x.f0 x.f1 x.f2 x.f3 x.f4 = some (goodB x) := by
  simp only [spec_l3Good.f, spec_l3Name.f, spec_l3Two.f, spec_l1Word.f, inS, Option.bind_some, goodB]
  repeat' split
  all_goals first | rfl | (congr 1; simp_all; done) | (congr 1; simp_all; omega) | (congr 1; rw [Bool.eq_iff_iff]; simp_all; done) | (congr 1; rw [Bool.eq_iff_iff]; simp_all; omega)
theorem good_j0t (k : Nat) (a b c d e : Int) : impl_isInstr.j0 (k + 1) true a b c d e = some false := by simp [impl_isInstr.j0]
theorem good_j0f (k : Nat) (a b c d e : Int) : impl_isInstr.j0 (k + 1 + 1) false a b c d e = some (decide (a = 1 ∧ c = 0 ∧ d = 0 ∨ a = 2 ∧ d = 0 ∧ e = 0 ∨ (3 ≤ a ∧ a ≤ 7) ∧ e = 0 ∨ a = 8 ∧ b = 0 ∧ d = 0 ∧ e = 0)) := by
  simp only [impl_isInstr.j0, impl_isInstr.j1, Bool.false_eq_true, if_false]
  repeat' split
  all_goals first | rfl | (congr 1; simp_all; done) | (congr 1; simp_all; omega) | (congr 1; rw [Bool.eq_iff_iff]; simp_all; done) | (congr 1; rw [Bool.eq_iff_iff]; simp_all; omega)
theorem good_impl (x : S65) (k : Nat) (hk : 2 ≤ k) : impl_isInstr.f k x.f0 x.f1 x.f2 x.f3 x.f4 = some (goodB x) := by
  obtain ⟨k, rfl⟩ : ∃ m, k = m + 1 + 1 := ⟨k - 2, by omega⟩
  simp only [impl_isInstr.f, impl_isName.f, impl_isWord.f, inI, Option.bind_some, goodB]
  by_cases h1 : 0 ≤ x.f1 ∧ x.f1 ≤ 7
  · by_cases h2 : 0 ≤ x.f2 ∧ x.f2 ≤ 7
    · by_cases h3 : 0 ≤ x.f3 ∧ x.f3 ≤ 7
      · by_cases h4 : 0 ≤ x.f4 ∧ x.f4 ≤ 65535
        · simp only [eq_true h1, eq_true h2, eq_true h3, eq_true h4, decide_true, if_true, Bool.not_true, good_j0f, true_and]
        · simp only [eq_true h1, eq_true h2, eq_true h3, eq_false h4, decide_true, if_true, decide_false, Bool.not_false, good_j0t, false_and, and_false]
      · simp only [eq_true h1, eq_true h2, eq_false h3, decide_true, if_true, decide_false, Bool.false_eq_true, if_false, good_j0t, false_and, and_false]
    · simp only [eq_true h1, eq_false h2, decide_true, if_true, decide_false, Bool.false_eq_true, if_false, good_j0t, false_and, and_false]
  · simp only [eq_false h1, decide_false, Bool.false_eq_true, if_false, good_j0t, false_and]

theorem goodCode_loop (l : List S65) (hl : l.length ≤ 4611686018427387904) (d : Nat) : ∀ (k i : Nat), i ≤ l.length → l.length - i = d → d < k →
    spec_GoodCode.l0 k l l (l.length : Int) i = some ((l.drop i).all goodB && decide (l.length ≤ 30)) := by
  induction d with
  | zero =>
    intro k i hi hd hk
    obtain ⟨k, rfl⟩ : ∃ m, k = m + 1 := ⟨k - 1, by omega⟩
    simp only [spec_GoodCode.l0]
    rw [if_neg (by omega), List.drop_of_length_le (by omega)]
    simp
    omega
  | succ d ih =>
    intro k i hi hd hk
    obtain ⟨k, rfl⟩ : ∃ m, k = m + 1 := ⟨k - 1, by omega⟩
    have hlt : i < l.length := by omega
    simp only [spec_GoodCode.l0, good_spec, Option.bind_some]
    rw [if_pos (by omega), if_pos (by omega), if_pos (by omega), w64 _ (by omega) (by omega), rd_at65 l i hlt, List.drop_eq_getElem_cons hlt, List.all_cons]
    cases goodB l[i] with
    | true => simpa using ih k (i + 1) (by omega) (by omega) (by omega)
    | false => simp
def codeB (l : List S65) : Bool := l.all goodB && decide (l.length ≤ 30)
theorem spec_good (l : List S65) (hl : l.length ≤ 4611686018427387904) (k : Nat) (hk : l.length < k) : spec_GoodCode.f k l = some (codeB l) := by
  have := goodCode_loop l hl l.length k 0 (by omega) (by omega) (by omega)
  simpa [spec_GoodCode.f, codeB] using this
theorem index_loop (l : List S65) (hl : l.length ≤ 4611686018427387904) (d : Nat) : ∀ (k i : Nat), i ≤ l.length → l.length - i = d → d + 3 < k →
    ∃ r, slices_IndexFunc_at73.l0 k l (l.length : Int) i = some r ∧ decide (r ≥ 0) = !(l.drop i).all goodB := by
  induction d with
  | zero =>
    intro k i hi hd hk
    obtain ⟨k, rfl⟩ : ∃ m, k = m + 1 := ⟨k - 1, by omega⟩
    simp only [slices_IndexFunc_at73.l0]
    rw [if_neg (by omega), List.drop_of_length_le (by omega)]
    exact ⟨-1, rfl, by simp⟩
  | succ d ih =>
    intro k i hi hd hk
    obtain ⟨k, rfl⟩ : ∃ m, k = m + 1 := ⟨k - 1, by omega⟩
    have hlt : i < l.length := by omega
    simp only [slices_IndexFunc_at73.l0, impl_isCode_1.f, good_impl _ k (by omega), Option.bind_some]
    rw [if_pos (by omega), if_pos (by omega), if_pos (by omega), w64 _ (by omega) (by omega), rd_at65 l i hlt, List.drop_eq_getElem_cons hlt, List.all_cons]
    cases goodB l[i] with
    | true =>
      obtain ⟨r, h1, h2⟩ := ih k (i + 1) (by omega) (by omega) (by omega)
      exact ⟨r, by simpa using h1, by simpa using h2⟩
    | false => exact ⟨i, by simp, by simp⟩
theorem isCode_eq (l : List S65) (k : Nat) (hk : 40 < k) : impl_isCode.f k l = some (codeB l) := by
  unfold impl_isCode.f codeB
  by_cases h : (l.length : Int) ≤ 30
  · rw [if_pos h]
    obtain ⟨r, h1, h2⟩ := index_loop l (by omega) l.length k 0 (by omega) (by omega) (by omega)
    simp only [slices_ContainsFunc_at73.f, slices_IndexFunc_at73.f]
    rw [show (0 : Int) = ((0 : Nat) : Int) from rfl, h1]
    simp only [Option.bind_some]
    rw [show ((0 : Nat) : Int) = 0 from rfl, h2, show decide (l.length ≤ 30) = true from decide_eq_true (by omega)]
    simp
  · rw [if_neg h, show decide (l.length ≤ 30) = false from decide_eq_false (by omega)]
    simp

theorem rd_setI (l : List S65) (v : S65) (i : Nat) (h : i < l.length) : rd_T65 (l.set i v) (i : Int) = v := by
  simp [rd_T65, h]
theorem markInstrS_loop (d : Nat) : ∀ (k : Nat) (l : List S65) (i : Nat) (s : Int), l.length ≤ 1048576 → i ≤ l.length → l.length - i = d → d < k → 0 ≤ s → s ≤ 1000000000000 + 5 * (i : Int) →
    ∃ l', laws_markInstrS.l0 k l s i = some (s + 5 * (d : Int), l') ∧ l'.length = l.length := by
  induction d with
  | zero =>
    intro k l i s hl hi hd hk h0 h1
    obtain ⟨k, rfl⟩ : ∃ m, k = m + 1 := ⟨k - 1, by omega⟩
    simp only [laws_markInstrS.l0]
    rw [if_neg (by omega)]
    exact ⟨l, by simp, rfl⟩
  | succ d ih =>
    intro k l i s hl hi hd hk h0 h1
    obtain ⟨k, rfl⟩ : ∃ m, k = m + 1 := ⟨k - 1, by omega⟩
    have hlt : i < l.length := by omega
    have c1 : (i : Int) < (l.length : Int) := by omega
    have c2 : (0 : Int) ≤ i := by omega
    simp only [laws_markInstrS.l0, if_pos c1, if_pos c2, Option.bind_some, Int.toNat_natCast, List.set_set, rd_setI l _ i hlt, w64 ((i : Int) + 1) (by omega) (by omega), w64 (s + 1) (by omega) (by omega), w64 (s + 1 + 1) (by omega) (by omega), w64 (s + 1 + 1 + 1) (by omega) (by omega), w64 (s + 1 + 1 + 1 + 1) (by omega) (by omega), w64 (s + 1 + 1 + 1 + 1 + 1) (by omega) (by omega)]
    generalize hv : l.set i _ = l2
    have e2 : l2.length = l.length := by rw [← hv]; simp
    obtain ⟨l', g1, g2⟩ := ih k l2 (i + 1) (s + 1 + 1 + 1 + 1 + 1) (by omega) (by omega) (by omega) (by omega) (by omega) (by omega)
    refine ⟨l', ?_, by omega⟩
    rw [show (i : Int) + 1 = ((i + 1 : Nat) : Int) by omega, g1]
    congr 2
    omega
theorem markInstrS (l : List S65) (hl : l.length ≤ 1048576) (s : Int) (h0 : 0 ≤ s) (h1 : s ≤ 1000000000000) (k : Nat) (hk : l.length < k) : ∃ l', laws_markInstrS.f k l s = some (s + 5 * (l.length : Int), l') := by
  obtain ⟨l', g1, _⟩ := markInstrS_loop l.length k l 0 s hl (by omega) (by omega) (by omega) h0 (by omega)
  exact ⟨l', g1⟩

def wB (x : Int) : Bool := decide (0 ≤ x ∧ x ≤ 65535)
theorem rd_atZ (l : List Int) (i : Nat) (h : i < l.length) : rd l i = l[i] := by
  simp [rd, List.getD_eq_getElem?_getD, List.getElem?_eq_getElem h]
theorem words_loop (l : List Int) (hl : l.length ≤ 4611686018427387904) (d : Nat) : ∀ (k i : Nat), i ≤ l.length → l.length - i = d → d < k →
    spec_l3Words.l0 k l l (l.length : Int) i = some ((l.drop i).all wB && decide (l.length = 8)) := by
  induction d with
  | zero =>
    intro k i hi hd hk
    obtain ⟨k, rfl⟩ : ∃ m, k = m + 1 := ⟨k - 1, by omega⟩
    simp only [spec_l3Words.l0]
    rw [if_neg (by omega), List.drop_of_length_le (by omega)]
    by_cases h8 : l.length = 8
    · simp [h8]
    · have : ¬((l.length : Int) = 8) := by omega
      simp [h8, this]
  | succ d ih =>
    intro k i hi hd hk
    obtain ⟨k, rfl⟩ : ∃ m, k = m + 1 := ⟨k - 1, by omega⟩
    have hlt : i < l.length := by omega
    simp only [spec_l3Words.l0, spec_l1Word.f, inS, Option.bind_some]
    rw [if_pos (by omega), if_pos (by omega), if_pos (by omega), w64 _ (by omega) (by omega), rd_atZ l i hlt, List.drop_eq_getElem_cons hlt, List.all_cons]
    have e : decide (0 ≤ l[i] ∧ l[i] ≤ 65535) = wB l[i] := rfl
    rw [e]
    cases wB l[i] with
    | false => simp
    | true => simpa using ih k (i + 1) (by omega) (by omega) (by omega)
def wordsB (l : List Int) : Bool := l.all wB && decide (l.length = 8)
theorem spec_words (l : List Int) (hl : l.length ≤ 4611686018427387904) (k : Nat) (hk : l.length < k) : spec_l3Words.f k l = some (wordsB l) := by
  have := words_loop l hl l.length k 0 (by omega) (by omega) (by omega)
  simpa [spec_l3Words.f, wordsB] using this
theorem indexW_loop (l : List Int) (hl : l.length ≤ 4611686018427387904) (d : Nat) : ∀ (k i : Nat), i ≤ l.length → l.length - i = d → d < k →
    ∃ r, slices_IndexFunc_at47.l0 k l (l.length : Int) i = some r ∧ decide (r ≥ 0) = !(l.drop i).all wB := by
  induction d with
  | zero =>
    intro k i hi hd hk
    obtain ⟨k, rfl⟩ : ∃ m, k = m + 1 := ⟨k - 1, by omega⟩
    simp only [slices_IndexFunc_at47.l0]
    rw [if_neg (by omega), List.drop_of_length_le (by omega)]
    exact ⟨-1, rfl, by simp⟩
  | succ d ih =>
    intro k i hi hd hk
    obtain ⟨k, rfl⟩ : ∃ m, k = m + 1 := ⟨k - 1, by omega⟩
    have hlt : i < l.length := by omega
    simp only [slices_IndexFunc_at47.l0, impl_RunCode_1.f, impl_isWord.f, inI, Option.bind_some]
    rw [if_pos (by omega), if_pos (by omega), if_pos (by omega), w64 _ (by omega) (by omega), rd_atZ l i hlt, List.drop_eq_getElem_cons hlt, List.all_cons]
    have e : decide (0 ≤ l[i] ∧ l[i] ≤ 65535) = wB l[i] := rfl
    rw [e]
    cases wB l[i] with
    | true =>
      obtain ⟨r, h1, h2⟩ := ih k (i + 1) (by omega) (by omega) (by omega)
      exact ⟨r, by simpa using h1, by simpa using h2⟩
    | false => exact ⟨i, by simp, by simp⟩
theorem notWords (l : List Int) (h8 : l.length = 8) (k : Nat) (hk : 40 < k) : slices_ContainsFunc_at47.f k l = some (!wordsB l) := by
  obtain ⟨r, h1, h2⟩ := indexW_loop l (by omega) l.length k 0 (by omega) (by omega) (by omega)
  simp only [slices_ContainsFunc_at47.f, slices_IndexFunc_at47.f]
  rw [show (0 : Int) = ((0 : Nat) : Int) from rfl, h1]
  simp only [Option.bind_some]
  rw [show ((0 : Nat) : Int) = 0 from rfl, h2]
  simp [wordsB, h8]
theorem indexA_loop (l : List Int) (hl : l.length ≤ 4611686018427387904) (d : Nat) : ∀ (k i : Nat), i ≤ l.length → l.length - i = d → d < k →
    ∃ r, slices_IndexFunc_at87.l0 k l (l.length : Int) i = some r ∧ decide (r ≥ 0) = !(l.drop i).all wB := by
  induction d with
  | zero =>
    intro k i hi hd hk
    obtain ⟨k, rfl⟩ : ∃ m, k = m + 1 := ⟨k - 1, by omega⟩
    simp only [slices_IndexFunc_at87.l0]
    rw [if_neg (by omega), List.drop_of_length_le (by omega)]
    exact ⟨-1, rfl, by simp⟩
  | succ d ih =>
    intro k i hi hd hk
    obtain ⟨k, rfl⟩ : ∃ m, k = m + 1 := ⟨k - 1, by omega⟩
    have hlt : i < l.length := by omega
    simp only [slices_IndexFunc_at87.l0, impl_areWords_1.f, impl_isWord.f, inI, Option.bind_some]
    rw [if_pos (by omega), if_pos (by omega), if_pos (by omega), w64 _ (by omega) (by omega), rd_atZ l i hlt, List.drop_eq_getElem_cons hlt, List.all_cons]
    have e : decide (0 ≤ l[i] ∧ l[i] ≤ 65535) = wB l[i] := rfl
    rw [e]
    cases wB l[i] with
    | true =>
      obtain ⟨r, h1, h2⟩ := ih k (i + 1) (by omega) (by omega) (by omega)
      exact ⟨r, by simpa using h1, by simpa using h2⟩
    | false => exact ⟨i, by simp, by simp⟩
theorem notWordsA (l : List Int) (h8 : l.length = 8) (k : Nat) (hk : 40 < k) : slices_ContainsFunc_at87.f k l = some (!wordsB l) := by
  obtain ⟨r, h1, h2⟩ := indexA_loop l (by omega) l.length k 0 (by omega) (by omega) (by omega)
  simp only [slices_ContainsFunc_at87.f, slices_IndexFunc_at87.f]
  rw [show (0 : Int) = ((0 : Nat) : Int) from rfl, h1]
  simp only [Option.bind_some]
  rw [show ((0 : Nat) : Int) = 0 from rfl, h2]
  simp [wordsB, h8]

def dd (op a b : Int) : Int := if op = 3 then Go.bits .and .i64 (wrap64 (a + b)) 65535 else if op = 4 then Go.bits .and .i64 (wrap64 (a - b)) 65535 else if op = 5 then Go.bits .and .i64 (wrap64 (a * b)) 65535 else if op = 6 then (if a < b then 1 else 0) else (if a = b then 1 else 0)
theorem do_spec (op a b : Int) : spec_l3Do.f op a b = some (dd op a b) := by
  simp only [spec_l3Do.f, spec_l3Bit.f, dd]
  by_cases h1 : a < b <;> by_cases h2 : a = b <;> repeat' split
  all_goals first | rfl | omega | (simp_all; done) | (simp_all; omega)
theorem do_impl (op a b : Int) (h0 : 3 ≤ op) (h1 : op ≤ 7) : impl_reckon.f op a b = some (dd op a b) := by
  simp only [impl_reckon.f, dd]
  repeat' split
  all_goals first | rfl | omega

/-- A step: the words and what is told. -/
def rstp (s : List Int × List Int) (x : S65) : List Int × List Int := if x.f0 = 1 then (s.1.set x.f1.toNat x.f4, s.2) else if x.f0 = 2 then (s.1.set x.f1.toNat (rd s.1 x.f2), s.2) else if x.f0 = 8 then (s.1, s.2 ++ [rd s.1 x.f2]) else (s.1.set x.f1.toNat (dd x.f0 (rd s.1 x.f2) (rd s.1 x.f3)), s.2)
theorem rstp_len (s : List Int × List Int) (x : S65) : (rstp s x).1.length = s.1.length ∧ (rstp s x).2.length ≤ s.2.length + 1 := by
  unfold rstp
  repeat' split
  all_goals simp
theorem runs_len (c : List S65) : ∀ s : List Int × List Int, (c.foldl rstp s).1.length = s.1.length ∧ (c.foldl rstp s).2.length ≤ s.2.length + c.length := by
  induction c with
  | nil => intro s; exact ⟨rfl, Nat.le_refl _⟩
  | cons x c ih =>
    intro s
    rw [List.foldl_cons, List.length_cons]
    have h1 := ih (rstp s x)
    have h2 := rstp_len s x
    omega
theorem run_spec (c : List S65) (hc : c.length ≤ 30) (hg : c.all goodB = true) (d : Nat) : ∀ (k i : Nat) (v o : List Int), v.length = 8 → o.length + d ≤ 1000000 → i ≤ c.length → c.length - i = d → d + 3 < k →
    spec_l3Run.l0 k v o c (c.length : Int) i = some (((c.drop i).foldl rstp (v, o)).2, ((c.drop i).foldl rstp (v, o)).1) := by
  induction d with
  | zero =>
    intro k i v o hv ho hi hd hk
    obtain ⟨k, rfl⟩ : ∃ m, k = m + 1 := ⟨k - 1, by omega⟩
    have c1 : ¬((i : Int) < (c.length : Int)) := by omega
    simp only [spec_l3Run.l0, if_neg c1]
    rw [List.drop_of_length_le (by omega)]
    rfl
  | succ d ih =>
    intro k i v o hv ho hi hd hk
    obtain ⟨k, rfl⟩ : ∃ m, k = m + 1 := ⟨k - 1, by omega⟩
    have hlt : i < c.length := by omega
    have hgi : goodB c[i] = true := List.all_eq_true.1 hg _ (List.getElem_mem hlt)
    have c1 : (i : Int) < (c.length : Int) := by omega
    have c2 : (0 : Int) ≤ i := by omega
    have c3 : o.length < 17592186044416 := by omega
    simp only [spec_l3Run.l0, if_pos c1, if_pos c2, if_pos c3, w64 ((i : Int) + 1) (by omega) (by omega), rd_at65 c i hlt, do_spec, Option.bind_some]
    rw [List.drop_eq_getElem_cons hlt, List.foldl_cons]
    have ih' := fun v o hv ho => ih k (i + 1) v o hv ho (by omega) (by omega) (by omega)
    generalize c[i] = x at *
    have hgi := of_decide_eq_true hgi
    obtain ⟨⟨d0, d1⟩, ⟨a0, a1⟩, ⟨b0, b1⟩, ⟨n0, n1⟩, hx⟩ := hgi
    have l1 : x.f1 < (v.length : Int) := by omega
    have l2 : x.f2 < (v.length : Int) := by omega
    have l3 : x.f3 < (v.length : Int) := by omega
    simp only [if_pos d0, if_pos l1, if_pos a0, if_pos l2, if_pos b0, if_pos l3]
    unfold rstp
    repeat' split
    all_goals exact ih' _ _ (by simpa using hv) (by first | omega | (simp; omega))
theorem run_impl (c : List S65) (hc : c.length ≤ 30) (hg : c.all goodB = true) (d : Nat) : ∀ (k i : Nat) (v o : List Int), v.length = 8 → o.length + d ≤ 1000000 → i ≤ c.length → c.length - i = d → d + 3 < k →
    impl_RunCode.l0 k v o c (c.length : Int) i = some (((c.drop i).foldl rstp (v, o)).2, ((c.drop i).foldl rstp (v, o)).1, true) := by
  induction d with
  | zero =>
    intro k i v o hv ho hi hd hk
    obtain ⟨k, rfl⟩ : ∃ m, k = m + 1 := ⟨k - 1, by omega⟩
    have c1 : ¬((i : Int) < (c.length : Int)) := by omega
    simp only [impl_RunCode.l0, if_neg c1]
    rw [List.drop_of_length_le (by omega)]
    rfl
  | succ d ih =>
    intro k i v o hv ho hi hd hk
    obtain ⟨k, rfl⟩ : ∃ m, k = m + 1 := ⟨k - 1, by omega⟩
    have hlt : i < c.length := by omega
    have hgi : goodB c[i] = true := List.all_eq_true.1 hg _ (List.getElem_mem hlt)
    have c1 : (i : Int) < (c.length : Int) := by omega
    have c2 : (0 : Int) ≤ i := by omega
    have c3 : o.length < 17592186044416 := by omega
    simp only [impl_RunCode.l0, if_pos c1, if_pos c2, if_pos c3, w64 ((i : Int) + 1) (by omega) (by omega), rd_at65 c i hlt]
    rw [List.drop_eq_getElem_cons hlt, List.foldl_cons]
    have ih' := fun v o hv ho => ih k (i + 1) v o hv ho (by omega) (by omega) (by omega)
    generalize c[i] = x at *
    have hgi := of_decide_eq_true hgi
    obtain ⟨⟨d0, d1⟩, ⟨a0, a1⟩, ⟨b0, b1⟩, ⟨n0, n1⟩, hx⟩ := hgi
    have l1 : x.f1 < (v.length : Int) := by omega
    have l2 : x.f2 < (v.length : Int) := by omega
    have l3 : x.f3 < (v.length : Int) := by omega
    simp only [if_pos d0, if_pos l1, if_pos a0, if_pos l2, if_pos b0, if_pos l3]
    by_cases h8 : x.f0 = 8
    · have e : rstp (v, o) x = (v, o ++ [rd v x.f2]) := by unfold rstp; rw [if_neg (by omega), if_neg (by omega), if_pos h8]
      rw [if_pos h8, e]
      exact ih' _ _ hv (by simp; omega)
    · rw [if_neg h8]
      by_cases h1 : x.f0 = 1
      · have e : rstp (v, o) x = (v.set x.f1.toNat x.f4, o) := by unfold rstp; rw [if_pos h1]
        rw [if_pos h1, e]
        exact ih' _ _ (by simpa using hv) (by omega)
      · rw [if_neg h1]
        by_cases h2 : x.f0 = 2
        · have e : rstp (v, o) x = (v.set x.f1.toNat (rd v x.f2), o) := by unfold rstp; rw [if_neg h1, if_pos h2]
          rw [if_pos h2, e]
          exact ih' _ _ (by simpa using hv) (by omega)
        · have e : rstp (v, o) x = (v.set x.f1.toNat (dd x.f0 (rd v x.f2) (rd v x.f3)), o) := by unfold rstp; rw [if_neg h1, if_neg h2, if_neg h8]
          rw [if_neg h2, do_impl x.f0 _ _ (by omega) (by omega), e]
          simp only [Option.bind_some]
          exact ih' _ _ (by simpa using hv) (by omega)

theorem toIntS_loop (l : List Int) (hl : l.length ≤ 1048576) (d : Nat) : ∀ (k i : Nat) (m : List Int), m.length = l.length → i ≤ l.length → l.length - i = d → d < k → m.take i = l.take i → laws_toIntS.l0 k l m i = some l := by
  induction d with
  | zero =>
    intro k i m hm hi hd hk ht
    obtain ⟨k, rfl⟩ : ∃ m, k = m + 1 := ⟨k - 1, by omega⟩
    simp only [laws_toIntS.l0]
    rw [if_neg (by omega)]
    rw [List.take_of_length_le (by omega), List.take_of_length_le (by omega)] at ht
    rw [ht]
  | succ d ih =>
    intro k i m hm hi hd hk ht
    obtain ⟨k, rfl⟩ : ∃ m, k = m + 1 := ⟨k - 1, by omega⟩
    simp only [laws_toIntS.l0]
    rw [if_pos (by omega), if_pos (by omega), if_pos (by omega), w64 _ (by omega) (by omega)]
    have hlt : i < l.length := by omega
    refine ih k (i + 1) (m.set ((i : Int)).toNat (rd l i)) (by simpa using hm) (by omega) (by omega) (by omega) ?_
    rw [Int.toNat_natCast, List.take_succ_eq_append_getElem (by rw [List.length_set]; omega), List.take_succ_eq_append_getElem hlt, List.take_set_of_le (Nat.le_refl _), ht]
    simp [rd, List.getD_eq_getElem?_getD, List.getElem?_eq_getElem hlt]
theorem toIntS (l : List Int) (hl : l.length ≤ 1048576) (k : Nat) (hk : l.length < k) : laws_toIntS.f k l = some l := by
  unfold laws_toIntS.f
  rw [if_pos (by omega), if_pos (by omega)]
  exact toIntS_loop l hl l.length k 0 _ (by simp) (by omega) (by omega) (by omega) (by simp)

theorem eqIntS_loop (l : List Int) (hl : l.length ≤ 4611686018427387904) (d : Nat) : ∀ (k i : Nat), i ≤ l.length → l.length - i = d → d < k → laws_eqIntS.l0 k l l i = some true := by
  induction d with
  | zero =>
    intro k i hi hd hk
    obtain ⟨k, rfl⟩ : ∃ m, k = m + 1 := ⟨k - 1, by omega⟩
    simp only [laws_eqIntS.l0]
    rw [if_neg (by omega)]
  | succ d ih =>
    intro k i hi hd hk
    obtain ⟨k, rfl⟩ : ∃ m, k = m + 1 := ⟨k - 1, by omega⟩
    simp only [laws_eqIntS.l0]
    rw [if_pos (by omega), if_pos (by omega), if_pos (by omega), if_pos True.intro, w64 _ (by omega) (by omega)]
    exact ih k (i + 1) (by omega) (by omega) (by omega)
theorem eqIntS (l : List Int) (hl : l.length ≤ 4611686018427387904) (k : Nat) (hk : l.length < k) : laws_eqIntS.f k l l = some true := by
  unfold laws_eqIntS.f
  rw [if_pos rfl]
  exact eqIntS_loop l hl l.length k 0 (by omega) (by omega) (by omega)

def ramp (a : Int) (n : Nat) : List Int := (List.range n).map fun i => a + (i : Nat)
theorem ramp_length (a : Int) (n : Nat) : (ramp a n).length = n := by simp [ramp]
theorem ramp_rd (a : Int) (n i : Nat) (h : i < n) : rd (ramp a n) i = a + i := by
  simp [ramp, rd, List.getD_eq_getElem?_getD, List.getElem?_map, List.getElem?_range h]

theorem markIntS_loop (n : Nat) (hn : n ≤ 1048576) (b : Int) (hb0 : 0 ≤ b) (hb1 : b ≤ 1000000000) (d : Nat) : ∀ (k i : Nat) (m : List Int), m.length = n → i ≤ n → n - i = d → d < k → m.take i = (ramp b n).take i →
    laws_markIntS.l0 k m (b + i) i = some (b + n, ramp b n) := by
  induction d with
  | zero =>
    intro k i m hm hi hd hk ht
    obtain ⟨k, rfl⟩ : ∃ m, k = m + 1 := ⟨k - 1, by omega⟩
    simp only [laws_markIntS.l0]
    rw [if_neg (by omega)]
    rw [List.take_of_length_le (by omega), List.take_of_length_le (by rw [ramp_length]; omega)] at ht
    rw [ht, show i = n by omega]
  | succ d ih =>
    intro k i m hm hi hd hk ht
    obtain ⟨k, rfl⟩ : ∃ m, k = m + 1 := ⟨k - 1, by omega⟩
    simp only [laws_markIntS.l0]
    rw [if_pos (by omega), if_pos (by omega), w64 _ (by omega) (by omega), w64 _ (by omega) (by omega)]
    have hlt : i < (ramp b n).length := by rw [ramp_length]; omega
    rw [show b + (i : Int) + 1 = b + ((i + 1 : Nat) : Int) by omega]
    refine ih k (i + 1) (m.set ((i : Int)).toNat (b + i)) (by simpa using hm) (by omega) (by omega) (by omega) ?_
    rw [Int.toNat_natCast, List.take_succ_eq_append_getElem (by rw [List.length_set]; omega), List.take_succ_eq_append_getElem hlt, List.take_set_of_le (Nat.le_refl _), ht]
    simp [ramp]
theorem markIntS (m : List Int) (hn : m.length ≤ 1048576) (b : Int) (hb0 : 0 ≤ b) (hb1 : b ≤ 1000000000) (k : Nat) (hk : m.length < k) : laws_markIntS.f k m b = some (b + m.length, ramp b m.length) := by
  unfold laws_markIntS.f
  have := markIntS_loop m.length hn b hb0 hb1 m.length k 0 m rfl (by omega) (by omega) (by omega) (by simp)
  rw [show b + ((0 : Nat) : Int) = b by omega] at this
  exact this
theorem heldIntS_loop (n : Nat) (hn : n ≤ 1048576) (b : Int) (hb0 : 0 ≤ b) (hb1 : b ≤ 1000000000) (d : Nat) : ∀ (k i : Nat), i ≤ n → n - i = d → d < k →
    laws_heldIntS.l0 k (ramp b n) (b + i) i = some (b + n) := by
  induction d with
  | zero =>
    intro k i hi hd hk
    obtain ⟨k, rfl⟩ : ∃ m, k = m + 1 := ⟨k - 1, by omega⟩
    simp only [laws_heldIntS.l0]
    rw [if_neg (by rw [ramp_length]; omega), show i = n by omega]
  | succ d ih =>
    intro k i hi hd hk
    obtain ⟨k, rfl⟩ : ∃ m, k = m + 1 := ⟨k - 1, by omega⟩
    simp only [laws_heldIntS.l0]
    rw [if_pos (by rw [ramp_length]; omega), if_pos (by omega), if_pos (ramp_rd b n i (by omega)), w64 _ (by omega) (by omega), w64 _ (by omega) (by omega)]
    rw [show b + (i : Int) + 1 = b + ((i + 1 : Nat) : Int) by omega]
    exact ih k (i + 1) (by omega) (by omega) (by omega)
theorem heldIntS (n : Nat) (hn : n ≤ 1048576) (b : Int) (hb0 : 0 ≤ b) (hb1 : b ≤ 1000000000) (k : Nat) (hk : n < k) : laws_heldIntS.f k (ramp b n) b = some (b + n) := by
  unfold laws_heldIntS.f
  have := heldIntS_loop n hn b hb0 hb1 n k 0 (by omega) (by omega) (by omega)
  rw [show b + ((0 : Nat) : Int) = b by omega] at this
  exact this

def toB (x : S81) : S87 := ⟨x.f0.map toI, x.f1, x.f2, x.f3⟩
theorem rd_at81 (l : List S81) (i : Nat) (h : i < l.length) : rd_T81 l i = l[i] := by
  simp [rd_T81, List.getD_eq_getElem?_getD, List.getElem?_eq_getElem h]
theorem rd_at87 (l : List S87) (i : Nat) (h : i < l.length) : rd_T87 l i = l[i] := by
  simp [rd_T87, List.getD_eq_getElem?_getD, List.getElem?_eq_getElem h]
theorem szI (c : List S67) (s : Int) (h0 : 0 ≤ s) (h1 : s ≤ 1048576) (hc : c.length ≤ 9223372036854775807) : ∃ r, laws_szInstrS.f c s = some r ∧ r ≤ 1048576 ∧ (r < 0 ∨ c.length ≤ 1048576) := by
  unfold laws_szInstrS.f
  rw [w64 _ (by omega) (by omega)]
  split
  · exact ⟨-1, rfl, by decide, .inl (by decide)⟩
  · exact ⟨_, rfl, by omega, .inr (by omega)⟩
theorem szBlockS_loop (l : List S81) (hl : l.length ≤ 1048576) (hin : ∀ i : Nat, i < l.length → (rd_T81 l i).f0.length ≤ 9223372036854775807) (d : Nat) : ∀ (k i : Nat) (s : Int), 0 ≤ s → s ≤ 1048576 → i ≤ l.length → l.length - i = d → d < k →
    ∃ r, laws_szBlockS.l0 k l s i = some r ∧ (r < 0 ∨ ∀ j : Nat, i ≤ j → j < l.length → (rd_T81 l j).f0.length ≤ 1048576) := by
  induction d with
  | zero =>
    intro k i s h0 h1 hi hd hk
    obtain ⟨k, rfl⟩ : ∃ m, k = m + 1 := ⟨k - 1, by omega⟩
    simp only [laws_szBlockS.l0]
    rw [if_neg (by omega)]
    exact ⟨s, rfl, .inr fun j a b => by omega⟩
  | succ d ih =>
    intro k i s h0 h1 hi hd hk
    obtain ⟨k, rfl⟩ : ∃ m, k = m + 1 := ⟨k - 1, by omega⟩
    obtain ⟨r, e1, e2, e3⟩ := szI (rd_T81 l i).f0 s h0 h1 (hin i (by omega))
    simp only [laws_szBlockS.l0, laws_szBlock.f, e1, Option.bind_some]
    rw [if_pos (by omega), if_pos (by omega), w64 _ (by omega) (by omega)]
    by_cases hr : r < 0
    · rw [if_pos hr]
      exact ⟨-1, by simp, .inl (by decide)⟩
    · rw [if_neg hr]
      simp only [Option.bind_some]
      rw [if_neg hr]
      obtain ⟨r2, f1, f2⟩ := ih k (i + 1) r (by omega) e2 (by omega) (by omega) (by omega)
      refine ⟨r2, f1, ?_⟩
      rcases f2 with f2 | f2
      · exact .inl f2
      · refine .inr fun j a b => ?_
        by_cases hj : j = i
        · subst hj; omega
        · exact f2 j (by omega) b
theorem szBlockS (l : List S81) (hl : l.length ≤ 9223372036854775807) (hin : ∀ i : Nat, i < l.length → (rd_T81 l i).f0.length ≤ 9223372036854775807) (k : Nat) (hk : 1048577 < k) : ∃ r, laws_szBlockS.f k l 1048576 = some r ∧ (r < 0 ∨ l.length ≤ 1048576 ∧ ∀ x ∈ l, x.f0.length ≤ 1048576) := by
  unfold laws_szBlockS.f
  rw [w64 _ (by omega) (by omega)]
  by_cases h : (1048576 : Int) - (l.length : Int) < 0
  · rw [if_pos h]
    exact ⟨-1, rfl, .inl (by decide)⟩
  · rw [if_neg h]
    obtain ⟨r, e1, e2⟩ := szBlockS_loop l (by omega) hin l.length k 0 (1048576 - (l.length : Int)) (by omega) (by omega) (by omega) (by omega) (by omega)
    refine ⟨r, e1, ?_⟩
    rcases e2 with e2 | e2
    · exact .inl e2
    · refine .inr ⟨by omega, fun x hx => ?_⟩
      obtain ⟨j, hj, rfl⟩ := List.getElem_of_mem hx
      have := e2 j (by omega) hj
      rwa [rd_at81 l j hj] at this
theorem toBlockS_loop (l : List S81) (hl : l.length ≤ 1048576) (hc : ∀ x ∈ l, x.f0.length ≤ 1048576) (d : Nat) : ∀ (k i : Nat) (m : List S87), m.length = l.length → i ≤ l.length → l.length - i = d → d + 1048578 < k → m.take i = (l.map toB).take i → laws_toBlockS.l0 k l m i = some (l.map toB) := by
  induction d with
  | zero =>
    intro k i m hm hi hd hk ht
    obtain ⟨k, rfl⟩ : ∃ m, k = m + 1 := ⟨k - 1, by omega⟩
    simp only [laws_toBlockS.l0]
    rw [if_neg (by omega)]
    rw [List.take_of_length_le (by omega), List.take_of_length_le (by simp; omega)] at ht
    rw [ht]
  | succ d ih =>
    intro k i m hm hi hd hk ht
    obtain ⟨k, rfl⟩ : ∃ m, k = m + 1 := ⟨k - 1, by omega⟩
    have hlt : i < l.length := by omega
    have hci := hc l[i] (List.getElem_mem hlt)
    simp only [laws_toBlockS.l0, laws_toBlock.f, rd_at81 l i hlt, toInstrS l[i].f0 hci k (by omega), Option.bind_some]
    rw [if_pos (by omega), if_pos (by omega), if_pos (by omega), w64 _ (by omega) (by omega)]
    refine ih k (i + 1) (m.set ((i : Int)).toNat (toB l[i])) (by simpa using hm) (by omega) (by omega) (by omega) ?_
    rw [Int.toNat_natCast, List.take_succ_eq_append_getElem (by rw [List.length_set]; omega), List.take_succ_eq_append_getElem (by simpa using hlt), List.take_set_of_le (Nat.le_refl _), ht]
    simp
theorem toBlockS (l : List S81) (hl : l.length ≤ 1048576) (hc : ∀ x ∈ l, x.f0.length ≤ 1048576) (k : Nat) (hk : 2097160 < k) : laws_toBlockS.f k l = some (l.map toB) := by
  unfold laws_toBlockS.f
  rw [if_pos (by omega), if_pos (by omega)]
  exact toBlockS_loop l hl hc l.length k 0 _ (by simp) (by omega) (by omega) (by omega) (by simp)
theorem eqBlockS_loop (l : List S87) (hl : l.length ≤ 1048576) (hc : ∀ x ∈ l, x.f0.length ≤ 1048576) (d : Nat) : ∀ (k i : Nat), i ≤ l.length → l.length - i = d → d + 1048578 < k → laws_eqBlockS.l0 k l l i = some true := by
  induction d with
  | zero =>
    intro k i hi hd hk
    obtain ⟨k, rfl⟩ : ∃ m, k = m + 1 := ⟨k - 1, by omega⟩
    simp only [laws_eqBlockS.l0]
    rw [if_neg (by omega)]
  | succ d ih =>
    intro k i hi hd hk
    obtain ⟨k, rfl⟩ : ∃ m, k = m + 1 := ⟨k - 1, by omega⟩
    have hlt : i < l.length := by omega
    have hci := hc l[i] (List.getElem_mem hlt)
    simp only [laws_eqBlockS.l0, laws_eqBlock.f, rd_at87 l i hlt, eqInstrS l[i].f0 (by omega) k (by omega), if_true, Option.bind_some]
    rw [if_pos (by omega), if_pos (by omega), if_pos (by omega), w64 _ (by omega) (by omega)]
    exact ih k (i + 1) (by omega) (by omega) (by omega)
theorem eqBlockS (l : List S87) (hl : l.length ≤ 1048576) (hc : ∀ x ∈ l, x.f0.length ≤ 1048576) (k : Nat) (hk : 2097160 < k) : laws_eqBlockS.f k l l = some true := by
  unfold laws_eqBlockS.f
  rw [if_pos rfl]
  exact eqBlockS_loop l hl hc l.length k 0 (by omega) (by omega) (by omega)

def blockB (n : Int) (b : S87) : Bool := codeB b.f0 && (decide (0 ≤ b.f1 ∧ b.f1 ≤ 7) && (decide (-1 ≤ b.f2 ∧ b.f2 ≤ n - 1) && decide (-1 ≤ b.f3 ∧ b.f3 ≤ n - 1)))
theorem block_impl (n : Int) (b : S87) (k : Nat) (hk : 40 < k) (h0 : 0 ≤ n) (h1 : n ≤ 1048576) : impl_isFlow_1.f k b.f0 b.f1 b.f2 b.f3 n = some (!blockB n b) := by
  simp only [impl_isFlow_1.f, impl_isName.f, isCode_eq b.f0 k hk, inI, Option.bind_some, w64 (n - 1) (by omega) (by omega), blockB]
  cases codeB b.f0 <;> by_cases h2 : 0 ≤ b.f1 ∧ b.f1 ≤ 7 <;> by_cases h3 : -1 ≤ b.f2 ∧ b.f2 ≤ n - 1 <;> simp [h2, h3]
theorem flow_loop (l : List S87) (hl : l.length ≤ 1048576) (hc : ∀ x ∈ l, x.f0.length ≤ 1048576) (d : Nat) : ∀ (k i : Nat), i ≤ l.length → l.length - i = d → d + 1048578 < k →
    spec_GoodFlow.l0 k l l (l.length : Int) i = some ((l.drop i).all (blockB (l.length : Int)) && decide (1 ≤ (l.length : Int) ∧ (l.length : Int) ≤ 8)) := by
  induction d with
  | zero =>
    intro k i hi hd hk
    obtain ⟨k, rfl⟩ : ∃ m, k = m + 1 := ⟨k - 1, by omega⟩
    simp only [spec_GoodFlow.l0, inS]
    rw [if_neg (by omega), List.drop_of_length_le (by omega)]
    simp
  | succ d ih =>
    intro k i hi hd hk
    obtain ⟨k, rfl⟩ : ∃ m, k = m + 1 := ⟨k - 1, by omega⟩
    have hlt : i < l.length := by omega
    have hci := hc l[i] (List.getElem_mem hlt)
    have c1 : (i : Int) < (l.length : Int) := by omega
    have c2 : (0 : Int) ≤ i := by omega
    simp only [spec_GoodFlow.l0, spec_l3Name.f, rd_at87 l i hlt, spec_good l[i].f0 (by omega) k (by omega), inS, Option.bind_some, if_pos c1, if_pos c2, w64 ((i : Int) + 1) (by omega) (by omega), w64 ((l.length : Int) - 1) (by omega) (by omega)]
    rw [List.drop_eq_getElem_cons hlt, List.all_cons]
    have ih' := ih k (i + 1) (by omega) (by omega) (by omega)
    rw [show (i : Int) + 1 = ((i + 1 : Nat) : Int) by omega, ih']
    generalize (l.drop (i + 1)).all (blockB (l.length : Int)) = R
    generalize (l.length : Int) = n at *
    simp only [blockB]
    cases codeB l[i].f0 <;> by_cases h2 : 0 ≤ l[i].f1 ∧ l[i].f1 ≤ 7 <;> by_cases h3 : -1 ≤ l[i].f2 ∧ l[i].f2 ≤ n - 1 <;> by_cases h4 : -1 ≤ l[i].f3 ∧ l[i].f3 ≤ n - 1 <;> simp [h2, h3, h4]
theorem indexB_loop (l : List S87) (hl : l.length ≤ 1048576) (d : Nat) : ∀ (k i : Nat), i ≤ l.length → l.length - i = d → d + 41 < k →
    ∃ r, slices_IndexFunc_at85.l0 k l (l.length : Int) i (l.length : Int) = some r ∧ decide (r ≥ 0) = !(l.drop i).all (blockB (l.length : Int)) := by
  induction d with
  | zero =>
    intro k i hi hd hk
    obtain ⟨k, rfl⟩ : ∃ m, k = m + 1 := ⟨k - 1, by omega⟩
    simp only [slices_IndexFunc_at85.l0]
    rw [if_neg (by omega), List.drop_of_length_le (by omega)]
    exact ⟨-1, rfl, by simp⟩
  | succ d ih =>
    intro k i hi hd hk
    obtain ⟨k, rfl⟩ : ∃ m, k = m + 1 := ⟨k - 1, by omega⟩
    have hlt : i < l.length := by omega
    simp only [slices_IndexFunc_at85.l0, block_impl (l.length : Int) _ k (by omega) (by omega) (by omega), Option.bind_some]
    rw [if_pos (by omega), if_pos (by omega), if_pos (by omega), w64 _ (by omega) (by omega), rd_at87 l i hlt, List.drop_eq_getElem_cons hlt, List.all_cons]
    cases blockB (l.length : Int) l[i] with
    | true =>
      obtain ⟨r, h1, h2⟩ := ih k (i + 1) (by omega) (by omega) (by omega)
      exact ⟨r, by simpa using h1, by simpa using h2⟩
    | false => exact ⟨i, by simp, by simp⟩
def flowB (l : List S87) : Bool := l.all (blockB (l.length : Int)) && decide (1 ≤ (l.length : Int) ∧ (l.length : Int) ≤ 8)
theorem spec_flow (l : List S87) (hl : l.length ≤ 1048576) (hc : ∀ x ∈ l, x.f0.length ≤ 1048576) (k : Nat) (hk : 2097160 < k) : spec_GoodFlow.f k l = some (flowB l) := by
  have := flow_loop l hl hc l.length k 0 (by omega) (by omega) (by omega)
  simpa [spec_GoodFlow.f, flowB] using this
theorem isFlow_eq (l : List S87) (k : Nat) (hk : 100 < k) : impl_isFlow.f k l = some (flowB l) := by
  simp only [impl_isFlow.f, inI, Option.bind_some, flowB, decide_eq_true_eq]
  by_cases h : 1 ≤ (l.length : Int) ∧ (l.length : Int) ≤ 8
  · obtain ⟨r, h1, h2⟩ := indexB_loop l (by omega) l.length k 0 (by omega) (by omega) (by omega)
    simp only [slices_ContainsFunc_at85.f, slices_IndexFunc_at85.f]
    rw [show (0 : Int) = ((0 : Nat) : Int) from rfl, h1]
    simp only [Option.bind_some]
    rw [show ((0 : Nat) : Int) = 0 from rfl, h2, if_pos h]
    simp [h]
  · rw [if_neg h]
    simp [h]

theorem szI2 (c : List S67) (s : Int) (h0 : 0 ≤ s) (h1 : s ≤ 1048576) (hc : c.length ≤ 9223372036854775807) : ∃ r, laws_szInstrS.f c s = some r ∧ r ≤ 1048576 ∧ (r < 0 ∨ (c.length : Int) + r = s) := by
  unfold laws_szInstrS.f
  rw [w64 _ (by omega) (by omega)]
  split
  · exact ⟨-1, rfl, by decide, .inl (by decide)⟩
  · exact ⟨_, rfl, by omega, .inr (by omega)⟩
def sumK (l : List S81) : Nat := (l.map fun x => x.f0.length).sum
def sumB (l : List S87) : Nat := (l.map fun x => x.f0.length).sum
theorem sumB_mem (l : List S87) : ∀ x ∈ l, x.f0.length ≤ sumB l := by
  induction l with
  | nil => intro x hx; cases hx
  | cons y l ih =>
    intro x hx
    have e : sumB (y :: l) = y.f0.length + sumB l := by simp [sumB]
    rcases List.mem_cons.1 hx with rfl | h
    · omega
    · have := ih x h
      omega
theorem sum_map (l : List S81) : sumB (l.map toB) = sumK l := by
  induction l with
  | nil => rfl
  | cons y l ih =>
    have e1 : sumB ((y :: l).map toB) = (toB y).f0.length + sumB (l.map toB) := by simp [sumB]
    have e2 : sumK (y :: l) = y.f0.length + sumK l := by simp [sumK]
    rw [e1, e2, ih]
    simp [toB]
theorem szSum_loop (l : List S81) (hl : l.length ≤ 1048576) (hin : ∀ i : Nat, i < l.length → (rd_T81 l i).f0.length ≤ 9223372036854775807) (d : Nat) : ∀ (k i : Nat) (s : Int), 0 ≤ s → s ≤ 1048576 → i ≤ l.length → l.length - i = d → d < k →
    ∃ r, laws_szBlockS.l0 k l s i = some r ∧ (r < 0 ∨ (sumK (l.drop i) : Int) + r = s) := by
  induction d with
  | zero =>
    intro k i s h0 h1 hi hd hk
    obtain ⟨k, rfl⟩ : ∃ m, k = m + 1 := ⟨k - 1, by omega⟩
    simp only [laws_szBlockS.l0]
    rw [if_neg (by omega), List.drop_of_length_le (by omega)]
    exact ⟨s, rfl, .inr (by simp [sumK])⟩
  | succ d ih =>
    intro k i s h0 h1 hi hd hk
    obtain ⟨k, rfl⟩ : ∃ m, k = m + 1 := ⟨k - 1, by omega⟩
    have hlt : i < l.length := by omega
    obtain ⟨r, e1, e2, e3⟩ := szI2 (rd_T81 l i).f0 s h0 h1 (hin i (by omega))
    simp only [laws_szBlockS.l0, laws_szBlock.f, e1, Option.bind_some]
    rw [if_pos (by omega), if_pos (by omega), w64 _ (by omega) (by omega)]
    by_cases hr : r < 0
    · rw [if_pos hr]
      exact ⟨-1, by simp, .inl (by decide)⟩
    · rw [if_neg hr]
      simp only [Option.bind_some]
      rw [if_neg hr]
      obtain ⟨r2, f1, f2⟩ := ih k (i + 1) r (by omega) e2 (by omega) (by omega) (by omega)
      refine ⟨r2, f1, ?_⟩
      have e4 : sumK (l.drop i) = (rd_T81 l i).f0.length + sumK (l.drop (i + 1)) := by
        rw [List.drop_eq_getElem_cons hlt, rd_at81 l i hlt]
        show ((l[i] :: l.drop (i + 1)).map fun x => x.f0.length).sum = _
        rw [List.map_cons, List.sum_cons]
        rfl
      omega
theorem szBlockS2 (l : List S81) (hl : l.length ≤ 9223372036854775807) (hin : ∀ i : Nat, i < l.length → (rd_T81 l i).f0.length ≤ 9223372036854775807) (k : Nat) (hk : 1048577 < k) : ∃ r, laws_szBlockS.f k l 1048576 = some r ∧ (r < 0 ∨ l.length ≤ 1048576 ∧ sumB (l.map toB) ≤ 1048576) := by
  unfold laws_szBlockS.f
  rw [w64 _ (by omega) (by omega)]
  by_cases h : (1048576 : Int) - (l.length : Int) < 0
  · rw [if_pos h]
    exact ⟨-1, rfl, .inl (by decide)⟩
  · rw [if_neg h]
    obtain ⟨r, e1, e2⟩ := szSum_loop l (by omega) hin l.length k 0 (1048576 - (l.length : Int)) (by omega) (by omega) (by omega) (by omega) (by omega)
    refine ⟨r, e1, ?_⟩
    rw [sum_map]
    rw [List.drop_zero] at e2
    omega
theorem markBlockS_loop (d : Nat) : ∀ (k : Nat) (l : List S87) (i : Nat) (s : Int), l.length ≤ 1048576 → sumB (l.drop i) ≤ 1048576 → i ≤ l.length → l.length - i = d → d + 1048580 < k → 0 ≤ s → s + 5 * (sumB (l.drop i) : Int) + 3 * (d : Int) ≤ 1000000000 →
    laws_markBlockS.l0 k l s i = some (s + 5 * (sumB (l.drop i) : Int) + 3 * (d : Int)) := by
  induction d with
  | zero =>
    intro k l i s hl hs hi hd hk h0 h1
    obtain ⟨k, rfl⟩ : ∃ m, k = m + 1 := ⟨k - 1, by omega⟩
    simp only [laws_markBlockS.l0]
    rw [if_neg (by omega), List.drop_of_length_le (by omega)]
    simp [sumB]
  | succ d ih =>
    intro k l i s hl hs hi hd hk h0 h1
    obtain ⟨k, rfl⟩ : ∃ m, k = m + 1 := ⟨k - 1, by omega⟩
    have hlt : i < l.length := by omega
    have e4 : sumB (l.drop i) = l[i].f0.length + sumB (l.drop (i + 1)) := by
      rw [List.drop_eq_getElem_cons hlt]
      show ((l[i] :: l.drop (i + 1)).map fun x => x.f0.length).sum = _
      rw [List.map_cons, List.sum_cons]
      rfl
    obtain ⟨c', g1⟩ := markInstrS l[i].f0 (by omega) s h0 (by omega) k (by omega)
    simp only [laws_markBlockS.l0, rd_at87 l i hlt, g1, Option.bind_some]
    rw [if_pos (by omega), if_pos (by omega), w64 ((i : Int) + 1) (by omega) (by omega), w64 (s + 5 * (l[i].f0.length : Int) + 1) (by omega) (by omega), w64 (s + 5 * (l[i].f0.length : Int) + 1 + 1) (by omega) (by omega), w64 (s + 5 * (l[i].f0.length : Int) + 1 + 1 + 1) (by omega) (by omega)]
    generalize hv : l.set (i : Int).toNat _ = l2
    have hv2 : l2.length = l.length := by rw [← hv]; simp
    have hv3 : l2.drop (i + 1) = l.drop (i + 1) := by
      rw [← hv, Int.toNat_natCast, List.drop_set_of_lt (by omega)]
    have := ih k l2 (i + 1) (s + 5 * (l[i].f0.length : Int) + 1 + 1 + 1) (by omega) (by rw [hv3]; omega) (by omega) (by omega) (by omega) (by omega) (by rw [hv3]; omega)
    rw [show (i : Int) + 1 = ((i + 1 : Nat) : Int) by omega, this, hv3, e4]
    congr 1
    omega
theorem markBlockS (l : List S87) (hl : l.length ≤ 1048576) (hs : sumB l ≤ 1048576) (k : Nat) (hk : 2097160 < k) : ∃ r, laws_markBlockS.f k l 1 = some r ∧ 0 ≤ r ∧ r ≤ 100000000 := by
  have := markBlockS_loop l.length k l 0 1 hl (by simpa using hs) (by omega) (by omega) (by omega) (by omega) (by rw [List.drop_zero]; omega)
  rw [List.drop_zero] at this
  exact ⟨_, this, by omega, by omega⟩

theorem wB_and (x : Int) : wB (Go.bits .and .i64 x 65535) = true := by
  rw [and_word]
  exact decide_eq_true (by omega)
theorem dd_word (op a b : Int) : wB (dd op a b) = true := by
  unfold dd
  repeat' split
  all_goals first | exact wB_and _ | rfl
theorem words_set (l : List Int) (i : Nat) (a : Int) (h : wordsB l = true) (ha : wB a = true) : wordsB (l.set i a) = true := by
  simp only [wordsB, Bool.and_eq_true, decide_eq_true_eq, List.length_set] at *
  refine ⟨List.all_eq_true.2 fun y hy => ?_, h.2⟩
  rcases List.mem_or_eq_of_mem_set hy with h2 | rfl
  · exact List.all_eq_true.1 h.1 y h2
  · exact ha
theorem words_rd (l : List Int) (i : Int) (h : wordsB l = true) (h0 : 0 ≤ i) (h1 : i ≤ 7) : wB (rd l i) = true := by
  simp only [wordsB, Bool.and_eq_true, decide_eq_true_eq] at h
  obtain ⟨n, rfl⟩ := Int.eq_ofNat_of_zero_le h0
  rw [rd_atZ l n (by omega)]
  exact List.all_eq_true.1 h.1 _ (List.getElem_mem _)
theorem rstp_words (s : List Int × List Int) (x : S65) (hg : goodB x = true) (h : wordsB s.1 = true) : wordsB (rstp s x).1 = true := by
  obtain ⟨⟨d0, d1⟩, ⟨a0, a1⟩, ⟨b0, b1⟩, ⟨n0, n1⟩, hx⟩ := of_decide_eq_true hg
  unfold rstp
  repeat' split
  · exact words_set _ _ _ h (decide_eq_true ⟨n0, n1⟩)
  · exact words_set _ _ _ h (words_rd _ _ h a0 a1)
  · exact h
  · exact words_set _ _ _ h (dd_word _ _ _)
theorem runs_words (c : List S65) (hg : c.all goodB = true) : ∀ s : List Int × List Int, wordsB s.1 = true → wordsB (c.foldl rstp s).1 = true := by
  induction c with
  | nil => intro s h; exact h
  | cons x c ih =>
    intro s h
    rw [List.all_cons, Bool.and_eq_true] at hg
    exact ih hg.2 _ (rstp_words s x hg.1 h)
theorem rstp_out (v o : List Int) (x : S65) : rstp (v, o) x = ((rstp (v, []) x).1, o ++ (rstp (v, []) x).2) := by
  unfold rstp
  repeat' split
  all_goals simp
theorem fold_out (c : List S65) : ∀ v o : List Int, c.foldl rstp (v, o) = ((c.foldl rstp (v, [])).1, o ++ (c.foldl rstp (v, [])).2) := by
  induction c with
  | nil => intro v o; simp
  | cons x c ih =>
    intro v o
    rw [List.foldl_cons, List.foldl_cons, rstp_out v o x, ih, ih (rstp (v, []) x).1 (rstp (v, []) x).2]
    simp
theorem runCode_i (c : List S65) (v : List Int) (hc : codeB c = true) (hw : wordsB v = true) (k : Nat) (hk : 100 < k) : impl_RunCode.f k c v = some ((c.foldl rstp (v, [])).2, (c.foldl rstp (v, [])).1, true) := by
  obtain ⟨k, rfl⟩ : ∃ m, k = m + 1 := ⟨k - 1, by omega⟩
  have h8 : v.length = 8 := by
    simp only [wordsB, Bool.and_eq_true, decide_eq_true_eq] at hw
    exact hw.2
  have hcb : c.all goodB = true ∧ c.length ≤ 30 := by simpa only [codeB, Bool.and_eq_true, decide_eq_true_eq] using hc
  simp only [impl_RunCode.f, isCode_eq c (k + 1) (by omega), hc, Option.bind_some]
  rw [notWords v (by omega) (k + 1) (by omega), hw]
  have c8 : (v.length : Int) = 8 := by omega
  simp only [if_true, if_pos c8, Option.bind_some, impl_RunCode.j0, List.length_nil, List.nil_append]
  have := run_impl c hcb.2 hcb.1 c.length k 0 v [] (by omega) (by simp; omega) (by omega) (by omega) (by omega)
  simp only [List.drop_zero] at this
  have h0 : (0 : Nat) + v.length < 17592186044416 := by omega
  simp only [Bool.not_true, Bool.false_eq_true, if_false, if_pos h0]
  rw [show (0 : Int) = ((0 : Nat) : Int) from rfl, this]
/-- A flow runs: words, what is told, the path; 'm' steps at most. -/
def run (c : List S87) : Nat → List Int → List Int → List Int → Int → List Int × List Int × List Int × Bool
  | 0, v, o, p, b => (o, v, p, decide (b < 0))
  | m + 1, v, o, p, b => if b ≥ 0 then run c m ((rd_T87 c b).f0.foldl rstp (v, [])).1 (o ++ ((rd_T87 c b).f0.foldl rstp (v, [])).2) (p ++ [b]) (if (rd ((rd_T87 c b).f0.foldl rstp (v, [])).1 (rd_T87 c b).f1) = 0 then (rd_T87 c b).f3 else (rd_T87 c b).f2) else (o, v, p, true)
def cut (r : List Int × List Int × List Int × Bool) : List Int × List Int × List Int × Bool := if r.2.2.2 = true then r else (r.1, [], r.2.2.1, false)
theorem flow_run (c : List S87) (hfl : flowB c = true) (m : Nat) : ∀ (k : Nat) (v o p : List Int) (b fuel : Int), wordsB v = true → (p.length : Int) + m = fuel → -1 ≤ b → b < (c.length : Int) → o.length + 30 * m ≤ 900000 → p.length + m ≤ 900000 → m + 200 < k →
    spec_l5Run.l0 k c fuel v o p b = some (run c m v o p b) ∧ impl_runFlow.l0 k c v fuel o p b = some (cut (run c m v o p b)) ∧ (run c m v o p b).1.length ≤ o.length + 30 * m ∧ (run c m v o p b).2.1.length = 8 ∧ (run c m v o p b).2.2.1.length ≤ p.length + m := by
  have hf : c.all (blockB (c.length : Int)) = true ∧ (1 ≤ (c.length : Int) ∧ (c.length : Int) ≤ 8) := by simpa only [flowB, Bool.and_eq_true, decide_eq_true_eq] using hfl
  induction m with
  | zero =>
    intro k v o p b fuel hw hp hb0 hb1 ho hpl hk
    obtain ⟨k, rfl⟩ : ∃ m, k = m + 1 := ⟨k - 1, by omega⟩
    have h8 : v.length = 8 := by
      simp only [wordsB, Bool.and_eq_true, decide_eq_true_eq] at hw
      exact hw.2
    simp only [spec_l5Run.l0, impl_runFlow.l0, run]
    by_cases hb : b ≥ 0
    · have hd : decide (b < 0) = false := decide_eq_false (by omega)
      have hq : (p.length : Int) = fuel := by omega
      rw [if_pos hb, if_pos hb, if_pos hq, if_pos hq, hd]
      exact ⟨rfl, rfl, by simp, h8, by simp⟩
    · have hd : decide (b < 0) = true := decide_eq_true (by omega)
      rw [if_neg hb, if_neg hb, hd]
      simp only [Option.bind_some, List.length_nil, List.nil_append]
      rw [if_pos (by omega)]
      exact ⟨by first | rfl | trivial, by first | rfl | trivial, by omega, h8, by omega⟩
  | succ m ih =>
    intro k v o p b fuel hw hp hb0 hb1 ho hpl hk
    obtain ⟨k, rfl⟩ : ∃ m, k = m + 1 := ⟨k - 1, by omega⟩
    have h8 : v.length = 8 := by
      simp only [wordsB, Bool.and_eq_true, decide_eq_true_eq] at hw
      exact hw.2
    by_cases hb : b ≥ 0
    · have hq : ¬((p.length : Int) = fuel) := by omega
      have hp2 : p.length < 17592186044416 := by omega
      have hbl : b < (c.length : Int) := hb1
      have hbb : blockB (c.length : Int) (rd_T87 c b) = true := by
        obtain ⟨n, rfl⟩ := Int.eq_ofNat_of_zero_le hb
        rw [rd_at87 c n (by omega)]
        exact List.all_eq_true.1 hf.1 _ (List.getElem_mem _)
      simp only [spec_l5Run.l0, impl_runFlow.l0, run, if_pos hb, if_neg hq, if_pos hp2, if_pos hbl, Option.bind_some]
      generalize rd_T87 c b = B at *
      simp only [blockB, Bool.and_eq_true, decide_eq_true_eq] at hbb
      obtain ⟨hcb, ⟨t0, t1⟩, ⟨x0, x1⟩, ⟨y0, y1⟩⟩ := hbb
      have hcc : B.f0.all goodB = true ∧ B.f0.length ≤ 30 := by simpa only [codeB, Bool.and_eq_true, decide_eq_true_eq] using hcb
      have r1 := run_spec B.f0 hcc.2 hcc.1 B.f0.length k 0 v o h8 (by omega) (by omega) (by omega) (by omega)
      rw [List.drop_zero, fold_out] at r1
      have r2 := runCode_i B.f0 v hcb hw k (by omega)
      have wX := runs_words B.f0 hcc.1 (v, []) hw
      have lX := (runs_len B.f0 (v, [])).2
      simp only [spec_l3Run.f]
      rw [show (0 : Int) = ((0 : Nat) : Int) from rfl, r1]
      simp only [r2, Option.bind_some]
      generalize hX : B.f0.foldl rstp (v, []) = X at *
      have hX8 : X.1.length = 8 := by
        simp only [wordsB, Bool.and_eq_true, decide_eq_true_eq] at wX
        exact wX.2
      have lX2 : X.2.length ≤ 30 := by simp only [List.length_nil] at lX; omega
      have ih' := fun b' (h : -1 ≤ b') (h2 : b' < (c.length : Int)) => ih k X.1 (o ++ X.2) (p ++ [b]) b' fuel wX (by rw [List.length_append, List.length_singleton]; omega) h h2 (by rw [List.length_append]; omega) (by rw [List.length_append, List.length_singleton]; omega) (by omega)
      have t0' : ((0 : Nat) : Int) ≤ B.f1 := t0
      have l1 : B.f1 < (v.length : Int) := by omega
      have l2 : B.f1 < (X.1.length : Int) := by omega
      have l3 : o.length + X.2.length < 17592186044416 := by omega
      rw [if_pos t0', if_pos t0', if_pos l1, if_pos l2, if_pos l3]
      by_cases hz : rd X.1 B.f1 = ((0 : Nat) : Int)
      · rw [if_pos hz, if_pos hz, if_pos hz]
        obtain ⟨i1, i2, i3, i4, i5⟩ := ih' B.f3 y0 (by omega)
        refine ⟨i1, i2, ?_, i4, ?_⟩
        · rw [List.length_append] at i3; omega
        · rw [List.length_append, List.length_singleton] at i5; omega
      · rw [if_neg hz, if_neg hz, if_neg hz]
        obtain ⟨i1, i2, i3, i4, i5⟩ := ih' B.f2 x0 (by omega)
        refine ⟨i1, i2, ?_, i4, ?_⟩
        · rw [List.length_append] at i3; omega
        · rw [List.length_append, List.length_singleton] at i5; omega
    · simp only [spec_l5Run.l0, impl_runFlow.l0, run, if_neg hb, Option.bind_some, List.length_nil, List.nil_append]
      rw [if_pos (by omega)]
      exact ⟨by first | rfl | trivial, by first | rfl | trivial, by omega, h8, by omega⟩
theorem areWords_eq (v : List Int) (k : Nat) (hk : 40 < k) : impl_areWords.f k v = some (wordsB v) := by
  unfold impl_areWords.f
  by_cases h8 : (v.length : Int) = 8
  · rw [if_pos h8, notWordsA v (by omega) k hk]
    simp
  · have hfb : wordsB v = false := by simp only [wordsB, Bool.and_eq_false_iff, decide_eq_false_iff_not]; right; omega
    rw [if_neg h8, hfb]
theorem both_run (c : List S87) (hfl : flowB c = true) (v : List Int) (hw : wordsB v = true) (a : Int) (h0 : 0 ≤ a) (h1 : a ≤ 300) (k : Nat) (hk : 1000 < k) :
    spec_l5Run.f k c v a = some (run c a.toNat v [] [] 0) ∧ impl_runFlow.f k c v a = some (cut (run c a.toNat v [] [] 0)) ∧ (run c a.toNat v [] [] 0).1.length ≤ 9000 ∧ (run c a.toNat v [] [] 0).2.1.length = 8 ∧ (run c a.toNat v [] [] 0).2.2.1.length ≤ 300 := by
  have hf : c.all (blockB (c.length : Int)) = true ∧ (1 ≤ (c.length : Int) ∧ (c.length : Int) ≤ 8) := by simpa only [flowB, Bool.and_eq_true, decide_eq_true_eq] using hfl
  have h8 : v.length = 8 := by
    simp only [wordsB, Bool.and_eq_true, decide_eq_true_eq] at hw
    exact hw.2
  obtain ⟨e1, e2, e3, e4, e5⟩ := flow_run c hfl a.toNat k v [] [] 0 a hw (by simp; omega) (by omega) (by omega) (by simp; omega) (by simp; omega) (by omega)
  simp only [List.length_nil] at e3 e5
  refine ⟨?_, e2, by omega, e4, by omega⟩
  simp only [spec_l5Run.f, Option.bind_some, List.length_nil, List.nil_append]
  rw [if_pos (by omega)]
  exact e1

def ans (c : List S87) (v : List Int) (a : Int) : List Int × List Int × Int × Bool := if flowB c = true then (if wordsB v = true then (if 0 ≤ a ∧ a ≤ 300 then (if (run c a.toNat v [] [] 0).2.2.2 = true then ((run c a.toNat v [] [] 0).1, (run c a.toNat v [] [] 0).2.1, ((run c a.toNat v [] [] 0).2.2.1.length : Int), true) else ([], [], 0, false)) else ([], [], 0, false)) else ([], [], 0, false)) else ([], [], 0, false)
theorem both (c : List S87) (hm : c.length ≤ 1048576) (hc : ∀ x ∈ c, x.f0.length ≤ 1048576) (v : List Int) (hv : v.length ≤ 1048576) (a : Int) (k : Nat) (hk : 2100000 < k) : spec_RunFlow.f k c v a = some (ans c v a) ∧ impl_RunFlow.f k c v a = some (ans c v a) ∧ (ans c v a).1.length ≤ 9000 ∧ (ans c v a).2.1.length ≤ 8 := by
  obtain ⟨k, rfl⟩ : ∃ m, k = m + 1 := ⟨k - 1, by omega⟩
  simp only [ans, spec_RunFlow.f, impl_RunFlow.f, spec_flow c hm hc (k + 1) (by omega), isFlow_eq c (k + 1) (by omega), spec_words v (by omega) (k + 1) (by omega), areWords_eq v (k + 1) (by omega), inS, inI, Option.bind_some]
  cases hfl : flowB c with
  | false => simp [impl_RunFlow.j0, spec_RunFlow.j0]
  | true =>
    cases hw : wordsB v with
    | false => simp [impl_RunFlow.j0, spec_RunFlow.j0]
    | true =>
      by_cases ha : 0 ≤ a ∧ a ≤ 300
      · obtain ⟨e1, e2, e3, e4, _⟩ := both_run c hfl v hw a ha.1 ha.2 k (by omega)
        simp only [impl_RunFlow.j0, spec_RunFlow.j0, e1, e2, Option.bind_some, if_true, if_pos ha, decide_eq_true ha, Bool.not_true, Bool.false_eq_true, if_false, cut]
        generalize run c a.toNat v [] [] 0 = r at *
        obtain ⟨r1, r2, r3, r4⟩ := r
        cases r4 with
        | true => exact ⟨by simp, by simp, by simpa using e3, by simpa using Nat.le_of_eq e4⟩
        | false => exact ⟨by simp, by simp, by simp, by simp⟩
      · simp [ha, impl_RunFlow.j0, spec_RunFlow.j0]
theorem FnExactRunFlow (l : List S81) (l1 : List Int) (a : Int) (hl : l.length ≤ 9223372036854775807) (hin : ∀ i : Nat, i < l.length → (rd_T81 l i).f0.length ≤ 9223372036854775807) (_ : l1.length ≤ 9223372036854775807) (_ : ∀ x, x ∈ l1 → (Lit.int .i64 x).wf = true) (_ : (Lit.int .i64 a).wf = true) : ∃ k, laws_FnExactRunFlow.f k l l1 a = some true := by
  suffices H : ∀ k, 4000000 < k → laws_FnExactRunFlow.f k l l1 a = some true from ⟨4000001, H _ (by omega)⟩
  intro k hk
  obtain ⟨s, hs, hs2⟩ := szBlockS2 l hl hin k (by omega)
  unfold laws_FnExactRunFlow.f
  by_cases hb : (l1.length : Int) > 1048576
  · rw [if_pos hb]
  rw [if_neg hb, hs]
  simp only [Option.bind_some]
  by_cases h0 : s < 0
  · rw [if_pos h0]
  rw [if_neg h0]
  obtain ⟨h1, h2⟩ : l.length ≤ 1048576 ∧ sumB (l.map toB) ≤ 1048576 := hs2.resolve_left h0
  have hv : l1.length ≤ 1048576 := by omega
  have hcl : ∀ x ∈ l, x.f0.length ≤ 1048576 := by
    intro x hx
    have := sumB_mem (l.map toB) (toB x) (List.mem_map_of_mem hx)
    have e : (toB x).f0.length = x.f0.length := by simp [toB]
    omega
  have tB := fun k hk => toBlockS l h1 hcl k hk
  have tV := fun k hk => toIntS l1 hv k hk
  have hm : (l.map toB).length ≤ 1048576 := by simpa using h1
  have hc : ∀ x ∈ l.map toB, x.f0.length ≤ 1048576 := fun x hx => by have := sumB_mem (l.map toB) x hx; omega
  generalize l.map toB = c at *
  obtain ⟨k, rfl⟩ : ∃ m, k = m + 1 + 1 + 1 := ⟨k - 3, by omega⟩
  have b1 := fun k hk => (both c hm hc l1 hv a k hk).1
  have b2 := fun k hk => (both c hm hc l1 hv a k hk).2.1
  have al := (both c hm hc l1 hv a 2100001 (by omega)).2.2
  generalize ans c l1 a = r at *
  obtain ⟨o, v, n, b⟩ := r
  have al : o.length ≤ 9000 ∧ v.length ≤ 8 := al
  have eB := fun k hk => eqBlockS c hm hc k hk
  have eV := fun k hk => eqIntS l1 (by omega) k hk
  have eo := fun k hk => eqIntS o (by omega) k hk
  have ev := fun k hk => eqIntS v (by omega) k hk
  obtain ⟨q, mB, q0, q1⟩ := markBlockS c hm h2 (k + 1 + 1) (by omega)
  have mV := markIntS l1 hv q q0 (by omega) (k + 1 + 1) (by omega)
  have mo := markIntS o (by omega) 1 (by omega) (by omega) (k + 1) (by omega)
  have mv := markIntS v (by omega) (1 + (o.length : Int)) (by omega) (by omega) (k + 1) (by omega)
  have ho := fun k hk => heldIntS o.length (by omega) 1 (by omega) (by omega) k hk
  have hh := fun k hk => heldIntS v.length (by omega) (1 + (o.length : Int)) (by omega) (by omega) k hk
  have n1 : ¬(q + (l1.length : Int) < 0) := by omega
  have n2 : ¬(1 + (o.length : Int) < 0) := by omega
  have n3 : ¬(1 + (o.length : Int) + (v.length : Int) < 0) := by omega
  simp only [tB _ (show 2097160 < k + 1 + 1 + 1 by omega), tV _ (show l1.length < k + 1 + 1 + 1 by omega), b1 _ (show 2100000 < k + 1 + 1 + 1 by omega), b2 _ (show 2100000 < k + 1 + 1 + 1 by omega), eo _ (show o.length < k + 1 + 1 + 1 by omega), ev _ (show v.length < k + 1 + 1 + 1 by omega), Option.bind_some, bne_self_eq_false, if_true]
  simp only [laws_FnExactRunFlow.j0, Bool.false_eq_true, if_false, tB _ (show 2097160 < k + 1 + 1 by omega), eB _ (show 2097160 < k + 1 + 1 by omega), tV _ (show l1.length < k + 1 + 1 by omega), eV _ (show l1.length < k + 1 + 1 by omega), eo _ (show o.length < k + 1 + 1 by omega), ev _ (show v.length < k + 1 + 1 by omega), mB, mV, if_neg n1, Option.bind_some, bne_self_eq_false, if_true]
  simp only [laws_FnExactRunFlow.j1, Bool.false_eq_true, if_false, mo, mv, ho _ (show o.length < k + 1 by omega), hh _ (show v.length < k + 1 by omega), if_neg n2, if_neg n3, tB _ (show 2097160 < k + 1 by omega), tV _ (show l1.length < k + 1 by omega), b2 _ (show 2100000 < k + 1 by omega), eo _ (show o.length < k + 1 by omega), ev _ (show v.length < k + 1 by omega), Option.bind_some, bne_self_eq_false, if_true]
  simp only [laws_FnExactRunFlow.j2, Bool.false_eq_true, if_false, ho _ (show o.length < k by omega), hh _ (show v.length < k by omega), if_neg n2, if_neg n3, Option.bind_some, if_true]

end Go.Proofs.Ytpanbicgnmjjiaa.Pure

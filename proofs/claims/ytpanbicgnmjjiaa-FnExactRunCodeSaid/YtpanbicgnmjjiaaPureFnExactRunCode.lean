/- The pure statement of FnExactRunCode: the program returns what the reference returns, for all arguments. -/
import Derived.Test.YtpanbicgnmjjiaaXFnExactRunCodex7
import Derived.Test.YtpanbicgnmjjiaaBits
namespace Go.Proofs.Ytpanbicgnmjjiaa.Pure
open Go.RowKit Go.Proofs.Ytpanbicgnmjjiaa.XFnExactRunCode Go.Proofs.YtpanbicgnmjjiaaW.PrintWords Go.Proofs.YtpanbicgnmjjiaaW.PrintLast Go.Proofs.YtpanbicgnmjjiaaW.PrintMore Go.Proofs.YtpanbicgnmjjiaaBits

theorem rd_at65 (l : List S65) (i : Nat) (h : i < l.length) : rd_T65 l i = l[i] := by
  simp [rd_T65, List.getD_eq_getElem?_getD, List.getElem?_eq_getElem h]

def toI (x : S67) : S65 := ⟨x.f0, x.f1, x.f2, x.f3, x.f4⟩
theorem rd_at67 (l : List S67) (i : Nat) (h : i < l.length) : rd_T67 l i = l[i] := by
  simp [rd_T67, List.getD_eq_getElem?_getD, List.getElem?_eq_getElem h]
theorem toInstrS_loop (l : List S67) (hl : l.length ≤ 1048576) (d : Nat) : ∀ (k i : Nat) (m : List S65), m.length = l.length → i ≤ l.length → l.length - i = d → d < k → m.take i = (l.map toI).take i → laws_toInstrS.l0 k l m i = some (l.map toI) := by
  induction d with
  | zero =>
    intro k i m hm hi hd hk ht
    obtain ⟨k, rfl⟩ : ∃ m, k = m + 1 := ⟨k - 1, by omega⟩
    simp only [laws_toInstrS.l0]
    rw [if_neg (by omega)]
    rw [List.take_of_length_le (by omega), List.take_of_length_le (by simp; omega)] at ht
    rw [ht]
  | succ d ih =>
    intro k i m hm hi hd hk ht
    obtain ⟨k, rfl⟩ : ∃ m, k = m + 1 := ⟨k - 1, by omega⟩
    have hlt : i < l.length := by omega
    simp only [laws_toInstrS.l0, laws_toInstr.f, Option.bind_some]
    rw [if_pos (by omega), if_pos (by omega), if_pos (by omega), w64 _ (by omega) (by omega), rd_at67 l i hlt]
    refine ih k (i + 1) (m.set ((i : Int)).toNat (toI l[i])) (by simpa using hm) (by omega) (by omega) (by omega) ?_
    rw [Int.toNat_natCast, List.take_succ_eq_append_getElem (by rw [List.length_set]; omega), List.take_succ_eq_append_getElem (by simpa using hlt), List.take_set_of_le (Nat.le_refl _), ht]
    simp
theorem toInstrS (l : List S67) (hl : l.length ≤ 1048576) (k : Nat) (hk : l.length < k) : laws_toInstrS.f k l = some (l.map toI) := by
  unfold laws_toInstrS.f
  rw [if_pos (by omega), if_pos (by omega)]
  exact toInstrS_loop l hl l.length k 0 _ (by simp) (by omega) (by omega) (by omega) (by simp)
theorem szInstrS (l : List S67) (hl : l.length ≤ 9223372036854775807) : ∃ s, laws_szInstrS.f l 1048576 = some s ∧ (s < 0 ∨ l.length ≤ 1048576) := by
  unfold laws_szInstrS.f
  rw [w64 _ (by omega) (by omega)]
  split
  · exact ⟨-1, rfl, .inl (by decide)⟩
  · exact ⟨_, rfl, .inr (by omega)⟩

theorem szInstrS2 (l : List S67) (hl : l.length ≤ 9223372036854775807) : ∃ s, laws_szInstrS.f l 1048576 = some s ∧ s ≤ 1048576 ∧ (s < 0 ∨ l.length ≤ 1048576) := by
  unfold laws_szInstrS.f
  rw [w64 _ (by omega) (by omega)]
  split
  · exact ⟨-1, rfl, by decide, .inl (by decide)⟩
  · exact ⟨_, rfl, by omega, .inr (by omega)⟩

theorem eqInstrS_loop (l : List S65) (hl : l.length ≤ 4611686018427387904) (d : Nat) : ∀ (k i : Nat), i ≤ l.length → l.length - i = d → d < k → laws_eqInstrS.l0 k l l i = some true := by
  induction d with
  | zero =>
    intro k i hi hd hk
    obtain ⟨k, rfl⟩ : ∃ m, k = m + 1 := ⟨k - 1, by omega⟩
    simp only [laws_eqInstrS.l0]
    rw [if_neg (by omega)]
  | succ d ih =>
    intro k i hi hd hk
    obtain ⟨k, rfl⟩ : ∃ m, k = m + 1 := ⟨k - 1, by omega⟩
    simp only [laws_eqInstrS.l0, laws_eqInstr.f, if_true, Option.bind_some]
    rw [if_pos (by omega), if_pos (by omega), if_pos (by omega), w64 _ (by omega) (by omega)]
    exact ih k (i + 1) (by omega) (by omega) (by omega)
theorem eqInstrS (l : List S65) (hl : l.length ≤ 4611686018427387904) (k : Nat) (hk : l.length < k) : laws_eqInstrS.f k l l = some true := by
  unfold laws_eqInstrS.f
  rw [if_pos rfl]
  exact eqInstrS_loop l hl l.length k 0 (by omega) (by omega) (by omega)

def goodB (x : S65) : Bool := decide ((0 ≤ x.f1 ∧ x.f1 ≤ 7) ∧ (0 ≤ x.f2 ∧ x.f2 ≤ 7) ∧ (0 ≤ x.f3 ∧ x.f3 ≤ 7) ∧ (0 ≤ x.f4 ∧ x.f4 ≤ 65535) ∧ (x.f0 = 1 ∧ x.f2 = 0 ∧ x.f3 = 0 ∨ x.f0 = 2 ∧ x.f3 = 0 ∧ x.f4 = 0 ∨ (3 ≤ x.f0 ∧ x.f0 ≤ 7) ∧ x.f4 = 0 ∨ x.f0 = 8 ∧ x.f1 = 0 ∧ x.f3 = 0 ∧ x.f4 = 0))
theorem inS (a l h : Int) : spec_l1In.f a l h = some (decide (l ≤ a ∧ a ≤ h)) := by
  simp only [spec_l1In.f]
  by_cases h1 : a ≥ l <;> simp [*]
theorem inI (a l h : Int) : impl_in.f a l h = some (decide (l ≤ a ∧ a ≤ h)) := by
  simp only [impl_in.f]
  by_cases h1 : a ≥ l <;> simp [*]
theorem good_spec (x : S65) : spec_l3Good.f x.f0 x.f1 x.f2 x.f3 x.f4 = some (goodB x) := by
  simp only [spec_l3Good.f, spec_l3Name.f, spec_l3Two.f, spec_l1Word.f, inS, Option.bind_some, goodB]
  repeat' split
  all_goals first | rfl | (congr 1; simp_all; done) | (congr 1; simp_all; omega) | (congr 1; rw [Bool.eq_iff_iff]; simp_all; done) | (congr 1; rw [Bool.eq_iff_iff]; simp_all; omega)
theorem good_j0t (k : Nat) (a b c d e : Int) : impl_isInstr.j0 (k + 1) true a b c d e = some false := by simp [impl_isInstr.j0]
theorem good_j0f (k : Nat) (a b c d e : Int) : impl_isInstr.j0 (k + 1 + 1) false a b c d e = some (decide (a = 1 ∧ c = 0 ∧ d = 0 ∨ a = 2 ∧ d = 0 ∧ e = 0 ∨ (3 ≤ a ∧ a ≤ 7) ∧ e = 0 ∨ a = 8 ∧ b = 0 ∧ d = 0 ∧ e = 0)) := by
  simp only [impl_isInstr.j0, impl_isInstr.j1, Bool.false_eq_true, if_false]
  repeat' split
  all_goals first | rfl | (congr 1; simp_all; done) | (congr 1; simp_all; omega) | (congr 1; rw [Bool.eq_iff_iff]; simp_all; done) | (congr 1; rw [Bool.eq_iff_iff]; simp_all; omega)
theorem good_impl (x : S65) (k : Nat) (hk : 2 ≤ k) : impl_isInstr.f k x.f0 x.f1 x.f2 x.f3 x.f4 = some (goodB x) := by
  obtain ⟨k, rfl⟩ : ∃ m, k = m + 1 + 1 := ⟨k - 2, by omega⟩
  simp only [impl_isInstr.f, impl_isName.f, impl_isWord.f, inI, Option.bind_some, goodB]
  by_cases h1 : 0 ≤ x.f1 ∧ x.f1 ≤ 7
  · by_cases h2 : 0 ≤ x.f2 ∧ x.f2 ≤ 7
    · by_cases h3 : 0 ≤ x.f3 ∧ x.f3 ≤ 7
      · by_cases h4 : 0 ≤ x.f4 ∧ x.f4 ≤ 65535
        · simp only [eq_true h1, eq_true h2, eq_true h3, eq_true h4, decide_true, if_true, Bool.not_true, good_j0f, true_and]
        · simp only [eq_true h1, eq_true h2, eq_true h3, eq_false h4, decide_true, if_true, decide_false, Bool.not_false, good_j0t, false_and, and_false]
      · simp only [eq_true h1, eq_true h2, eq_false h3, decide_true, if_true, decide_false, Bool.false_eq_true, if_false, good_j0t, false_and, and_false]
    · simp only [eq_true h1, eq_false h2, decide_true, if_true, decide_false, Bool.false_eq_true, if_false, good_j0t, false_and, and_false]
  · simp only [eq_false h1, decide_false, Bool.false_eq_true, if_false, good_j0t, false_and]

theorem goodCode_loop (l : List S65) (hl : l.length ≤ 4611686018427387904) (d : Nat) : ∀ (k i : Nat), i ≤ l.length → l.length - i = d → d < k →
    spec_GoodCode.l0 k l l (l.length : Int) i = some ((l.drop i).all goodB && decide (l.length ≤ 30)) := by
  induction d with
  | zero =>
    intro k i hi hd hk
    obtain ⟨k, rfl⟩ : ∃ m, k = m + 1 := ⟨k - 1, by omega⟩
    simp only [spec_GoodCode.l0]
    rw [if_neg (by omega), List.drop_of_length_le (by omega)]
    simp
    omega
  | succ d ih =>
    intro k i hi hd hk
    obtain ⟨k, rfl⟩ : ∃ m, k = m + 1 := ⟨k - 1, by omega⟩
    have hlt : i < l.length := by omega
    simp only [spec_GoodCode.l0, good_spec, Option.bind_some]
    rw [if_pos (by omega), if_pos (by omega), if_pos (by omega), w64 _ (by omega) (by omega), rd_at65 l i hlt, List.drop_eq_getElem_cons hlt, List.all_cons]
    cases goodB l[i] with
    | true => simpa using ih k (i + 1) (by omega) (by omega) (by omega)
    | false => simp
def codeB (l : List S65) : Bool := l.all goodB && decide (l.length ≤ 30)
theorem spec_good (l : List S65) (hl : l.length ≤ 4611686018427387904) (k : Nat) (hk : l.length < k) : spec_GoodCode.f k l = some (codeB l) := by
  have := goodCode_loop l hl l.length k 0 (by omega) (by omega) (by omega)
  simpa [spec_GoodCode.f, codeB] using this
theorem index_loop (l : List S65) (hl : l.length ≤ 4611686018427387904) (d : Nat) : ∀ (k i : Nat), i ≤ l.length → l.length - i = d → d + 3 < k →
    ∃ r, slices_IndexFunc_at73.l0 k l (l.length : Int) i = some r ∧ decide (r ≥ 0) = !(l.drop i).all goodB := by
  induction d with
  | zero =>
    intro k i hi hd hk
    obtain ⟨k, rfl⟩ : ∃ m, k = m + 1 := ⟨k - 1, by omega⟩
    simp only [slices_IndexFunc_at73.l0]
    rw [if_neg (by omega), List.drop_of_length_le (by omega)]
    exact ⟨-1, rfl, by simp⟩
  | succ d ih =>
    intro k i hi hd hk
    obtain ⟨k, rfl⟩ : ∃ m, k = m + 1 := ⟨k - 1, by omega⟩
    have hlt : i < l.length := by omega
    simp only [slices_IndexFunc_at73.l0, impl_isCode_1.f, good_impl _ k (by omega), Option.bind_some]
    rw [if_pos (by omega), if_pos (by omega), if_pos (by omega), w64 _ (by omega) (by omega), rd_at65 l i hlt, List.drop_eq_getElem_cons hlt, List.all_cons]
    cases goodB l[i] with
    | true =>
      obtain ⟨r, h1, h2⟩ := ih k (i + 1) (by omega) (by omega) (by omega)
      exact ⟨r, by simpa using h1, by simpa using h2⟩
    | false => exact ⟨i, by simp, by simp⟩
theorem isCode_eq (l : List S65) (k : Nat) (hk : 40 < k) : impl_isCode.f k l = some (codeB l) := by
  unfold impl_isCode.f codeB
  by_cases h : (l.length : Int) ≤ 30
  · rw [if_pos h]
    obtain ⟨r, h1, h2⟩ := index_loop l (by omega) l.length k 0 (by omega) (by omega) (by omega)
    simp only [slices_ContainsFunc_at73.f, slices_IndexFunc_at73.f]
    rw [show (0 : Int) = ((0 : Nat) : Int) from rfl, h1]
    simp only [Option.bind_some]
    rw [show ((0 : Nat) : Int) = 0 from rfl, h2, show decide (l.length ≤ 30) = true from decide_eq_true (by omega)]
    simp
  · rw [if_neg h, show decide (l.length ≤ 30) = false from decide_eq_false (by omega)]
    simp

theorem rd_setI (l : List S65) (v : S65) (i : Nat) (h : i < l.length) : rd_T65 (l.set i v) (i : Int) = v := by
  simp [rd_T65, h]
theorem markInstrS_loop (d : Nat) : ∀ (k : Nat) (l : List S65) (i : Nat) (s : Int), l.length ≤ 1048576 → i ≤ l.length → l.length - i = d → d < k → 0 ≤ s → s ≤ 1000000000000 + 5 * (i : Int) →
    ∃ l', laws_markInstrS.l0 k l s i = some (s + 5 * (d : Int), l') ∧ l'.length = l.length := by
  induction d with
  | zero =>
    intro k l i s hl hi hd hk h0 h1
    obtain ⟨k, rfl⟩ : ∃ m, k = m + 1 := ⟨k - 1, by omega⟩
    simp only [laws_markInstrS.l0]
    rw [if_neg (by omega)]
    exact ⟨l, by simp, rfl⟩
  | succ d ih =>
    intro k l i s hl hi hd hk h0 h1
    obtain ⟨k, rfl⟩ : ∃ m, k = m + 1 := ⟨k - 1, by omega⟩
    have hlt : i < l.length := by omega
    have c1 : (i : Int) < (l.length : Int) := by omega
    have c2 : (0 : Int) ≤ i := by omega
    simp only [laws_markInstrS.l0, if_pos c1, if_pos c2, Option.bind_some, Int.toNat_natCast, List.set_set, rd_setI l _ i hlt, w64 ((i : Int) + 1) (by omega) (by omega), w64 (s + 1) (by omega) (by omega), w64 (s + 1 + 1) (by omega) (by omega), w64 (s + 1 + 1 + 1) (by omega) (by omega), w64 (s + 1 + 1 + 1 + 1) (by omega) (by omega), w64 (s + 1 + 1 + 1 + 1 + 1) (by omega) (by omega)]
    generalize hv : l.set i _ = l2
    have e2 : l2.length = l.length := by rw [← hv]; simp
    obtain ⟨l', g1, g2⟩ := ih k l2 (i + 1) (s + 1 + 1 + 1 + 1 + 1) (by omega) (by omega) (by omega) (by omega) (by omega) (by omega)
    refine ⟨l', ?_, by omega⟩
    rw [show (i : Int) + 1 = ((i + 1 : Nat) : Int) by omega, g1]
    congr 2
    omega
theorem markInstrS (l : List S65) (hl : l.length ≤ 1048576) (s : Int) (h0 : 0 ≤ s) (h1 : s ≤ 1000000000000) (k : Nat) (hk : l.length < k) : ∃ l', laws_markInstrS.f k l s = some (s + 5 * (l.length : Int), l') := by
  obtain ⟨l', g1, _⟩ := markInstrS_loop l.length k l 0 s hl (by omega) (by omega) (by omega) h0 (by omega)
  exact ⟨l', g1⟩

def wB (x : Int) : Bool := decide (0 ≤ x ∧ x ≤ 65535)
theorem rd_atZ (l : List Int) (i : Nat) (h : i < l.length) : rd l i = l[i] := by
  simp [rd, List.getD_eq_getElem?_getD, List.getElem?_eq_getElem h]
theorem words_loop (l : List Int) (hl : l.length ≤ 4611686018427387904) (d : Nat) : ∀ (k i : Nat), i ≤ l.length → l.length - i = d → d < k →
    spec_l3Words.l0 k l l (l.length : Int) i = some ((l.drop i).all wB && decide (l.length = 8)) := by
  induction d with
  | zero =>
    intro k i hi hd hk
    obtain ⟨k, rfl⟩ : ∃ m, k = m + 1 := ⟨k - 1, by omega⟩
    simp only [spec_l3Words.l0]
    rw [if_neg (by omega), List.drop_of_length_le (by omega)]
    by_cases h8 : l.length = 8
    · simp [h8]
    · have : ¬((l.length : Int) = 8) := by omega
      simp [h8, this]
  | succ d ih =>
    intro k i hi hd hk
    obtain ⟨k, rfl⟩ : ∃ m, k = m + 1 := ⟨k - 1, by omega⟩
    have hlt : i < l.length := by omega
    simp only [spec_l3Words.l0, spec_l1Word.f, inS, Option.bind_some]
    rw [if_pos (by omega), if_pos (by omega), if_pos (by omega), w64 _ (by omega) (by omega), rd_atZ l i hlt, List.drop_eq_getElem_cons hlt, List.all_cons]
    have e : decide (0 ≤ l[i] ∧ l[i] ≤ 65535) = wB l[i] := rfl
    rw [e]
    cases wB l[i] with
    | false => simp
    | true => simpa using ih k (i + 1) (by omega) (by omega) (by omega)
def wordsB (l : List Int) : Bool := l.all wB && decide (l.length = 8)
theorem spec_words (l : List Int) (hl : l.length ≤ 4611686018427387904) (k : Nat) (hk : l.length < k) : spec_l3Words.f k l = some (wordsB l) := by
  have := words_loop l hl l.length k 0 (by omega) (by omega) (by omega)
  simpa [spec_l3Words.f, wordsB] using this
theorem indexW_loop (l : List Int) (hl : l.length ≤ 4611686018427387904) (d : Nat) : ∀ (k i : Nat), i ≤ l.length → l.length - i = d → d < k →
    ∃ r, slices_IndexFunc_at47.l0 k l (l.length : Int) i = some r ∧ decide (r ≥ 0) = !(l.drop i).all wB := by
  induction d with
  | zero =>
    intro k i hi hd hk
    obtain ⟨k, rfl⟩ : ∃ m, k = m + 1 := ⟨k - 1, by omega⟩
    simp only [slices_IndexFunc_at47.l0]
    rw [if_neg (by omega), List.drop_of_length_le (by omega)]
    exact ⟨-1, rfl, by simp⟩
  | succ d ih =>
    intro k i hi hd hk
    obtain ⟨k, rfl⟩ : ∃ m, k = m + 1 := ⟨k - 1, by omega⟩
    have hlt : i < l.length := by omega
    simp only [slices_IndexFunc_at47.l0, impl_RunCode_1.f, impl_isWord.f, inI, Option.bind_some]
    rw [if_pos (by omega), if_pos (by omega), if_pos (by omega), w64 _ (by omega) (by omega), rd_atZ l i hlt, List.drop_eq_getElem_cons hlt, List.all_cons]
    have e : decide (0 ≤ l[i] ∧ l[i] ≤ 65535) = wB l[i] := rfl
    rw [e]
    cases wB l[i] with
    | true =>
      obtain ⟨r, h1, h2⟩ := ih k (i + 1) (by omega) (by omega) (by omega)
      exact ⟨r, by simpa using h1, by simpa using h2⟩
    | false => exact ⟨i, by simp, by simp⟩
theorem notWords (l : List Int) (h8 : l.length = 8) (k : Nat) (hk : 40 < k) : slices_ContainsFunc_at47.f k l = some (!wordsB l) := by
  obtain ⟨r, h1, h2⟩ := indexW_loop l (by omega) l.length k 0 (by omega) (by omega) (by omega)
  simp only [slices_ContainsFunc_at47.f, slices_IndexFunc_at47.f]
  rw [show (0 : Int) = ((0 : Nat) : Int) from rfl, h1]
  simp only [Option.bind_some]
  rw [show ((0 : Nat) : Int) = 0 from rfl, h2]
  simp [wordsB, h8]

def dd (op a b : Int) : Int := if op = 3 then Go.bits .and .i64 (wrap64 (a + b)) 65535 else if op = 4 then Go.bits .and .i64 (wrap64 (a - b)) 65535 else if op = 5 then Go.bits .and .i64 (wrap64 (a * b)) 65535 else if op = 6 then (if a < b then 1 else 0) else (if a = b then 1 else 0)
theorem do_spec (op a b : Int) : spec_l3Do.f op a b = some (dd op a b) := by
  simp only [spec_l3Do.f, spec_l3Bit.f, dd]
  by_cases h1 : a < b <;> by_cases h2 : a = b <;> repeat' split
  all_goals first | rfl | omega | (simp_all; done) | (simp_all; omega)
theorem do_impl (op a b : Int) (h0 : 3 ≤ op) (h1 : op ≤ 7) : impl_reckon.f op a b = some (dd op a b) := by
  simp only [impl_reckon.f, dd]
  repeat' split
  all_goals first | rfl | omega

/-- A step: the words and what is told. -/
def rstp (s : List Int × List Int) (x : S65) : List Int × List Int := if x.f0 = 1 then (s.1.set x.f1.toNat x.f4, s.2) else if x.f0 = 2 then (s.1.set x.f1.toNat (rd s.1 x.f2), s.2) else if x.f0 = 8 then (s.1, s.2 ++ [rd s.1 x.f2]) else (s.1.set x.f1.toNat (dd x.f0 (rd s.1 x.f2) (rd s.1 x.f3)), s.2)
theorem rstp_len (s : List Int × List Int) (x : S65) : (rstp s x).1.length = s.1.length ∧ (rstp s x).2.length ≤ s.2.length + 1 := by
  unfold rstp
  repeat' split
  all_goals simp
theorem runs_len (c : List S65) : ∀ s : List Int × List Int, (c.foldl rstp s).1.length = s.1.length ∧ (c.foldl rstp s).2.length ≤ s.2.length + c.length := by
  induction c with
  | nil => intro s; exact ⟨rfl, Nat.le_refl _⟩
  | cons x c ih =>
    intro s
    rw [List.foldl_cons, List.length_cons]
    have h1 := ih (rstp s x)
    have h2 := rstp_len s x
    omega
theorem run_spec (c : List S65) (hc : c.length ≤ 30) (hg : c.all goodB = true) (d : Nat) : ∀ (k i : Nat) (v o : List Int), v.length = 8 → o.length + d ≤ 1000000 → i ≤ c.length → c.length - i = d → d + 3 < k →
    spec_l3Run.l0 k v o c (c.length : Int) i = some (((c.drop i).foldl rstp (v, o)).2, ((c.drop i).foldl rstp (v, o)).1) := by
  induction d with
  | zero =>
    intro k i v o hv ho hi hd hk
    obtain ⟨k, rfl⟩ : ∃ m, k = m + 1 := ⟨k - 1, by omega⟩
    have c1 : ¬((i : Int) < (c.length : Int)) := by omega
    simp only [spec_l3Run.l0, if_neg c1]
    rw [List.drop_of_length_le (by omega)]
    rfl
  | succ d ih =>
    intro k i v o hv ho hi hd hk
    obtain ⟨k, rfl⟩ : ∃ m, k = m + 1 := ⟨k - 1, by omega⟩
    have hlt : i < c.length := by omega
    have hgi : goodB c[i] = true := List.all_eq_true.1 hg _ (List.getElem_mem hlt)
    have c1 : (i : Int) < (c.length : Int) := by omega
    have c2 : (0 : Int) ≤ i := by omega
    have c3 : o.length < 17592186044416 := by omega
    simp only [spec_l3Run.l0, if_pos c1, if_pos c2, if_pos c3, w64 ((i : Int) + 1) (by omega) (by omega), rd_at65 c i hlt, do_spec, Option.bind_some]
    rw [List.drop_eq_getElem_cons hlt, List.foldl_cons]
    have ih' := fun v o hv ho => ih k (i + 1) v o hv ho (by omega) (by omega) (by omega)
    generalize c[i] = x at *
    have hgi := of_decide_eq_true hgi
    obtain ⟨⟨d0, d1⟩, ⟨a0, a1⟩, ⟨b0, b1⟩, ⟨n0, n1⟩, hx⟩ := hgi
    have l1 : x.f1 < (v.length : Int) := by omega
    have l2 : x.f2 < (v.length : Int) := by omega
    have l3 : x.f3 < (v.length : Int) := by omega
    simp only [if_pos d0, if_pos l1, if_pos a0, if_pos l2, if_pos b0, if_pos l3]
    unfold rstp
    repeat' split
    all_goals exact ih' _ _ (by simpa using hv) (by first | omega | (simp; omega))
theorem run_impl (c : List S65) (hc : c.length ≤ 30) (hg : c.all goodB = true) (d : Nat) : ∀ (k i : Nat) (v o : List Int), v.length = 8 → o.length + d ≤ 1000000 → i ≤ c.length → c.length - i = d → d + 3 < k →
    impl_RunCode.l0 k v o c (c.length : Int) i = some (((c.drop i).foldl rstp (v, o)).2, ((c.drop i).foldl rstp (v, o)).1, true) := by
  induction d with
  | zero =>
    intro k i v o hv ho hi hd hk
    obtain ⟨k, rfl⟩ : ∃ m, k = m + 1 := ⟨k - 1, by omega⟩
    have c1 : ¬((i : Int) < (c.length : Int)) := by omega
    simp only [impl_RunCode.l0, if_neg c1]
    rw [List.drop_of_length_le (by omega)]
    rfl
  | succ d ih =>
    intro k i v o hv ho hi hd hk
    obtain ⟨k, rfl⟩ : ∃ m, k = m + 1 := ⟨k - 1, by omega⟩
    have hlt : i < c.length := by omega
    have hgi : goodB c[i] = true := List.all_eq_true.1 hg _ (List.getElem_mem hlt)
    have c1 : (i : Int) < (c.length : Int) := by omega
    have c2 : (0 : Int) ≤ i := by omega
    have c3 : o.length < 17592186044416 := by omega
    simp only [impl_RunCode.l0, if_pos c1, if_pos c2, if_pos c3, w64 ((i : Int) + 1) (by omega) (by omega), rd_at65 c i hlt]
    rw [List.drop_eq_getElem_cons hlt, List.foldl_cons]
    have ih' := fun v o hv ho => ih k (i + 1) v o hv ho (by omega) (by omega) (by omega)
    generalize c[i] = x at *
    have hgi := of_decide_eq_true hgi
    obtain ⟨⟨d0, d1⟩, ⟨a0, a1⟩, ⟨b0, b1⟩, ⟨n0, n1⟩, hx⟩ := hgi
    have l1 : x.f1 < (v.length : Int) := by omega
    have l2 : x.f2 < (v.length : Int) := by omega
    have l3 : x.f3 < (v.length : Int) := by omega
    simp only [if_pos d0, if_pos l1, if_pos a0, if_pos l2, if_pos b0, if_pos l3]
    by_cases h8 : x.f0 = 8
    · have e : rstp (v, o) x = (v, o ++ [rd v x.f2]) := by unfold rstp; rw [if_neg (by omega), if_neg (by omega), if_pos h8]
      rw [if_pos h8, e]
      exact ih' _ _ hv (by simp; omega)
    · rw [if_neg h8]
      by_cases h1 : x.f0 = 1
      · have e : rstp (v, o) x = (v.set x.f1.toNat x.f4, o) := by unfold rstp; rw [if_pos h1]
        rw [if_pos h1, e]
        exact ih' _ _ (by simpa using hv) (by omega)
      · rw [if_neg h1]
        by_cases h2 : x.f0 = 2
        · have e : rstp (v, o) x = (v.set x.f1.toNat (rd v x.f2), o) := by unfold rstp; rw [if_neg h1, if_pos h2]
          rw [if_pos h2, e]
          exact ih' _ _ (by simpa using hv) (by omega)
        · have e : rstp (v, o) x = (v.set x.f1.toNat (dd x.f0 (rd v x.f2) (rd v x.f3)), o) := by unfold rstp; rw [if_neg h1, if_neg h2, if_neg h8]
          rw [if_neg h2, do_impl x.f0 _ _ (by omega) (by omega), e]
          simp only [Option.bind_some]
          exact ih' _ _ (by simpa using hv) (by omega)

theorem toIntS_loop (l : List Int) (hl : l.length ≤ 1048576) (d : Nat) : ∀ (k i : Nat) (m : List Int), m.length = l.length → i ≤ l.length → l.length - i = d → d < k → m.take i = l.take i → laws_toIntS.l0 k l m i = some l := by
  induction d with
  | zero =>
    intro k i m hm hi hd hk ht
    obtain ⟨k, rfl⟩ : ∃ m, k = m + 1 := ⟨k - 1, by omega⟩
    simp only [laws_toIntS.l0]
    rw [if_neg (by omega)]
    rw [List.take_of_length_le (by omega), List.take_of_length_le (by omega)] at ht
    rw [ht]
  | succ d ih =>
    intro k i m hm hi hd hk ht
    obtain ⟨k, rfl⟩ : ∃ m, k = m + 1 := ⟨k - 1, by omega⟩
    simp only [laws_toIntS.l0]
    rw [if_pos (by omega), if_pos (by omega), if_pos (by omega), w64 _ (by omega) (by omega)]
    have hlt : i < l.length := by omega
    refine ih k (i + 1) (m.set ((i : Int)).toNat (rd l i)) (by simpa using hm) (by omega) (by omega) (by omega) ?_
    rw [Int.toNat_natCast, List.take_succ_eq_append_getElem (by rw [List.length_set]; omega), List.take_succ_eq_append_getElem hlt, List.take_set_of_le (Nat.le_refl _), ht]
    simp [rd, List.getD_eq_getElem?_getD, List.getElem?_eq_getElem hlt]
theorem toIntS (l : List Int) (hl : l.length ≤ 1048576) (k : Nat) (hk : l.length < k) : laws_toIntS.f k l = some l := by
  unfold laws_toIntS.f
  rw [if_pos (by omega), if_pos (by omega)]
  exact toIntS_loop l hl l.length k 0 _ (by simp) (by omega) (by omega) (by omega) (by simp)

theorem eqIntS_loop (l : List Int) (hl : l.length ≤ 4611686018427387904) (d : Nat) : ∀ (k i : Nat), i ≤ l.length → l.length - i = d → d < k → laws_eqIntS.l0 k l l i = some true := by
  induction d with
  | zero =>
    intro k i hi hd hk
    obtain ⟨k, rfl⟩ : ∃ m, k = m + 1 := ⟨k - 1, by omega⟩
    simp only [laws_eqIntS.l0]
    rw [if_neg (by omega)]
  | succ d ih =>
    intro k i hi hd hk
    obtain ⟨k, rfl⟩ : ∃ m, k = m + 1 := ⟨k - 1, by omega⟩
    simp only [laws_eqIntS.l0]
    rw [if_pos (by omega), if_pos (by omega), if_pos (by omega), if_pos True.intro, w64 _ (by omega) (by omega)]
    exact ih k (i + 1) (by omega) (by omega) (by omega)
theorem eqIntS (l : List Int) (hl : l.length ≤ 4611686018427387904) (k : Nat) (hk : l.length < k) : laws_eqIntS.f k l l = some true := by
  unfold laws_eqIntS.f
  rw [if_pos rfl]
  exact eqIntS_loop l hl l.length k 0 (by omega) (by omega) (by omega)

def ramp (a : Int) (n : Nat) : List Int := (List.range n).map fun i => a + (i : Nat)
theorem ramp_length (a : Int) (n : Nat) : (ramp a n).length = n := by simp [ramp]
theorem ramp_rd (a : Int) (n i : Nat) (h : i < n) : rd (ramp a n) i = a + i := by
  simp [ramp, rd, List.getD_eq_getElem?_getD, List.getElem?_map, List.getElem?_range h]

theorem markIntS_loop (n : Nat) (hn : n ≤ 1048576) (b : Int) (hb0 : 0 ≤ b) (hb1 : b ≤ 1000000000) (d : Nat) : ∀ (k i : Nat) (m : List Int), m.length = n → i ≤ n → n - i = d → d < k → m.take i = (ramp b n).take i →
    laws_markIntS.l0 k m (b + i) i = some (b + n, ramp b n) := by
  induction d with
  | zero =>
    intro k i m hm hi hd hk ht
    obtain ⟨k, rfl⟩ : ∃ m, k = m + 1 := ⟨k - 1, by omega⟩
    simp only [laws_markIntS.l0]
    rw [if_neg (by omega)]
    rw [List.take_of_length_le (by omega), List.take_of_length_le (by rw [ramp_length]; omega)] at ht
    rw [ht, show i = n by omega]
  | succ d ih =>
    intro k i m hm hi hd hk ht
    obtain ⟨k, rfl⟩ : ∃ m, k = m + 1 := ⟨k - 1, by omega⟩
    simp only [laws_markIntS.l0]
    rw [if_pos (by omega), if_pos (by omega), w64 _ (by omega) (by omega), w64 _ (by omega) (by omega)]
    have hlt : i < (ramp b n).length := by rw [ramp_length]; omega
    rw [show b + (i : Int) + 1 = b + ((i + 1 : Nat) : Int) by omega]
    refine ih k (i + 1) (m.set ((i : Int)).toNat (b + i)) (by simpa using hm) (by omega) (by omega) (by omega) ?_
    rw [Int.toNat_natCast, List.take_succ_eq_append_getElem (by rw [List.length_set]; omega), List.take_succ_eq_append_getElem hlt, List.take_set_of_le (Nat.le_refl _), ht]
    simp [ramp]
theorem markIntS (m : List Int) (hn : m.length ≤ 1048576) (b : Int) (hb0 : 0 ≤ b) (hb1 : b ≤ 1000000000) (k : Nat) (hk : m.length < k) : laws_markIntS.f k m b = some (b + m.length, ramp b m.length) := by
  unfold laws_markIntS.f
  have := markIntS_loop m.length hn b hb0 hb1 m.length k 0 m rfl (by omega) (by omega) (by omega) (by simp)
  rw [show b + ((0 : Nat) : Int) = b by omega] at this
  exact this
theorem heldIntS_loop (n : Nat) (hn : n ≤ 1048576) (b : Int) (hb0 : 0 ≤ b) (hb1 : b ≤ 1000000000) (d : Nat) : ∀ (k i : Nat), i ≤ n → n - i = d → d < k →
    laws_heldIntS.l0 k (ramp b n) (b + i) i = some (b + n) := by
  induction d with
  | zero =>
    intro k i hi hd hk
    obtain ⟨k, rfl⟩ : ∃ m, k = m + 1 := ⟨k - 1, by omega⟩
    simp only [laws_heldIntS.l0]
    rw [if_neg (by rw [ramp_length]; omega), show i = n by omega]
  | succ d ih =>
    intro k i hi hd hk
    obtain ⟨k, rfl⟩ : ∃ m, k = m + 1 := ⟨k - 1, by omega⟩
    simp only [laws_heldIntS.l0]
    rw [if_pos (by rw [ramp_length]; omega), if_pos (by omega), if_pos (ramp_rd b n i (by omega)), w64 _ (by omega) (by omega), w64 _ (by omega) (by omega)]
    rw [show b + (i : Int) + 1 = b + ((i + 1 : Nat) : Int) by omega]
    exact ih k (i + 1) (by omega) (by omega) (by omega)
theorem heldIntS (n : Nat) (hn : n ≤ 1048576) (b : Int) (hb0 : 0 ≤ b) (hb1 : b ≤ 1000000000) (k : Nat) (hk : n < k) : laws_heldIntS.f k (ramp b n) b = some (b + n) := by
  unfold laws_heldIntS.f
  have := heldIntS_loop n hn b hb0 hb1 n k 0 (by omega) (by omega) (by omega)
  rw [show b + ((0 : Nat) : Int) = b by omega] at this
  exact this

def ans (c : List S65) (v : List Int) : List Int × List Int × Bool := if codeB c = true then (if wordsB v = true then ((c.foldl rstp (v, [])).2, (c.foldl rstp (v, [])).1, true) else ([], [], false)) else ([], [], false)
theorem ans_len (c : List S65) (v : List Int) : (ans c v).1.length ≤ 30 ∧ (ans c v).2.1.length ≤ 8 := by
  unfold ans
  split
  · rename_i hc
    split
    · rename_i h
      simp only [wordsB, Bool.and_eq_true, decide_eq_true_eq] at h
      simp only [codeB, Bool.and_eq_true, decide_eq_true_eq] at hc
      have := runs_len c (v, [])
      simp only [List.length_nil] at this
      simp only
      omega
    · simp
  · simp
theorem both_s (c : List S65) (hc : c.length ≤ 1048576) (v : List Int) (hv : v.length ≤ 1048576) (k : Nat) (hk : 1048700 < k) : spec_RunCode.f k c v = some (ans c v) := by
  simp only [ans, spec_RunCode.f, spec_good c (by omega) k (by omega), spec_words v (by omega) k (by omega), Option.bind_some, List.length_nil, List.nil_append]
  cases hcb : codeB c with
  | false => simp
  | true =>
    cases hfb : wordsB v with
    | false => simp
    | true =>
      simp only [codeB, Bool.and_eq_true, decide_eq_true_eq] at hcb
      simp only [wordsB, Bool.and_eq_true, decide_eq_true_eq] at hfb
      have := run_spec c hcb.2 hcb.1 c.length k 0 v [] hfb.2 (by simp; omega) (by omega) (by omega) (by omega)
      simp only [List.drop_zero] at this
      have h0 : (0 : Nat) + v.length < 17592186044416 := by omega
      simp only [if_true, if_pos h0, spec_l3Run.f]
      rw [show (0 : Int) = ((0 : Nat) : Int) from rfl, this]
      simp
theorem both_i (c : List S65) (hc : c.length ≤ 1048576) (v : List Int) (_ : v.length ≤ 1048576) (k : Nat) (hk : 1048700 < k) : impl_RunCode.f k c v = some (ans c v) := by
  obtain ⟨k, rfl⟩ : ∃ m, k = m + 1 := ⟨k - 1, by omega⟩
  simp only [ans, impl_RunCode.f, isCode_eq c (k + 1) (by omega), Option.bind_some]
  cases hcb : codeB c with
  | false => simp [impl_RunCode.j0]
  | true =>
    by_cases h8 : (v.length : Int) = 8
    · rw [notWords v (by omega) (k + 1) (by omega)]
      simp only [if_true, if_pos h8, Option.bind_some, impl_RunCode.j0, List.length_nil, List.nil_append]
      cases hfb : wordsB v with
      | false => simp
      | true =>
        simp only [codeB, Bool.and_eq_true, decide_eq_true_eq] at hcb
        have := run_impl c hcb.2 hcb.1 c.length k 0 v [] (by omega) (by simp; omega) (by omega) (by omega) (by omega)
        simp only [List.drop_zero] at this
        have h0 : (0 : Nat) + v.length < 17592186044416 := by omega
        simp only [Bool.not_true, Bool.false_eq_true, if_false, if_true, if_pos h0]
        rw [show (0 : Int) = ((0 : Nat) : Int) from rfl, this]
    · have hfb : wordsB v = false := by simp only [wordsB, Bool.and_eq_false_iff, decide_eq_false_iff_not]; right; omega
      simp [h8, hfb, impl_RunCode.j0]
theorem FnExactRunCode (l : List S67) (l1 : List Int) (hl : l.length ≤ 9223372036854775807) (_ : ∀ x, x ∈ l → (Lit.int .i64 x.f0).wf = true ∧ (Lit.int .i64 x.f1).wf = true ∧ (Lit.int .i64 x.f2).wf = true ∧ (Lit.int .i64 x.f3).wf = true ∧ (Lit.int .i64 x.f4).wf = true) (_ : l1.length ≤ 9223372036854775807) (_ : ∀ x, x ∈ l1 → (Lit.int .i64 x).wf = true) : ∃ k, laws_FnExactRunCode.f k l l1 = some true := by
  suffices H : ∀ k, 1048800 < k → laws_FnExactRunCode.f k l l1 = some true from ⟨1048801, H _ (by omega)⟩
  intro k hk
  obtain ⟨s, hs, hs1, hs2⟩ := szInstrS2 l hl
  unfold laws_FnExactRunCode.f
  by_cases hb : (l1.length : Int) > 1048576
  · rw [if_pos hb]
  rw [if_neg hb, hs]
  simp only [Option.bind_some]
  by_cases h0 : s < 0
  · rw [if_pos h0]
  rw [if_neg h0]
  have hl' : l.length ≤ 1048576 := by omega
  have hv : l1.length ≤ 1048576 := by omega
  obtain ⟨k, rfl⟩ : ∃ m, k = m + 1 + 1 + 1 := ⟨k - 3, by omega⟩
  have hc : (l.map toI).length ≤ 1048576 := by simpa using hl'
  have tI := fun k hk => toInstrS l hl' k hk
  have tV := fun k hk => toIntS l1 hv k hk
  have al := ans_len (l.map toI) l1
  generalize l.map toI = c at *
  have b1 := fun k hk => both_s c hc l1 hv k hk
  have b2 := fun k hk => both_i c hc l1 hv k hk
  generalize ans c l1 = r at *
  obtain ⟨o, v, b⟩ := r
  have al : o.length ≤ 30 ∧ v.length ≤ 8 := al
  have eC := fun k hk => eqInstrS c (by omega) k hk
  have eV := fun k hk => eqIntS l1 (by omega) k hk
  have eo := fun k hk => eqIntS o (by omega) k hk
  have ev := fun k hk => eqIntS v (by omega) k hk
  obtain ⟨c', mI⟩ := markInstrS c hc 1 (by omega) (by omega) (k + 1 + 1) (by omega)
  have mV := markIntS l1 hv (1 + 5 * (c.length : Int)) (by omega) (by omega) (k + 1 + 1) (by omega)
  have mo := markIntS o (by omega) 1 (by omega) (by omega) (k + 1) (by omega)
  have mv := markIntS v (by omega) (1 + (o.length : Int)) (by omega) (by omega) (k + 1) (by omega)
  have ho := fun k hk => heldIntS o.length (by omega) 1 (by omega) (by omega) k hk
  have hv := fun k hk => heldIntS v.length (by omega) (1 + (o.length : Int)) (by omega) (by omega) k hk
  have n1 : ¬(1 + 5 * (c.length : Int) + (l1.length : Int) < 0) := by omega
  have n2 : ¬(1 + (o.length : Int) < 0) := by omega
  have n3 : ¬(1 + (o.length : Int) + (v.length : Int) < 0) := by omega
  simp only [tI _ (show l.length < k + 1 + 1 + 1 by omega), tV _ (show l1.length < k + 1 + 1 + 1 by omega), b1 _ (show 1048700 < k + 1 + 1 + 1 by omega), b2 _ (show 1048700 < k + 1 + 1 + 1 by omega), eo _ (show o.length < k + 1 + 1 + 1 by omega), ev _ (show v.length < k + 1 + 1 + 1 by omega), Option.bind_some, bne_self_eq_false, if_true]
  simp only [laws_FnExactRunCode.j0, Bool.false_eq_true, if_false, tI _ (show l.length < k + 1 + 1 by omega), eC _ (show c.length < k + 1 + 1 by omega), tV _ (show l1.length < k + 1 + 1 by omega), eV _ (show l1.length < k + 1 + 1 by omega), eo _ (show o.length < k + 1 + 1 by omega), ev _ (show v.length < k + 1 + 1 by omega), mI, mV, if_neg n1, Option.bind_some, bne_self_eq_false, if_true]
  simp only [laws_FnExactRunCode.j1, Bool.false_eq_true, if_false, mo, mv, ho _ (show o.length < k + 1 by omega), hv _ (show v.length < k + 1 by omega), if_neg n2, if_neg n3, tI _ (show l.length < k + 1 by omega), tV _ (show l1.length < k + 1 by omega), b2 _ (show 1048700 < k + 1 by omega), eo _ (show o.length < k + 1 by omega), ev _ (show v.length < k + 1 by omega), Option.bind_some, bne_self_eq_false, if_true]
  simp only [laws_FnExactRunCode.j2, Bool.false_eq_true, if_false, ho _ (show o.length < k by omega), hv _ (show v.length < k by omega), if_neg n2, if_neg n3, Option.bind_some, if_true]

end Go.Proofs.Ytpanbicgnmjjiaa.Pure

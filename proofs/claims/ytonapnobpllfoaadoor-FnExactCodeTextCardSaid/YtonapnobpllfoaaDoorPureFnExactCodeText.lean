/- The pure statement of FnExactCodeText: the program returns what the reference returns, for all arguments. -/
import Derived.Test.YtonapnobpllfoaaDoorXFnExactCodeTextx6
import Derived.Test.YtonapnobpllfoaaDoorBits
import Derived.Lib.Join
import Derived.Lib.ItoaNum
namespace Go.Proofs.YtonapnobpllfoaaDoor.Pure
open Go.RowKit Go.Proofs.YtonapnobpllfoaaDoor.XFnExactCodeText Go.Proofs.YtonapnobpllfoaaDoorW.PrintWords Go.Proofs.YtonapnobpllfoaaDoorW.PrintLast Go.Proofs.YtonapnobpllfoaaDoorW.PrintMore Go.Proofs.YtonapnobpllfoaaDoorBits

theorem rd_at41 (l : List S41) (i : Nat) (h : i < l.length) : rd_T41 l i = l[i] := by
  simp [rd_T41, List.getD_eq_getElem?_getD, List.getElem?_eq_getElem h]

def toI (x : S50) : S41 := ⟨x.f0, x.f1, x.f2, x.f3, x.f4⟩
theorem rd_at50 (l : List S50) (i : Nat) (h : i < l.length) : rd_T50 l i = l[i] := by
  simp [rd_T50, List.getD_eq_getElem?_getD, List.getElem?_eq_getElem h]
theorem toInstrS_loop (l : List S50) (hl : l.length ≤ 1048576) (d : Nat) : ∀ (k i : Nat) (m : List S41), m.length = l.length → i ≤ l.length → l.length - i = d → d < k → m.take i = (l.map toI).take i → laws_toInstrS.l0 k l m i = some (l.map toI) := by
  induction d with
  | zero =>
    intro k i m hm hi hd hk ht
    obtain ⟨k, rfl⟩ : ∃ m, k = m + 1 := ⟨k - 1, by omega⟩
    simp only [laws_toInstrS.l0]
    rw [if_neg (by omega)]
    rw [List.take_of_length_le (by omega), List.take_of_length_le (by simp; omega)] at ht
    rw [ht]
  | succ d ih =>
    intro k i m hm hi hd hk ht
    obtain ⟨k, rfl⟩ : ∃ m, k = m + 1 := ⟨k - 1, by omega⟩
    have hlt : i < l.length := by omega
    simp only [laws_toInstrS.l0, laws_toInstr.f, Option.bind_some]
    rw [if_pos (by omega), if_pos (by omega), if_pos (by omega), w64 _ (by omega) (by omega), rd_at50 l i hlt]
    refine ih k (i + 1) (m.set ((i : Int)).toNat (toI l[i])) (by simpa using hm) (by omega) (by omega) (by omega) ?_
    rw [Int.toNat_natCast, List.take_succ_eq_append_getElem (by rw [List.length_set]; omega), List.take_succ_eq_append_getElem (by simpa using hlt), List.take_set_of_le (Nat.le_refl _), ht]
    simp
theorem toInstrS (l : List S50) (hl : l.length ≤ 1048576) (k : Nat) (hk : l.length < k) : laws_toInstrS.f k l = some (l.map toI) := by
  unfold laws_toInstrS.f
  rw [if_pos (by omega), if_pos (by omega)]
  exact toInstrS_loop l hl l.length k 0 _ (by simp) (by omega) (by omega) (by omega) (by simp)
theorem szInstrS (l : List S50) (hl : l.length ≤ 9223372036854775807) : ∃ s, laws_szInstrS.f l 1048576 = some s ∧ (s < 0 ∨ l.length ≤ 1048576) := by
  unfold laws_szInstrS.f
  rw [w64 _ (by omega) (by omega)]
  split
  · exact ⟨-1, rfl, .inl (by decide)⟩
  · exact ⟨_, rfl, .inr (by omega)⟩

theorem szInstrS2 (l : List S50) (hl : l.length ≤ 9223372036854775807) : ∃ s, laws_szInstrS.f l 1048576 = some s ∧ s ≤ 1048576 ∧ (s < 0 ∨ l.length ≤ 1048576) := by
  unfold laws_szInstrS.f
  rw [w64 _ (by omega) (by omega)]
  split
  · exact ⟨-1, rfl, by decide, .inl (by decide)⟩
  · exact ⟨_, rfl, by omega, .inr (by omega)⟩

theorem eqInstrS_loop (l : List S41) (hl : l.length ≤ 4611686018427387904) (d : Nat) : ∀ (k i : Nat), i ≤ l.length → l.length - i = d → d < k → laws_eqInstrS.l0 k l l i = some true := by
  induction d with
  | zero =>
    intro k i hi hd hk
    obtain ⟨k, rfl⟩ : ∃ m, k = m + 1 := ⟨k - 1, by omega⟩
    simp only [laws_eqInstrS.l0]
    rw [if_neg (by omega)]
  | succ d ih =>
    intro k i hi hd hk
    obtain ⟨k, rfl⟩ : ∃ m, k = m + 1 := ⟨k - 1, by omega⟩
    simp only [laws_eqInstrS.l0, laws_eqInstr.f, if_true, Option.bind_some]
    rw [if_pos (by omega), if_pos (by omega), if_pos (by omega), w64 _ (by omega) (by omega)]
    exact ih k (i + 1) (by omega) (by omega) (by omega)
theorem eqInstrS (l : List S41) (hl : l.length ≤ 4611686018427387904) (k : Nat) (hk : l.length < k) : laws_eqInstrS.f k l l = some true := by
  unfold laws_eqInstrS.f
  rw [if_pos rfl]
  exact eqInstrS_loop l hl l.length k 0 (by omega) (by omega) (by omega)

def goodB (x : S41) : Bool := decide ((0 ≤ x.f1 ∧ x.f1 ≤ 7) ∧ (0 ≤ x.f2 ∧ x.f2 ≤ 7) ∧ (0 ≤ x.f3 ∧ x.f3 ≤ 7) ∧ (0 ≤ x.f4 ∧ x.f4 ≤ 65535) ∧ (x.f0 = 1 ∧ x.f2 = 0 ∧ x.f3 = 0 ∨ x.f0 = 2 ∧ x.f3 = 0 ∧ x.f4 = 0 ∨ (3 ≤ x.f0 ∧ x.f0 ≤ 7) ∧ x.f4 = 0 ∨ x.f0 = 8 ∧ x.f1 = 0 ∧ x.f3 = 0 ∧ x.f4 = 0))
theorem inS (a l h : Int) : spec_l1In.f a l h = some (decide (l ≤ a ∧ a ≤ h)) := by
  simp only [spec_l1In.f]
  by_cases h1 : a ≥ l <;> simp [*]
theorem inI (a l h : Int) : impl_in.f a l h = some (decide (l ≤ a ∧ a ≤ h)) := by
  simp only [impl_in.f]
  by_cases h1 : a ≥ l <;> simp [*]
theorem good_spec (x : S41) : spec_l3Good.f x.f0 x.f1 x.f2 x.f3 x.f4 = some (goodB x) := by
  simp only [spec_l3Good.f, spec_l3Name.f, spec_l3Two.f, spec_l1Word.f, inS, Option.bind_some, goodB]
  repeat' split
  all_goals first | rfl | (congr 1; simp_all; done) | (congr 1; simp_all; omega) | (congr 1; rw [Bool.eq_iff_iff]; simp_all; done) | (congr 1; rw [Bool.eq_iff_iff]; simp_all; omega)
theorem good_j0t (k : Nat) (a b c d e : Int) : impl_isInstr.j0 (k + 1) true a b c d e = some false := by simp [impl_isInstr.j0]
theorem good_j0f (k : Nat) (a b c d e : Int) : impl_isInstr.j0 (k + 1 + 1) false a b c d e = some (decide (a = 1 ∧ c = 0 ∧ d = 0 ∨ a = 2 ∧ d = 0 ∧ e = 0 ∨ (3 ≤ a ∧ a ≤ 7) ∧ e = 0 ∨ a = 8 ∧ b = 0 ∧ d = 0 ∧ e = 0)) := by
  simp only [impl_isInstr.j0, impl_isInstr.j1, Bool.false_eq_true, if_false]
  repeat' split
  all_goals first | rfl | (congr 1; simp_all; done) | (congr 1; simp_all; omega) | (congr 1; rw [Bool.eq_iff_iff]; simp_all; done) | (congr 1; rw [Bool.eq_iff_iff]; simp_all; omega)
theorem good_impl (x : S41) (k : Nat) (hk : 2 ≤ k) : impl_isInstr.f k x.f0 x.f1 x.f2 x.f3 x.f4 = some (goodB x) := by
  obtain ⟨k, rfl⟩ : ∃ m, k = m + 1 + 1 := ⟨k - 2, by omega⟩
  simp only [impl_isInstr.f, impl_isName.f, impl_isWord.f, inI, Option.bind_some, goodB]
  by_cases h1 : 0 ≤ x.f1 ∧ x.f1 ≤ 7
  · by_cases h2 : 0 ≤ x.f2 ∧ x.f2 ≤ 7
    · by_cases h3 : 0 ≤ x.f3 ∧ x.f3 ≤ 7
      · by_cases h4 : 0 ≤ x.f4 ∧ x.f4 ≤ 65535
        · simp only [eq_true h1, eq_true h2, eq_true h3, eq_true h4, decide_true, if_true, Bool.not_true, good_j0f, true_and]
        · simp only [eq_true h1, eq_true h2, eq_true h3, eq_false h4, decide_true, if_true, decide_false, Bool.not_false, good_j0t, false_and, and_false]
      · simp only [eq_true h1, eq_true h2, eq_false h3, decide_true, if_true, decide_false, Bool.false_eq_true, if_false, good_j0t, false_and, and_false]
    · simp only [eq_true h1, eq_false h2, decide_true, if_true, decide_false, Bool.false_eq_true, if_false, good_j0t, false_and, and_false]
  · simp only [eq_false h1, decide_false, Bool.false_eq_true, if_false, good_j0t, false_and]

theorem goodCode_loop (l : List S41) (hl : l.length ≤ 4611686018427387904) (d : Nat) : ∀ (k i : Nat), i ≤ l.length → l.length - i = d → d < k →
    spec_GoodCode.l0 k l l (l.length : Int) i = some ((l.drop i).all goodB && decide (l.length ≤ 30)) := by
  induction d with
  | zero =>
    intro k i hi hd hk
    obtain ⟨k, rfl⟩ : ∃ m, k = m + 1 := ⟨k - 1, by omega⟩
    simp only [spec_GoodCode.l0]
    rw [if_neg (by omega), List.drop_of_length_le (by omega)]
    simp
    omega
  | succ d ih =>
    intro k i hi hd hk
    obtain ⟨k, rfl⟩ : ∃ m, k = m + 1 := ⟨k - 1, by omega⟩
    have hlt : i < l.length := by omega
    simp only [spec_GoodCode.l0, good_spec, Option.bind_some]
    rw [if_pos (by omega), if_pos (by omega), if_pos (by omega), w64 _ (by omega) (by omega), rd_at41 l i hlt, List.drop_eq_getElem_cons hlt, List.all_cons]
    cases goodB l[i] with
    | true => simpa using ih k (i + 1) (by omega) (by omega) (by omega)
    | false => simp
def codeB (l : List S41) : Bool := l.all goodB && decide (l.length ≤ 30)
theorem spec_good (l : List S41) (hl : l.length ≤ 4611686018427387904) (k : Nat) (hk : l.length < k) : spec_GoodCode.f k l = some (codeB l) := by
  have := goodCode_loop l hl l.length k 0 (by omega) (by omega) (by omega)
  simpa [spec_GoodCode.f, codeB] using this
theorem index_loop (l : List S41) (hl : l.length ≤ 4611686018427387904) (d : Nat) : ∀ (k i : Nat), i ≤ l.length → l.length - i = d → d + 3 < k →
    ∃ r, slices_IndexFunc_at39.l0 k l (l.length : Int) i = some r ∧ decide (r ≥ 0) = !(l.drop i).all goodB := by
  induction d with
  | zero =>
    intro k i hi hd hk
    obtain ⟨k, rfl⟩ : ∃ m, k = m + 1 := ⟨k - 1, by omega⟩
    simp only [slices_IndexFunc_at39.l0]
    rw [if_neg (by omega), List.drop_of_length_le (by omega)]
    exact ⟨-1, rfl, by simp⟩
  | succ d ih =>
    intro k i hi hd hk
    obtain ⟨k, rfl⟩ : ∃ m, k = m + 1 := ⟨k - 1, by omega⟩
    have hlt : i < l.length := by omega
    simp only [slices_IndexFunc_at39.l0, impl_isCode_1.f, good_impl _ k (by omega), Option.bind_some]
    rw [if_pos (by omega), if_pos (by omega), if_pos (by omega), w64 _ (by omega) (by omega), rd_at41 l i hlt, List.drop_eq_getElem_cons hlt, List.all_cons]
    cases goodB l[i] with
    | true =>
      obtain ⟨r, h1, h2⟩ := ih k (i + 1) (by omega) (by omega) (by omega)
      exact ⟨r, by simpa using h1, by simpa using h2⟩
    | false => exact ⟨i, by simp, by simp⟩
theorem isCode_eq (l : List S41) (k : Nat) (hk : 40 < k) : impl_isCode.f k l = some (codeB l) := by
  unfold impl_isCode.f codeB
  by_cases h : (l.length : Int) ≤ 30
  · rw [if_pos h]
    obtain ⟨r, h1, h2⟩ := index_loop l (by omega) l.length k 0 (by omega) (by omega) (by omega)
    simp only [slices_ContainsFunc_at39.f, slices_IndexFunc_at39.f]
    rw [show (0 : Int) = ((0 : Nat) : Int) from rfl, h1]
    simp only [Option.bind_some]
    rw [show ((0 : Nat) : Int) = 0 from rfl, h2, show decide (l.length ≤ 30) = true from decide_eq_true (by omega)]
    simp
  · rw [if_neg h, show decide (l.length ≤ 30) = false from decide_eq_false (by omega)]
    simp

theorem digits_len : ∀ n : Nat, (Lib.decDigits n).length ≤ n + 1 := by
  intro n
  induction n using Nat.strongRecOn with
  | _ n ih =>
    rw [Lib.decDigits]
    by_cases h : n < 10
    · rw [dif_pos h]; simp
    · rw [dif_neg h]
      have := ih (n / 10) (by omega)
      simp
      omega

def L (a : Int) : ByteArray := ⟨#[(97 + a.toNat).toUInt8]⟩
theorem L_size (a : Int) : (L a).size = 1 := rfl
theorem letterS (a : Int) (h0 : 0 ≤ a) (h1 : a ≤ 7) : spec_l3Letter.f a = some (L a) := by
  have hc : a = 0 ∨ a = 1 ∨ a = 2 ∨ a = 3 ∨ a = 4 ∨ a = 5 ∨ a = 6 ∨ a = 7 := by omega
  unfold spec_l3Letter.f
  rw [w64 (97 + a) (by omega) (by omega)]
  rcases hc with rfl | rfl | rfl | rfl | rfl | rfl | rfl | rfl <;> rfl
theorem letterI (a : Int) (h0 : 0 ≤ a) (h1 : a ≤ 7) : impl_letter.f a = some (L a) := by
  simp only [impl_letter.f, Tz.letter]
  rw [if_pos h0, if_pos h1]
  rfl
theorem digit (n : Nat) (h : n < 10) : strOfNums [(wrap64 (48 + (n : Int))) % 256] = ⟨[UInt8.ofNat (48 + n)].toArray⟩ := by
  have hc : n = 0 ∨ n = 1 ∨ n = 2 ∨ n = 3 ∨ n = 4 ∨ n = 5 ∨ n = 6 ∨ n = 7 ∨ n = 8 ∨ n = 9 := by omega
  rw [w64 (48 + (n : Int)) (by omega) (by omega)]
  rcases hc with rfl | rfl | rfl | rfl | rfl | rfl | rfl | rfl | rfl | rfl <;> rfl
theorem num_loop (d : Nat) : ∀ (k n : Nat), n < 10 ^ (d + 1) → n ≤ 1000000 → d < k → spec_l1Num.f k (n : Int) = some ⟨(Lib.decDigits n).toArray⟩ ∧ (Lib.decDigits n).length ≤ d + 1 := by
  induction d with
  | zero =>
    intro k n h _ hk
    obtain ⟨k, rfl⟩ : ∃ m, k = m + 1 := ⟨k - 1, by omega⟩
    have h10 : n < 10 := by simpa using h
    rw [Lib.decDigits, dif_pos h10]
    refine ⟨?_, by simp⟩
    simp only [spec_l1Num.f]
    rw [if_neg (by omega), if_pos (by omega), digit n h10]
  | succ d ih =>
    intro k n h hb hk
    obtain ⟨k, rfl⟩ : ∃ m, k = m + 1 := ⟨k - 1, by omega⟩
    by_cases h10 : n < 10
    · rw [Lib.decDigits, dif_pos h10]
      refine ⟨?_, by simp⟩
      simp only [spec_l1Num.f]
      rw [if_neg (by omega), if_pos (by omega), digit n h10]
    · obtain ⟨e1, e2⟩ := ih k (n / 10) (by rw [Nat.pow_succ] at h; omega) (by omega) (by omega)
      rw [Lib.decDigits, dif_neg h10]
      refine ⟨?_, by simp; omega⟩
      have t1 : Int.tdiv (n : Int) 10 = ((n / 10 : Nat) : Int) := by rw [Int.tdiv_eq_ediv_of_nonneg (by omega)]; omega
      have t2 : Int.tmod (n : Int) 10 = ((n % 10 : Nat) : Int) := by rw [Int.tmod_eq_emod_of_nonneg (by omega)]; omega
      simp only [spec_l1Num.f, t1, t2]
      rw [if_neg (by omega), if_neg (by omega), w64 ((n / 10 : Nat) : Int) (by omega) (by omega), e1]
      simp only [Option.bind_some]
      rw [digit (n % 10) (by omega)]
      have s1 : (⟨(Lib.decDigits (n / 10)).toArray⟩ : ByteArray).size = (Lib.decDigits (n / 10)).length := by simp [ByteArray.size]
      have s2 : (⟨[UInt8.ofNat (48 + n % 10)].toArray⟩ : ByteArray).size = 1 := rfl
      have hd : d ≤ 1000 ∨ 1000 < d := by omega
      have hsz : (Lib.decDigits (n / 10)).length + 1 ≤ 9223372036854775807 := by
        have := digits_len (n / 10)
        omega
      rw [s1, s2, if_pos hsz]
      exact congrArg some (ByteArray.ext (by simp [ByteArray.data_append]))
def nums_ (n : Int) : ByteArray := ⟨(Lib.itoa n).toArray⟩
theorem numS (n : Int) (h0 : 0 ≤ n) (h1 : n ≤ 65535) (k : Nat) (hk : 10 < k) : spec_l1Num.f k n = some (nums_ n) ∧ (nums_ n).size ≤ 5 := by
  obtain ⟨x, rfl⟩ := Int.eq_ofNat_of_zero_le h0
  obtain ⟨e1, e2⟩ := num_loop 4 k x (by omega) (by omega) (by omega)
  have e3 : Lib.itoa (x : Int) = Lib.decDigits x := by
    unfold Lib.itoa
    rw [if_neg (by omega), Int.toNat_natCast]
  unfold nums_
  rw [e3]
  exact ⟨e1, by simpa [ByteArray.size] using e2⟩
theorem numI (n : Int) (h0 : 0 ≤ n) (h1 : n ≤ 65535) : strconv_Itoa_42.f n = some (nums_ n) := by
  simp only [strconv_Itoa_42.f, Tz.itoa]
  rw [if_pos (by omega), if_pos (by omega)]
  rfl
def sg (op : Int) : ByteArray := (⟨#[43, 45, 42, 60, 126]⟩ : ByteArray).extract ((wrap64 (op - 3)) : Int).toNat ((wrap64 ((wrap64 (op - 3)) + 1)) : Int).toNat
theorem sg_size (op : Int) (h0 : 3 ≤ op) (h1 : op ≤ 7) : (sg op).size = 1 := by
  have hc : op = 3 ∨ op = 4 ∨ op = 5 ∨ op = 6 ∨ op = 7 := by omega
  unfold sg
  rw [w64 (op - 3) (by omega) (by omega), w64 (op - 3 + 1) (by omega) (by omega)]
  rcases hc with rfl | rfl | rfl | rfl | rfl <;> rfl
def eqB : ByteArray := ⟨#[61]⟩
def semi : ByteArray := ⟨#[59]⟩
def bang : ByteArray := ⟨#[33]⟩
def txt (x : S41) : ByteArray := if x.f0 = 1 then (L x.f1 ++ eqB) ++ nums_ x.f4 else if x.f0 = 2 then (L x.f1 ++ eqB) ++ L x.f2 else if x.f0 = 8 then bang ++ L x.f2 else (((L x.f1 ++ eqB) ++ L x.f2) ++ sg x.f0) ++ L x.f3
theorem text_spec (x : S41) (hg : goodB x = true) (k : Nat) (hk : 10 < k) : spec_l3Text.f k x.f0 x.f1 x.f2 x.f3 x.f4 = some (txt x) ∧ (txt x).size ≤ 10 := by
  obtain ⟨⟨d0, d1⟩, ⟨a0, a1⟩, ⟨b0, b1⟩, ⟨n0, n1⟩, ho⟩ := of_decide_eq_true hg
  obtain ⟨q1, q2⟩ := numS x.f4 n0 n1 k hk
  have e1 : eqB.size = 1 := rfl
  have e2 : bang.size = 1 := rfl
  simp only [spec_l3Text.f, letterS _ d0 d1, letterS _ a0 a1, letterS _ b0 b1, q1, Option.bind_some, txt, show (⟨#[61]⟩ : ByteArray) = eqB from rfl, show (⟨#[33]⟩ : ByteArray) = bang from rfl]
  have z1 := L_size x.f1
  have z2 := L_size x.f2
  have z3 := L_size x.f3
  by_cases h1 : x.f0 = 1
  · simp only [if_pos h1]
    rw [if_pos (by omega), if_pos (by omega)]
    exact ⟨rfl, by simp only [ByteArray.size_append, L_size, e1]; omega⟩
  · simp only [if_neg h1]
    by_cases h2 : x.f0 = 2
    · simp only [if_pos h2]
      rw [if_pos (by omega), if_pos (by omega)]
      exact ⟨rfl, by simp only [ByteArray.size_append, L_size, e1]; omega⟩
    · simp only [if_neg h2]
      by_cases h8 : x.f0 = 8
      · simp only [if_pos h8]
        rw [if_pos (by omega)]
        exact ⟨rfl, by simp only [ByteArray.size_append, L_size, e2]; omega⟩
      · have h3 : 3 ≤ x.f0 ∧ x.f0 ≤ 7 := by omega
        have s := sg_size x.f0 h3.1 h3.2
        have hs : spec_l3Sign.f x.f0 = some (sg x.f0) := by
          simp only [spec_l3Sign.f]
          rw [w64 (x.f0 - 3) (by omega) (by omega), w64 (x.f0 - 3 + 1) (by omega) (by omega), if_pos (by omega), if_pos (by omega), if_pos (by omega)]
          unfold sg
          rw [w64 (x.f0 - 3) (by omega) (by omega), w64 (x.f0 - 3 + 1) (by omega) (by omega)]
        simp only [if_neg h8, hs, Option.bind_some]
        rw [if_pos (by omega), if_pos (by omega), if_pos (by omega), if_pos (by omega)]
        exact ⟨rfl, by simp only [ByteArray.size_append, L_size, e1, s]; omega⟩

theorem join_snoc (y x s : List UInt8) (r : List (List UInt8)) : Lib.join ((y :: r) ++ [x]) s = Lib.join (y :: r) s ++ (s ++ x) := by
  rw [List.cons_append, Lib.join_cons, Lib.join_cons]
  simp [Lib.joinTail]
def bl (c : List S41) : List (List UInt8) := c.map fun x => (txt x).data.toList
theorem spec_loop (c : List S41) (hc : c.length ≤ 30) (hg : c.all goodB = true) (d : Nat) : ∀ (k i : Nat) (s : ByteArray), s.data.toList = Lib.join (bl (c.take i)) [59] → s.size ≤ 11 * i → i ≤ c.length → c.length - i = d → d + 20 < k →
    ∃ r, spec_CodeText.l0 k s c (c.length : Int) i = some (r, true) ∧ r.data.toList = Lib.join (bl c) [59] ∧ r.size ≤ 330 := by
  induction d with
  | zero =>
    intro k i s hs hz hi hd hk
    obtain ⟨k, rfl⟩ : ∃ m, k = m + 1 := ⟨k - 1, by omega⟩
    have c1 : ¬((i : Int) < (c.length : Int)) := by omega
    simp only [spec_CodeText.l0, if_neg c1]
    rw [List.take_of_length_le (by omega)] at hs
    exact ⟨s, rfl, hs, by omega⟩
  | succ d ih =>
    intro k i s hs hz hi hd hk
    obtain ⟨k, rfl⟩ : ∃ m, k = m + 1 := ⟨k - 1, by omega⟩
    have hlt : i < c.length := by omega
    have c1 : (i : Int) < (c.length : Int) := by omega
    have c2 : (0 : Int) ≤ i := by omega
    obtain ⟨t1, t2⟩ := text_spec c[i] (List.all_eq_true.1 hg _ (List.getElem_mem hlt)) k (by omega)
    have e1 : semi.size = 1 := rfl
    simp only [spec_CodeText.l0, if_pos c1, if_pos c2, rd_at41 c i hlt, t1, Option.bind_some, w64 ((i : Int) + 1) (by omega) (by omega), show (⟨#[59]⟩ : ByteArray) = semi from rfl]
    have ht : bl (c.take (i + 1)) = bl (c.take i) ++ [(txt c[i]).data.toList] := by
      unfold bl
      rw [List.take_succ_eq_append_getElem hlt, List.map_append]
      rfl
    rw [show (i : Int) + 1 = ((i + 1 : Nat) : Int) by omega]
    by_cases h0 : i = 0
    · subst h0
      rw [if_neg (by omega), if_pos (by omega)]
      refine ih k 1 _ ?_ (by rw [ByteArray.size_append]; omega) (by omega) (by omega) (by omega)
      rw [ht]
      simp only [List.take_zero, bl, List.map_nil, List.nil_append] at hs ⊢
      rw [ByteArray.data_append, Array.toList_append, hs]
      simp [Lib.join_nil, Lib.join_one]
    · rw [if_pos (by omega), if_pos (by omega), if_pos (by omega)]
      refine ih k (i + 1) _ ?_ (by simp only [ByteArray.size_append, e1]; omega) (by omega) (by omega) (by omega)
      obtain ⟨y, r, hy⟩ : ∃ y r, bl (c.take i) = y :: r := by
        cases hb : bl (c.take i) with
        | nil =>
          have hl_ : (bl (c.take i)).length = i := by
            simp only [bl, List.length_map, List.length_take]
            omega
          rw [hb] at hl_
          simp only [List.length_nil] at hl_
          omega
        | cons y r => exact ⟨y, r, rfl⟩
      rw [ht, hy, join_snoc, ← hy, ← hs]
      simp only [ByteArray.data_append, Array.toList_append, List.append_assoc]
      rfl
theorem impl_loop (c : List S41) (hc : c.length ≤ 30) (hg : c.all goodB = true) (d : Nat) : ∀ (k i : Nat) (a : List ByteArray), a.length ≤ i → i ≤ c.length → c.length - i = d → d < k →
    impl_codeText.l0 k a c (c.length : Int) i = Tz.join (a ++ (c.drop i).map txt) ⟨#[59]⟩ := by
  induction d with
  | zero =>
    intro k i a ha hi hd hk
    obtain ⟨k, rfl⟩ : ∃ m, k = m + 1 := ⟨k - 1, by omega⟩
    have c1 : ¬((i : Int) < (c.length : Int)) := by omega
    simp only [impl_codeText.l0, if_neg c1, strings_Join.f]
    rw [List.drop_of_length_le (by omega)]
    simp
  | succ d ih =>
    intro k i a ha hi hd hk
    obtain ⟨k, rfl⟩ : ∃ m, k = m + 1 := ⟨k - 1, by omega⟩
    have hlt : i < c.length := by omega
    have c1 : (i : Int) < (c.length : Int) := by omega
    have c2 : (0 : Int) ≤ i := by omega
    have c3 : a.length < 8796093022208 := by omega
    obtain ⟨⟨d0, d1⟩, ⟨a0, a1⟩, ⟨b0, b1⟩, ⟨n0, n1⟩, ho⟩ := of_decide_eq_true (List.all_eq_true.1 hg _ (List.getElem_mem hlt))
    have q2 := (numS c[i].f4 n0 n1 11 (by omega)).2
    have e1 : eqB.size = 1 := rfl
    simp only [impl_codeText.l0, if_pos c1, if_pos c2, if_pos c3, rd_at41 c i hlt, letterI _ d0 d1, letterI _ a0 a1, letterI _ b0 b1, numI _ n0 n1, Option.bind_some, w64 ((i : Int) + 1) (by omega) (by omega), show (⟨#[61]⟩ : ByteArray) = eqB from rfl, show (⟨#[33]⟩ : ByteArray) = bang from rfl]
    have z1 := L_size c[i].f1
    have z2 := L_size c[i].f2
    have z3 := L_size c[i].f3
    have ih' := fun t ht => ih k (i + 1) (a ++ [t]) ht (by omega) (by omega) (by omega)
    rw [List.drop_eq_getElem_cons hlt, List.map_cons, show (i : Int) + 1 = ((i + 1 : Nat) : Int) by omega]
    have fin : ∀ t, t = txt c[i] → impl_codeText.l0 k (a ++ [t]) c (c.length : Int) ((i + 1 : Nat) : Int) = Tz.join (a ++ txt c[i] :: (c.drop (i + 1)).map txt) ⟨#[59]⟩ := by
      intro t ht
      rw [ih' t (by simp; omega), ht]
      simp
    rw [if_pos (by omega)]
    by_cases h1 : c[i].f0 = 1
    · rw [if_pos h1, if_pos (by omega)]
      exact fin _ (by unfold txt; rw [if_pos h1])
    · rw [if_neg h1]
      by_cases h2 : c[i].f0 = 2
      · rw [if_pos h2, if_pos (by omega)]
        exact fin _ (by unfold txt; rw [if_neg h1, if_pos h2])
      · rw [if_neg h2]
        by_cases h8 : c[i].f0 = 8
        · rw [if_pos h8, if_pos (by omega)]
          exact fin _ (by unfold txt; rw [if_neg h1, if_neg h2, if_pos h8])
        · have h3 : 3 ≤ c[i].f0 ∧ c[i].f0 ≤ 7 := by omega
          have s := sg_size c[i].f0 h3.1 h3.2
          rw [if_neg h8]
          have p1 : 0 ≤ wrap64 (c[i].f0 - 3) := by rw [w64 _ (by omega) (by omega)]; omega
          have p2 : wrap64 (c[i].f0 - 3) ≤ wrap64 (wrap64 (c[i].f0 - 3) + 1) := by rw [w64 (c[i].f0 - 3) (by omega) (by omega), w64 _ (by omega) (by omega)]; omega
          have p3 : wrap64 (wrap64 (c[i].f0 - 3) + 1) ≤ 5 := by rw [w64 (c[i].f0 - 3) (by omega) (by omega), w64 _ (by omega) (by omega)]; omega
          rw [if_pos p1, if_pos p2, if_pos p3]
          have hsg : (⟨#[43, 45, 42, 60, 126]⟩ : ByteArray).extract ((wrap64 (c[i].f0 - 3)) : Int).toNat ((wrap64 ((wrap64 (c[i].f0 - 3)) + 1)) : Int).toNat = sg c[i].f0 := rfl
          have p4 : (wrap64 (wrap64 (c[i].f0 - 3) + 1) : Int).toNat - (wrap64 (c[i].f0 - 3) : Int).toNat = 1 := by rw [w64 (c[i].f0 - 3) (by omega) (by omega), w64 _ (by omega) (by omega)]; omega
          rw [if_pos (by omega), if_pos (by omega), if_pos (by omega), hsg]
          exact fin _ (by unfold txt; rw [if_neg h1, if_neg h2, if_neg h8]; simp only [ByteArray.append_assoc])
theorem both (c : List S41) (hc : c.length ≤ 1048576) (k : Nat) (hk : 1048700 < k) : ∃ r b, spec_CodeText.f k c = some (r, b) ∧ impl_CodeText.f k c = some (r, b) := by
  simp only [spec_CodeText.f, impl_CodeText.f, spec_good c (by omega) k (by omega), isCode_eq c k (by omega), Option.bind_some]
  cases hcb : codeB c with
  | false => exact ⟨⟨#[]⟩, false, by simp, by simp⟩
  | true =>
    simp only [codeB, Bool.and_eq_true, decide_eq_true_eq] at hcb
    obtain ⟨r, e1, e2, e3⟩ := spec_loop c hcb.2 hcb.1 c.length k 0 ⟨#[]⟩ (by simp [bl, Lib.join_nil]) (by simp [ByteArray.size]) (by omega) (by omega) (by omega)
    have e4 := impl_loop c hcb.2 hcb.1 c.length k 0 [] (by simp) (by omega) (by omega) (by omega)
    have hr : r.data.toList.length = r.size := by rw [Array.length_toList]; rfl
    have hj : Tz.join (c.map txt) ⟨#[59]⟩ = some r := by
      unfold Tz.join
      have hb : (c.map txt).map (·.data.toList) = bl c := by simp [bl]
      rw [hb, show (⟨#[59]⟩ : ByteArray).data.toList = [59] from rfl, ← e2, if_pos (by simp; omega), if_pos (by omega)]
    simp only [List.drop_zero, List.nil_append, hj] at e4
    refine ⟨r, true, by simpa using e1, ?_⟩
    simp only [if_true, impl_codeText.f]
    rw [show (0 : Int) = ((0 : Nat) : Int) from rfl, e4]
    rfl
theorem FnExactCodeText (l : List S50) (hl : l.length ≤ 9223372036854775807) (_ : ∀ x, x ∈ l → (Lit.int .i64 x.f0).wf = true ∧ (Lit.int .i64 x.f1).wf = true ∧ (Lit.int .i64 x.f2).wf = true ∧ (Lit.int .i64 x.f3).wf = true ∧ (Lit.int .i64 x.f4).wf = true) : ∃ k, laws_FnExactCodeText.f k l = some true := by
  suffices H : ∀ k, 1048800 < k → laws_FnExactCodeText.f k l = some true from ⟨1048801, H _ (by omega)⟩
  intro k hk
  obtain ⟨s, hs, hs1, hs2⟩ := szInstrS2 l hl
  unfold laws_FnExactCodeText.f
  rw [hs]
  simp only [Option.bind_some]
  by_cases h0 : s < 0
  · rw [if_pos h0]
  rw [if_neg h0]
  have hl' : l.length ≤ 1048576 := by omega
  obtain ⟨k, rfl⟩ : ∃ m, k = m + 1 := ⟨k - 1, by omega⟩
  have hc : (l.map toI).length ≤ 1048576 := by simpa using hl'
  have t1 := toInstrS l hl' (k + 1) (by omega)
  have t2 := toInstrS l hl' k (by omega)
  generalize l.map toI = c at *
  obtain ⟨r, b, e1, e2⟩ := both c hc (k + 1) (by omega)
  have e3 := eqInstrS c (by omega) k (by omega)
  simp [t1, e1, e2, laws_FnExactCodeText.j0, t2, e3]

end Go.Proofs.YtonapnobpllfoaaDoor.Pure

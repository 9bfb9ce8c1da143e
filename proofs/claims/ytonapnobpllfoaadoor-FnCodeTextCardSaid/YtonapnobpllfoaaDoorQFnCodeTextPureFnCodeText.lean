/- The pure statement of FnCodeText: code comes back from its text, and this from it, for drawn code and texts. -/
import Derived.Test.YtonapnobpllfoaaDoorQFnCodeTextXFnCodeTextx12
import Derived.Test.YtonapnobpllfoaaDoorQFnCodeTextBits
import Derived.Lib.Join
import Derived.Lib.ItoaNum
import Derived.Lib.AtoiTie
namespace Go.Proofs.YtonapnobpllfoaaDoor.Pure
open Go.RowKit Go.Proofs.YtonapnobpllfoaaDoor.XFnCodeText Go.Proofs.YtonapnobpllfoaaDoorW.PrintWords Go.Proofs.YtonapnobpllfoaaDoorW.PrintLast Go.Proofs.YtonapnobpllfoaaDoorW.PrintMore Go.Proofs.YtonapnobpllfoaaDoorBits

theorem rd_at41 (l : List S41) (i : Nat) (h : i < l.length) : rd_T41 l i = l[i] := by
  simp [rd_T41, List.getD_eq_getElem?_getD, List.getElem?_eq_getElem h]

def goodB (x : S41) : Bool := decide ((0 ≤ x.f1 ∧ x.f1 ≤ 7) ∧ (0 ≤ x.f2 ∧ x.f2 ≤ 7) ∧ (0 ≤ x.f3 ∧ x.f3 ≤ 7) ∧ (0 ≤ x.f4 ∧ x.f4 ≤ 65535) ∧ (x.f0 = 1 ∧ x.f2 = 0 ∧ x.f3 = 0 ∨ x.f0 = 2 ∧ x.f3 = 0 ∧ x.f4 = 0 ∨ (3 ≤ x.f0 ∧ x.f0 ≤ 7) ∧ x.f4 = 0 ∨ x.f0 = 8 ∧ x.f1 = 0 ∧ x.f3 = 0 ∧ x.f4 = 0))
theorem inS (a l h : Int) : spec_l1In.f a l h = some (decide (l ≤ a ∧ a ≤ h)) := by
  simp only [spec_l1In.f]
  by_cases h1 : a ≥ l <;> simp [*]
theorem inI (a l h : Int) : impl_in.f a l h = some (decide (l ≤ a ∧ a ≤ h)) := by
  simp only [impl_in.f]
  by_cases h1 : a ≥ l <;> simp [*]
theorem good_spec (x : S41) : spec_l3Good.f x.f0 x.f1 x.f2 x.f3 x.f4 = some (goodB x) := by
  simp only [spec_l3Good.f, spec_l3Name.f, spec_l3Two.f, spec_l1Word.f, inS, Option.bind_some, goodB]
  repeat' split
  all_goals first | rfl | (congr 1; simp_all; done) | (congr 1; simp_all; omega) | (congr 1; rw [Bool.eq_iff_iff]; simp_all; done) | (congr 1; rw [Bool.eq_iff_iff]; simp_all; omega)
theorem good_j0t (k : Nat) (a b c d e : Int) : impl_isInstr.j0 (k + 1) true a b c d e = some false := by simp [impl_isInstr.j0]
theorem good_j0f (k : Nat) (a b c d e : Int) : impl_isInstr.j0 (k + 1 + 1) false a b c d e = some (decide (a = 1 ∧ c = 0 ∧ d = 0 ∨ a = 2 ∧ d = 0 ∧ e = 0 ∨ (3 ≤ a ∧ a ≤ 7) ∧ e = 0 ∨ a = 8 ∧ b = 0 ∧ d = 0 ∧ e = 0)) := by
  simp only [impl_isInstr.j0, impl_isInstr.j1, Bool.false_eq_true, if_false]
  repeat' split
  all_goals first | rfl | (congr 1; simp_all; done) | (congr 1; simp_all; omega) | (congr 1; rw [Bool.eq_iff_iff]; simp_all; done) | (congr 1; rw [Bool.eq_iff_iff]; simp_all; omega)
theorem good_impl (x : S41) (k : Nat) (hk : 2 ≤ k) : impl_isInstr.f k x.f0 x.f1 x.f2 x.f3 x.f4 = some (goodB x) := by
  obtain ⟨k, rfl⟩ : ∃ m, k = m + 1 + 1 := ⟨k - 2, by omega⟩
  simp only [impl_isInstr.f, impl_isName.f, impl_isWord.f, inI, Option.bind_some, goodB]
  by_cases h1 : 0 ≤ x.f1 ∧ x.f1 ≤ 7
  · by_cases h2 : 0 ≤ x.f2 ∧ x.f2 ≤ 7
    · by_cases h3 : 0 ≤ x.f3 ∧ x.f3 ≤ 7
      · by_cases h4 : 0 ≤ x.f4 ∧ x.f4 ≤ 65535
        · simp only [eq_true h1, eq_true h2, eq_true h3, eq_true h4, decide_true, if_true, Bool.not_true, good_j0f, true_and]
        · simp only [eq_true h1, eq_true h2, eq_true h3, eq_false h4, decide_true, if_true, decide_false, Bool.not_false, good_j0t, false_and, and_false]
      · simp only [eq_true h1, eq_true h2, eq_false h3, decide_true, if_true, decide_false, Bool.false_eq_true, if_false, good_j0t, false_and, and_false]
    · simp only [eq_true h1, eq_false h2, decide_true, if_true, decide_false, Bool.false_eq_true, if_false, good_j0t, false_and, and_false]
  · simp only [eq_false h1, decide_false, Bool.false_eq_true, if_false, good_j0t, false_and]

theorem goodCode_loop (l : List S41) (hl : l.length ≤ 4611686018427387904) (d : Nat) : ∀ (k i : Nat), i ≤ l.length → l.length - i = d → d < k →
    spec_GoodCode.l0 k l l (l.length : Int) i = some ((l.drop i).all goodB && decide (l.length ≤ 30)) := by
  induction d with
  | zero =>
    intro k i hi hd hk
    obtain ⟨k, rfl⟩ : ∃ m, k = m + 1 := ⟨k - 1, by omega⟩
    simp only [spec_GoodCode.l0]
    rw [if_neg (by omega), List.drop_of_length_le (by omega)]
    simp
    omega
  | succ d ih =>
    intro k i hi hd hk
    obtain ⟨k, rfl⟩ : ∃ m, k = m + 1 := ⟨k - 1, by omega⟩
    have hlt : i < l.length := by omega
    simp only [spec_GoodCode.l0, good_spec, Option.bind_some]
    rw [if_pos (by omega), if_pos (by omega), if_pos (by omega), w64 _ (by omega) (by omega), rd_at41 l i hlt, List.drop_eq_getElem_cons hlt, List.all_cons]
    cases goodB l[i] with
    | true => simpa using ih k (i + 1) (by omega) (by omega) (by omega)
    | false => simp
def codeB (l : List S41) : Bool := l.all goodB && decide (l.length ≤ 30)
theorem spec_good (l : List S41) (hl : l.length ≤ 4611686018427387904) (k : Nat) (hk : l.length < k) : spec_GoodCode.f k l = some (codeB l) := by
  have := goodCode_loop l hl l.length k 0 (by omega) (by omega) (by omega)
  simpa [spec_GoodCode.f, codeB] using this
theorem index_loop (l : List S41) (hl : l.length ≤ 4611686018427387904) (d : Nat) : ∀ (k i : Nat), i ≤ l.length → l.length - i = d → d + 3 < k →
    ∃ r, slices_IndexFunc_at39.l0 k l (l.length : Int) i = some r ∧ decide (r ≥ 0) = !(l.drop i).all goodB := by
  induction d with
  | zero =>
    intro k i hi hd hk
    obtain ⟨k, rfl⟩ : ∃ m, k = m + 1 := ⟨k - 1, by omega⟩
    simp only [slices_IndexFunc_at39.l0]
    rw [if_neg (by omega), List.drop_of_length_le (by omega)]
    exact ⟨-1, rfl, by simp⟩
  | succ d ih =>
    intro k i hi hd hk
    obtain ⟨k, rfl⟩ : ∃ m, k = m + 1 := ⟨k - 1, by omega⟩
    have hlt : i < l.length := by omega
    simp only [slices_IndexFunc_at39.l0, impl_isCode_1.f, good_impl _ k (by omega), Option.bind_some]
    rw [if_pos (by omega), if_pos (by omega), if_pos (by omega), w64 _ (by omega) (by omega), rd_at41 l i hlt, List.drop_eq_getElem_cons hlt, List.all_cons]
    cases goodB l[i] with
    | true =>
      obtain ⟨r, h1, h2⟩ := ih k (i + 1) (by omega) (by omega) (by omega)
      exact ⟨r, by simpa using h1, by simpa using h2⟩
    | false => exact ⟨i, by simp, by simp⟩
theorem isCode_eq (l : List S41) (k : Nat) (hk : 40 < k) : impl_isCode.f k l = some (codeB l) := by
  unfold impl_isCode.f codeB
  by_cases h : (l.length : Int) ≤ 30
  · rw [if_pos h]
    obtain ⟨r, h1, h2⟩ := index_loop l (by omega) l.length k 0 (by omega) (by omega) (by omega)
    simp only [slices_ContainsFunc_at39.f, slices_IndexFunc_at39.f]
    rw [show (0 : Int) = ((0 : Nat) : Int) from rfl, h1]
    simp only [Option.bind_some]
    rw [show ((0 : Nat) : Int) = 0 from rfl, h2, show decide (l.length ≤ 30) = true from decide_eq_true (by omega)]
    simp
  · rw [if_neg h, show decide (l.length ≤ 30) = false from decide_eq_false (by omega)]
    simp
/-! rows of bytes cut at ';' -/
def spl : List UInt8 → List (List UInt8)
  | [] => [[]]
  | c :: r => if c = 59 then [] :: spl r else match spl r with
    | [] => [[c]]
    | p :: ps => (c :: p) :: ps
theorem spl_ne (l : List UInt8) : ∃ p ps, spl l = p :: ps := by
  cases l with
  | nil => exact ⟨_, _, rfl⟩
  | cons c r =>
    unfold spl
    split
    · exact ⟨_, _, rfl⟩
    · split
      · exact ⟨_, _, rfl⟩
      · exact ⟨_, _, rfl⟩
theorem spl_semi (r : List UInt8) : spl (59 :: r) = [] :: spl r := by rw [spl, if_pos rfl]
theorem spl_cons {c : UInt8} (hc : c ≠ 59) {r p : List UInt8} {ps : List (List UInt8)} (h : spl r = p :: ps) : spl (c :: r) = (c :: p) :: ps := by
  rw [spl, if_neg hc, h]
/-- The pieces, joined, are the row. -/
theorem join_spl (l : List UInt8) : Lib.join (spl l) [59] = l := by
  induction l with
  | nil => rfl
  | cons c r ih =>
    obtain ⟨p, ps, h⟩ := spl_ne r
    rw [h] at ih
    by_cases hc : c = 59
    · subst hc
      rw [spl_semi, h, Lib.join_cons]
      rw [Lib.join_cons] at ih
      simpa [Lib.joinTail] using ih
    · rw [spl_cons hc h, Lib.join_cons]
      rw [Lib.join_cons] at ih
      simp [ih]
theorem spl_piece (p : List UInt8) (hp : ∀ c, c ∈ p → c ≠ 59) : spl p = [p] := by
  induction p with
  | nil => rfl
  | cons c r ih => exact spl_cons (hp c (by simp)) (ih fun x hx => hp x (by simp [hx]))
theorem spl_app (p : List UInt8) (hp : ∀ c, c ∈ p → c ≠ 59) (r : List UInt8) : spl (p ++ 59 :: r) = p :: spl r := by
  induction p with
  | nil => exact spl_semi r
  | cons c q ih => exact spl_cons (hp c (by simp)) (ih fun x hx => hp x (by simp [hx]))
/-- A join of pieces without ';' is cut into these. -/
theorem spl_join : ∀ (ps : List (List UInt8)) (p : List UInt8), (∀ q, q ∈ p :: ps → ∀ c, c ∈ q → c ≠ 59) → spl (Lib.join (p :: ps) [59]) = p :: ps
  | [], p, h => by rw [Lib.join_one]; exact spl_piece p (h p (by simp))
  | q :: ps, p, h => by
    have ih := spl_join ps q fun x hx => h x (by simp at hx ⊢; exact .inr hx)
    have e : Lib.join (p :: q :: ps) [59] = p ++ 59 :: Lib.join (q :: ps) [59] := by
      rw [Lib.join_cons, Lib.join_cons]
      simp [Lib.joinTail]
    rw [e, spl_app p (h p (by simp)), ih]
theorem spl_length (l : List UInt8) : (spl l).length ≤ l.length + 1 := by
  induction l with
  | nil => simp [spl]
  | cons c r ih =>
    obtain ⟨p, ps, h⟩ := spl_ne r
    by_cases hc : c = 59
    · subst hc; rw [spl_semi]; simp; omega
    · rw [spl_cons hc h]; rw [h] at ih; simp at ih ⊢; omega
theorem spl_sizes (l : List UInt8) : ∀ p, p ∈ spl l → p.length ≤ l.length := by
  induction l with
  | nil => intro p hp; simp [spl] at hp; subst hp; simp
  | cons c r ih =>
    intro p hp
    obtain ⟨q, qs, h⟩ := spl_ne r
    by_cases hc : c = 59
    · subst hc
      rw [spl_semi] at hp
      rcases List.mem_cons.1 hp with rfl | hp
      · simp
      · have := ih p hp; simp; omega
    · rw [spl_cons hc h] at hp
      rw [h] at ih
      rcases List.mem_cons.1 hp with rfl | hp
      · have := ih q (by simp); simp; omega
      · have := ih p (by simp [hp]); simp; omega
def mkB (l : List UInt8) : ByteArray := ⟨l.toArray⟩
theorem mkB_data (l : List UInt8) : (mkB l).data.toList = l := rfl
theorem mkB_of (s : ByteArray) : mkB s.data.toList = s := ByteArray.ext (by simp [mkB])
theorem mkB_size (l : List UInt8) : (mkB l).size = l.length := by simp [mkB, ByteArray.size]
theorem toL (s : ByteArray) : s.toList = s.data.toList := by
  first | exact ByteArray.toList_eq _ | exact ByteArray.toList_data | simp
/-! the library's cut -/
theorem indexByte_ne {b : UInt8} (hb : b ≠ 59) (l : List UInt8) : Lib.indexByte (b :: l) 59 = if Lib.indexByte l 59 = -1 then -1 else Lib.indexByte l 59 + 1 := by
  rw [Lib.indexByte, if_neg (by simpa using hb)]
  simp only [beq_iff_eq]
theorem splitK_cons {b : UInt8} (hb : b ≠ 59) (l : List UInt8) : ∀ k, ∃ p ps, Lib.splitK [59] 0 k l = p :: ps ∧ Lib.splitK [59] 0 k (b :: l) = (b :: p) :: ps
  | 0 => ⟨l, [], rfl, rfl⟩
  | k + 1 => by
    simp only [Lib.splitK, Lib.index_one, indexByte_ne hb]
    by_cases h : Lib.indexByte l 59 = -1
    · rw [h]
      exact ⟨l, [], rfl, rfl⟩
    · have h0 := Lib.indexByte_ge l 59
      obtain ⟨i, hi⟩ := Int.eq_ofNat_of_zero_le (show 0 ≤ Lib.indexByte l 59 by omega)
      rw [if_neg h, hi]
      have e1 : ((i : Int) == -1) = false := beq_eq_false_iff_ne.2 (by omega)
      have e2 : ((i : Int) + 1 == -1) = false := beq_eq_false_iff_ne.2 (by omega)
      rw [e1, e2]
      have e3 : ((i : Int) + 1).toNat = i + 1 := by omega
      rw [e3, Int.toNat_natCast]
      exact ⟨_, _, rfl, by simp⟩
theorem splitK_spl (l : List UInt8) : Lib.splitK [59] 0 (Lib.count l [59]) l = spl l := by
  induction l with
  | nil => rfl
  | cons b r ih =>
    by_cases hb : b = 59
    · subst hb
      rw [Lib.count_cons_eq, Nat.add_comm, Lib.splitK, Lib.index_one, Lib.indexByte, spl_semi]
      simp [ih]
    · rw [Lib.count_cons_ne b 59 r hb]
      obtain ⟨p, ps, h1, h2⟩ := splitK_cons hb r (Lib.count r [59])
      rw [h2]
      exact (spl_cons hb (by rw [← ih, h1])).symm
theorem split_impl (s : ByteArray) (hs : s.size ≤ 400) : strings_Split.f s ⟨#[59]⟩ = some ((spl s.data.toList).map mkB) := by
  simp only [strings_Split.f, Tz.split]
  rw [if_pos (by omega), if_pos (by decide)]
  have e := Lib.splitB_data ⟨#[59]⟩ 0 (Lib.countB s ⟨#[59]⟩) s
  have e2 : Lib.splitK [59] 0 (Lib.countB s ⟨#[59]⟩) s.data.toList = spl s.data.toList := splitK_spl _
  rw [show (⟨#[59]⟩ : ByteArray).data.toList = [59] from rfl, e2] at e
  rw [← e, List.map_map]
  congr 1
  exact (List.map_id'' (fun x => mkB_of x) _).symm
/-! decimal numbers -/
theorem digitVal_of {d : Nat} (h : d < 10) : Lib.digitVal (UInt8.ofNat (48 + d)) = some d := by
  have hc : d = 0 ∨ d = 1 ∨ d = 2 ∨ d = 3 ∨ d = 4 ∨ d = 5 ∨ d = 6 ∨ d = 7 ∨ d = 8 ∨ d = 9 := by omega
  rcases hc with rfl | rfl | rfl | rfl | rfl | rfl | rfl | rfl | rfl | rfl <;> rfl
theorem digit_of {c : UInt8} {d : Nat} (h : Lib.digitVal c = some d) : c = UInt8.ofNat (48 + d) ∧ d < 10 := by
  obtain ⟨h0, h1, rfl⟩ := Lib.digitVal_eq h
  refine ⟨?_, by omega⟩
  apply UInt8.toNat_inj.1
  rw [UInt8.toNat_ofNat']
  omega
theorem decFrom_snoc (c : UInt8) (d : Nat) (hd : Lib.digitVal c = some d) : ∀ (l : List UInt8) (acc n : Nat), Lib.decFrom acc l = some n → Lib.decFrom acc (l ++ [c]) = some (n * 10 + d)
  | [], acc, n, h => by
    simp only [Lib.decFrom, Option.some.injEq] at h
    subst h
    simp [Lib.decFrom, hd]
  | b :: r, acc, n, h => by
    simp only [Lib.decFrom, List.cons_append] at h ⊢
    cases hb : Lib.digitVal b with
    | none => rw [hb] at h; cases h
    | some e => rw [hb] at h; exact decFrom_snoc c d hd r _ n h
theorem decFrom_digits (n : Nat) : Lib.decFrom 0 (Lib.decDigits n) = some n := by
  induction n using Nat.strongRecOn with
  | _ n ih =>
    rw [Lib.decDigits]
    by_cases h : n < 10
    · rw [dif_pos h]
      simp only [Lib.decFrom, digitVal_of h]
      simp
    · rw [dif_neg h, decFrom_snoc _ _ (digitVal_of (show n % 10 < 10 by omega)) _ _ _ (ih (n / 10) (by omega))]
      congr 1
      omega
theorem digits_grow (acc d : Nat) (h0 : 0 < acc) (hd : d < 10) : Lib.decDigits (acc * 10 + d) = Lib.decDigits acc ++ [UInt8.ofNat (48 + d)] := by
  rw [Lib.decDigits, dif_neg (by omega), show (acc * 10 + d) / 10 = acc by omega, show (acc * 10 + d) % 10 = d by omega]
theorem digits_from : ∀ (l : List UInt8) (acc n : Nat), 0 < acc → Lib.decFrom acc l = some n → Lib.decDigits n = Lib.decDigits acc ++ l
  | [], acc, n, _, h => by
    simp only [Lib.decFrom, Option.some.injEq] at h
    subst h
    simp
  | b :: r, acc, n, h0, h => by
    simp only [Lib.decFrom] at h
    cases hb : Lib.digitVal b with
    | none => rw [hb] at h; cases h
    | some d =>
      rw [hb] at h
      obtain ⟨rfl, hd⟩ := digit_of hb
      rw [digits_from r (acc * 10 + d) n (by omega) h, digits_grow acc d h0 hd]
      simp
/-- A numeral without a leading 0 is its number's digits. -/
theorem digits_back (l : List UInt8) (n : Nat) (hl : l ≠ []) (h0 : l.head? = some 48 → l.length = 1) (h : Lib.decFrom 0 l = some n) : l = Lib.decDigits n := by
  cases l with
  | nil => exact absurd rfl hl
  | cons b r =>
    simp only [Lib.decFrom] at h
    cases hb : Lib.digitVal b with
    | none => rw [hb] at h; cases h
    | some d =>
      rw [hb] at h
      obtain ⟨rfl, hd⟩ := digit_of hb
      dsimp only at h
      rw [show 0 * 10 + d = d by omega] at h
      have e : Lib.decDigits d = [UInt8.ofNat (48 + d)] := Lib.decDigits_one hd
      by_cases hz : d = 0
      · subst hz
        have := h0 rfl
        have hr : r = [] := List.eq_nil_of_length_eq_zero (by simpa using this)
        subst hr
        simp only [Lib.decFrom, Option.some.injEq] at h
        subst h
        exact e.symm
      · rw [digits_from r d n (by omega) h, e]
        rfl
theorem digits_len5 (n : Nat) (h : n ≤ 65535) : 1 ≤ (Lib.decDigits n).length ∧ (Lib.decDigits n).length ≤ 5 := by
  rw [Lib.decDigits_length]
  refine ⟨Lib.nDigits_pos n, ?_⟩
  rcases Nat.lt_or_ge n 10 with h1 | h1
  · rw [Lib.nDigits_small h1]; omega
  · rcases Nat.lt_or_ge n 100 with h2 | h2
    · rw [Lib.nDigits_unique 1 n (by omega) (by omega)]; omega
    · rcases Nat.lt_or_ge n 1000 with h3 | h3
      · rw [Lib.nDigits_unique 2 n (by omega) (by omega)]; omega
      · rcases Nat.lt_or_ge n 10000 with h4 | h4
        · rw [Lib.nDigits_unique 3 n (by omega) (by omega)]; omega
        · rw [Lib.nDigits_unique 4 n (by omega) (by omega)]; omega
/-- The first digit of a number that is not 0 is not 0. -/
theorem digits_head (n : Nat) : (Lib.decDigits n).head? = some 48 → (Lib.decDigits n).length = 1 := by
  induction n using Nat.strongRecOn with
  | _ n ih =>
    rw [Lib.decDigits]
    by_cases h : n < 10
    · rw [dif_pos h]; intro _; rfl
    · rw [dif_neg h]
      intro hh
      have hne : Lib.decDigits (n / 10) ≠ [] := by
        intro e
        have := (Lib.nDigits_pos (n / 10))
        rw [← Lib.decDigits_length, e] at this
        simp at this
      have h2 := decFrom_digits (n / 10)
      have h3 := ih (n / 10) (by omega)
      cases hd : Lib.decDigits (n / 10) with
      | nil => exact absurd hd hne
      | cons b r =>
        rw [hd] at h2 h3 hh
        simp only [List.cons_append, List.head?_cons, Option.some.injEq] at hh
        subst hh
        have h1 := h3 rfl
        have hr : r = [] := List.eq_nil_of_length_eq_zero (by simpa using h1)
        subst hr
        have e : Lib.digitVal 48 = some 0 := rfl
        simp only [Lib.decFrom, e, Option.some.injEq] at h2
        omega
theorem digits_ne59 (n : Nat) : ∀ c, c ∈ Lib.decDigits n → 48 ≤ c.toNat ∧ c.toNat ≤ 57 := by
  induction n using Nat.strongRecOn with
  | _ n ih =>
    rw [Lib.decDigits]
    by_cases h : n < 10
    · rw [dif_pos h]
      intro c hc
      simp only [List.mem_singleton] at hc
      subst hc
      rw [UInt8.toNat_ofNat']
      omega
    · rw [dif_neg h]
      intro c hc
      rcases List.mem_append.1 hc with hc | hc
      · exact ih (n / 10) (by omega) c hc
      · simp only [List.mem_singleton] at hc
        subst hc
        rw [UInt8.toNat_ofNat']
        omega
/-! the reference's reader of a word -/
def wordL (l : List UInt8) : Int := if 1 ≤ l.length ∧ l.length ≤ 5 then (if l.head? = some 48 ∧ 1 < l.length then -1 else match Lib.decFrom 0 l with
  | some n => if (n : Int) > 65535 then -1 else (n : Int)
  | none => -1) else -1
theorem bt_mk (l : List UInt8) (i : Nat) (h : i < l.length) : bt (mkB l) (i : Int) = (l[i].toNat : Int) := by
  have h' : i < (mkB l).size := by rw [mkB_size]; exact h
  rw [← bt_at (mkB l) (i : Int) (by simpa using h')]
  rfl
theorem wordL_loop (l : List UInt8) (hl : l.length ≤ 5) (d : Nat) : ∀ (k i acc : Nat), i ≤ l.length → l.length - i = d → d < k → acc < 10 ^ i →
    spec_l3Word.l0 k (mkB l) (acc : Int) (i : Int) = some (match Lib.decFrom acc (l.drop i) with | some n => if (n : Int) > 65535 then -1 else (n : Int) | none => -1) := by
  induction d with
  | zero =>
    intro k i acc hi hd hk ha
    obtain ⟨k, rfl⟩ : ∃ m, k = m + 1 := ⟨k - 1, by omega⟩
    simp only [spec_l3Word.l0, mkB_size]
    rw [if_neg (by omega), List.drop_of_length_le (by omega)]
    simp only [Lib.decFrom]
    split <;> rfl
  | succ d ih =>
    intro k i acc hi hd hk ha
    obtain ⟨k, rfl⟩ : ∃ m, k = m + 1 := ⟨k - 1, by omega⟩
    have hlt : i < l.length := by omega
    have hp : 10 ^ i ≤ 10 ^ 4 := Nat.pow_le_pow_right (by omega) (by omega)
    simp only [spec_l3Word.l0, mkB_size, bt_mk l i hlt]
    rw [if_pos (by omega), if_pos (by omega), List.drop_eq_getElem_cons hlt]
    simp only [Lib.decFrom, Lib.digitVal]
    have hb := l[i].toNat_lt
    by_cases h1 : l[i].toNat < 48
    · rw [if_pos (by omega), if_neg (by omega)]
    · rw [if_neg (by omega)]
      by_cases h2 : 57 < l[i].toNat
      · rw [if_pos (by omega), if_neg (by omega)]
      · rw [if_neg (by omega), if_pos (by omega)]
        have e1 : wrap64 ((wrap64 (10 * (acc : Int))) + (((l[i].toNat : Int) - 48) % 256)) = ((acc * 10 + (l[i].toNat - 48) : Nat) : Int) := by
          rw [w64 (10 * (acc : Int)) (by omega) (by omega), w64 _ (by omega) (by omega)]
          omega
        rw [e1, w64 ((i : Int) + 1) (by omega) (by omega), show (i : Int) + 1 = ((i + 1 : Nat) : Int) by omega]
        exact ih k (i + 1) _ (by omega) (by omega) (by omega) (by rw [Nat.pow_succ]; omega)
theorem wordS (l : List UInt8) (hl : l.length ≤ 1000) (k : Nat) (hk : 10 < k) : spec_l3Word.f k (mkB l) = some (wordL l) := by
  obtain ⟨k, rfl⟩ : ∃ m, k = m + 1 := ⟨k - 1, by omega⟩
  simp only [spec_l3Word.f, inS, Option.bind_some, wordL, mkB_size]
  by_cases h : 1 ≤ l.length ∧ l.length ≤ 5
  · rw [if_pos (show decide ((1 : Int) ≤ (l.length : Int) ∧ (l.length : Int) ≤ 5) = true from decide_eq_true (by omega)), if_pos (by omega), if_pos h]
    obtain ⟨b, r, rfl⟩ : ∃ b r, l = b :: r := by
      cases l with
      | nil => simp at h
      | cons b r => exact ⟨b, r, rfl⟩
    have hb : bt (mkB (b :: r)) 0 = (b.toNat : Int) := bt_mk (b :: r) 0 (by simp)
    have hlp := wordL_loop (b :: r) h.2 (b :: r).length k 0 0 (by omega) (by omega) (by omega) (by simp)
    rw [List.drop_zero] at hlp
    rw [hb]
    by_cases h48 : b = 48
    · subst h48
      rw [if_pos (by decide)]
      by_cases hr : 1 < (48 :: r).length
      · rw [if_pos ⟨rfl, hr⟩, show decide ((((48 :: r).length : Nat) : Int) > 1) = true from decide_eq_true (by omega)]
        simp only [spec_l3Word.j0, if_true]
      · rw [if_neg (fun hh => hr hh.2), show decide ((((48 :: r).length : Nat) : Int) > 1) = false from decide_eq_false (by omega)]
        simp only [spec_l3Word.j0, Bool.false_eq_true, if_false]
        exact hlp
    · have hn : ¬ ((b.toNat : Int) = 48) := fun e => h48 (UInt8.toNat_inj.1 (by simpa using (by omega : b.toNat = 48)))
      rw [if_neg hn, if_neg (fun hh => h48 (by simpa using hh.1))]
      simp only [spec_l3Word.j0, Bool.false_eq_true, if_false]
      exact hlp
  · rw [if_neg (by simp only [decide_eq_true_eq]; omega), if_neg h]
    simp only [spec_l3Word.j0, if_true]
theorem wordL_digits (n : Nat) (h : n ≤ 65535) : wordL (Lib.decDigits n) = (n : Int) := by
  have hl := digits_len5 n h
  have hh := digits_head n
  unfold wordL
  rw [if_pos hl, if_neg (fun hc => by have := hh hc.1; omega), decFrom_digits]
  simp only
  rw [if_neg (by omega)]
theorem wordL_back (l : List UInt8) (h : 0 ≤ wordL l) : ∃ n : Nat, wordL l = (n : Int) ∧ n ≤ 65535 ∧ l = Lib.decDigits n := by
  unfold wordL at h ⊢
  by_cases h1 : 1 ≤ l.length ∧ l.length ≤ 5
  · rw [if_pos h1] at h ⊢
    by_cases h2 : l.head? = some 48 ∧ 1 < l.length
    · rw [if_pos h2] at h; omega
    · rw [if_neg h2] at h ⊢
      cases hd : Lib.decFrom 0 l with
      | none => rw [hd] at h; simp only at h; omega
      | some n =>
        rw [hd] at h
        simp only at h ⊢
        by_cases h3 : (n : Int) > 65535
        · rw [if_pos h3] at h; omega
        · rw [if_neg h3]
          exact ⟨n, rfl, by omega, digits_back l n (by intro e; subst e; simp at h1) (fun e => by have h5 : ¬ 1 < l.length := fun hh => h2 ⟨e, hh⟩; omega) hd⟩
  · rw [if_neg h1] at h; omega
theorem wordL_no (b : UInt8) (r : List UInt8) (hb : Lib.digitVal b = none) : wordL (b :: r) = -1 := by
  unfold wordL
  split
  · split
    · rfl
    · simp only [Lib.decFrom, hb]
  · rfl

def L (a : Int) : ByteArray := ⟨#[(97 + a.toNat).toUInt8]⟩
theorem L_size (a : Int) : (L a).size = 1 := rfl
theorem letterI (a : Int) (h0 : 0 ≤ a) (h1 : a ≤ 7) : impl_letter.f a = some (L a) := by
  simp only [impl_letter.f, Tz.letter]
  rw [if_pos h0, if_pos h1]
  rfl
def nums_ (n : Int) : ByteArray := ⟨(Lib.itoa n).toArray⟩
theorem nums_size (n : Int) (h0 : 0 ≤ n) (h1 : n ≤ 65535) : (nums_ n).size ≤ 5 ∧ (nums_ n).data.toList = Lib.decDigits n.toNat := by
  obtain ⟨x, rfl⟩ := Int.eq_ofNat_of_zero_le h0
  have e3 : Lib.itoa (x : Int) = Lib.decDigits x := by
    unfold Lib.itoa
    rw [if_neg (by omega), Int.toNat_natCast]
  unfold nums_
  rw [e3]
  have := (digits_len5 x (by omega)).2
  exact ⟨by simpa [ByteArray.size] using this, by simp⟩
theorem numI (n : Int) (h0 : 0 ≤ n) (h1 : n ≤ 65535) : strconv_Itoa_42.f n = some (nums_ n) := by
  simp only [strconv_Itoa_42.f, Tz.itoa]
  rw [if_pos (by omega), if_pos (by omega)]
  rfl
def sg (op : Int) : ByteArray := (⟨#[43, 45, 42, 60, 126]⟩ : ByteArray).extract ((wrap64 (op - 3)) : Int).toNat ((wrap64 ((wrap64 (op - 3)) + 1)) : Int).toNat
theorem sg_size (op : Int) (h0 : 3 ≤ op) (h1 : op ≤ 7) : (sg op).size = 1 := by
  have hc : op = 3 ∨ op = 4 ∨ op = 5 ∨ op = 6 ∨ op = 7 := by omega
  unfold sg
  rw [w64 (op - 3) (by omega) (by omega), w64 (op - 3 + 1) (by omega) (by omega)]
  rcases hc with rfl | rfl | rfl | rfl | rfl <;> rfl
def eqB : ByteArray := ⟨#[61]⟩
def semi : ByteArray := ⟨#[59]⟩
def bang : ByteArray := ⟨#[33]⟩
def txt (x : S41) : ByteArray := if x.f0 = 1 then (L x.f1 ++ eqB) ++ nums_ x.f4 else if x.f0 = 2 then (L x.f1 ++ eqB) ++ L x.f2 else if x.f0 = 8 then bang ++ L x.f2 else (((L x.f1 ++ eqB) ++ L x.f2) ++ sg x.f0) ++ L x.f3
theorem join_snoc (y x s : List UInt8) (r : List (List UInt8)) : Lib.join ((y :: r) ++ [x]) s = Lib.join (y :: r) s ++ (s ++ x) := by
  rw [List.cons_append, Lib.join_cons, Lib.join_cons]
  simp [Lib.joinTail]
def bl (c : List S41) : List (List UInt8) := c.map fun x => (txt x).data.toList
theorem impl_loop (c : List S41) (hc : c.length ≤ 30) (hg : c.all goodB = true) (d : Nat) : ∀ (k i : Nat) (a : List ByteArray), a.length ≤ i → i ≤ c.length → c.length - i = d → d < k →
    impl_codeText.l0 k a c (c.length : Int) i = Tz.join (a ++ (c.drop i).map txt) ⟨#[59]⟩ := by
  induction d with
  | zero =>
    intro k i a ha hi hd hk
    obtain ⟨k, rfl⟩ : ∃ m, k = m + 1 := ⟨k - 1, by omega⟩
    have c1 : ¬((i : Int) < (c.length : Int)) := by omega
    simp only [impl_codeText.l0, if_neg c1, strings_Join.f]
    rw [List.drop_of_length_le (by omega)]
    simp
  | succ d ih =>
    intro k i a ha hi hd hk
    obtain ⟨k, rfl⟩ : ∃ m, k = m + 1 := ⟨k - 1, by omega⟩
    have hlt : i < c.length := by omega
    have c1 : (i : Int) < (c.length : Int) := by omega
    have c2 : (0 : Int) ≤ i := by omega
    have c3 : a.length < 8796093022208 := by omega
    obtain ⟨⟨d0, d1⟩, ⟨a0, a1⟩, ⟨b0, b1⟩, ⟨n0, n1⟩, ho⟩ := of_decide_eq_true (List.all_eq_true.1 hg _ (List.getElem_mem hlt))
    have q2 := (nums_size c[i].f4 n0 n1).1
    have e1 : eqB.size = 1 := rfl
    simp only [impl_codeText.l0, if_pos c1, if_pos c2, if_pos c3, rd_at41 c i hlt, letterI _ d0 d1, letterI _ a0 a1, letterI _ b0 b1, numI _ n0 n1, Option.bind_some, w64 ((i : Int) + 1) (by omega) (by omega), show (⟨#[61]⟩ : ByteArray) = eqB from rfl, show (⟨#[33]⟩ : ByteArray) = bang from rfl]
    have z1 := L_size c[i].f1
    have z2 := L_size c[i].f2
    have z3 := L_size c[i].f3
    have ih' := fun t ht => ih k (i + 1) (a ++ [t]) ht (by omega) (by omega) (by omega)
    rw [List.drop_eq_getElem_cons hlt, List.map_cons, show (i : Int) + 1 = ((i + 1 : Nat) : Int) by omega]
    have fin : ∀ t, t = txt c[i] → impl_codeText.l0 k (a ++ [t]) c (c.length : Int) ((i + 1 : Nat) : Int) = Tz.join (a ++ txt c[i] :: (c.drop (i + 1)).map txt) ⟨#[59]⟩ := by
      intro t ht
      rw [ih' t (by simp; omega), ht]
      simp
    rw [if_pos (by omega)]
    by_cases h1 : c[i].f0 = 1
    · rw [if_pos h1, if_pos (by omega)]
      exact fin _ (by unfold txt; rw [if_pos h1])
    · rw [if_neg h1]
      by_cases h2 : c[i].f0 = 2
      · rw [if_pos h2, if_pos (by omega)]
        exact fin _ (by unfold txt; rw [if_neg h1, if_pos h2])
      · rw [if_neg h2]
        by_cases h8 : c[i].f0 = 8
        · rw [if_pos h8, if_pos (by omega)]
          exact fin _ (by unfold txt; rw [if_neg h1, if_neg h2, if_pos h8])
        · have h3 : 3 ≤ c[i].f0 ∧ c[i].f0 ≤ 7 := by omega
          have s := sg_size c[i].f0 h3.1 h3.2
          rw [if_neg h8]
          have p1 : 0 ≤ wrap64 (c[i].f0 - 3) := by rw [w64 _ (by omega) (by omega)]; omega
          have p2 : wrap64 (c[i].f0 - 3) ≤ wrap64 (wrap64 (c[i].f0 - 3) + 1) := by rw [w64 (c[i].f0 - 3) (by omega) (by omega), w64 _ (by omega) (by omega)]; omega
          have p3 : wrap64 (wrap64 (c[i].f0 - 3) + 1) ≤ 5 := by rw [w64 (c[i].f0 - 3) (by omega) (by omega), w64 _ (by omega) (by omega)]; omega
          rw [if_pos p1, if_pos p2, if_pos p3]
          have hsg : (⟨#[43, 45, 42, 60, 126]⟩ : ByteArray).extract ((wrap64 (c[i].f0 - 3)) : Int).toNat ((wrap64 ((wrap64 (c[i].f0 - 3)) + 1)) : Int).toNat = sg c[i].f0 := rfl
          have p4 : (wrap64 (wrap64 (c[i].f0 - 3) + 1) : Int).toNat - (wrap64 (c[i].f0 - 3) : Int).toNat = 1 := by rw [w64 (c[i].f0 - 3) (by omega) (by omega), w64 _ (by omega) (by omega)]; omega
          rw [if_pos (by omega), if_pos (by omega), if_pos (by omega), hsg]
          exact fin _ (by unfold txt; rw [if_neg h1, if_neg h2, if_neg h8]; simp only [ByteArray.append_assoc])

theorem letterS (a : Int) (h0 : 0 ≤ a) (h1 : a ≤ 7) : spec_l3Letter.f a = some (L a) := by
  have hc : a = 0 ∨ a = 1 ∨ a = 2 ∨ a = 3 ∨ a = 4 ∨ a = 5 ∨ a = 6 ∨ a = 7 := by omega
  unfold spec_l3Letter.f
  rw [w64 (97 + a) (by omega) (by omega)]
  rcases hc with rfl | rfl | rfl | rfl | rfl | rfl | rfl | rfl <;> rfl
theorem digits_len : ∀ n : Nat, (Lib.decDigits n).length ≤ n + 1 := by
  intro n
  induction n using Nat.strongRecOn with
  | _ n ih =>
    rw [Lib.decDigits]
    by_cases h : n < 10
    · rw [dif_pos h]; simp
    · rw [dif_neg h]
      have := ih (n / 10) (by omega)
      simp
      omega
theorem digit (n : Nat) (h : n < 10) : strOfNums [(wrap64 (48 + (n : Int))) % 256] = ⟨[UInt8.ofNat (48 + n)].toArray⟩ := by
  have hc : n = 0 ∨ n = 1 ∨ n = 2 ∨ n = 3 ∨ n = 4 ∨ n = 5 ∨ n = 6 ∨ n = 7 ∨ n = 8 ∨ n = 9 := by omega
  rw [w64 (48 + (n : Int)) (by omega) (by omega)]
  rcases hc with rfl | rfl | rfl | rfl | rfl | rfl | rfl | rfl | rfl | rfl <;> rfl
theorem num_loop (d : Nat) : ∀ (k n : Nat), n < 10 ^ (d + 1) → n ≤ 1000000 → d < k → spec_l1Num.f k (n : Int) = some ⟨(Lib.decDigits n).toArray⟩ ∧ (Lib.decDigits n).length ≤ d + 1 := by
  induction d with
  | zero =>
    intro k n h _ hk
    obtain ⟨k, rfl⟩ : ∃ m, k = m + 1 := ⟨k - 1, by omega⟩
    have h10 : n < 10 := by simpa using h
    rw [Lib.decDigits, dif_pos h10]
    refine ⟨?_, by simp⟩
    simp only [spec_l1Num.f]
    rw [if_neg (by omega), if_pos (by omega), digit n h10]
  | succ d ih =>
    intro k n h hb hk
    obtain ⟨k, rfl⟩ : ∃ m, k = m + 1 := ⟨k - 1, by omega⟩
    by_cases h10 : n < 10
    · rw [Lib.decDigits, dif_pos h10]
      refine ⟨?_, by simp⟩
      simp only [spec_l1Num.f]
      rw [if_neg (by omega), if_pos (by omega), digit n h10]
    · obtain ⟨e1, e2⟩ := ih k (n / 10) (by rw [Nat.pow_succ] at h; omega) (by omega) (by omega)
      rw [Lib.decDigits, dif_neg h10]
      refine ⟨?_, by simp; omega⟩
      have t1 : Int.tdiv (n : Int) 10 = ((n / 10 : Nat) : Int) := by rw [Int.tdiv_eq_ediv_of_nonneg (by omega)]; omega
      have t2 : Int.tmod (n : Int) 10 = ((n % 10 : Nat) : Int) := by rw [Int.tmod_eq_emod_of_nonneg (by omega)]; omega
      simp only [spec_l1Num.f, t1, t2]
      rw [if_neg (by omega), if_neg (by omega), w64 ((n / 10 : Nat) : Int) (by omega) (by omega), e1]
      simp only [Option.bind_some]
      rw [digit (n % 10) (by omega)]
      have s1 : (⟨(Lib.decDigits (n / 10)).toArray⟩ : ByteArray).size = (Lib.decDigits (n / 10)).length := by simp [ByteArray.size]
      have s2 : (⟨[UInt8.ofNat (48 + n % 10)].toArray⟩ : ByteArray).size = 1 := rfl
      have hd : d ≤ 1000 ∨ 1000 < d := by omega
      have hsz : (Lib.decDigits (n / 10)).length + 1 ≤ 9223372036854775807 := by
        have := digits_len (n / 10)
        omega
      rw [s1, s2, if_pos hsz]
      exact congrArg some (ByteArray.ext (by simp [ByteArray.data_append]))
theorem numS (n : Int) (h0 : 0 ≤ n) (h1 : n ≤ 65535) (k : Nat) (hk : 10 < k) : spec_l1Num.f k n = some (nums_ n) ∧ (nums_ n).size ≤ 5 := by
  obtain ⟨x, rfl⟩ := Int.eq_ofNat_of_zero_le h0
  obtain ⟨e1, e2⟩ := num_loop 4 k x (by omega) (by omega) (by omega)
  have e3 : Lib.itoa (x : Int) = Lib.decDigits x := by
    unfold Lib.itoa
    rw [if_neg (by omega), Int.toNat_natCast]
  unfold nums_
  rw [e3]
  exact ⟨e1, by simpa [ByteArray.size] using e2⟩
theorem text_spec (x : S41) (hg : goodB x = true) (k : Nat) (hk : 10 < k) : spec_l3Text.f k x.f0 x.f1 x.f2 x.f3 x.f4 = some (txt x) ∧ (txt x).size ≤ 10 := by
  obtain ⟨⟨d0, d1⟩, ⟨a0, a1⟩, ⟨b0, b1⟩, ⟨n0, n1⟩, ho⟩ := of_decide_eq_true hg
  obtain ⟨q1, q2⟩ := numS x.f4 n0 n1 k hk
  have e1 : eqB.size = 1 := rfl
  have e2 : bang.size = 1 := rfl
  simp only [spec_l3Text.f, letterS _ d0 d1, letterS _ a0 a1, letterS _ b0 b1, q1, Option.bind_some, txt, show (⟨#[61]⟩ : ByteArray) = eqB from rfl, show (⟨#[33]⟩ : ByteArray) = bang from rfl]
  have z1 := L_size x.f1
  have z2 := L_size x.f2
  have z3 := L_size x.f3
  by_cases h1 : x.f0 = 1
  · simp only [if_pos h1]
    rw [if_pos (by omega), if_pos (by omega)]
    exact ⟨rfl, by simp only [ByteArray.size_append, L_size, e1]; omega⟩
  · simp only [if_neg h1]
    by_cases h2 : x.f0 = 2
    · simp only [if_pos h2]
      rw [if_pos (by omega), if_pos (by omega)]
      exact ⟨rfl, by simp only [ByteArray.size_append, L_size, e1]; omega⟩
    · simp only [if_neg h2]
      by_cases h8 : x.f0 = 8
      · simp only [if_pos h8]
        rw [if_pos (by omega)]
        exact ⟨rfl, by simp only [ByteArray.size_append, L_size, e2]; omega⟩
      · have h3 : 3 ≤ x.f0 ∧ x.f0 ≤ 7 := by omega
        have s := sg_size x.f0 h3.1 h3.2
        have hs : spec_l3Sign.f x.f0 = some (sg x.f0) := by
          simp only [spec_l3Sign.f]
          rw [w64 (x.f0 - 3) (by omega) (by omega), w64 (x.f0 - 3 + 1) (by omega) (by omega), if_pos (by omega), if_pos (by omega), if_pos (by omega)]
          unfold sg
          rw [w64 (x.f0 - 3) (by omega) (by omega), w64 (x.f0 - 3 + 1) (by omega) (by omega)]
        simp only [if_neg h8, hs, Option.bind_some]
        rw [if_pos (by omega), if_pos (by omega), if_pos (by omega), if_pos (by omega)]
        exact ⟨rfl, by simp only [ByteArray.size_append, L_size, e1, s]; omega⟩
theorem spec_loop (c : List S41) (hc : c.length ≤ 30) (hg : c.all goodB = true) (d : Nat) : ∀ (k i : Nat) (s : ByteArray), s.data.toList = Lib.join (bl (c.take i)) [59] → s.size ≤ 11 * i → i ≤ c.length → c.length - i = d → d + 20 < k →
    ∃ r, spec_CodeText.l0 k s c (c.length : Int) i = some (r, true) ∧ r.data.toList = Lib.join (bl c) [59] ∧ r.size ≤ 330 := by
  induction d with
  | zero =>
    intro k i s hs hz hi hd hk
    obtain ⟨k, rfl⟩ : ∃ m, k = m + 1 := ⟨k - 1, by omega⟩
    have c1 : ¬((i : Int) < (c.length : Int)) := by omega
    simp only [spec_CodeText.l0, if_neg c1]
    rw [List.take_of_length_le (by omega)] at hs
    exact ⟨s, rfl, hs, by omega⟩
  | succ d ih =>
    intro k i s hs hz hi hd hk
    obtain ⟨k, rfl⟩ : ∃ m, k = m + 1 := ⟨k - 1, by omega⟩
    have hlt : i < c.length := by omega
    have c1 : (i : Int) < (c.length : Int) := by omega
    have c2 : (0 : Int) ≤ i := by omega
    obtain ⟨t1, t2⟩ := text_spec c[i] (List.all_eq_true.1 hg _ (List.getElem_mem hlt)) k (by omega)
    have e1 : semi.size = 1 := rfl
    simp only [spec_CodeText.l0, if_pos c1, if_pos c2, rd_at41 c i hlt, t1, Option.bind_some, w64 ((i : Int) + 1) (by omega) (by omega), show (⟨#[59]⟩ : ByteArray) = semi from rfl]
    have ht : bl (c.take (i + 1)) = bl (c.take i) ++ [(txt c[i]).data.toList] := by
      unfold bl
      rw [List.take_succ_eq_append_getElem hlt, List.map_append]
      rfl
    rw [show (i : Int) + 1 = ((i + 1 : Nat) : Int) by omega]
    by_cases h0 : i = 0
    · subst h0
      rw [if_neg (by omega), if_pos (by omega)]
      refine ih k 1 _ ?_ (by rw [ByteArray.size_append]; omega) (by omega) (by omega) (by omega)
      rw [ht]
      simp only [List.take_zero, bl, List.map_nil, List.nil_append] at hs ⊢
      rw [ByteArray.data_append, Array.toList_append, hs]
      simp [Lib.join_nil, Lib.join_one]
    · rw [if_pos (by omega), if_pos (by omega), if_pos (by omega)]
      refine ih k (i + 1) _ ?_ (by simp only [ByteArray.size_append, e1]; omega) (by omega) (by omega) (by omega)
      obtain ⟨y, r, hy⟩ : ∃ y r, bl (c.take i) = y :: r := by
        cases hb : bl (c.take i) with
        | nil =>
          have hl_ : (bl (c.take i)).length = i := by
            simp only [bl, List.length_map, List.length_take]
            omega
          rw [hb] at hl_
          simp only [List.length_nil] at hl_
          omega
        | cons y r => exact ⟨y, r, rfl⟩
      rw [ht, hy, join_snoc, ← hy, ← hs]
      simp only [ByteArray.data_append, Array.toList_append, List.append_assoc]
      rfl

theorem wf8 {x : Int} (h : (Lit.int .u8 x).wf = true) : 0 ≤ x ∧ x ≤ 255 := by
  have h' : IntKind.u8.min ≤ x ∧ x ≤ IntKind.u8.max := by simpa [Lit.wf] using h
  exact h'
theorem and255 (x : Int) : 0 ≤ wrap64 (Go.bits .and .u64 x 255) ∧ wrap64 (Go.bits .and .u64 x 255) ≤ 255 := by
  have e : Go.bits .and .u64 x 255 = IntKind.u64.wrap ((BitVec.ofInt 64 x &&& BitVec.ofInt 64 255).toNat : Int) := rfl
  have h : (BitVec.ofInt 64 x &&& BitVec.ofInt 64 255).toNat ≤ 255 := by
    rw [BitVec.toNat_and]
    exact Nat.and_le_right
  rw [e]
  generalize (BitVec.ofInt 64 x &&& BitVec.ofInt 64 255).toNat = q at h
  have e2 : IntKind.u64.wrap (q : Int) = q := by
    simp [IntKind.wrap, IntKind.bits, IntKind.signed]; omega
  rw [e2, w64 _ (by omega) (by omega)]
  omega
/-- The place of the reader: how far it has read at most. -/
def Cur (p : Int) (n : Nat) : Prop := 0 ≤ p ∧ p ≤ n ∧ n ≤ 4000000000000000000
theorem next_some (l : List Int) (hl : ∀ x ∈ l, (Lit.int .u8 x).wf = true) (p s : Int) (n : Nat) (h : Cur p n) (hn : n ≤ 3000000000000000000) : ∃ v p' s', spec_l1Cur_next.f l p s = some (v, p', s') ∧ 0 ≤ v ∧ v ≤ 255 ∧ Cur p' (n + 1) := by
  obtain ⟨h0, h1, h2⟩ := h
  have hp : wrap64 (p + 1) = p + 1 := w64 _ (by omega) (by omega)
  have hc : Cur (p + 1) (n + 1) := ⟨by omega, by omega, by omega⟩
  unfold spec_l1Cur_next.f
  simp only [hp]
  by_cases hlt : p < (l.length : Int)
  · have hm : rd l p ∈ l := by
      have : p.toNat < l.length := by omega
      simp only [rd, List.getD_eq_getElem?_getD, List.getElem?_eq_getElem this, Option.getD_some]
      exact List.getElem_mem this
    have hb := wf8 (hl _ hm)
    rw [if_pos hlt, if_pos h0]
    split
    · exact ⟨_, _, _, rfl, by rw [w64 _ (by omega) (by omega)]; exact hb.1, by rw [w64 _ (by omega) (by omega)]; exact hb.2, hc⟩
    · refine ⟨_, _, _, rfl, ?_, ?_, hc⟩
      · exact (and255 _).1
      · exact (and255 _).2
  · rw [if_neg hlt]
    split
    · exact ⟨_, _, _, rfl, by omega, by omega, hc⟩
    · refine ⟨_, _, _, rfl, ?_, ?_, hc⟩
      · exact (and255 _).1
      · exact (and255 _).2
theorem pick_some (l : List Int) (hl : ∀ x ∈ l, (Lit.int .u8 x).wf = true) (p s m : Int) (n : Nat) (h : Cur p n) (hn : n ≤ 2900000000000000000) : ∃ v p' s', spec_l1Cur_pick.f l p s m = some (v, p', s') ∧ 0 ≤ v ∧ (v < m ∨ v = 0) ∧ Cur p' (n + 2) := by
  unfold spec_l1Cur_pick.f
  by_cases hm : m ≤ 1
  · rw [if_pos hm]
    exact ⟨0, p, s, rfl, by omega, .inr rfl, h.1, by have := h.2.1; omega, by omega⟩
  · rw [if_neg hm]
    obtain ⟨v, p1, s1, e1, v0, v1, c1⟩ := next_some l hl p s n h (by omega)
    rw [e1]
    simp only [Option.bind_some]
    by_cases h2 : m > 200
    · obtain ⟨u, p2, s2, e2, u0, u1, c2⟩ := next_some l hl p1 s1 (n + 1) c1 (by omega)
      rw [if_pos h2, e2]
      simp only [Option.bind_some]
      rw [if_neg (by omega), w64 (v * 256) (by omega) (by omega), w64 (v * 256 + u) (by omega) (by omega), Int.tmod_eq_emod_of_nonneg (by omega)]
      exact ⟨_, _, _, rfl, Int.emod_nonneg _ (by omega), .inl (Int.emod_lt_of_pos _ (by omega)), c2⟩
    · rw [if_neg h2, if_neg (by omega), Int.tmod_eq_emod_of_nonneg v0]
      exact ⟨_, _, _, rfl, Int.emod_nonneg _ (by omega), .inl (Int.emod_lt_of_pos _ (by omega)), c1.1, by have := c1.2.1; omega, by omega⟩

theorem one_some (l : List Int) (hl : ∀ x ∈ l, (Lit.int .u8 x).wf = true) (p s m : Int) (n : Nat) (h : Cur p n) (hn : n ≤ 2900000000000000000) : ∃ v p' s', spec_l1Cur_one.f l p s m = some (v, p', s') ∧ Cur p' (n + 2) := by
  obtain ⟨v, p', s', e, _, _, c⟩ := pick_some l hl p s m n h hn
  exact ⟨v == 0, p', s', by simp [spec_l1Cur_one.f, e], c⟩

theorem among_some (l : List Int) (hl : ∀ x ∈ l, (Lit.int .u8 x).wf = true) (p s : Int) (q : List Int) (hq : 0 < q.length) (n : Nat) (h : Cur p n) (hn : n ≤ 2900000000000000000) : ∃ v p' s', spec_l1Cur_among.f l p s q = some (v, p', s') ∧ v ∈ q ∧ Cur p' (n + 2) := by
  obtain ⟨v, p', s', e, v0, v1, c⟩ := pick_some l hl p s (q.length : Int) n h hn
  have hlt : v < (q.length : Int) := by rcases v1 with h | h <;> omega
  refine ⟨rd q v, p', s', by simp [spec_l1Cur_among.f, e, v0, hlt], ?_, c⟩
  have : v.toNat < q.length := by omega
  simp only [rd, List.getD_eq_getElem?_getD, List.getElem?_eq_getElem this, Option.getD_some]
  exact List.getElem_mem this
theorem instr_j1 (l : List Int) (hl : ∀ x ∈ l, (Lit.int .u8 x).wf = true) (k : Nat) (p s a b c d e : Int) (n : Nat) (h : Cur p n) (hn : n ≤ 2800000000000000000) (hk : 0 < k) : ∃ r0 r1 r2 r3 r4 p' s', spec_l1Cur_instr.j1 k l p s a b c d e = some (r0, r1, r2, r3, r4, p', s') ∧ Cur p' (n + 10) := by
  obtain ⟨k, rfl⟩ : ∃ m, k = m + 1 := ⟨k - 1, by omega⟩
  obtain ⟨t, p1, s1, e1, c1⟩ := one_some l hl p s 60 n h (by omega)
  simp only [spec_l1Cur_instr.j1, e1, Option.bind_some]
  cases t with
  | false => exact ⟨a, b, c, d, e, p1, s1, by simp, c1.1, by have := c1.2.1; omega, by omega⟩
  | true =>
    obtain ⟨v2, p2, s2, e2, _, _, c2⟩ := pick_some l hl p1 s1 10 _ c1 (by omega)
    obtain ⟨v3, p3, s3, e3, _, _, c3⟩ := pick_some l hl p2 s2 10 _ c2 (by omega)
    obtain ⟨v4, p4, s4, e4, _, _, c4⟩ := pick_some l hl p3 s3 3 _ c3 (by omega)
    obtain ⟨v5, p5, s5, e5, _, c5⟩ := among_some l hl p4 s4 [0, 1, 65536] (by decide) _ c4 (by omega)
    simp only [if_true, e2, e3, e4, e5, Option.bind_some]
    exact ⟨_, _, _, _, _, _, _, rfl, c5.1, by have := c5.2.1; omega, by omega⟩
theorem twoS (a : Int) : ∃ b, spec_l3Two.f a = some b := by
  simp only [spec_l3Two.f, inS, Option.bind_some]
  exact ⟨_, rfl⟩
theorem instr_j0 (l : List Int) (hl : ∀ x ∈ l, (Lit.int .u8 x).wf = true) (k : Nat) (p s a b c d e : Int) (n : Nat) (h : Cur p n) (hn : n ≤ 2700000000000000000) (hk : 1 < k) : ∃ r0 r1 r2 r3 r4 p' s', spec_l1Cur_instr.j0 k l p s a b c d e = some (r0, r1, r2, r3, r4, p', s') ∧ Cur p' (n + 14) := by
  obtain ⟨k, rfl⟩ : ∃ m, k = m + 1 := ⟨k - 1, by omega⟩
  have up : ∀ {q : Int} {m m' : Nat}, Cur q m → m ≤ m' → m' ≤ 4000000000000000000 → Cur q m' := fun hq h1 h2 => ⟨hq.1, by have := hq.2.1; omega, h2⟩
  simp only [spec_l1Cur_instr.j0]
  by_cases h1 : a = 1
  · obtain ⟨v, p1, s1, e1, _, c1⟩ := among_some l hl p s [0, 1, 2, 3, 5, 65535] (by decide) n h (by omega)
    obtain ⟨r0, r1, r2, r3, r4, p', s', e2, c2⟩ := instr_j1 l hl k p1 s1 a b c d v _ c1 (by omega) (by omega)
    rw [if_pos h1, e1]
    simp only [Option.bind_some]
    exact ⟨r0, r1, r2, r3, r4, p', s', e2, up c2 (by omega) (by omega)⟩
  · rw [if_neg h1]
    obtain ⟨t, et⟩ := twoS a
    rw [et]
    simp only [Option.bind_some]
    cases t with
    | true =>
      obtain ⟨v1, p1, s1, e1, _, _, c1⟩ := pick_some l hl p s 4 n h (by omega)
      obtain ⟨v2, p2, s2, e2, _, _, c2⟩ := pick_some l hl p1 s1 4 _ c1 (by omega)
      obtain ⟨r0, r1, r2, r3, r4, p', s', e3, c3⟩ := instr_j1 l hl k p2 s2 a b v1 v2 e _ c2 (by omega) (by omega)
      simp only [if_true, e1, e2, Option.bind_some]
      exact ⟨r0, r1, r2, r3, r4, p', s', e3, up c3 (by omega) (by omega)⟩
    | false =>
      obtain ⟨v1, p1, s1, e1, _, _, c1⟩ := pick_some l hl p s 4 n h (by omega)
      obtain ⟨r0, r1, r2, r3, r4, p', s', e3, c3⟩ := instr_j1 l hl k p1 s1 a b v1 d e _ c1 (by omega) (by omega)
      simp only [Bool.false_eq_true, if_false, e1, Option.bind_some]
      exact ⟨r0, r1, r2, r3, r4, p', s', e3, up c3 (by omega) (by omega)⟩
theorem instr_some (l : List Int) (hl : ∀ x ∈ l, (Lit.int .u8 x).wf = true) (k : Nat) (p s : Int) (n : Nat) (h : Cur p n) (hn : n ≤ 2600000000000000000) (hk : 2 < k) : ∃ r0 r1 r2 r3 r4 p' s', spec_l1Cur_instr.f k l p s = some (r0, r1, r2, r3, r4, p', s') ∧ Cur p' (n + 20) := by
  have up : ∀ {q : Int} {m m' : Nat}, Cur q m → m ≤ m' → m' ≤ 4000000000000000000 → Cur q m' := fun hq h1 h2 => ⟨hq.1, by have := hq.2.1; omega, h2⟩
  obtain ⟨v, p1, s1, e1, _, c1⟩ := among_some l hl p s [1, 2, 3, 3, 4, 5, 6, 7, 8] (by decide) n h (by omega)
  simp only [spec_l1Cur_instr.f, e1, Option.bind_some]
  by_cases h8 : v = 8
  · rw [if_pos h8]
    obtain ⟨r0, r1, r2, r3, r4, p', s', e3, c3⟩ := instr_j0 l hl k p1 s1 v 0 0 0 0 _ c1 (by omega) (by omega)
    exact ⟨r0, r1, r2, r3, r4, p', s', e3, up c3 (by omega) (by omega)⟩
  · obtain ⟨v2, p2, s2, e2, _, _, c2⟩ := pick_some l hl p1 s1 4 _ c1 (by omega)
    obtain ⟨r0, r1, r2, r3, r4, p', s', e3, c3⟩ := instr_j0 l hl k p2 s2 v v2 0 0 0 _ c2 (by omega) (by omega)
    rw [if_neg h8, e2]
    simp only [Option.bind_some]
    exact ⟨r0, r1, r2, r3, r4, p', s', e3, up c3 (by omega) (by omega)⟩
theorem code3_loop (l : List Int) (hl : ∀ x ∈ l, (Lit.int .u8 x).wf = true) (d : Nat) : ∀ (k : Nat) (c : List S41) (x4 p s : Int) (n : Nat), x4 ≤ d → -1 ≤ x4 → c.length + d ≤ 1000 → Cur p n → n + 20 * d ≤ 1000000 → d + 10 < k →
    ∃ c' p' s', spec_l1Cur_code3.l0 k c x4 l p s = some (c', p', s') ∧ c'.length ≤ c.length + d ∧ Cur p' (n + 20 * d) := by
  induction d with
  | zero =>
    intro k c x4 p s n h4 h5 hc h hn hk
    obtain ⟨k, rfl⟩ : ∃ m, k = m + 1 := ⟨k - 1, by omega⟩
    simp only [spec_l1Cur_code3.l0]
    rw [if_neg (by omega)]
    exact ⟨_, _, _, rfl, by omega, h⟩
  | succ d ih =>
    intro k c x4 p s n h4 h5 hc h hn hk
    obtain ⟨k, rfl⟩ : ∃ m, k = m + 1 := ⟨k - 1, by omega⟩
    simp only [spec_l1Cur_code3.l0]
    by_cases h0 : x4 > 0
    · obtain ⟨r0, r1, r2, r3, r4, p', s', e, c1⟩ := instr_some l hl k p s n h (by omega) (by omega)
      rw [if_pos h0, e]
      simp only [Option.bind_some]
      rw [if_pos (by omega), w64 _ (by omega) (by omega)]
      obtain ⟨c', p2, s2, e2, l2, c2⟩ := ih k (c ++ [⟨r0, r1, r2, r3, r4⟩]) (x4 - 1) p' s' (n + 20) (by omega) (by omega) (by rw [List.length_append, List.length_singleton]; omega) c1 (by omega) (by omega)
      rw [List.length_append, List.length_singleton] at l2
      exact ⟨c', p2, s2, e2, by omega, c2.1, by have := c2.2.1; omega, by omega⟩
    · rw [if_neg h0]
      exact ⟨_, _, _, rfl, by omega, h.1, by have := h.2.1; omega, by omega⟩
theorem code3_some (l : List Int) (hl : ∀ x ∈ l, (Lit.int .u8 x).wf = true) (k : Nat) (hk : 100 < k) : ∃ c p s, spec_l1Cur_code3.f k l 0 0 = some (c, p, s) ∧ c.length ≤ 40 ∧ Cur p 2000 := by
  obtain ⟨k, rfl⟩ : ∃ m, k = m + 1 := ⟨k - 1, by omega⟩
  obtain ⟨v1, p1, s1, e1, a1, b1, c1⟩ := pick_some l hl 0 0 10 0 ⟨by omega, by omega, by omega⟩ (by omega)
  obtain ⟨t, p2, s2, e2, c2⟩ := one_some l hl p1 s1 20 _ c1 (by omega)
  simp only [spec_l1Cur_code3.f, e1, e2, Option.bind_some]
  cases t with
  | true =>
    obtain ⟨v3, p3, s3, e3, a3, b3, c3⟩ := pick_some l hl p2 s2 2 _ c2 (by omega)
    simp only [if_true, e3, Option.bind_some, spec_l1Cur_code3.j0]
    rw [w64 _ (by omega) (by omega)]
    obtain ⟨c', p', s', e4, l4, c4⟩ := code3_loop l hl 31 k [] (30 + v3) p3 s3 _ (by omega) (by omega) (by simp) c3 (by omega) (by omega)
    simp only [List.length_nil] at l4
    exact ⟨c', p', s', e4, by omega, c4.1, by have := c4.2.1; omega, by omega⟩
  | false =>
    simp only [Bool.false_eq_true, if_false, spec_l1Cur_code3.j0]
    obtain ⟨c', p', s', e4, l4, c4⟩ := code3_loop l hl 31 k [] v1 p2 s2 _ (by omega) (by omega) (by simp) c2 (by omega) (by omega)
    simp only [List.length_nil] at l4
    exact ⟨c', p', s', e4, by omega, c4.1, by have := c4.2.1; omega, by omega⟩
/-! the reference's cut -/
theorem ext_mk (l : List UInt8) (a b : Nat) : (mkB l).extract a b = mkB ((l.drop a).take (b - a)) := by
  apply ByteArray.ext
  apply Array.toList_inj.1
  rw [Lib.extract_data, mkB_data, mkB_data]
  first | done | simp | (rw [List.drop_take]; done)
theorem specSplit_loop (l : List UInt8) (hl : l.length ≤ 400) (d : Nat) : ∀ (k f i : Nat) (acc : List ByteArray), f ≤ i → i ≤ l.length → l.length - i = d → d < k → acc.length ≤ i →
    ∃ q qs, spl (l.drop i) = q :: qs ∧ spec_l3Split.l0 k (mkB l) 59 acc (f : Int) (i : Int) = some (acc ++ mkB ((l.drop f).take (i - f) ++ q) :: qs.map mkB) := by
  induction d with
  | zero =>
    intro k f i acc hf hi hd hk ha
    obtain ⟨k, rfl⟩ : ∃ m, k = m + 1 := ⟨k - 1, by omega⟩
    refine ⟨[], [], by rw [List.drop_of_length_le (by omega)]; rfl, ?_⟩
    simp only [spec_l3Split.l0, mkB_size]
    rw [if_neg (by omega), if_pos (by omega), if_pos (by omega), if_pos (by omega), Int.toNat_natCast, ext_mk]
    rw [show l.length - f = i - f by omega]
    simp
  | succ d ih =>
    intro k f i acc hf hi hd hk ha
    obtain ⟨k, rfl⟩ : ∃ m, k = m + 1 := ⟨k - 1, by omega⟩
    have hlt : i < l.length := by omega
    simp only [spec_l3Split.l0, mkB_size, bt_mk l i hlt]
    rw [if_pos (by omega), if_pos (by omega), w64 ((i : Int) + 1) (by omega) (by omega), show (i : Int) + 1 = ((i + 1 : Nat) : Int) by omega, Int.toNat_natCast, Int.toNat_natCast, ext_mk]
    by_cases hc : l[i] = 59
    · rw [if_pos (by rw [hc]; rfl), if_pos (by omega), if_pos (by omega), if_pos (by omega), if_pos (by omega)]
      obtain ⟨q, qs, e1, e2⟩ := ih k (i + 1) (i + 1) (acc ++ [mkB ((l.drop f).take (i - f))]) (by omega) (by omega) (by omega) (by omega) (by simp; omega)
      refine ⟨[], q :: qs, by rw [List.drop_eq_getElem_cons hlt, hc, spl_semi, e1], ?_⟩
      rw [e2]
      simp
    · have hn : ¬ ((l[i].toNat : Int) = 59) := fun e => hc (UInt8.toNat_inj.1 (by simpa using (by omega : l[i].toNat = 59)))
      rw [if_neg hn]
      obtain ⟨q, qs, e1, e2⟩ := ih k f (i + 1) acc (by omega) (by omega) (by omega) (by omega) (by omega)
      refine ⟨l[i] :: q, qs, by rw [List.drop_eq_getElem_cons hlt]; exact spl_cons hc e1, ?_⟩
      rw [e2]
      have e3 : (l.drop f).take (i + 1 - f) = (l.drop f).take (i - f) ++ [l[i]] := by
        rw [show i + 1 - f = (i - f) + 1 by omega, List.take_succ_eq_append_getElem (by rw [List.length_drop]; omega), List.getElem_drop]
        congr 3
        omega
      rw [e3]
      simp
theorem split_spec (l : List UInt8) (hl : l.length ≤ 400) (k : Nat) (hk : 401 < k) : spec_l3Split.f k (mkB l) 59 = some ((spl l).map mkB) := by
  obtain ⟨q, qs, e1, e2⟩ := specSplit_loop l hl l.length k 0 0 [] (by omega) (by omega) (by omega) (by omega) (by simp)
  rw [List.drop_zero] at e1
  unfold spec_l3Split.f
  rw [show (0 : Int) = ((0 : Nat) : Int) from rfl, e2, e1]
  simp
/-! the reference's reader of a step -/
def no5 : S41 × Bool := (⟨0, 0, 0, 0, 0⟩, false)
def lt_ (c : UInt8) : Int := (c.toNat : Int) - 97
def opOf (d : UInt8) : Int := if d = 43 then 3 else if d = 45 then 4 else if d = 42 then 5 else if d = 60 then 6 else if d = 126 then 7 else 2
def stepL : List UInt8 → S41 × Bool
  | [a, b] => if a = 33 then (⟨8, 0, lt_ b, 0, 0⟩, true) else no5
  | a :: b :: c :: r => if b = 61 then (if 0 ≤ wordL (c :: r) then (⟨1, lt_ a, 0, 0, wordL (c :: r)⟩, true) else match r with
    | [] => (⟨2, lt_ a, lt_ c, 0, 0⟩, true)
    | [d, e] => if 3 ≤ opOf d then (⟨opOf d, lt_ a, lt_ c, lt_ e, 0⟩, true) else no5
    | _ => no5) else no5
  | _ => no5
def flat5 (x : S41 × Bool) : Int × Int × Int × Int × Int × Bool := (x.1.f0, x.1.f1, x.1.f2, x.1.f3, x.1.f4, x.2)
theorem lt_w (c : UInt8) : wrap64 ((wrap64 (c.toNat : Int)) - 97) = lt_ c := by
  have := c.toNat_lt
  rw [w64 (c.toNat : Int) (by omega) (by omega), w64 _ (by omega) (by omega)]
  rfl
theorem u8_eq (c : UInt8) (n : Nat) (hn : n < 256) : ((c.toNat : Int) = (n : Int)) ↔ c = UInt8.ofNat n := by
  constructor
  · intro h
    apply UInt8.toNat_inj.1
    rw [UInt8.toNat_ofNat']
    omega
  · rintro rfl
    rw [UInt8.toNat_ofNat']
    omega
theorem sgn (op : Int) (b : UInt8) (h : op = 3 ∧ b = 43 ∨ op = 4 ∧ b = 45 ∨ op = 5 ∧ b = 42 ∨ op = 6 ∧ b = 60 ∨ op = 7 ∧ b = 126) : spec_l3Sign.f op = some (mkB [b]) := by
  unfold spec_l3Sign.f
  rcases h with ⟨rfl, rfl⟩ | ⟨rfl, rfl⟩ | ⟨rfl, rfl⟩ | ⟨rfl, rfl⟩ | ⟨rfl, rfl⟩
  all_goals
    rw [w64 (_ - 3) (by omega) (by omega), w64 _ (by omega) (by omega)]
    rfl
theorem step_round (a b c d e z : UInt8) (k : Nat) (x0 op : Int) (h : op = 3 ∧ z = 43 ∨ op = 4 ∧ z = 45 ∨ op = 5 ∧ z = 42 ∨ op = 6 ∧ z = 60 ∨ op = 7 ∧ z = 126) :
    spec_l3Step.l0 (k + 2) (mkB [a, b, c, d, e]) op x0 (lt_ a) (lt_ c) 0 0 = if d = z then some (op, lt_ a, lt_ c, lt_ e, 0, true) else spec_l3Step.l0 k (mkB [a, b, c, d, e]) (op + 1) x0 (lt_ a) (lt_ c) 0 0 := by
  have hx : (mkB [a, b, c, d, e]).extract 3 4 = mkB [d] := by rw [ext_mk]; rfl
  have hs : ((mkB [a, b, c, d, e]).size : Int) = 5 := by rw [mkB_size]; rfl
  have he : bt (mkB [a, b, c, d, e]) 4 = (e.toNat : Int) := bt_mk [a, b, c, d, e] 4 (by simp)
  have hd : ((mkB [d]).toList = (mkB [z]).toList) = (d = z) := by
    rw [toL, toL]
    simp [mkB_data]
  have p5 : ((5 : Int) == 5) = true := rfl
  simp only [spec_l3Step.l0, spec_l3Step.j3, hs, hx, he, sgn op z h, Option.bind_some, p5, if_true, hd, lt_w]
  rw [if_pos (show op ≤ 7 by omega), w64 (op + 1) (by omega) (by omega)]
  rfl
theorem step_last (a b c d e : UInt8) (k : Nat) (x0 : Int) : spec_l3Step.l0 (k + 2) (mkB [a, b, c, d, e]) 8 x0 (lt_ a) (lt_ c) 0 0 = some (0, 0, 0, 0, 0, false) := by
  simp only [spec_l3Step.l0, spec_l3Step.j3]
  rw [if_neg (by omega), if_neg (by decide)]
theorem step_ops (a b c d e : UInt8) (k : Nat) (x0 : Int) (hk : 20 < k) : spec_l3Step.l0 k (mkB [a, b, c, d, e]) 3 x0 (lt_ a) (lt_ c) 0 0 = some (flat5 (if 3 ≤ opOf d then (⟨opOf d, lt_ a, lt_ c, lt_ e, 0⟩, true) else no5)) := by
  obtain ⟨k, rfl⟩ : ∃ m, k = m + 2 + 2 + 2 + 2 + 2 + 2 := ⟨k - 12, by omega⟩
  rw [step_round a b c d e 43 _ x0 3 (by simp), step_round a b c d e 45 _ x0 (3 + 1) (by simp), step_round a b c d e 42 _ x0 (3 + 1 + 1) (by simp), step_round a b c d e 60 _ x0 (3 + 1 + 1 + 1) (by simp), step_round a b c d e 126 _ x0 (3 + 1 + 1 + 1 + 1) (by simp)]
  rw [show (3 : Int) + 1 + 1 + 1 + 1 + 1 = 8 from rfl, step_last]
  unfold opOf
  by_cases h1 : d = 43
  · rw [if_pos h1, if_pos h1]; rfl
  · rw [if_neg h1, if_neg h1]
    by_cases h2 : d = 45
    · rw [if_pos h2, if_pos h2]; rfl
    · rw [if_neg h2, if_neg h2]
      by_cases h3 : d = 42
      · rw [if_pos h3, if_pos h3]; rfl
      · rw [if_neg h3, if_neg h3]
        by_cases h4 : d = 60
        · rw [if_pos h4, if_pos h4]; rfl
        · rw [if_neg h4, if_neg h4]
          by_cases h5 : d = 126
          · rw [if_pos h5, if_pos h5]; rfl
          · rw [if_neg h5, if_neg h5]; rfl
set_option maxHeartbeats 1000000 in
theorem step_spec3 (a b c : UInt8) (r : List UInt8) (hl : (a :: b :: c :: r).length ≤ 1000) (k : Nat) (hk : 38 < k) : spec_l3Step.f (k + 2) (mkB (a :: b :: c :: r)) = some (flat5 (stepL (a :: b :: c :: r))) := by
  have h0 : bt (mkB (a :: b :: c :: r)) 0 = (a.toNat : Int) := bt_mk (a :: b :: c :: r) 0 (by simp)
  have h1 : bt (mkB (a :: b :: c :: r)) 1 = (b.toNat : Int) := bt_mk (a :: b :: c :: r) 1 (by simp)
  have h2 : bt (mkB (a :: b :: c :: r)) 2 = (c.toNat : Int) := bt_mk (a :: b :: c :: r) 2 (by simp)
  have hs : ((mkB (a :: b :: c :: r)).size : Int) = (r.length : Int) + 3 := by rw [mkB_size]; simp; omega
  have hx : (mkB (a :: b :: c :: r)).extract 2 (mkB (a :: b :: c :: r)).size = mkB (c :: r) := by
    rw [ext_mk, mkB_size]
    congr 1
    exact List.take_of_length_le (by simp)
  simp only [spec_l3Step.f, hs]
  rw [if_neg (by omega)]
  simp only [spec_l3Step.j0, Bool.false_eq_true, if_false, hs, h1]
  rw [if_neg (by omega), if_pos (by omega)]
  by_cases hb : b = 61
  · rw [show ((b.toNat : Int) != 61) = false from by rw [hb]; rfl]
    simp only [spec_l3Step.j1, Bool.false_eq_true, if_false, hs, h0, h2, hx, lt_w, wordS (c :: r) (by simp at hl ⊢; omega) k (by omega), Option.bind_some]
    rw [if_pos (by omega), if_pos (by omega)]
    simp only [stepL, if_pos hb]
    by_cases hw : 0 ≤ wordL (c :: r)
    · rw [if_pos (show wordL (c :: r) ≥ 0 from hw), if_pos hw]
      rfl
    · rw [if_neg (show ¬ wordL (c :: r) ≥ 0 from hw), if_neg hw, if_pos (by omega)]
      match r with
      | [] =>
        rw [if_pos (by simp)]
        rfl
      | [d] =>
        rw [if_neg (by simp)]
        obtain ⟨k, rfl⟩ : ∃ m, k = m + 2 := ⟨k - 2, by omega⟩
        have hs' : ((mkB [a, b, c, d]).size : Int) = 4 := by rw [mkB_size]; rfl
        simp [spec_l3Step.l0, spec_l3Step.j3, hs', flat5, no5]
      | [d, e] =>
        rw [if_neg (by simp)]
        exact step_ops a b c d e k _ (by omega)
      | d :: e :: g :: r =>
        rw [if_neg (by simp; omega)]
        obtain ⟨k, rfl⟩ : ∃ m, k = m + 2 := ⟨k - 2, by omega⟩
        have hs' : (((mkB (a :: b :: c :: d :: e :: g :: r)).size : Int) == 5) = false := by
          rw [mkB_size]
          exact beq_eq_false_iff_ne.2 (by simp; omega)
        simp only [spec_l3Step.l0, spec_l3Step.j3, hs']
        rw [if_pos (by omega), if_neg (by simp)]
        rfl
  · rw [show ((b.toNat : Int) != 61) = true from bne_iff_ne.2 (fun e => hb ((u8_eq b 61 (by omega)).1 e))]
    simp only [spec_l3Step.j1, if_true, stepL, if_neg hb]
    rfl
theorem step_spec (l : List UInt8) (hl : l.length ≤ 1000) (k : Nat) (hk : 40 < k) : spec_l3Step.f k (mkB l) = some (flat5 (stepL l)) := by
  obtain ⟨k, rfl⟩ : ∃ m, k = m + 2 := ⟨k - 2, by omega⟩
  match l, hl with
  | [], _ => simp [spec_l3Step.f, spec_l3Step.j0, spec_l3Step.j1, mkB_size, stepL, flat5, no5]
  | [a], _ => simp [spec_l3Step.f, spec_l3Step.j0, spec_l3Step.j1, mkB_size, stepL, flat5, no5]
  | [a, b], _ =>
    have h0 : bt (mkB [a, b]) 0 = (a.toNat : Int) := bt_mk [a, b] 0 (by simp)
    have h1 : bt (mkB [a, b]) 1 = (b.toNat : Int) := bt_mk [a, b] 1 (by simp)
    have hs : ((mkB [a, b]).size : Int) = 2 := by rw [mkB_size]; rfl
    simp only [spec_l3Step.f, hs, h0]
    rw [if_pos True.intro, if_pos (by omega)]
    by_cases h : a = 33
    · rw [show ((a.toNat : Int) == 33) = true from beq_iff_eq.2 (by rw [h]; rfl)]
      simp only [spec_l3Step.j0, if_true, hs, h1, lt_w]
      rw [if_pos (by omega)]
      simp [stepL, h, flat5]
    · rw [show ((a.toNat : Int) == 33) = false from beq_eq_false_iff_ne.2 (fun e => h ((u8_eq a 33 (by omega)).1 e))]
      simp only [spec_l3Step.j0, spec_l3Step.j1, Bool.false_eq_true, if_false, hs]
      rw [if_pos (by omega)]
      simp [stepL, h, flat5, no5]
  | a :: b :: c :: r, hl => exact step_spec3 a b c r hl k (by omega)
/-! the program's reader of a step -/
def signs : List UInt8 := [43, 45, 42, 60, 126]
def atoiOk (l : List UInt8) : Option Int := match Lib.atoiAll l with | .ok v => some v | _ => none
def riL : List UInt8 → S41 × Bool
  | [a, b] => if a = 33 then (⟨8, 0, lt_ b, 0, 0⟩, true) else no5
  | a :: b :: c :: r => if b = 61 then (match atoiOk (c :: r) with
    | some n => (⟨1, lt_ a, 0, 0, n⟩, true)
    | none => match r with
      | [] => (⟨2, lt_ a, lt_ c, 0, 0⟩, true)
      | [d, e] => (⟨3 + Lib.indexByte signs d, lt_ a, lt_ c, lt_ e, 0⟩, decide (3 + Lib.indexByte signs d ≥ 3))
      | _ => no5) else no5
  | _ => no5
theorem atoi_ok {l : List UInt8} {v : Int} (hl : l.length ≤ 1000) (h : atoiOk l = some v) : strconv_Atoi_36.f (mkB l) = some (v, true) := by
  unfold atoiOk at h
  simp only [strconv_Atoi_36.f, Tz.atoi, mkB_size, mkB_data]
  rw [if_pos (by omega)]
  rcases ha : Lib.atoiAll l with w | _ | _
  · rw [ha] at h; simp only [Option.some.injEq] at h; subst h; rfl
  · rw [ha] at h; cases h
  · rw [ha] at h; cases h
theorem atoi_no {l : List UInt8} (hl : l.length ≤ 1000) (h : atoiOk l = none) : ∃ v, strconv_Atoi_36.f (mkB l) = some (v, false) := by
  unfold atoiOk at h
  simp only [strconv_Atoi_36.f, Tz.atoi, mkB_size, mkB_data]
  rw [if_pos (by omega)]
  rcases ha : Lib.atoiAll l with w | _ | _
  · rw [ha] at h; cases h
  · exact ⟨_, rfl⟩
  · exact ⟨_, rfl⟩
theorem index_le5 (l : List UInt8) (c : UInt8) : Lib.indexByte l c ≤ l.length := by
  induction l with
  | nil => simp [Lib.indexByte]
  | cons b l ih =>
    unfold Lib.indexByte
    split
    · simp; omega
    · split
      · simp; omega
      · simp; omega
set_option maxHeartbeats 1000000 in
theorem ri_impl3 (a b c : UInt8) (r : List UInt8) (hl : (a :: b :: c :: r).length ≤ 1000) (k : Nat) : impl_readInstr.f (k + 2) (mkB (a :: b :: c :: r)) = some (flat5 (riL (a :: b :: c :: r))) := by
  have h0 : bt (mkB (a :: b :: c :: r)) 0 = (a.toNat : Int) := bt_mk (a :: b :: c :: r) 0 (by simp)
  have h1 : bt (mkB (a :: b :: c :: r)) 1 = (b.toNat : Int) := bt_mk (a :: b :: c :: r) 1 (by simp)
  have h2 : bt (mkB (a :: b :: c :: r)) 2 = (c.toNat : Int) := bt_mk (a :: b :: c :: r) 2 (by simp)
  have hs : ((mkB (a :: b :: c :: r)).size : Int) = (r.length : Int) + 3 := by rw [mkB_size]; simp; omega
  have hx : (mkB (a :: b :: c :: r)).extract 2 (mkB (a :: b :: c :: r)).size = mkB (c :: r) := by
    rw [ext_mk, mkB_size]
    congr 1
    exact List.take_of_length_le (by simp)
  simp only [impl_readInstr.f, hs]
  rw [if_neg (by omega)]
  simp only [impl_readInstr.j0, Bool.false_eq_true, if_false, hs, h1, h0, h2, hx, lt_w]
  rw [if_neg (by omega), if_pos (by omega)]
  by_cases hb : b = 61
  · rw [if_pos (show (b.toNat : Int) = 61 by rw [hb]; rfl), if_pos (by omega), if_pos (by omega), if_pos (by omega)]
    simp only [riL, if_pos hb]
    have hl1 : (c :: r).length ≤ 1000 := by simp at hl ⊢; omega
    cases ha : atoiOk (c :: r) with
    | some n =>
      rw [atoi_ok hl1 ha]
      rfl
    | none =>
      obtain ⟨v, hv⟩ := atoi_no hl1 ha
      rw [hv]
      simp only [Option.bind_some, Bool.false_eq_true, if_false]
      match r, hl with
      | [], _ =>
        rw [if_pos (by simp)]
        rfl
      | [d], _ =>
        rw [if_neg (by simp), if_neg (by simp)]
        rfl
      | [d, e], _ =>
        have h3 : bt (mkB [a, b, c, d, e]) 3 = (d.toNat : Int) := bt_mk [a, b, c, d, e] 3 (by simp)
        have h4 : bt (mkB [a, b, c, d, e]) 4 = (e.toNat : Int) := bt_mk [a, b, c, d, e] 4 (by simp)
        rw [if_neg (by simp), if_pos (by simp), if_pos (by simp), h3]
        simp only [strings_IndexByte.f, Tz.ixb, Option.bind_some]
        rw [if_pos (by simp), h4, lt_w]
        have e1 : ((d.toNat : Int)).toNat.toUInt8 = d := by simp
        have e2 : ([43, 45, 42, 60, 126] : List UInt8) = signs := rfl
        have i1 := index_le5 signs d
        have i0 := Lib.indexByte_ge signs d
        have i2 : signs.length = 5 := rfl
        rw [e1, e2, w64 (3 + Lib.indexByte signs d) (by omega) (by omega)]
        rfl
      | d :: e :: g :: r, _ =>
        rw [if_neg (by simp; omega), if_neg (by simp; omega)]
        rfl
  · rw [if_neg (show ¬ (b.toNat : Int) = 61 from fun e => hb ((u8_eq b 61 (by omega)).1 e))]
    simp only [riL, if_neg hb]
    rfl
theorem ri_impl (l : List UInt8) (hl : l.length ≤ 1000) (k : Nat) (hk : 2 < k) : impl_readInstr.f k (mkB l) = some (flat5 (riL l)) := by
  obtain ⟨k, rfl⟩ : ∃ m, k = m + 2 := ⟨k - 2, by omega⟩
  match l, hl with
  | [], _ => simp [impl_readInstr.f, impl_readInstr.j0, mkB_size, riL, flat5, no5]
  | [a], _ => simp [impl_readInstr.f, impl_readInstr.j0, mkB_size, riL, flat5, no5]
  | [a, b], _ =>
    have h0 : bt (mkB [a, b]) 0 = (a.toNat : Int) := bt_mk [a, b] 0 (by simp)
    have h1 : bt (mkB [a, b]) 1 = (b.toNat : Int) := bt_mk [a, b] 1 (by simp)
    have hs : ((mkB [a, b]).size : Int) = 2 := by rw [mkB_size]; rfl
    simp only [impl_readInstr.f, hs, h0]
    rw [if_pos True.intro, if_pos (by omega)]
    by_cases h : a = 33
    · rw [show ((a.toNat : Int) == 33) = true from beq_iff_eq.2 (by rw [h]; rfl)]
      simp only [impl_readInstr.j0, if_true, hs, h1, lt_w]
      rw [if_pos (by omega)]
      simp [riL, h, flat5]
    · rw [show ((a.toNat : Int) == 33) = false from beq_eq_false_iff_ne.2 (fun e => h ((u8_eq a 33 (by omega)).1 e))]
      simp only [impl_readInstr.j0, Bool.false_eq_true, if_false, hs]
      rw [if_pos (by omega)]
      simp [riL, h, flat5, no5]
  | a :: b :: c :: r, hl => exact ri_impl3 a b c r hl k
/-! both read what is told of a good step, and the reference reads nothing else as one -/
def txtL (x : S41) : List UInt8 := (txt x).data.toList
theorem L_list (a : Int) : (L a).data.toList = [(97 + a.toNat).toUInt8] := rfl
theorem lt_L (a : Int) (h0 : 0 ≤ a) (h1 : a ≤ 7) : lt_ ((97 + a.toNat).toUInt8) = a := by
  have hc : a = 0 ∨ a = 1 ∨ a = 2 ∨ a = 3 ∨ a = 4 ∨ a = 5 ∨ a = 6 ∨ a = 7 := by omega
  rcases hc with rfl | rfl | rfl | rfl | rfl | rfl | rfl | rfl <;> rfl
theorem L_lt (c : UInt8) (h0 : 0 ≤ lt_ c) (h1 : lt_ c ≤ 7) : (97 + (lt_ c).toNat).toUInt8 = c := by
  have hc := c.toNat_lt
  unfold lt_ at h0 h1 ⊢
  apply UInt8.toNat_inj.1
  rw [Nat.toUInt8, UInt8.toNat_ofNat']
  omega
theorem L_nd (a : Int) (h0 : 0 ≤ a) (h1 : a ≤ 7) : Lib.digitVal ((97 + a.toNat).toUInt8) = none ∧ (97 + a.toNat).toUInt8 ≠ 59 ∧ (97 + a.toNat).toUInt8 ≠ 43 ∧ (97 + a.toNat).toUInt8 ≠ 45 := by
  have hc : a = 0 ∨ a = 1 ∨ a = 2 ∨ a = 3 ∨ a = 4 ∨ a = 5 ∨ a = 6 ∨ a = 7 := by omega
  rcases hc with rfl | rfl | rfl | rfl | rfl | rfl | rfl | rfl <;> exact ⟨rfl, by decide, by decide, by decide⟩
def sgB (op : Int) : UInt8 := if op = 3 then 43 else if op = 4 then 45 else if op = 5 then 42 else if op = 6 then 60 else 126
theorem sg_list (op : Int) (h0 : 3 ≤ op) (h1 : op ≤ 7) : (sg op).data.toList = [sgB op] := by
  have hc : op = 3 ∨ op = 4 ∨ op = 5 ∨ op = 6 ∨ op = 7 := by omega
  unfold sg
  rw [w64 (op - 3) (by omega) (by omega), w64 (op - 3 + 1) (by omega) (by omega)]
  rcases hc with rfl | rfl | rfl | rfl | rfl <;> rfl
theorem sg_op (op : Int) (h0 : 3 ≤ op) (h1 : op ≤ 7) : opOf (sgB op) = op ∧ 3 + Lib.indexByte signs (sgB op) = op ∧ sgB op ≠ 59 := by
  have hc : op = 3 ∨ op = 4 ∨ op = 5 ∨ op = 6 ∨ op = 7 := by omega
  rcases hc with rfl | rfl | rfl | rfl | rfl <;> exact ⟨by decide, by decide, by decide⟩
theorem op_sg (d : UInt8) (h : 3 ≤ opOf d) : sgB (opOf d) = d ∧ opOf d ≤ 7 := by
  unfold opOf at h ⊢
  by_cases h1 : d = 43
  · subst h1; decide
  · rw [if_neg h1] at h ⊢
    by_cases h2 : d = 45
    · subst h2; decide
    · rw [if_neg h2] at h ⊢
      by_cases h3 : d = 42
      · subst h3; decide
      · rw [if_neg h3] at h ⊢
        by_cases h4 : d = 60
        · subst h4; decide
        · rw [if_neg h4] at h ⊢
          by_cases h5 : d = 126
          · subst h5; decide
          · rw [if_neg h5] at h; omega
/-- The four shapes of a good step's text. -/
theorem txt_shape (x : S41) (hg : goodB x = true) :
    (x.f0 = 1 ∧ x.f2 = 0 ∧ x.f3 = 0 ∧ txtL x = (97 + x.f1.toNat).toUInt8 :: 61 :: Lib.decDigits x.f4.toNat) ∨
    (x.f0 = 2 ∧ x.f3 = 0 ∧ x.f4 = 0 ∧ txtL x = [(97 + x.f1.toNat).toUInt8, 61, (97 + x.f2.toNat).toUInt8]) ∨
    ((3 ≤ x.f0 ∧ x.f0 ≤ 7) ∧ x.f4 = 0 ∧ txtL x = [(97 + x.f1.toNat).toUInt8, 61, (97 + x.f2.toNat).toUInt8, sgB x.f0, (97 + x.f3.toNat).toUInt8]) ∨
    (x.f0 = 8 ∧ x.f1 = 0 ∧ x.f3 = 0 ∧ x.f4 = 0 ∧ txtL x = [33, (97 + x.f2.toNat).toUInt8]) := by
  obtain ⟨⟨d0, d1⟩, ⟨a0, a1⟩, ⟨b0, b1⟩, ⟨n0, n1⟩, ho⟩ := of_decide_eq_true hg
  have hn := (nums_size x.f4 n0 n1).2
  unfold txtL txt
  rcases ho with ⟨h, h2, h3⟩ | ⟨h, h3, h4⟩ | ⟨h, h4⟩ | ⟨h, h1, h3, h4⟩
  · refine .inl ⟨h, h2, h3, ?_⟩
    rw [if_pos h]
    simp only [ByteArray.data_append, Array.toList_append, L_list, hn]
    rfl
  · refine .inr (.inl ⟨h, h3, h4, ?_⟩)
    rw [if_neg (by omega), if_pos h]
    simp only [ByteArray.data_append, Array.toList_append, L_list]
    rfl
  · refine .inr (.inr (.inl ⟨h, h4, ?_⟩))
    rw [if_neg (by omega), if_neg (by omega), if_neg (by omega)]
    simp only [ByteArray.data_append, Array.toList_append, L_list, sg_list x.f0 h.1 h.2]
    rfl
  · refine .inr (.inr (.inr ⟨h, h1, h3, h4, ?_⟩))
    rw [if_neg (by omega), if_neg (by omega), if_pos h]
    simp only [ByteArray.data_append, Array.toList_append, L_list]
    rfl
theorem txt_no59 (x : S41) (hg : goodB x = true) : ∀ c, c ∈ txtL x → c ≠ 59 := by
  obtain ⟨⟨d0, d1⟩, ⟨a0, a1⟩, ⟨b0, b1⟩, ⟨n0, n1⟩, ho⟩ := of_decide_eq_true hg
  have q1 := (L_nd x.f1 d0 d1).2.1
  have q2 := (L_nd x.f2 a0 a1).2.1
  have q3 := (L_nd x.f3 b0 b1).2.1
  rcases txt_shape x hg with ⟨_, _, _, e⟩ | ⟨_, _, _, e⟩ | ⟨h, _, e⟩ | ⟨_, _, _, _, e⟩ <;> rw [e] <;> intro c hc
  · rcases List.mem_cons.1 hc with rfl | hc
    · exact q1
    · rcases List.mem_cons.1 hc with rfl | hc
      · decide
      · have := digits_ne59 _ c hc
        intro hh
        subst hh
        revert this
        decide
  · simp only [List.mem_cons, List.not_mem_nil, or_false] at hc
    rcases hc with rfl | rfl | rfl
    · exact q1
    · decide
    · exact q2
  · simp only [List.mem_cons, List.not_mem_nil, or_false] at hc
    rcases hc with rfl | rfl | rfl | rfl | rfl
    · exact q1
    · decide
    · exact q2
    · exact (sg_op x.f0 h.1 h.2).2.2
    · exact q3
  · simp only [List.mem_cons, List.not_mem_nil, or_false] at hc
    rcases hc with rfl | rfl
    · decide
    · exact q2
theorem ext5 {x y : S41} (h0 : x.f0 = y.f0) (h1 : x.f1 = y.f1) (h2 : x.f2 = y.f2) (h3 : x.f3 = y.f3) (h4 : x.f4 = y.f4) : x = y := by
  obtain ⟨a, b, c, d, e⟩ := x
  obtain ⟨f, g, h, i, j⟩ := y
  simp only at h0 h1 h2 h3 h4
  subst h0 h1 h2 h3 h4
  rfl
theorem digits_cons (n : Nat) : ∃ c r, Lib.decDigits n = c :: r := by
  cases h : Lib.decDigits n with
  | nil =>
    have := Lib.nDigits_pos n
    rw [← Lib.decDigits_length, h] at this
    simp at this
  | cons c r => exact ⟨c, r, rfl⟩
theorem stepA (x : S41) (hg : goodB x = true) : stepL (txtL x) = (x, true) := by
  obtain ⟨⟨d0, d1⟩, ⟨a0, a1⟩, ⟨b0, b1⟩, ⟨n0, n1⟩, ho⟩ := of_decide_eq_true hg
  have q1 := lt_L x.f1 d0 d1
  have q2 := lt_L x.f2 a0 a1
  have q3 := lt_L x.f3 b0 b1
  have m2 := (L_nd x.f2 a0 a1).1
  rcases txt_shape x hg with ⟨h, h2, h3, e⟩ | ⟨h, h3, h4, e⟩ | ⟨h, h4, e⟩ | ⟨h, h1, h3, h4, e⟩ <;> rw [e]
  · obtain ⟨c, r, hd⟩ := digits_cons x.f4.toNat
    have hw := wordL_digits x.f4.toNat (by omega)
    rw [hd] at hw ⊢
    simp only [stepL, if_true, hw, q1]
    rw [if_pos (by omega)]
    exact Prod.ext (ext5 h.symm rfl h2.symm h3.symm (by simp only; omega)) rfl
  · simp only [stepL, if_true, wordL_no _ _ m2, q1, q2]
    rw [if_neg (by omega)]
    exact Prod.ext (ext5 h.symm rfl rfl h3.symm h4.symm) rfl
  · simp only [stepL, if_true, wordL_no _ _ m2, q1, q2, q3, (sg_op x.f0 h.1 h.2).1]
    rw [if_neg (by omega), if_pos h.1]
    exact Prod.ext (ext5 rfl rfl rfl rfl h4.symm) rfl
  · simp only [stepL, if_true, q2]
    exact Prod.ext (ext5 h.symm h1.symm rfl h3.symm h4.symm) rfl
theorem atoi_digits (n : Nat) (h : n ≤ 65535) : atoiOk (Lib.decDigits n) = some (n : Int) := by
  have hl := digits_len5 n h
  obtain ⟨c, r, hd⟩ := digits_cons n
  have hc := digits_ne59 n c (by rw [hd]; simp)
  have hdec := decFrom_digits n
  unfold atoiOk
  rw [Lib.atoiAll_short _ (by omega)]
  have e : Lib.atoi (Lib.decDigits n) = some (n : Int) := by
    rw [hd] at hdec ⊢
    unfold Lib.atoi
    have n1 : (c == 45) = false := beq_eq_false_iff_ne.2 (fun hh => by subst hh; revert hc; decide)
    have n2 : (c == 43) = false := beq_eq_false_iff_ne.2 (fun hh => by subst hh; revert hc; decide)
    simp only [n1, n2]
    simp [Lib.decNat, hdec]
  rw [e]
  rfl
theorem atoi_letter (b : UInt8) (r : List UInt8) (hl : (b :: r).length ≤ 18) (h : Lib.digitVal b = none) (h43 : b ≠ 43) (h45 : b ≠ 45) : atoiOk (b :: r) = none := by
  unfold atoiOk
  rw [Lib.atoiAll_short _ hl]
  have e : Lib.atoi (b :: r) = none := by
    unfold Lib.atoi
    simp only [beq_eq_false_iff_ne.2 h45, beq_eq_false_iff_ne.2 h43]
    simp [Lib.decNat, Lib.decFrom, h]
  rw [e]
  rfl
theorem riA (x : S41) (hg : goodB x = true) : riL (txtL x) = (x, true) := by
  obtain ⟨⟨d0, d1⟩, ⟨a0, a1⟩, ⟨b0, b1⟩, ⟨n0, n1⟩, ho⟩ := of_decide_eq_true hg
  have q1 := lt_L x.f1 d0 d1
  have q2 := lt_L x.f2 a0 a1
  have q3 := lt_L x.f3 b0 b1
  obtain ⟨m2, _, m43, m45⟩ := L_nd x.f2 a0 a1
  have k1 := atoi_letter ((97 + x.f2.toNat).toUInt8) [] (by simp) m2 m43 m45
  have k2 := atoi_letter ((97 + x.f2.toNat).toUInt8) [sgB x.f0, (97 + x.f3.toNat).toUInt8] (by simp) m2 m43 m45
  rcases txt_shape x hg with ⟨h, h2, h3, e⟩ | ⟨h, h3, h4, e⟩ | ⟨h, h4, e⟩ | ⟨h, h1, h3, h4, e⟩ <;> rw [e]
  · obtain ⟨c, r, hd⟩ := digits_cons x.f4.toNat
    have hw := atoi_digits x.f4.toNat (by omega)
    rw [hd] at hw ⊢
    simp only [riL, if_true, hw, q1]
    exact Prod.ext (ext5 h.symm rfl h2.symm h3.symm (by simp only; omega)) rfl
  · simp only [riL, if_true, k1, q1, q2]
    exact Prod.ext (ext5 h.symm rfl rfl h3.symm h4.symm) rfl
  · simp only [riL, if_true, k2, q1, q2, q3, (sg_op x.f0 h.1 h.2).2.1]
    exact Prod.ext (ext5 rfl rfl rfl rfl h4.symm) (decide_eq_true h.1)
  · simp only [riL, if_true, q2]
    exact Prod.ext (ext5 h.symm h1.symm rfl h3.symm h4.symm) rfl
/-- What the reference reads as a good step is that step's text. -/
theorem stepB (l : List UInt8) (x : S41) (h : stepL l = (x, true)) (hg : goodB x = true) : l = txtL x := by
  have hs := txt_shape x hg
  obtain ⟨⟨d0, d1⟩, ⟨a0, a1⟩, ⟨b0, b1⟩, ⟨n0, n1⟩, ho⟩ := of_decide_eq_true hg
  match l, h with
  | [], h => exact absurd (congrArg Prod.snd h) (by simp [stepL, no5])
  | [a], h => exact absurd (congrArg Prod.snd h) (by simp [stepL, no5])
  | [a, b], h =>
    simp only [stepL] at h
    by_cases h33 : a = 33
    · rw [if_pos h33] at h
      obtain ⟨rfl, _⟩ := Prod.mk.inj h
      simp only at a0 a1
      rcases hs with ⟨hh, _⟩ | ⟨hh, _⟩ | ⟨hh, _⟩ | ⟨_, _, _, _, e⟩
      · (simp only at hh; omega)
      · (simp only at hh; omega)
      · (simp only at hh; omega)
      · rw [e, h33]
        simp only
        rw [L_lt b a0 a1]
    · rw [if_neg h33] at h
      exact absurd (congrArg Prod.snd h) (by simp [no5])
  | a :: b :: c :: r, h =>
    simp only [stepL] at h
    by_cases h61 : b = 61
    · rw [if_pos h61] at h
      by_cases hw : 0 ≤ wordL (c :: r)
      · rw [if_pos hw] at h
        obtain ⟨rfl, _⟩ := Prod.mk.inj h
        obtain ⟨n, hn, hn1, hd⟩ := wordL_back (c :: r) hw
        simp only at d0 d1
        rcases hs with ⟨_, _, _, e⟩ | ⟨hh, _⟩ | ⟨hh, _⟩ | ⟨hh, _⟩
        · rw [e, h61]
          simp only [hn, Int.toNat_natCast]
          rw [L_lt a d0 d1, ← hd]
        · (simp only at hh; omega)
        · (simp only at hh; omega)
        · (simp only at hh; omega)
      · rw [if_neg hw] at h
        match r, h with
        | [], h =>
          obtain ⟨rfl, _⟩ := Prod.mk.inj h
          simp only at d0 d1 a0 a1
          rcases hs with ⟨hh, _⟩ | ⟨_, _, _, e⟩ | ⟨hh, _⟩ | ⟨hh, _⟩
          · (simp only at hh; omega)
          · rw [e, h61]
            simp only
            rw [L_lt a d0 d1, L_lt c a0 a1]
          · (simp only at hh; omega)
          · (simp only at hh; omega)
        | [d], h => exact absurd (congrArg Prod.snd h) (by simp [no5])
        | [d, e'], h =>
          simp only at h
          by_cases ho3 : 3 ≤ opOf d
          · rw [if_pos ho3] at h
            obtain ⟨hsg, h7⟩ := op_sg d ho3
            obtain ⟨rfl, _⟩ := Prod.mk.inj h
            simp only at d0 d1 a0 a1 b0 b1
            rcases hs with ⟨hh, _⟩ | ⟨hh, _⟩ | ⟨_, _, e⟩ | ⟨hh, _⟩
            · simp only at hh; omega
            · simp only at hh; omega
            · rw [e, h61]
              simp only
              rw [L_lt a d0 d1, L_lt c a0 a1, L_lt e' b0 b1, hsg]
            · simp only at hh; omega
          · rw [if_neg ho3] at h
            exact absurd (congrArg Prod.snd h) (by simp [no5])
        | d :: e' :: g :: r, h => exact absurd (congrArg Prod.snd h) (by simp [no5])
    · rw [if_neg h61] at h
      exact absurd (congrArg Prod.snd h) (by simp [no5])
/-! rows of steps -/
def readAll (f : List UInt8 → S41 × Bool) : List (List UInt8) → Option (List S41)
  | [] => some []
  | p :: ps => if (f p).2 = true then (readAll f ps).map ((f p).1 :: ·) else none
theorem readAll_len (f : List UInt8 → S41 × Bool) : ∀ (ps : List (List UInt8)) (xs : List S41), readAll f ps = some xs → xs.length = ps.length
  | [], xs, h => by simp only [readAll, Option.some.injEq] at h; subst h; rfl
  | p :: ps, xs, h => by
    simp only [readAll] at h
    split at h
    · obtain ⟨ys, hy, rfl⟩ := Option.map_eq_some_iff.1 h
      simp [readAll_len f ps ys hy]
    · cases h
theorem readAll_txt (f : List UInt8 → S41 × Bool) (hA : ∀ x, goodB x = true → f (txtL x) = (x, true)) : ∀ xs : List S41, xs.all goodB = true → readAll f (xs.map txtL) = some xs
  | [], _ => rfl
  | x :: xs, h => by
    rw [List.all_cons, Bool.and_eq_true] at h
    simp only [List.map_cons, readAll, hA x h.1, if_true, readAll_txt f hA xs h.2, Option.map_some]
theorem readAll_back : ∀ (ps : List (List UInt8)) (xs : List S41), readAll stepL ps = some xs → xs.all goodB = true → ps = xs.map txtL
  | [], xs, h, _ => by simp only [readAll, Option.some.injEq] at h; subst h; rfl
  | p :: ps, xs, h, hg => by
    simp only [readAll] at h
    split at h
    · rename_i hp
      obtain ⟨ys, hy, rfl⟩ := Option.map_eq_some_iff.1 h
      rw [List.all_cons, Bool.and_eq_true] at hg
      rw [List.map_cons, ← readAll_back ps ys hy hg.2, ← stepB p (stepL p).1 (Prod.ext rfl hp) hg.1]
    · cases h
def joined (xs : List S41) : List UInt8 := Lib.join (xs.map txtL) [59]
/-- What both answer. -/
def ans (l : List UInt8) : List S41 × Bool := match readAll stepL (spl l) with
  | some xs => if codeB xs = true then (xs, true) else ([], false)
  | none => ([], false)
theorem spl_joined (x : S41) (xs : List S41) (hg : (x :: xs).all goodB = true) : spl (joined (x :: xs)) = (x :: xs).map txtL := by
  unfold joined
  rw [List.map_cons]
  refine spl_join _ _ fun q hq => ?_
  rw [← List.map_cons (f := txtL)] at hq
  obtain ⟨y, hy, rfl⟩ := List.mem_map.1 hq
  exact txt_no59 y (List.all_eq_true.1 hg y hy)
/-- The program's way to the same answer. -/
theorem ans_impl (l : List UInt8) : ans l = match readAll riL (spl l) with
    | some xs => if codeB xs = true then (if joined xs = l then (xs, true) else ([], false)) else ([], false)
    | none => ([], false) := by
  unfold ans
  cases hs : readAll stepL (spl l) with
  | some xs =>
    simp only
    by_cases hc : codeB xs = true
    · rw [if_pos hc]
      simp only [codeB, Bool.and_eq_true, decide_eq_true_eq] at hc
      have hp := readAll_back _ _ hs hc.1
      have hj : joined xs = l := by unfold joined; rw [← hp, join_spl]
      rw [hp, readAll_txt riL riA xs hc.1]
      simp only
      rw [if_pos (by simp only [codeB, Bool.and_eq_true, decide_eq_true_eq]; exact hc), if_pos hj]
    · rw [if_neg hc]
      cases hi : readAll riL (spl l) with
      | none => rfl
      | some ys =>
        simp only
        by_cases hd : codeB ys = true
        · rw [if_pos hd]
          by_cases hj : joined ys = l
          · exfalso
            simp only [codeB, Bool.and_eq_true, decide_eq_true_eq] at hd
            cases ys with
            | nil =>
              obtain ⟨p, ps, hp⟩ := spl_ne l
              have := readAll_len riL _ _ hi
              rw [hp] at this
              simp at this
            | cons y ys =>
              rw [← hj, spl_joined y ys hd.1, readAll_txt stepL stepA _ hd.1] at hs
              obtain rfl := Option.some.inj hs
              exact hc (by simp only [codeB, Bool.and_eq_true, decide_eq_true_eq]; exact hd)
          · rw [if_neg hj]
        · rw [if_neg hd]
  | none =>
    simp only
    cases hi : readAll riL (spl l) with
    | none => rfl
    | some ys =>
      simp only
      by_cases hd : codeB ys = true
      · rw [if_pos hd]
        by_cases hj : joined ys = l
        · exfalso
          simp only [codeB, Bool.and_eq_true, decide_eq_true_eq] at hd
          cases ys with
          | nil =>
            obtain ⟨p, ps, hp⟩ := spl_ne l
            have := readAll_len riL _ _ hi
            rw [hp] at this
            simp at this
          | cons y ys =>
            rw [← hj, spl_joined y ys hd.1, readAll_txt stepL stepA _ hd.1] at hs
            cases hs
        · rw [if_neg hj]
      · rw [if_neg hd]
/-! the two readers -/
theorem spec_loop0 (l : List UInt8) (hne : l ≠ []) (ps : List (List UInt8)) (hp : ∀ p, p ∈ ps → p.length ≤ 400) (hn : ps.length ≤ 401) (d : Nat) : ∀ (k i : Nat) (acc : List S41), acc.length ≤ i → i ≤ ps.length → ps.length - i = d → 2 * d + 600 < k →
    spec_ReadCode.l0 k (mkB l) acc (ps.map mkB) (ps.length : Int) (i : Int) = some (match readAll stepL (ps.drop i) with
      | some xs => if codeB (acc ++ xs) = true then (acc ++ xs, true) else ([], false)
      | none => ([], false)) := by
  have hT : ¬ ((mkB l).toList = ([] : List UInt8)) := by rw [toL]; exact hne
  induction d with
  | zero =>
    intro k i acc ha hi hd hk
    obtain ⟨k, rfl⟩ : ∃ m, k = m + 1 := ⟨k - 1, by omega⟩
    simp only [spec_ReadCode.l0]
    rw [if_neg (by omega), List.drop_of_length_le (by omega), spec_good acc (by omega) k (by omega)]
    simp only [readAll, List.append_nil, Option.bind_some]
    split <;> rfl
  | succ d ih =>
    intro k i acc ha hi hd hk
    obtain ⟨k, rfl⟩ : ∃ m, k = m + 1 + 1 := ⟨k - 2, by omega⟩
    have hlt : i < ps.length := by omega
    have hr : rdOf ByteArray.empty (ps.map mkB) (i : Int) = mkB ps[i] := by
      simp [rdOf, List.getD_eq_getElem?_getD, List.getElem?_eq_getElem hlt]
    simp only [spec_ReadCode.l0, spec_ReadCode.j1, hr, step_spec ps[i] (by have := hp _ (List.getElem_mem hlt); omega) (k + 1) (by omega), Option.bind_some, flat5]
    rw [if_pos (show (i : Int) < (ps.length : Int) by omega), if_pos (show (0 : Int) ≤ (i : Int) by omega), if_pos (show (i : Int) < ((ps.map mkB).length : Int) by rw [List.length_map]; omega), if_neg hT, List.drop_eq_getElem_cons hlt]
    simp only [readAll]
    cases hb : (stepL ps[i]).2 with
    | false => simp
    | true =>
      simp only [Bool.not_true, Bool.false_eq_true, if_false, if_true]
      rw [if_neg hT, if_pos (by omega), w64 ((i : Int) + 1) (by omega) (by omega), show (i : Int) + 1 = ((i + 1 : Nat) : Int) by omega, ih k (i + 1) _ (by simp; omega) (by omega) (by omega) (by omega)]
      cases hq : readAll stepL (ps.drop (i + 1)) with
      | none => simp
      | some xs => simp
theorem spec_read (l : List UInt8) (hl : l.length ≤ 400) (k : Nat) (hk : 2000 < k) : spec_ReadCode.f k (mkB l) = some (if l = [] then ([], true) else ans l) := by
  obtain ⟨k, rfl⟩ : ∃ m, k = m + 4 := ⟨k - 4, by omega⟩
  simp only [spec_ReadCode.f, mkB_size]
  rw [if_neg (by omega), split_spec l hl _ (by omega)]
  simp only [Option.bind_some, List.length_map]
  by_cases hne : l = []
  · subst hne
    rw [if_pos rfl]
    have hT : (mkB []).toList = ([] : List UInt8) := by rw [toL]; rfl
    have hr : rdOf ByteArray.empty ([mkB []]) (0 : Int) = mkB [] := rfl
    have w1 : wrap64 (0 + 1) = 1 := by rw [w64 _ (by omega) (by omega)]; rfl
    have hs : spl [] = [[]] := rfl
    rw [hs]
    simp only [List.map_cons, List.map_nil, List.length_singleton]
    have g := spec_good [] (by simp) (k + 1) (by simp)
    have e1 := step_spec [] (by simp) (k + 3) (by omega)
    simp only [spec_ReadCode.l0, spec_ReadCode.j1, hr, e1, Option.bind_some, hT, if_true, w1, g]
    simp [codeB]
  · rw [if_neg hne]
    have h := spec_loop0 l hne (spl l) (fun p hp => by have := spl_sizes l p hp; omega) (by have := spl_length l; omega) (spl l).length (k + 4) 0 [] (by simp) (by omega) (by omega) (by have := spl_length l; omega)
    rw [List.drop_zero] at h
    simp only [List.nil_append] at h
    exact h
theorem bl_txt (xs : List S41) : bl xs = xs.map txtL := rfl
theorem code_text (xs : List S41) (hc : codeB xs = true) (k : Nat) (hk : 100 < k) : ∃ r, impl_codeText.f k xs = some r ∧ r.data.toList = joined xs := by
  simp only [codeB, Bool.and_eq_true, decide_eq_true_eq] at hc
  have e4 := impl_loop xs hc.2 hc.1 xs.length k 0 [] (by simp) (by omega) (by omega) (by omega)
  have hb : (xs.map txt).map (·.data.toList) = xs.map txtL := by simp [txtL]
  have hlen : ∀ ys : List S41, ys.all goodB = true → (Lib.join (ys.map txtL) [59]).length ≤ 11 * ys.length := by
    intro ys
    induction ys with
    | nil => intro _; simp [Lib.join_nil]
    | cons y ys ih =>
      intro hg
      rw [List.all_cons, Bool.and_eq_true] at hg
      have h1 := ih hg.2
      have h2 : (txtL y).length ≤ 10 := by
        obtain ⟨⟨d0, d1⟩, ⟨a0, a1⟩, ⟨b0, b1⟩, ⟨n0, n1⟩, ho⟩ := of_decide_eq_true hg.1
        have := (digits_len5 y.f4.toNat (by omega)).2
        rcases txt_shape y hg.1 with ⟨_, _, _, e⟩ | ⟨_, _, _, e⟩ | ⟨_, _, e⟩ | ⟨_, _, _, _, e⟩ <;> rw [e] <;> simp
        omega
      cases ys with
      | nil => rw [List.map_cons, List.map_nil, Lib.join_one]; simp; omega
      | cons z zs =>
        rw [List.map_cons, List.map_cons, Lib.join_cons]
        rw [List.map_cons, Lib.join_cons] at h1
        simp [Lib.joinTail] at h1 ⊢
        omega
  have hl := hlen xs hc.1
  have hj : Tz.join (xs.map txt) ⟨#[59]⟩ = some ⟨(joined xs).toArray⟩ := by
    unfold Tz.join
    rw [hb, show (⟨#[59]⟩ : ByteArray).data.toList = [59] from rfl, if_pos (by simp; omega), if_pos (by omega)]
    rfl
  simp only [List.drop_zero, List.nil_append, hj] at e4
  refine ⟨⟨(joined xs).toArray⟩, ?_, by simp⟩
  unfold impl_codeText.f
  rw [show (0 : Int) = ((0 : Nat) : Int) from rfl, e4]
theorem impl_end (l : List UInt8) (xs : List S41) (k : Nat) (hk : 200 < k) : impl_ReadCode.j1 k (mkB l) xs = some (if codeB xs = true then (if joined xs = l then (xs, true) else ([], false)) else ([], false)) := by
  obtain ⟨k, rfl⟩ : ∃ m, k = m + 1 := ⟨k - 1, by omega⟩
  simp only [impl_ReadCode.j1, isCode_eq xs k (by omega), Option.bind_some]
  by_cases hc : codeB xs = true
  · rw [if_pos hc, if_pos hc]
    obtain ⟨r, e1, e2⟩ := code_text xs hc k (by omega)
    rw [e1]
    simp only [Option.bind_some, toL, e2, mkB_data]
    split <;> rfl
  · rw [if_neg hc, if_neg hc]
theorem impl_loop0 (l : List UInt8) (ps : List (List UInt8)) (hp : ∀ p, p ∈ ps → p.length ≤ 400) (hn : ps.length ≤ 401) (d : Nat) : ∀ (k i : Nat) (acc : List S41), acc.length ≤ i → i ≤ ps.length → ps.length - i = d → d + 600 < k →
    impl_ReadCode.l0 k (mkB l) acc (ps.map mkB) (ps.length : Int) (i : Int) = some (match readAll riL (ps.drop i) with
      | some xs => if codeB (acc ++ xs) = true then (if joined (acc ++ xs) = l then (acc ++ xs, true) else ([], false)) else ([], false)
      | none => ([], false)) := by
  induction d with
  | zero =>
    intro k i acc ha hi hd hk
    obtain ⟨k, rfl⟩ : ∃ m, k = m + 1 := ⟨k - 1, by omega⟩
    simp only [impl_ReadCode.l0]
    rw [if_neg (by omega), List.drop_of_length_le (by omega), impl_end l acc k (by omega)]
    simp only [readAll, List.append_nil]
  | succ d ih =>
    intro k i acc ha hi hd hk
    obtain ⟨k, rfl⟩ : ∃ m, k = m + 1 := ⟨k - 1, by omega⟩
    have hlt : i < ps.length := by omega
    have hr : rdOf ByteArray.empty (ps.map mkB) (i : Int) = mkB ps[i] := by
      simp [rdOf, List.getD_eq_getElem?_getD, List.getElem?_eq_getElem hlt]
    simp only [impl_ReadCode.l0, hr, ri_impl ps[i] (by have := hp _ (List.getElem_mem hlt); omega) k (by omega), Option.bind_some, flat5]
    rw [if_pos (show (i : Int) < (ps.length : Int) by omega), if_pos (show (0 : Int) ≤ (i : Int) by omega), if_pos (show (i : Int) < ((ps.map mkB).length : Int) by rw [List.length_map]; omega), List.drop_eq_getElem_cons hlt]
    simp only [readAll]
    cases hb : (riL ps[i]).2 with
    | false => simp
    | true =>
      simp only [if_true]
      rw [if_pos (by omega), w64 ((i : Int) + 1) (by omega) (by omega), show (i : Int) + 1 = ((i + 1 : Nat) : Int) by omega, ih k (i + 1) _ (by simp; omega) (by omega) (by omega) (by omega)]
      cases hq : readAll riL (ps.drop (i + 1)) with
      | none => simp
      | some xs => simp
theorem impl_read (l : List UInt8) (hl : l.length ≤ 400) (k : Nat) (hk : 2000 < k) : impl_ReadCode.f k (mkB l) = some (if l = [] then ([], true) else ans l) := by
  simp only [impl_ReadCode.f, mkB_size, Option.bind_some]
  rw [if_neg (by omega)]
  by_cases hne : l = []
  · subst hne
    rw [if_pos (by rw [toL]; rfl), if_pos rfl, impl_end [] [] k (by omega)]
    rfl
  · rw [if_neg (by rw [toL]; exact hne), if_neg hne, split_impl (mkB l) (by rw [mkB_size]; omega)]
    simp only [Option.bind_some, List.length_map, mkB_data]
    have h := impl_loop0 l (spl l) (fun p hp => by have := spl_sizes l p hp; omega) (by have := spl_length l; omega) (spl l).length k 0 [] (by simp) (by omega) (by omega) (by have := spl_length l; omega)
    rw [List.drop_zero] at h
    simp only [List.nil_append] at h
    rw [ans_impl]
    exact h
theorem ans_len (l : List UInt8) : (ans l).1.length ≤ 30 := by
  unfold ans
  split
  · split
    · rename_i h
      simp only [codeB, Bool.and_eq_true, decide_eq_true_eq] at h
      exact h.2
    · simp
  · simp
/-- What both answer. -/
def readAns (s : ByteArray) : List S41 × Bool := if (s.size : Int) > 400 then ([], false) else if s.data.toList = [] then ([], true) else ans s.data.toList
theorem readAns_len (s : ByteArray) : (readAns s).1.length ≤ 30 := by
  unfold readAns
  split
  · simp
  · split
    · simp
    · exact ans_len _
theorem both_read (s : ByteArray) (k : Nat) (hk : 2000 < k) : spec_ReadCode.f k s = some (readAns s) ∧ impl_ReadCode.f k s = some (readAns s) := by
  unfold readAns
  by_cases h : (s.size : Int) > 400
  · rw [if_pos h]
    exact ⟨by simp only [spec_ReadCode.f]; rw [if_pos h], by simp only [impl_ReadCode.f]; rw [if_pos h]⟩
  · rw [if_neg h]
    have hl : s.data.toList.length ≤ 400 := by rw [data_length]; omega
    have e1 := spec_read _ hl k hk
    have e2 := impl_read _ hl k hk
    rw [mkB_of] at e1 e2
    exact ⟨e1, e2⟩
theorem strOne (v : Int) : (strOfNums [v]).size = 1 := by simp [strOfNums, ByteArray.size]
theorem spoilt_loop (l : List Int) (hl : ∀ x ∈ l, (Lit.int .u8 x).wf = true) (x2 : ByteArray) (h2 : x2.size = 9) (d : Nat) : ∀ (k : Nat) (s : ByteArray) (x7 p q : Int) (n : Nat), x7 ≤ d → s.size ≤ 100000 - d → d ≤ 100 → Cur p n → n + 6 * d ≤ 1000000 → 2 * d + 2 < k →
    ∃ r p' q', spec_l1Cur_spoilt.l0 k s x2 x7 l p q = some (r, p', q') := by
  induction d with
  | zero =>
    intro k s x7 p q n hx hs hd h hn hk
    obtain ⟨k, rfl⟩ : ∃ m, k = m + 1 + 1 := ⟨k - 2, by omega⟩
    simp only [spec_l1Cur_spoilt.l0, spec_l1Cur_spoilt.j1]
    rw [if_neg (by omega), if_neg (by simp)]
    exact ⟨_, _, _, rfl⟩
  | succ d ih =>
    intro k s x7 p q n hx hs hd h hn hk
    obtain ⟨k, rfl⟩ : ∃ m, k = m + 1 + 1 := ⟨k - 2, by omega⟩
    have hend : ∃ r p' q', spec_l1Cur_spoilt.j1 (k + 1) s x2 x7 false l p q = some (r, p', q') := by
      simp only [spec_l1Cur_spoilt.j1]
      rw [if_neg (by simp)]
      exact ⟨_, _, _, rfl⟩
    rw [spec_l1Cur_spoilt.l0]
    by_cases h0 : x7 > 0
    · rw [if_pos h0]
      by_cases hz : (s.size : Int) > 0
      · rw [show decide ((s.size : Int) > 0) = true from decide_eq_true hz]
        obtain ⟨a, p1, q1, e1, a0, a1, c1⟩ := pick_some l hl p q (s.size : Int) n h (by omega)
        obtain ⟨b, p2, q2, e2, b0, b1, c2⟩ := pick_some l hl p1 q1 (x2.size : Int) _ c1 (by omega)
        obtain ⟨c, p3, q3, e3, c0, _, c3⟩ := pick_some l hl p2 q2 3 _ c2 (by omega)
        have ha : a < (s.size : Int) := by rcases a1 with h | h <;> omega
        have hb : b < (x2.size : Int) := by rcases b1 with h | h <;> omega
        have z1 : (s.extract 0 a.toNat).size = a.toNat := by rw [ByteArray.size_extract]; omega
        have z2 : (s.extract a.toNat s.size).size = s.size - a.toNat := by rw [ByteArray.size_extract]; omega
        have z3 : (s.extract (a + 1).toNat s.size).size = s.size - (a + 1).toNat := by rw [ByteArray.size_extract]; omega
        have go : ∀ t : ByteArray, t.size ≤ s.size + 1 → ∃ r p' q', spec_l1Cur_spoilt.l0 k t x2 (x7 - 1) l p3 q3 = some (r, p', q') := fun t ht => ih k t (x7 - 1) p3 q3 _ (by omega) (by omega) (by omega) c3 (by omega) (by omega)
        simp only [spec_l1Cur_spoilt.j1, if_true, e1, e2, e3, Option.bind_some]
        rw [w64 (x7 - 1) (by omega) (by omega), w64 (a + 1) (by omega) (by omega)]
        rw [if_pos b0, if_pos hb]
        simp only [strOne, z1, z2, z3]
        by_cases k0 : c = 0
        · rw [if_pos k0, if_pos a0, if_pos (by omega), if_pos (by omega), if_pos (by omega)]
          exact go _ (by simp only [ByteArray.size_append, strOne, z1, z2]; omega)
        · rw [if_neg k0]
          by_cases k1 : c = 1
          · rw [if_pos k1, if_pos a0, if_pos (by omega), if_pos (by omega), if_pos (by omega), if_pos (by omega), if_pos (by omega)]
            exact go _ (by simp only [ByteArray.size_append, strOne, z1, z3]; omega)
          · rw [if_neg k1, if_pos a0, if_pos (by omega), if_pos (by omega), if_pos (by omega), if_pos (by omega)]
            exact go _ (by simp only [ByteArray.size_append, z1, z3]; omega)
      · rw [show decide ((s.size : Int) > 0) = false from decide_eq_false hz]
        exact hend
    · rw [if_neg h0]
      exact hend
def cText (c : List S41) : ByteArray × Bool := if codeB c = true then (mkB (joined c), true) else (⟨#[]⟩, false)
theorem both_text (c : List S41) (hc : c.length ≤ 1000) (k : Nat) (hk : 2000 < k) : spec_CodeText.f k c = some (cText c) ∧ impl_CodeText.f k c = some (cText c) ∧ (cText c).1.size ≤ 330 := by
  simp only [spec_CodeText.f, impl_CodeText.f, spec_good c (by omega) k (by omega), isCode_eq c k (by omega), Option.bind_some, cText]
  by_cases hcb : codeB c = true
  · rw [if_pos hcb, if_pos hcb, if_pos hcb]
    obtain ⟨r, e1, e2⟩ := code_text c hcb k (by omega)
    simp only [codeB, Bool.and_eq_true, decide_eq_true_eq] at hcb
    obtain ⟨r', f1, f2, f3⟩ := spec_loop c hcb.2 hcb.1 c.length k 0 ⟨#[]⟩ (by simp [bl, Lib.join_nil]) (by simp [ByteArray.size]) (by omega) (by omega) (by omega)
    have hj : joined c = Lib.join (bl c) [59] := rfl
    have h1 : r = mkB (joined c) := by rw [← e2, mkB_of]
    have h2 : r' = mkB (joined c) := by rw [hj, ← f2, mkB_of]
    refine ⟨?_, by rw [e1, h1]; rfl, by rw [← h2]; exact f3⟩
    rw [show (0 : Int) = ((0 : Nat) : Int) from rfl, f1, h2]
  · rw [if_neg hcb, if_neg hcb, if_neg hcb]
    exact ⟨rfl, rfl, by simp [ByteArray.size]⟩
theorem draw_code (l : List Int) (hl : ∀ x ∈ l, (Lit.int .u8 x).wf = true) (k : Nat) (hk : 100 < k) : ∃ c, spec_DrawCodeText.f k l = some c ∧ c.length ≤ 40 := by
  obtain ⟨c, p, s, e1, l1, c1⟩ := code3_some l hl k hk
  exact ⟨c, by simp only [spec_DrawCodeText.f, spec_DrawGoodCode.f, e1, Option.bind_some], l1⟩
theorem draw_text (l : List Int) (hl : ∀ x ∈ l, (Lit.int .u8 x).wf = true) (k : Nat) (hk : 2000 < k) : ∃ s, spec_DrawReadCode.f k l = some s := by
  obtain ⟨c, p, s, e1, l1, c1⟩ := code3_some l hl k (by omega)
  obtain ⟨e2, _, e3⟩ := both_text c (by omega) k hk
  obtain ⟨t, p2, s2, e4, c2⟩ := one_some l hl p s 3 _ c1 (by omega)
  simp only [spec_DrawReadCode.f, e1, e2, e4, Option.bind_some]
  cases t with
  | false => exact ⟨(cText c).1, by simp⟩
  | true =>
    obtain ⟨v, p3, s3, e5, v0, v1, c3⟩ := pick_some l hl p2 s2 3 _ c2 (by omega)
    obtain ⟨r, p', q', e6⟩ := spoilt_loop l hl ⟨#[97, 98, 61, 43, 59, 33, 126, 48, 53]⟩ rfl 3 k (cText c).1 v p3 s3 _ (by omega) (by omega) (by omega) c3 (by omega) (by omega)
    simp only [if_true, spec_l1Cur_spoilt.f, e5, e6, Option.bind_some]
    exact ⟨_, rfl⟩
theorem same_loop (l : List S41) (hl : l.length ≤ 1000) (d : Nat) : ∀ (k i : Nat), i ≤ l.length → l.length - i = d → d < k → laws_sameCode.l0 k l l (l.length : Int) (i : Int) = some true := by
  induction d with
  | zero =>
    intro k i hi hd hk
    obtain ⟨k, rfl⟩ : ∃ m, k = m + 1 := ⟨k - 1, by omega⟩
    simp only [laws_sameCode.l0]
    rw [if_neg (by omega)]
  | succ d ih =>
    intro k i hi hd hk
    obtain ⟨k, rfl⟩ : ∃ m, k = m + 1 := ⟨k - 1, by omega⟩
    simp only [laws_sameCode.l0, beq_self_eq_true, Bool.not_true, Bool.or_self, Bool.false_eq_true, if_false]
    rw [if_pos (by omega), if_pos (by omega), if_pos (by omega), if_pos (by omega), w64 _ (by omega) (by omega)]
    exact ih k (i + 1) (by omega) (by omega) (by omega)
theorem same_code (l : List S41) (hl : l.length ≤ 1000) (k : Nat) (hk : 1000 < k) : laws_sameCode.f k l l = some true := by
  unfold laws_sameCode.f
  rw [if_pos rfl]
  exact same_loop l hl l.length k 0 (by omega) (by omega) (by omega)
/-- A text that code has is read as that code. -/
theorem read_text (c : List S41) (hc : codeB c = true) (hs : (joined c).length ≤ 400) : readAns (mkB (joined c)) = (c, true) := by
  have hg := hc
  simp only [codeB, Bool.and_eq_true, decide_eq_true_eq] at hg
  unfold readAns
  rw [mkB_size, mkB_data, if_neg (by omega)]
  cases c with
  | nil => rw [if_pos (by simp [joined, Lib.join_nil])]
  | cons x xs =>
    have hsp := spl_joined x xs hg.1
    rw [if_neg ?_]
    · unfold ans
      rw [hsp, readAll_txt stepL stepA _ hg.1]
      simp only
      rw [if_pos hc]
    · intro e
      rw [e] at hsp
      have h1 : txtL x = [] := by simpa [spl] using (List.cons.inj hsp).1.symm
      obtain ⟨⟨d0, d1⟩, ⟨a0, a1⟩, ⟨b0, b1⟩, ⟨n0, n1⟩, ho⟩ := of_decide_eq_true (List.all_eq_true.1 hg.1 x (by simp))
      rcases txt_shape x (List.all_eq_true.1 hg.1 x (by simp)) with ⟨_, _, _, e⟩ | ⟨_, _, _, e⟩ | ⟨_, _, e⟩ | ⟨_, _, _, _, e⟩ <;> rw [e] at h1 <;> cases h1
/-- What was read has the text that it was read from. -/
theorem text_read (s : ByteArray) (h : (readAns s).2 = true) : cText (readAns s).1 = (s, true) := by
  have hn : codeB ([] : List S41) = true := rfl
  unfold readAns at h ⊢
  by_cases h0 : (s.size : Int) > 400
  · rw [if_pos h0] at h; cases h
  · rw [if_neg h0] at h ⊢
    by_cases h1 : s.data.toList = []
    · rw [if_pos h1]
      simp only [cText]
      rw [if_pos hn]
      have : mkB (joined []) = s := by rw [← mkB_of s, h1]; rfl
      rw [this]
    · rw [if_neg h1] at h ⊢
      unfold ans at h ⊢
      cases hr : readAll stepL (spl s.data.toList) with
      | none => rw [hr] at h; cases h
      | some xs =>
        rw [hr] at h
        simp only at h ⊢
        by_cases hc : codeB xs = true
        · rw [if_pos hc]
          simp only [cText]
          rw [if_pos hc]
          simp only [codeB, Bool.and_eq_true, decide_eq_true_eq] at hc
          have hp := readAll_back _ _ hr hc.1
          have hj : joined xs = s.data.toList := by unfold joined; rw [← hp, join_spl]
          rw [hj, mkB_of]
        · rw [if_neg hc] at h; cases h
theorem law_j2 (l : List Int) (hl : ∀ x ∈ l, (Lit.int .u8 x).wf = true) (k : Nat) (hk : 3000 < k) : laws_FnCodeText.j2 k l = some true := by
  obtain ⟨k, rfl⟩ : ∃ m, k = m + 1 := ⟨k - 1, by omega⟩
  obtain ⟨s, e1⟩ := draw_text l hl k (by omega)
  obtain ⟨e2, e3⟩ := both_read s k (by omega)
  have hlen := readAns_len s
  have q1 := same_code (readAns s).1 (by omega) k (by omega)
  obtain ⟨_, q2, _⟩ := both_text (readAns s).1 (by omega) k (by omega)
  simp only [laws_FnCodeText.j2, e1, e2, e3, q1, q2, Option.bind_some, bne_self_eq_false, Bool.false_eq_true, if_false, if_true]
  by_cases hb : (readAns s).2 = true
  · rw [if_pos hb, text_read s hb]
    simp
  · rw [if_neg hb]
theorem FnCodeText (a b : List Int) (_ : a.length ≤ 9223372036854775807) (ha : ∀ x ∈ a, (Lit.int .u8 x).wf = true) (_ : a.length * 1 ≤ 140737488351232) (_ : b.length ≤ 9223372036854775807) (hb : ∀ x ∈ b, (Lit.int .u8 x).wf = true) (_ : b.length * 1 ≤ 140737488351232) : ∃ k, laws_FnCodeText.f k a b = some true := by
  refine ⟨4000, ?_⟩
  unfold laws_FnCodeText.f
  split
  · rfl
  · obtain ⟨c, e1, l1⟩ := draw_code a ha 4000 (by omega)
    obtain ⟨e2, e3, hz⟩ := both_text c (by omega) 4000 (by omega)
    have hj := law_j2 b hb 3998 (by omega)
    simp only [e1, e2, e3, Option.bind_some, bne_self_eq_false, Bool.false_eq_true, if_false, laws_FnCodeText.j0]
    by_cases hc : codeB c = true
    · have ht : cText c = (mkB (joined c), true) := by unfold cText; rw [if_pos hc]
      rw [ht] at hz
      simp only [ht, if_true]
      rw [show decide (((mkB (joined c)).size : Int) ≤ 400) = true from decide_eq_true (by simp only at hz; omega)]
      obtain ⟨_, r1⟩ := both_read (mkB (joined c)) 3998 (by omega)
      simp only at hz
      rw [mkB_size] at hz
      rw [read_text c hc (by omega)] at r1
      simp only [laws_FnCodeText.j1, if_true, r1, Option.bind_some, same_code c (by omega) 3998 (by omega)]
      exact hj
    · have ht : cText c = (⟨#[]⟩, false) := by unfold cText; rw [if_neg hc]
      simp only [ht, Bool.false_eq_true, if_false, laws_FnCodeText.j1]
      exact hj

end Go.Proofs.YtonapnobpllfoaaDoor.Pure

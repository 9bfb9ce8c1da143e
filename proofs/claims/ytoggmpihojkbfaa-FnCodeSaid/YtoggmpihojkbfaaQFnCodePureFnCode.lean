/- The pure statement of FnCode: the program returns what the reference returns, for all arguments. -/
import Derived.Test.YtoggmpihojkbfaaQFnCodeXFnCodex10
import Derived.Test.YtoggmpihojkbfaaQFnCodeBits
namespace Go.Proofs.Ytoggmpihojkbfaa.Pure
open Go.RowKit Go.Proofs.Ytoggmpihojkbfaa.XFnCode Go.Proofs.YtoggmpihojkbfaaW.PrintWords Go.Proofs.YtoggmpihojkbfaaW.PrintLast Go.Proofs.YtoggmpihojkbfaaW.PrintMore Go.Proofs.YtoggmpihojkbfaaBits

theorem rd_at45 (l : List S45) (i : Nat) (h : i < l.length) : rd_T45 l i = l[i] := by
  simp [rd_T45, List.getD_eq_getElem?_getD, List.getElem?_eq_getElem h]

def goodB (x : S45) : Bool := decide ((0 ≤ x.f1 ∧ x.f1 ≤ 7) ∧ (0 ≤ x.f2 ∧ x.f2 ≤ 7) ∧ (0 ≤ x.f3 ∧ x.f3 ≤ 7) ∧ (0 ≤ x.f4 ∧ x.f4 ≤ 65535) ∧ (x.f0 = 1 ∧ x.f2 = 0 ∧ x.f3 = 0 ∨ x.f0 = 2 ∧ x.f3 = 0 ∧ x.f4 = 0 ∨ (3 ≤ x.f0 ∧ x.f0 ≤ 7) ∧ x.f4 = 0 ∨ x.f0 = 8 ∧ x.f1 = 0 ∧ x.f3 = 0 ∧ x.f4 = 0))
theorem inS (a l h : Int) : spec_l1In.f a l h = some (decide (l ≤ a ∧ a ≤ h)) := by
  simp only [spec_l1In.f]
  by_cases h1 : a ≥ l <;> simp [*]
theorem inI (a l h : Int) : impl_in.f a l h = some (decide (l ≤ a ∧ a ≤ h)) := by
  simp only [impl_in.f]
  by_cases h1 : a ≥ l <;> simp [*]
theorem good_spec (x : S45) : spec_l3Good.f x.f0 x.f1 x.f2 x.f3 x.f4 = some (goodB x) := by
  simp only [spec_l3Good.f, spec_l3Name.f, spec_l3Two.f, spec_l1Word.f, inS, Option.bind_some, goodB]
  repeat' split
  all_goals first | rfl | (congr 1; simp_all; done) | (congr 1; simp_all; omega) | (congr 1; rw [Bool.eq_iff_iff]; simp_all; done) | (congr 1; rw [Bool.eq_iff_iff]; simp_all; omega)
theorem good_j0t (k : Nat) (a b c d e : Int) : impl_isInstr.j0 (k + 1) true a b c d e = some false := by simp [impl_isInstr.j0]
theorem good_j0f (k : Nat) (a b c d e : Int) : impl_isInstr.j0 (k + 1 + 1) false a b c d e = some (decide (a = 1 ∧ c = 0 ∧ d = 0 ∨ a = 2 ∧ d = 0 ∧ e = 0 ∨ (3 ≤ a ∧ a ≤ 7) ∧ e = 0 ∨ a = 8 ∧ b = 0 ∧ d = 0 ∧ e = 0)) := by
  simp only [impl_isInstr.j0, impl_isInstr.j1, Bool.false_eq_true, if_false]
  repeat' split
  all_goals first | rfl | (congr 1; simp_all; done) | (congr 1; simp_all; omega) | (congr 1; rw [Bool.eq_iff_iff]; simp_all; done) | (congr 1; rw [Bool.eq_iff_iff]; simp_all; omega)
theorem good_impl (x : S45) (k : Nat) (hk : 2 ≤ k) : impl_isInstr.f k x.f0 x.f1 x.f2 x.f3 x.f4 = some (goodB x) := by
  obtain ⟨k, rfl⟩ : ∃ m, k = m + 1 + 1 := ⟨k - 2, by omega⟩
  simp only [impl_isInstr.f, impl_isName.f, impl_isWord.f, inI, Option.bind_some, goodB]
  by_cases h1 : 0 ≤ x.f1 ∧ x.f1 ≤ 7
  · by_cases h2 : 0 ≤ x.f2 ∧ x.f2 ≤ 7
    · by_cases h3 : 0 ≤ x.f3 ∧ x.f3 ≤ 7
      · by_cases h4 : 0 ≤ x.f4 ∧ x.f4 ≤ 65535
        · simp only [eq_true h1, eq_true h2, eq_true h3, eq_true h4, decide_true, if_true, Bool.not_true, good_j0f, true_and]
        · simp only [eq_true h1, eq_true h2, eq_true h3, eq_false h4, decide_true, if_true, decide_false, Bool.not_false, good_j0t, false_and, and_false]
      · simp only [eq_true h1, eq_true h2, eq_false h3, decide_true, if_true, decide_false, Bool.false_eq_true, if_false, good_j0t, false_and, and_false]
    · simp only [eq_true h1, eq_false h2, decide_true, if_true, decide_false, Bool.false_eq_true, if_false, good_j0t, false_and, and_false]
  · simp only [eq_false h1, decide_false, Bool.false_eq_true, if_false, good_j0t, false_and]

theorem goodCode_loop (l : List S45) (hl : l.length ≤ 4611686018427387904) (d : Nat) : ∀ (k i : Nat), i ≤ l.length → l.length - i = d → d < k →
    spec_GoodCode.l0 k l l (l.length : Int) i = some ((l.drop i).all goodB && decide (l.length ≤ 30)) := by
  induction d with
  | zero =>
    intro k i hi hd hk
    obtain ⟨k, rfl⟩ : ∃ m, k = m + 1 := ⟨k - 1, by omega⟩
    simp only [spec_GoodCode.l0]
    rw [if_neg (by omega), List.drop_of_length_le (by omega)]
    simp
    omega
  | succ d ih =>
    intro k i hi hd hk
    obtain ⟨k, rfl⟩ : ∃ m, k = m + 1 := ⟨k - 1, by omega⟩
    have hlt : i < l.length := by omega
    simp only [spec_GoodCode.l0, good_spec, Option.bind_some]
    rw [if_pos (by omega), if_pos (by omega), if_pos (by omega), w64 _ (by omega) (by omega), rd_at45 l i hlt, List.drop_eq_getElem_cons hlt, List.all_cons]
    cases goodB l[i] with
    | true => simpa using ih k (i + 1) (by omega) (by omega) (by omega)
    | false => simp
def codeB (l : List S45) : Bool := l.all goodB && decide (l.length ≤ 30)
theorem spec_good (l : List S45) (hl : l.length ≤ 4611686018427387904) (k : Nat) (hk : l.length < k) : spec_GoodCode.f k l = some (codeB l) := by
  have := goodCode_loop l hl l.length k 0 (by omega) (by omega) (by omega)
  simpa [spec_GoodCode.f, codeB] using this
theorem index_loop (l : List S45) (hl : l.length ≤ 4611686018427387904) (d : Nat) : ∀ (k i : Nat), i ≤ l.length → l.length - i = d → d + 3 < k →
    ∃ r, slices_IndexFunc_at46.l0 k l (l.length : Int) i = some r ∧ decide (r ≥ 0) = !(l.drop i).all goodB := by
  induction d with
  | zero =>
    intro k i hi hd hk
    obtain ⟨k, rfl⟩ : ∃ m, k = m + 1 := ⟨k - 1, by omega⟩
    simp only [slices_IndexFunc_at46.l0]
    rw [if_neg (by omega), List.drop_of_length_le (by omega)]
    exact ⟨-1, rfl, by simp⟩
  | succ d ih =>
    intro k i hi hd hk
    obtain ⟨k, rfl⟩ : ∃ m, k = m + 1 := ⟨k - 1, by omega⟩
    have hlt : i < l.length := by omega
    simp only [slices_IndexFunc_at46.l0, impl_isCode_1.f, good_impl _ k (by omega), Option.bind_some]
    rw [if_pos (by omega), if_pos (by omega), if_pos (by omega), w64 _ (by omega) (by omega), rd_at45 l i hlt, List.drop_eq_getElem_cons hlt, List.all_cons]
    cases goodB l[i] with
    | true =>
      obtain ⟨r, h1, h2⟩ := ih k (i + 1) (by omega) (by omega) (by omega)
      exact ⟨r, by simpa using h1, by simpa using h2⟩
    | false => exact ⟨i, by simp, by simp⟩
theorem isCode_eq (l : List S45) (k : Nat) (hk : 40 < k) : impl_isCode.f k l = some (codeB l) := by
  unfold impl_isCode.f codeB
  by_cases h : (l.length : Int) ≤ 30
  · rw [if_pos h]
    obtain ⟨r, h1, h2⟩ := index_loop l (by omega) l.length k 0 (by omega) (by omega) (by omega)
    simp only [slices_ContainsFunc_at46.f, slices_IndexFunc_at46.f]
    rw [show (0 : Int) = ((0 : Nat) : Int) from rfl, h1]
    simp only [Option.bind_some]
    rw [show ((0 : Nat) : Int) = 0 from rfl, h2, show decide (l.length ≤ 30) = true from decide_eq_true (by omega)]
    simp
  · rw [if_neg h, show decide (l.length ≤ 30) = false from decide_eq_false (by omega)]
    simp

def wB (x : Int) : Bool := decide (0 ≤ x ∧ x ≤ 65535)
theorem rd_atZ (l : List Int) (i : Nat) (h : i < l.length) : rd l i = l[i] := by
  simp [rd, List.getD_eq_getElem?_getD, List.getElem?_eq_getElem h]
theorem words_loop (l : List Int) (hl : l.length ≤ 4611686018427387904) (d : Nat) : ∀ (k i : Nat), i ≤ l.length → l.length - i = d → d < k →
    spec_l3Words.l0 k l l (l.length : Int) i = some ((l.drop i).all wB && decide (l.length = 8)) := by
  induction d with
  | zero =>
    intro k i hi hd hk
    obtain ⟨k, rfl⟩ : ∃ m, k = m + 1 := ⟨k - 1, by omega⟩
    simp only [spec_l3Words.l0]
    rw [if_neg (by omega), List.drop_of_length_le (by omega)]
    by_cases h8 : l.length = 8
    · simp [h8]
    · have : ¬((l.length : Int) = 8) := by omega
      simp [h8, this]
  | succ d ih =>
    intro k i hi hd hk
    obtain ⟨k, rfl⟩ : ∃ m, k = m + 1 := ⟨k - 1, by omega⟩
    have hlt : i < l.length := by omega
    simp only [spec_l3Words.l0, spec_l1Word.f, inS, Option.bind_some]
    rw [if_pos (by omega), if_pos (by omega), if_pos (by omega), w64 _ (by omega) (by omega), rd_atZ l i hlt, List.drop_eq_getElem_cons hlt, List.all_cons]
    have e : decide (0 ≤ l[i] ∧ l[i] ≤ 65535) = wB l[i] := rfl
    rw [e]
    cases wB l[i] with
    | false => simp
    | true => simpa using ih k (i + 1) (by omega) (by omega) (by omega)
def wordsB (l : List Int) : Bool := l.all wB && decide (l.length = 8)
theorem spec_words (l : List Int) (hl : l.length ≤ 4611686018427387904) (k : Nat) (hk : l.length < k) : spec_l3Words.f k l = some (wordsB l) := by
  have := words_loop l hl l.length k 0 (by omega) (by omega) (by omega)
  simpa [spec_l3Words.f, wordsB] using this
theorem indexW_loop (l : List Int) (hl : l.length ≤ 4611686018427387904) (d : Nat) : ∀ (k i : Nat), i ≤ l.length → l.length - i = d → d < k →
    ∃ r, slices_IndexFunc_at38.l0 k l (l.length : Int) i = some r ∧ decide (r ≥ 0) = !(l.drop i).all wB := by
  induction d with
  | zero =>
    intro k i hi hd hk
    obtain ⟨k, rfl⟩ : ∃ m, k = m + 1 := ⟨k - 1, by omega⟩
    simp only [slices_IndexFunc_at38.l0]
    rw [if_neg (by omega), List.drop_of_length_le (by omega)]
    exact ⟨-1, rfl, by simp⟩
  | succ d ih =>
    intro k i hi hd hk
    obtain ⟨k, rfl⟩ : ∃ m, k = m + 1 := ⟨k - 1, by omega⟩
    have hlt : i < l.length := by omega
    simp only [slices_IndexFunc_at38.l0, impl_RunCode_1.f, impl_isWord.f, inI, Option.bind_some]
    rw [if_pos (by omega), if_pos (by omega), if_pos (by omega), w64 _ (by omega) (by omega), rd_atZ l i hlt, List.drop_eq_getElem_cons hlt, List.all_cons]
    have e : decide (0 ≤ l[i] ∧ l[i] ≤ 65535) = wB l[i] := rfl
    rw [e]
    cases wB l[i] with
    | true =>
      obtain ⟨r, h1, h2⟩ := ih k (i + 1) (by omega) (by omega) (by omega)
      exact ⟨r, by simpa using h1, by simpa using h2⟩
    | false => exact ⟨i, by simp, by simp⟩
theorem notWords (l : List Int) (h8 : l.length = 8) (k : Nat) (hk : 40 < k) : slices_ContainsFunc_at38.f k l = some (!wordsB l) := by
  obtain ⟨r, h1, h2⟩ := indexW_loop l (by omega) l.length k 0 (by omega) (by omega) (by omega)
  simp only [slices_ContainsFunc_at38.f, slices_IndexFunc_at38.f]
  rw [show (0 : Int) = ((0 : Nat) : Int) from rfl, h1]
  simp only [Option.bind_some]
  rw [show ((0 : Nat) : Int) = 0 from rfl, h2]
  simp [wordsB, h8]

def dd (op a b : Int) : Int := if op = 3 then Go.bits .and .i64 (wrap64 (a + b)) 65535 else if op = 4 then Go.bits .and .i64 (wrap64 (a - b)) 65535 else if op = 5 then Go.bits .and .i64 (wrap64 (a * b)) 65535 else if op = 6 then (if a < b then 1 else 0) else (if a = b then 1 else 0)
theorem do_spec (op a b : Int) : spec_l3Do.f op a b = some (dd op a b) := by
  simp only [spec_l3Do.f, spec_l3Bit.f, dd]
  by_cases h1 : a < b <;> by_cases h2 : a = b <;> repeat' split
  all_goals first | rfl | omega | (simp_all; done) | (simp_all; omega)
theorem do_impl (op a b : Int) (h0 : 3 ≤ op) (h1 : op ≤ 7) : impl_reckon.f op a b = some (dd op a b) := by
  simp only [impl_reckon.f, dd]
  repeat' split
  all_goals first | rfl | omega

/-- A step: the words and what is told. -/
def rstp (s : List Int × List Int) (x : S45) : List Int × List Int := if x.f0 = 1 then (s.1.set x.f1.toNat x.f4, s.2) else if x.f0 = 2 then (s.1.set x.f1.toNat (rd s.1 x.f2), s.2) else if x.f0 = 8 then (s.1, s.2 ++ [rd s.1 x.f2]) else (s.1.set x.f1.toNat (dd x.f0 (rd s.1 x.f2) (rd s.1 x.f3)), s.2)
theorem rstp_len (s : List Int × List Int) (x : S45) : (rstp s x).1.length = s.1.length ∧ (rstp s x).2.length ≤ s.2.length + 1 := by
  unfold rstp
  repeat' split
  all_goals simp
theorem runs_len (c : List S45) : ∀ s : List Int × List Int, (c.foldl rstp s).1.length = s.1.length ∧ (c.foldl rstp s).2.length ≤ s.2.length + c.length := by
  induction c with
  | nil => intro s; exact ⟨rfl, Nat.le_refl _⟩
  | cons x c ih =>
    intro s
    rw [List.foldl_cons, List.length_cons]
    have h1 := ih (rstp s x)
    have h2 := rstp_len s x
    omega
theorem run_spec (c : List S45) (hc : c.length ≤ 30) (hg : c.all goodB = true) (d : Nat) : ∀ (k i : Nat) (v o : List Int), v.length = 8 → o.length + d ≤ 1000000 → i ≤ c.length → c.length - i = d → d + 3 < k →
    spec_l3Run.l0 k v o c (c.length : Int) i = some (((c.drop i).foldl rstp (v, o)).2, ((c.drop i).foldl rstp (v, o)).1) := by
  induction d with
  | zero =>
    intro k i v o hv ho hi hd hk
    obtain ⟨k, rfl⟩ : ∃ m, k = m + 1 := ⟨k - 1, by omega⟩
    have c1 : ¬((i : Int) < (c.length : Int)) := by omega
    simp only [spec_l3Run.l0, if_neg c1]
    rw [List.drop_of_length_le (by omega)]
    rfl
  | succ d ih =>
    intro k i v o hv ho hi hd hk
    obtain ⟨k, rfl⟩ : ∃ m, k = m + 1 := ⟨k - 1, by omega⟩
    have hlt : i < c.length := by omega
    have hgi : goodB c[i] = true := List.all_eq_true.1 hg _ (List.getElem_mem hlt)
    have c1 : (i : Int) < (c.length : Int) := by omega
    have c2 : (0 : Int) ≤ i := by omega
    have c3 : o.length < 17592186044416 := by omega
    simp only [spec_l3Run.l0, if_pos c1, if_pos c2, if_pos c3, w64 ((i : Int) + 1) (by omega) (by omega), rd_at45 c i hlt, do_spec, Option.bind_some]
    rw [List.drop_eq_getElem_cons hlt, List.foldl_cons]
    have ih' := fun v o hv ho => ih k (i + 1) v o hv ho (by omega) (by omega) (by omega)
    generalize c[i] = x at *
    have hgi := of_decide_eq_true hgi
    obtain ⟨⟨d0, d1⟩, ⟨a0, a1⟩, ⟨b0, b1⟩, ⟨n0, n1⟩, hx⟩ := hgi
    have l1 : x.f1 < (v.length : Int) := by omega
    have l2 : x.f2 < (v.length : Int) := by omega
    have l3 : x.f3 < (v.length : Int) := by omega
    simp only [if_pos d0, if_pos l1, if_pos a0, if_pos l2, if_pos b0, if_pos l3]
    unfold rstp
    repeat' split
    all_goals exact ih' _ _ (by simpa using hv) (by first | omega | (simp; omega))
theorem run_impl (c : List S45) (hc : c.length ≤ 30) (hg : c.all goodB = true) (d : Nat) : ∀ (k i : Nat) (v o : List Int), v.length = 8 → o.length + d ≤ 1000000 → i ≤ c.length → c.length - i = d → d + 3 < k →
    impl_RunCode.l0 k v o c (c.length : Int) i = some (((c.drop i).foldl rstp (v, o)).2, ((c.drop i).foldl rstp (v, o)).1, true) := by
  induction d with
  | zero =>
    intro k i v o hv ho hi hd hk
    obtain ⟨k, rfl⟩ : ∃ m, k = m + 1 := ⟨k - 1, by omega⟩
    have c1 : ¬((i : Int) < (c.length : Int)) := by omega
    simp only [impl_RunCode.l0, if_neg c1]
    rw [List.drop_of_length_le (by omega)]
    rfl
  | succ d ih =>
    intro k i v o hv ho hi hd hk
    obtain ⟨k, rfl⟩ : ∃ m, k = m + 1 := ⟨k - 1, by omega⟩
    have hlt : i < c.length := by omega
    have hgi : goodB c[i] = true := List.all_eq_true.1 hg _ (List.getElem_mem hlt)
    have c1 : (i : Int) < (c.length : Int) := by omega
    have c2 : (0 : Int) ≤ i := by omega
    have c3 : o.length < 17592186044416 := by omega
    simp only [impl_RunCode.l0, if_pos c1, if_pos c2, if_pos c3, w64 ((i : Int) + 1) (by omega) (by omega), rd_at45 c i hlt]
    rw [List.drop_eq_getElem_cons hlt, List.foldl_cons]
    have ih' := fun v o hv ho => ih k (i + 1) v o hv ho (by omega) (by omega) (by omega)
    generalize c[i] = x at *
    have hgi := of_decide_eq_true hgi
    obtain ⟨⟨d0, d1⟩, ⟨a0, a1⟩, ⟨b0, b1⟩, ⟨n0, n1⟩, hx⟩ := hgi
    have l1 : x.f1 < (v.length : Int) := by omega
    have l2 : x.f2 < (v.length : Int) := by omega
    have l3 : x.f3 < (v.length : Int) := by omega
    simp only [if_pos d0, if_pos l1, if_pos a0, if_pos l2, if_pos b0, if_pos l3]
    by_cases h8 : x.f0 = 8
    · have e : rstp (v, o) x = (v, o ++ [rd v x.f2]) := by unfold rstp; rw [if_neg (by omega), if_neg (by omega), if_pos h8]
      rw [if_pos h8, e]
      exact ih' _ _ hv (by simp; omega)
    · rw [if_neg h8]
      by_cases h1 : x.f0 = 1
      · have e : rstp (v, o) x = (v.set x.f1.toNat x.f4, o) := by unfold rstp; rw [if_pos h1]
        rw [if_pos h1, e]
        exact ih' _ _ (by simpa using hv) (by omega)
      · rw [if_neg h1]
        by_cases h2 : x.f0 = 2
        · have e : rstp (v, o) x = (v.set x.f1.toNat (rd v x.f2), o) := by unfold rstp; rw [if_neg h1, if_pos h2]
          rw [if_pos h2, e]
          exact ih' _ _ (by simpa using hv) (by omega)
        · have e : rstp (v, o) x = (v.set x.f1.toNat (dd x.f0 (rd v x.f2) (rd v x.f3)), o) := by unfold rstp; rw [if_neg h1, if_neg h2, if_neg h8]
          rw [if_neg h2, do_impl x.f0 _ _ (by omega) (by omega), e]
          simp only [Option.bind_some]
          exact ih' _ _ (by simpa using hv) (by omega)
def ans (c : List S45) (v : List Int) : List Int × List Int × Bool := if codeB c = true then (if wordsB v = true then ((c.foldl rstp (v, [])).2, (c.foldl rstp (v, [])).1, true) else ([], [], false)) else ([], [], false)
theorem ans_len (c : List S45) (v : List Int) : (ans c v).1.length ≤ 30 ∧ (ans c v).2.1.length ≤ 8 := by
  unfold ans
  split
  · rename_i hc
    split
    · rename_i h
      simp only [wordsB, Bool.and_eq_true, decide_eq_true_eq] at h
      simp only [codeB, Bool.and_eq_true, decide_eq_true_eq] at hc
      have := runs_len c (v, [])
      simp only [List.length_nil] at this
      simp only
      omega
    · simp
  · simp
theorem both_s (c : List S45) (hc : c.length ≤ 1048576) (v : List Int) (hv : v.length ≤ 1048576) (k : Nat) (hk : 1048700 < k) : spec_RunCode.f k c v = some (ans c v) := by
  simp only [ans, spec_RunCode.f, spec_good c (by omega) k (by omega), spec_words v (by omega) k (by omega), Option.bind_some, List.length_nil, List.nil_append]
  cases hcb : codeB c with
  | false => simp
  | true =>
    cases hfb : wordsB v with
    | false => simp
    | true =>
      simp only [codeB, Bool.and_eq_true, decide_eq_true_eq] at hcb
      simp only [wordsB, Bool.and_eq_true, decide_eq_true_eq] at hfb
      have := run_spec c hcb.2 hcb.1 c.length k 0 v [] hfb.2 (by simp; omega) (by omega) (by omega) (by omega)
      simp only [List.drop_zero] at this
      have h0 : (0 : Nat) + v.length < 17592186044416 := by omega
      simp only [if_true, if_pos h0, spec_l3Run.f]
      rw [show (0 : Int) = ((0 : Nat) : Int) from rfl, this]
      simp
theorem both_i (c : List S45) (hc : c.length ≤ 1048576) (v : List Int) (_ : v.length ≤ 1048576) (k : Nat) (hk : 1048700 < k) : impl_RunCode.f k c v = some (ans c v) := by
  obtain ⟨k, rfl⟩ : ∃ m, k = m + 1 := ⟨k - 1, by omega⟩
  simp only [ans, impl_RunCode.f, isCode_eq c (k + 1) (by omega), Option.bind_some]
  cases hcb : codeB c with
  | false => simp [impl_RunCode.j0]
  | true =>
    by_cases h8 : (v.length : Int) = 8
    · rw [notWords v (by omega) (k + 1) (by omega)]
      simp only [if_true, if_pos h8, Option.bind_some, impl_RunCode.j0, List.length_nil, List.nil_append]
      cases hfb : wordsB v with
      | false => simp
      | true =>
        simp only [codeB, Bool.and_eq_true, decide_eq_true_eq] at hcb
        have := run_impl c hcb.2 hcb.1 c.length k 0 v [] (by omega) (by simp; omega) (by omega) (by omega) (by omega)
        simp only [List.drop_zero] at this
        have h0 : (0 : Nat) + v.length < 17592186044416 := by omega
        simp only [Bool.not_true, Bool.false_eq_true, if_false, if_true, if_pos h0]
        rw [show (0 : Int) = ((0 : Nat) : Int) from rfl, this]
    · have hfb : wordsB v = false := by simp only [wordsB, Bool.and_eq_false_iff, decide_eq_false_iff_not]; right; omega
      simp [h8, hfb, impl_RunCode.j0]

theorem wf8 {x : Int} (h : (Lit.int .u8 x).wf = true) : 0 ≤ x ∧ x ≤ 255 := by
  have h' : IntKind.u8.min ≤ x ∧ x ≤ IntKind.u8.max := by simpa [Lit.wf] using h
  exact h'
theorem and255 (x : Int) : 0 ≤ wrap64 (Go.bits .and .u64 x 255) ∧ wrap64 (Go.bits .and .u64 x 255) ≤ 255 := by
  have e : Go.bits .and .u64 x 255 = IntKind.u64.wrap ((BitVec.ofInt 64 x &&& BitVec.ofInt 64 255).toNat : Int) := rfl
  have h : (BitVec.ofInt 64 x &&& BitVec.ofInt 64 255).toNat ≤ 255 := by
    rw [BitVec.toNat_and]
    exact Nat.and_le_right
  rw [e]
  generalize (BitVec.ofInt 64 x &&& BitVec.ofInt 64 255).toNat = q at h
  have e2 : IntKind.u64.wrap (q : Int) = q := by
    simp [IntKind.wrap, IntKind.bits, IntKind.signed]; omega
  rw [e2, w64 _ (by omega) (by omega)]
  omega
/-- The place of the reader: how far it has read at most. -/
def Cur (p : Int) (n : Nat) : Prop := 0 ≤ p ∧ p ≤ n ∧ n ≤ 4000000000000000000
theorem next_some (l : List Int) (hl : ∀ x ∈ l, (Lit.int .u8 x).wf = true) (p s : Int) (n : Nat) (h : Cur p n) (hn : n ≤ 3000000000000000000) : ∃ v p' s', spec_l1Cur_next.f l p s = some (v, p', s') ∧ 0 ≤ v ∧ v ≤ 255 ∧ Cur p' (n + 1) := by
  obtain ⟨h0, h1, h2⟩ := h
  have hp : wrap64 (p + 1) = p + 1 := w64 _ (by omega) (by omega)
  have hc : Cur (p + 1) (n + 1) := ⟨by omega, by omega, by omega⟩
  unfold spec_l1Cur_next.f
  simp only [hp]
  by_cases hlt : p < (l.length : Int)
  · have hm : rd l p ∈ l := by
      have : p.toNat < l.length := by omega
      simp only [rd, List.getD_eq_getElem?_getD, List.getElem?_eq_getElem this, Option.getD_some]
      exact List.getElem_mem this
    have hb := wf8 (hl _ hm)
    rw [if_pos hlt, if_pos h0]
    split
    · exact ⟨_, _, _, rfl, by rw [w64 _ (by omega) (by omega)]; exact hb.1, by rw [w64 _ (by omega) (by omega)]; exact hb.2, hc⟩
    · refine ⟨_, _, _, rfl, ?_, ?_, hc⟩
      · exact (and255 _).1
      · exact (and255 _).2
  · rw [if_neg hlt]
    split
    · exact ⟨_, _, _, rfl, by omega, by omega, hc⟩
    · refine ⟨_, _, _, rfl, ?_, ?_, hc⟩
      · exact (and255 _).1
      · exact (and255 _).2
theorem pick_some (l : List Int) (hl : ∀ x ∈ l, (Lit.int .u8 x).wf = true) (p s m : Int) (n : Nat) (h : Cur p n) (hn : n ≤ 2900000000000000000) : ∃ v p' s', spec_l1Cur_pick.f l p s m = some (v, p', s') ∧ 0 ≤ v ∧ (v < m ∨ v = 0) ∧ Cur p' (n + 2) := by
  unfold spec_l1Cur_pick.f
  by_cases hm : m ≤ 1
  · rw [if_pos hm]
    exact ⟨0, p, s, rfl, by omega, .inr rfl, h.1, by have := h.2.1; omega, by omega⟩
  · rw [if_neg hm]
    obtain ⟨v, p1, s1, e1, v0, v1, c1⟩ := next_some l hl p s n h (by omega)
    rw [e1]
    simp only [Option.bind_some]
    by_cases h2 : m > 200
    · obtain ⟨u, p2, s2, e2, u0, u1, c2⟩ := next_some l hl p1 s1 (n + 1) c1 (by omega)
      rw [if_pos h2, e2]
      simp only [Option.bind_some]
      rw [if_neg (by omega), w64 (v * 256) (by omega) (by omega), w64 (v * 256 + u) (by omega) (by omega), Int.tmod_eq_emod_of_nonneg (by omega)]
      exact ⟨_, _, _, rfl, Int.emod_nonneg _ (by omega), .inl (Int.emod_lt_of_pos _ (by omega)), c2⟩
    · rw [if_neg h2, if_neg (by omega), Int.tmod_eq_emod_of_nonneg v0]
      exact ⟨_, _, _, rfl, Int.emod_nonneg _ (by omega), .inl (Int.emod_lt_of_pos _ (by omega)), c1.1, by have := c1.2.1; omega, by omega⟩

theorem one_some (l : List Int) (hl : ∀ x ∈ l, (Lit.int .u8 x).wf = true) (p s m : Int) (n : Nat) (h : Cur p n) (hn : n ≤ 2900000000000000000) : ∃ v p' s', spec_l1Cur_one.f l p s m = some (v, p', s') ∧ Cur p' (n + 2) := by
  obtain ⟨v, p', s', e, _, _, c⟩ := pick_some l hl p s m n h hn
  exact ⟨v == 0, p', s', by simp [spec_l1Cur_one.f, e], c⟩

theorem among_some (l : List Int) (hl : ∀ x ∈ l, (Lit.int .u8 x).wf = true) (p s : Int) (q : List Int) (hq : 0 < q.length) (n : Nat) (h : Cur p n) (hn : n ≤ 2900000000000000000) : ∃ v p' s', spec_l1Cur_among.f l p s q = some (v, p', s') ∧ v ∈ q ∧ Cur p' (n + 2) := by
  obtain ⟨v, p', s', e, v0, v1, c⟩ := pick_some l hl p s (q.length : Int) n h hn
  have hlt : v < (q.length : Int) := by rcases v1 with h | h <;> omega
  refine ⟨rd q v, p', s', by simp [spec_l1Cur_among.f, e, v0, hlt], ?_, c⟩
  have : v.toNat < q.length := by omega
  simp only [rd, List.getD_eq_getElem?_getD, List.getElem?_eq_getElem this, Option.getD_some]
  exact List.getElem_mem this

theorem sameInts_loop (l : List Int) (hl : l.length ≤ 4611686018427387904) (d : Nat) : ∀ (k i : Nat), i ≤ l.length → l.length - i = d → d < k → laws_sameInts.l0 k l l (l.length : Int) i = some true := by
  induction d with
  | zero =>
    intro k i hi hd hk
    obtain ⟨k, rfl⟩ : ∃ m, k = m + 1 := ⟨k - 1, by omega⟩
    simp only [laws_sameInts.l0]
    rw [if_neg (by omega)]
  | succ d ih =>
    intro k i hi hd hk
    obtain ⟨k, rfl⟩ : ∃ m, k = m + 1 := ⟨k - 1, by omega⟩
    simp only [laws_sameInts.l0]
    rw [if_pos (by omega), if_pos (by omega), if_pos (by omega), if_pos (by omega), if_pos True.intro, w64 _ (by omega) (by omega)]
    exact ih k (i + 1) (by omega) (by omega) (by omega)
theorem sameInts (l : List Int) (hl : l.length ≤ 4611686018427387904) (k : Nat) (hk : l.length < k) : laws_sameInts.f k l l = some true := by
  unfold laws_sameInts.f
  rw [if_pos rfl]
  exact sameInts_loop l hl l.length k 0 (by omega) (by omega) (by omega)

theorem numberOf_loop (l : List Int) (hb : ∀ x ∈ l, (Lit.int .u8 x).wf = true) (hl : l.length ≤ 4611686018427387904) (d : Nat) : ∀ (k i : Nat) (s : Int), 0 ≤ s → s < 1000003 → i ≤ l.length → l.length - i = d → d < k →
    ∃ r, laws_numberOf.l0 k s l (l.length : Int) i = some r ∧ 0 ≤ r ∧ r < 1000003 := by
  induction d with
  | zero =>
    intro k i s h0 h1 hi hd hk
    obtain ⟨k, rfl⟩ : ∃ m, k = m + 1 := ⟨k - 1, by omega⟩
    simp only [laws_numberOf.l0]
    rw [if_neg (by omega)]
    exact ⟨s, rfl, h0, h1⟩
  | succ d ih =>
    intro k i s h0 h1 hi hd hk
    obtain ⟨k, rfl⟩ : ∃ m, k = m + 1 := ⟨k - 1, by omega⟩
    have hlt : i < l.length := by omega
    have hm : rd l i ∈ l := by
      simp only [rd, Int.toNat_natCast, List.getD_eq_getElem?_getD, List.getElem?_eq_getElem hlt, Option.getD_some]
      exact List.getElem_mem hlt
    have hx := wf8 (hb _ hm)
    simp only [laws_numberOf.l0]
    rw [if_pos (by omega), if_pos (by omega), if_pos (by omega), w64 ((i : Int) + 1) (by omega) (by omega), w64 (31 * s) (by omega) (by omega), w64 (rd l i) (by omega) (by omega), w64 (31 * s + rd l i) (by omega) (by omega), Int.tmod_eq_emod_of_nonneg (by omega)]
    exact ih k (i + 1) _ (by omega) (by omega) (by omega) (by omega) (by omega)
theorem numberOf (l : List Int) (hb : ∀ x ∈ l, (Lit.int .u8 x).wf = true) (hl : l.length ≤ 4611686018427387904) (k : Nat) (hk : l.length < k) : ∃ r, laws_numberOf.f k l = some r ∧ 0 ≤ r ∧ r < 1000003 :=
  numberOf_loop l hb hl l.length k 0 0 (by omega) (by omega) (by omega) (by omega) (by omega)

def put : List Int → Int → List Int
  | [], n => [n]
  | x :: t, n => if x < n then x :: put t n else if x = n then x :: t else n :: x :: t
theorem put_len : ∀ (l : List Int) (n : Int), (put l n).length ≤ l.length + 1
  | [], n => by simp [put]
  | x :: t, n => by
    have := put_len t n
    unfold put
    split
    · simp only [List.length_cons]; omega
    · split
      · simp only [List.length_cons]; omega
      · simp only [List.length_cons]; omega
theorem mem_put : ∀ (l : List Int) (n x : Int), x ∈ put l n ↔ x = n ∨ x ∈ l
  | [], n, x => by simp [put]
  | y :: t, n, x => by
    have ih := mem_put t n x
    unfold put
    split
    · simp only [List.mem_cons, ih]
      constructor
      · rintro (h | h | h) <;> simp [h]
      · rintro (h | h | h) <;> simp [h]
    · split
      · rename_i h
        subst h
        simp
      · simp
theorem put_strict : ∀ (l : List Int) (n : Int), l.Pairwise (· < ·) → (put l n).Pairwise (· < ·)
  | [], n, _ => by simp [put]
  | y :: t, n, h => by
    obtain ⟨h1, h2⟩ := List.pairwise_cons.1 h
    unfold put
    split
    · rename_i hy
      refine List.pairwise_cons.2 ⟨fun x hx => ?_, put_strict t n h2⟩
      rcases (mem_put t n x).1 hx with rfl | hx
      · exact hy
      · exact h1 x hx
    · split
      · exact h
      · refine List.pairwise_cons.2 ⟨fun x hx => ?_, h⟩
        rcases List.mem_cons.1 hx with rfl | hx
        · omega
        · have := h1 x hx
          omega
theorem strict_ext : ∀ l m : List Int, l.Pairwise (· < ·) → m.Pairwise (· < ·) → (∀ x, x ∈ l ↔ x ∈ m) → l = m
  | [], [], _, _, _ => rfl
  | [], b :: m, _, _, h => by have := (h b).2 (by simp); simp at this
  | a :: l, [], _, _, h => by have := (h a).1 (by simp); simp at this
  | a :: l, b :: m, hl, hm, h => by
    obtain ⟨l1, l2⟩ := List.pairwise_cons.1 hl
    obtain ⟨m1, m2⟩ := List.pairwise_cons.1 hm
    have e : a = b := by
      rcases List.mem_cons.1 ((h a).1 (by simp)) with e | ha
      · exact e
      · rcases List.mem_cons.1 ((h b).2 (by simp)) with e | hb
        · exact e.symm
        · have := m1 a ha
          have := l1 b hb
          omega
    subst e
    rw [strict_ext l m l2 m2 (fun x => ?_)]
    constructor
    · intro hx
      rcases List.mem_cons.1 ((h x).1 (List.mem_cons_of_mem _ hx)) with rfl | hx2
      · have := l1 x hx; omega
      · exact hx2
    · intro hx
      rcases List.mem_cons.1 ((h x).2 (List.mem_cons_of_mem _ hx)) with rfl | hx2
      · have := m1 x hx; omega
      · exact hx2
theorem foldl_put (v : List Int) : ∀ l : List Int, l.Pairwise (· < ·) → (v.foldl put l).Pairwise (· < ·) ∧ (∀ x, x ∈ v.foldl put l ↔ x ∈ v ∨ x ∈ l) ∧ (v.foldl put l).length ≤ l.length + v.length := by
  induction v with
  | nil => intro l h; exact ⟨h, fun x => by simp, by simp⟩
  | cons n v ih =>
    intro l h
    obtain ⟨a, b, c⟩ := ih (put l n) (put_strict l n h)
    rw [List.foldl_cons]
    refine ⟨a, fun x => ?_, by have := put_len l n; simp only [List.length_cons]; omega⟩
    rw [b x, mem_put, List.mem_cons]
    constructor
    · rintro (h | h | h) <;> simp [h]
    · rintro ((h | h) | h) <;> simp [h]
theorem compact_sorted (d : Array Int) (hs : ∀ i j, i ≤ j → j < d.size → d[i]! ≤ d[j]!) : ∀ m, m ≤ d.size → (Lib.compactUpTo d m).Pairwise (· < ·) ∧ ∀ x, x ∈ Lib.compactUpTo d m ↔ ∃ j, j < m ∧ d[j]! = x := by
  intro m
  induction m with
  | zero => intro _; exact ⟨by simp [Lib.compactUpTo], fun x => by simp [Lib.compactUpTo]⟩
  | succ m ih =>
    intro hm
    obtain ⟨a, b⟩ := ih (by omega)
    rw [Lib.compactUpTo_succ]
    by_cases hk : Lib.keeps d m = true
    · rw [if_pos hk]
      have hk2 := of_decide_eq_true hk
      refine ⟨List.pairwise_append.2 ⟨a, by simp, fun x hx y hy => ?_⟩, fun x => ?_⟩
      · obtain rfl : y = d[m]! := by simpa using hy
        obtain ⟨j, hj, rfl⟩ := (b x).1 hx
        have h1 := hs j (m - 1) (by omega) (by omega)
        have h2 := hs (m - 1) m (by omega) (by omega)
        rcases hk2 with hk2 | hk2
        · omega
        · omega
      · rw [List.mem_append, b x]
        constructor
        · rintro (⟨j, h1, h2⟩ | h)
          · exact ⟨j, by omega, h2⟩
          · exact ⟨m, by omega, (List.mem_singleton.1 h).symm⟩
        · rintro ⟨j, h1, h2⟩
          by_cases hj : j = m
          · subst hj; exact .inr (by simp [h2])
          · exact .inl ⟨j, by omega, h2⟩
    · rw [if_neg hk, List.append_nil]
      have hk2 : ¬(m = 0 ∨ d[m]! ≠ d[m - 1]!) := fun h => hk (decide_eq_true h)
      have hm0 : m ≠ 0 := fun h => hk2 (.inl h)
      have he : d[m]! = d[m - 1]! := Classical.byContradiction fun h => hk2 (.inr h)
      refine ⟨a, fun x => ?_⟩
      rw [b x]
      constructor
      · rintro ⟨j, h1, h2⟩
        exact ⟨j, by omega, h2⟩
      · rintro ⟨j, h1, h2⟩
        by_cases hj : j = m
        · subst hj; exact ⟨j - 1, by omega, by rw [← he]; exact h2⟩
        · exact ⟨j, by omega, h2⟩
theorem compact_put (v : List Int) : Lib.compact (v.mergeSort fun x y => decide (x ≤ y)) = v.foldl put [] := by
  have hp : (v.mergeSort fun x y => decide (x ≤ y)).Pairwise (fun a b => decide (a ≤ b) = true) :=
    List.pairwise_mergeSort (le := fun x y => decide (x ≤ y)) (fun a b c h1 h2 => by simp only [decide_eq_true_eq] at *; omega) (fun a b => by simp only [Bool.or_eq_true, decide_eq_true_eq]; omega) v
  have hmem : ∀ x, x ∈ (v.mergeSort fun x y => decide (x ≤ y)) ↔ x ∈ v := fun x => List.mem_mergeSort
  generalize (v.mergeSort fun x y => decide (x ≤ y)) = s at *
  have hs : ∀ i j, i ≤ j → j < s.toArray.size → s.toArray[i]! ≤ s.toArray[j]! := by
    intro i j hij hj
    have hj' : j < s.length := by simpa using hj
    by_cases h : i = j
    · subst h; exact Int.le_refl _
    · have := List.pairwise_iff_getElem.1 hp i j (by omega) hj' (by omega)
      simpa [getElem!_pos, hj', show i < s.length by omega] using of_decide_eq_true this
  obtain ⟨a, b⟩ := compact_sorted s.toArray hs s.toArray.size (Nat.le_refl _)
  obtain ⟨c, d, _⟩ := foldl_put v [] (by simp)
  refine strict_ext _ _ (by simpa [Lib.compact] using a) c (fun x => ?_)
  rw [d x, ← hmem x]
  have hb := b x
  simp only [List.size_toArray] at hb
  rw [show Lib.compact s = Lib.compactUpTo s.toArray s.length from rfl, hb]
  simp only [List.not_mem_nil, or_false]
  constructor
  · rintro ⟨j, h1, h2⟩
    rw [← h2]
    simp [getElem!_pos, h1]
  · intro hx
    obtain ⟨j, h1, h2⟩ := List.getElem_of_mem hx
    exact ⟨j, h1, by simpa [getElem!_pos, h1] using h2⟩
theorem put_loop (l : List Int) (n : Int) (hl : l.length ≤ 1000000) (d : Nat) : ∀ (k i : Nat), i ≤ l.length → l.length - i = d → d < k → spec_l1Put.l0 k l n i = some (l.take i ++ put (l.drop i) n) := by
  induction d with
  | zero =>
    intro k i hi hd hk
    obtain ⟨k, rfl⟩ : ∃ m, k = m + 1 := ⟨k - 1, by omega⟩
    obtain rfl : i = l.length := by omega
    have c1 : ¬((l.length : Int) < (l.length : Int)) := by omega
    have c2 : (0 : Int) ≤ (l.length : Int) := by omega
    have c3 : (l.length : Int) ≤ (l.length : Int) := by omega
    simp only [spec_l1Put.l0, if_neg c1, if_pos c2, if_pos c3, Option.bind_some, Int.toNat_natCast, List.length_nil, List.nil_append, List.take_length, List.drop_length, List.length_append, List.length_cons]
    rw [if_pos (by omega), if_pos (by omega), if_pos (by omega)]
    simp [put]
  | succ d ih =>
    intro k i hi hd hk
    obtain ⟨k, rfl⟩ : ∃ m, k = m + 1 := ⟨k - 1, by omega⟩
    have hlt : i < l.length := by omega
    have c1 : (i : Int) < (l.length : Int) := by omega
    have c2 : (0 : Int) ≤ (i : Int) := by omega
    have c3 : (i : Int) ≤ (l.length : Int) := by omega
    have t1 : (l.take i).length = i := by rw [List.length_take]; omega
    have t2 : (l.drop i).length = l.length - i := List.length_drop ..
    simp only [spec_l1Put.l0, if_pos c1, if_pos c2, if_pos c3, Option.bind_some, Int.toNat_natCast, List.length_nil, List.nil_append, List.length_append, List.length_cons, t1, t2, w64 ((i : Int) + 1) (by omega) (by omega), rd_atZ l i hlt]
    rw [List.drop_eq_getElem_cons hlt]
    by_cases h1 : l[i] < n
    · rw [if_pos h1, show (i : Int) + 1 = ((i + 1 : Nat) : Int) by omega, ih k (i + 1) (by omega) (by omega) (by omega), put, if_pos h1, List.take_succ_eq_append_getElem hlt]
      simp only [List.append_assoc, List.cons_append, List.nil_append]
    · rw [if_neg h1]
      by_cases h2 : l[i] = n
      · rw [if_pos h2, put, if_neg h1, if_pos h2, ← List.drop_eq_getElem_cons hlt, List.take_append_drop]
      · rw [if_neg h2, if_pos (by omega), if_pos (by omega), if_pos (by omega), put, if_neg h1, if_neg h2]
        simp
theorem l1put (l : List Int) (n : Int) (hl : l.length ≤ 1000000) (k : Nat) (hk : l.length < k) : spec_l1Put.f k l n = some (put l n) := by
  have := put_loop l n hl l.length k 0 (by omega) (by omega) (by omega)
  simpa [spec_l1Put.f] using this
def vals : List S45 → List Int
  | [] => []
  | x :: t => if x.f0 = 8 then vals t else x.f1 :: vals t
theorem vals_len : ∀ c : List S45, (vals c).length ≤ c.length
  | [] => by simp [vals]
  | x :: t => by
    have := vals_len t
    unfold vals
    split <;> simp only [List.length_cons] <;> omega
theorem spec_loopS (c : List S45) (hc : c.length ≤ 30) (d : Nat) : ∀ (k i : Nat) (l : List Int), l.length ≤ i → i ≤ c.length → c.length - i = d → d + 40 < k →
    spec_NamesSet.l0 k l c (c.length : Int) i = some ((vals (c.drop i)).foldl put l, true) := by
  induction d with
  | zero =>
    intro k i l hl hi hd hk
    obtain ⟨k, rfl⟩ : ∃ m, k = m + 1 := ⟨k - 1, by omega⟩
    have c1 : ¬((i : Int) < (c.length : Int)) := by omega
    simp only [spec_NamesSet.l0, if_neg c1]
    rw [List.drop_of_length_le (by omega)]
    rfl
  | succ d ih =>
    intro k i l hl hi hd hk
    obtain ⟨k, rfl⟩ : ∃ m, k = m + 1 := ⟨k - 1, by omega⟩
    have hlt : i < c.length := by omega
    have c1 : (i : Int) < (c.length : Int) := by omega
    have c2 : (0 : Int) ≤ i := by omega
    simp only [spec_NamesSet.l0, if_pos c1, if_pos c2, w64 ((i : Int) + 1) (by omega) (by omega), rd_at45 c i hlt]
    rw [List.drop_eq_getElem_cons hlt, vals, show (i : Int) + 1 = ((i + 1 : Nat) : Int) by omega]
    by_cases h8 : c[i].f0 = 8
    · rw [if_pos h8, if_pos h8]
      exact ih k (i + 1) l (by omega) (by omega) (by omega) (by omega)
    · rw [if_neg h8, if_neg h8, l1put l _ (by omega) k (by omega)]
      simp only [Option.bind_some, List.foldl_cons]
      exact ih k (i + 1) _ (by have := put_len l c[i].f1; omega) (by omega) (by omega) (by omega)
theorem impl_loopS (c : List S45) (hc : c.length ≤ 30) (d : Nat) : ∀ (k i : Nat) (l : List Int), l.length ≤ i → i ≤ c.length → c.length - i = d → d < k →
    impl_NamesSet.l0 k l c (c.length : Int) i = some ((l ++ vals (c.drop i)).foldl put [], true) := by
  induction d with
  | zero =>
    intro k i l hl hi hd hk
    obtain ⟨k, rfl⟩ : ∃ m, k = m + 1 := ⟨k - 1, by omega⟩
    have c1 : ¬((i : Int) < (c.length : Int)) := by omega
    have h1 : l.length < 4611686018427387904 := by omega
    have h2 : (l.mergeSort fun x y => decide (x ≤ y)).length < 4611686018427387904 := by rw [List.length_mergeSort]; exact h1
    simp only [impl_NamesSet.l0, if_neg c1, slices_Sort_int_int.f, slices_Compact_int_int.f, Srt.srt, Srt.cmp, if_pos h1, Option.bind_some, if_pos h2, compact_put]
    rw [List.drop_of_length_le (by omega)]
    simp [vals]
  | succ d ih =>
    intro k i l hl hi hd hk
    obtain ⟨k, rfl⟩ : ∃ m, k = m + 1 := ⟨k - 1, by omega⟩
    have hlt : i < c.length := by omega
    have c1 : (i : Int) < (c.length : Int) := by omega
    have c2 : (0 : Int) ≤ i := by omega
    have c3 : l.length < 17592186044416 := by omega
    simp only [impl_NamesSet.l0, if_pos c1, if_pos c2, if_pos c3, w64 ((i : Int) + 1) (by omega) (by omega), rd_at45 c i hlt]
    rw [List.drop_eq_getElem_cons hlt, vals, show (i : Int) + 1 = ((i + 1 : Nat) : Int) by omega]
    by_cases h8 : c[i].f0 = 8
    · rw [if_pos h8, if_pos h8]
      exact ih k (i + 1) l (by omega) (by omega) (by omega) (by omega)
    · rw [if_neg h8, if_neg h8, ih k (i + 1) _ (by simp; omega) (by omega) (by omega) (by omega)]
      simp
def ansS (c : List S45) : List Int × Bool := if codeB c = true then ((vals c).foldl put [], true) else ([], false)
theorem ansS_len (c : List S45) : (ansS c).1.length ≤ 30 := by
  unfold ansS
  split
  · rename_i h
    simp only [codeB, Bool.and_eq_true, decide_eq_true_eq] at h
    have := (foldl_put (vals c) [] (by simp)).2.2
    have := vals_len c
    simp only [List.length_nil] at *
    omega
  · simp
theorem bothS (c : List S45) (hc : c.length ≤ 1048576) (k : Nat) (hk : 1048700 < k) : spec_NamesSet.f k c = some (ansS c) ∧ impl_NamesSet.f k c = some (ansS c) := by
  simp only [ansS, spec_NamesSet.f, impl_NamesSet.f, spec_good c (by omega) k (by omega), isCode_eq c k (by omega), Option.bind_some]
  cases hcb : codeB c with
  | false => simp
  | true =>
    simp only [codeB, Bool.and_eq_true, decide_eq_true_eq] at hcb
    have e1 := spec_loopS c hcb.2 c.length k 0 [] (by simp) (by omega) (by omega) (by omega)
    have e2 := impl_loopS c hcb.2 c.length k 0 [] (by simp) (by omega) (by omega) (by omega)
    simp only [List.drop_zero, List.nil_append] at e1 e2
    simp only [if_true]
    exact ⟨e1, e2⟩
def uses (x : S45) : List Int := if x.f0 = 1 then [] else if x.f0 = 2 then [x.f2] else if x.f0 = 8 then [x.f2] else [x.f2, x.f3]
theorem uses_spec (x : S45) (hg : goodB x = true) : spec_l3Uses.f x.f0 x.f1 x.f2 x.f3 x.f4 = some (uses x) ∧ impl_Instr_looks.f x.f0 x.f1 x.f2 x.f3 x.f4 = some (uses x) ∧ (uses x).length ≤ 2 ∧ (∀ v ∈ uses x, 0 ≤ v ∧ v ≤ 7) ∧ (0 ≤ x.f1 ∧ x.f1 ≤ 7) := by
  obtain ⟨⟨d0, d1⟩, ⟨a0, a1⟩, ⟨b0, b1⟩, ⟨n0, n1⟩, ho⟩ := of_decide_eq_true hg
  simp only [spec_l3Uses.f, spec_l3Two.f, inS, impl_Instr_looks.f, Option.bind_some, decide_eq_true_eq, uses]
  by_cases h1 : x.f0 = 1
  · simp [h1, d0, d1]
  · by_cases h2 : x.f0 = 2
    · simp [h2, d0, d1, a0, a1]
    · by_cases h8 : x.f0 = 8
      · simp [h8, d0, d1, a0, a1]
      · have h3 : 3 ≤ x.f0 ∧ x.f0 ≤ 7 := by omega
        simp [h1, h2, h8, h3, d0, d1, a0, a1, b0, b1]
theorem has_loop (l : List Int) (n : Int) (hl : l.length ≤ 1000000) (d : Nat) : ∀ (k i : Nat), i ≤ l.length → l.length - i = d → d < k → spec_l1Has.l0 k n l (l.length : Int) i = some (decide (n ∈ l.drop i)) := by
  induction d with
  | zero =>
    intro k i hi hd hk
    obtain ⟨k, rfl⟩ : ∃ m, k = m + 1 := ⟨k - 1, by omega⟩
    simp only [spec_l1Has.l0]
    rw [if_neg (by omega), List.drop_of_length_le (by omega)]
    simp
  | succ d ih =>
    intro k i hi hd hk
    obtain ⟨k, rfl⟩ : ∃ m, k = m + 1 := ⟨k - 1, by omega⟩
    have hlt : i < l.length := by omega
    simp only [spec_l1Has.l0]
    rw [if_pos (by omega), if_pos (by omega), if_pos (by omega), w64 _ (by omega) (by omega), rd_atZ l i hlt, List.drop_eq_getElem_cons hlt]
    by_cases h : l[i] = n
    · rw [if_pos h]
      simp [h]
    · rw [if_neg h, show (i : Int) + 1 = ((i + 1 : Nat) : Int) by omega, ih k (i + 1) (by omega) (by omega) (by omega)]
      have h' : ¬(n = l[i]) := fun e => h e.symm
      simp only [List.mem_cons, h', false_or]
theorem l1has (l : List Int) (n : Int) (hl : l.length ≤ 1000000) (k : Nat) (hk : l.length < k) : spec_l1Has.f k l n = some (decide (n ∈ l)) := by
  have := has_loop l n hl l.length k 0 (by omega) (by omega) (by omega)
  simpa [spec_l1Has.f] using this
structure Rel (S O A : List Int) (B : List Bool) : Prop where
  len : B.length = 8
  out : O = A.foldl put []
  mem : ∀ v : Int, 0 ≤ v → v ≤ 7 → (v ∈ S ↔ rdOf false B v = true)
theorem out_len {S O A : List Int} {B : List Bool} (h : Rel S O A B) : O.length ≤ A.length := by
  have := (foldl_put A [] (by simp)).2.2
  rw [h.out]
  simpa using this

def needs : List S45 → List Int → List Int
  | [], _ => []
  | x :: t, S => (uses x).filter (fun z => decide (z ∉ S)) ++ needs t (if x.f0 = 8 then S else put S x.f1)
theorem inner (c : List S45) (us : List Int) (hu : us.length ≤ 2) (hv : ∀ v ∈ us, 0 ≤ v ∧ v ≤ 7) (n : Int) (i op d1 d2 d3 d4 : Int) (S : List Int) (hS : S.length ≤ 100) (B : List Bool) (e : Nat) : ∀ (k j : Nat) (O A : List Int), 200 < k → Rel S O A B → A.length + e ≤ 100 → j ≤ us.length → us.length - j = e →
    ∃ O' A', Rel S O' A' B ∧ A'.length ≤ A.length + e ∧ (∀ z, z ∈ O ∨ z ∈ us.drop j ∧ z ∉ S → z ∈ O') ∧
      spec_NamesNeeded.l1 (k + e + 1) S O c n i us (us.length : Int) j op d1 d2 d3 d4 = (if op = 8 then (spec_NamesNeeded.l0 k S O' c n (wrap64 (i + 1))) else ((spec_l1Put.f k S d1).bind fun t195 => (spec_NamesNeeded.l0 k t195 O' c n (wrap64 (i + 1))))) ∧
      impl_NamesNeeded.l1 (k + e + 1) A B c n i us (us.length : Int) j op d1 d2 d3 d4 = (if op = 8 then (impl_NamesNeeded.l0 k A' B c n (wrap64 (i + 1))) else (if 0 ≤ d1 then (if d1 < (B.length : Int) then (impl_NamesNeeded.l0 k A' (B.set (d1 : Int).toNat true) c n (wrap64 (i + 1))) else (none)) else (none))) := by
  induction e with
  | zero =>
    intro k j O A hk hR hA hj he
    refine ⟨O, A, hR, by omega, fun z hz => ?_, ?_, ?_⟩
    · rw [List.drop_of_length_le (by omega)] at hz
      rcases hz with hz | ⟨hz, _⟩
      · exact hz
      · cases hz
    · simp only [spec_NamesNeeded.l1]
      rw [if_neg (show ¬((j : Int) < (us.length : Int)) by omega)]
    · simp only [impl_NamesNeeded.l1]
      rw [if_neg (show ¬((j : Int) < (us.length : Int)) by omega)]
  | succ e ih =>
    intro k j O A hk hR hA hj he
    have hlt : j < us.length := by omega
    have hvj := hv us[j] (List.getElem_mem hlt)
    have c1 : (j : Int) < (us.length : Int) := by omega
    have c2 : (0 : Int) ≤ j := by omega
    have c3 : A.length < 17592186044416 := by omega
    have c4 : us[j] < (B.length : Int) := by rw [hR.len]; omega
    have hO := out_len hR
    obtain ⟨K, hK⟩ : ∃ K, K = k + e + 1 := ⟨_, rfl⟩
    rw [show k + (e + 1) + 1 = K + 1 by omega, List.drop_eq_getElem_cons hlt]
    simp only [spec_NamesNeeded.l1, impl_NamesNeeded.l1, if_pos c1, if_pos c2, if_pos c3, w64 ((j : Int) + 1) (by omega) (by omega), rd_atZ us j hlt, l1has S us[j] (by omega) K (by omega), Option.bind_some, if_pos hvj.1, if_pos c4, decide_eq_true_eq]
    rw [show (j : Int) + 1 = ((j + 1 : Nat) : Int) by omega]
    have hm := hR.mem us[j] hvj.1 hvj.2
    by_cases hin : us[j] ∈ S
    · rw [if_pos hin, if_pos (hm.1 hin)]
      obtain ⟨O', A', h1, h2, h5, h3, h4⟩ := ih k (j + 1) O A hk hR (by omega) (by omega) (by omega)
      rw [← hK] at h3 h4
      refine ⟨O', A', h1, by omega, fun z hz => h5 z ?_, h3, h4⟩
      rcases hz with hz | ⟨hz, hn⟩
      · exact .inl hz
      · rcases List.mem_cons.1 hz with rfl | hz
        · exact absurd hin hn
        · exact .inr ⟨hz, hn⟩
    · rw [if_neg hin, if_neg (fun h => hin (hm.2 h)), l1put O us[j] (by omega) K (by omega)]
      simp only [Option.bind_some]
      have hR2 : Rel S (put O us[j]) (A ++ [us[j]]) B := ⟨hR.len, by rw [List.foldl_append, ← hR.out]; rfl, hR.mem⟩
      obtain ⟨O', A', h1, h2, h5, h3, h4⟩ := ih k (j + 1) _ _ hk hR2 (by simp; omega) (by omega) (by omega)
      rw [← hK] at h3 h4
      refine ⟨O', A', h1, by simp at h2; omega, fun z hz => h5 z ?_, h3, h4⟩
      rcases hz with hz | ⟨hz, hn⟩
      · exact .inl ((mem_put _ _ _).2 (.inr hz))
      · rcases List.mem_cons.1 hz with rfl | hz
        · exact .inl ((mem_put _ _ _).2 (.inl rfl))
        · exact .inr ⟨hz, hn⟩
theorem outer (c : List S45) (hc : c.length ≤ 30) (hg : c.all goodB = true) (d : Nat) : ∀ (k i : Nat) (S O A : List Int) (B : List Bool), Rel S O A B → S.length ≤ i → A.length ≤ 2 * i → i ≤ c.length → c.length - i = d → 4 * d + 210 < k →
    ∃ r, spec_NamesNeeded.l0 k S O c (c.length : Int) i = some (r, true) ∧ impl_NamesNeeded.l0 k A B c (c.length : Int) i = some (r, true) ∧ r.length ≤ 60 ∧ (∀ z, z ∈ O ∨ z ∈ needs (c.drop i) S → z ∈ r) := by
  induction d with
  | zero =>
    intro k i S O A B hR hS hA hi hd hk
    obtain ⟨k, rfl⟩ : ∃ m, k = m + 1 := ⟨k - 1, by omega⟩
    have c1 : ¬((i : Int) < (c.length : Int)) := by omega
    have h1 : A.length < 4611686018427387904 := by omega
    have h2 : (A.mergeSort fun x y => decide (x ≤ y)).length < 4611686018427387904 := by rw [List.length_mergeSort]; exact h1
    have hO := out_len hR
    refine ⟨O, by simp only [spec_NamesNeeded.l0, if_neg c1], ?_, by omega, fun z hz => ?_⟩
    · simp only [impl_NamesNeeded.l0, if_neg c1, slices_Sort_int_int.f, slices_Compact_int_int.f, Srt.srt, Srt.cmp, if_pos h1, Option.bind_some, if_pos h2, compact_put]
      rw [hR.out]
    · rw [List.drop_of_length_le (by omega)] at hz
      rcases hz with hz | hz
      · exact hz
      · cases hz
  | succ d ih =>
    intro k i S O A B hR hS hA hi hd hk
    have hlt : i < c.length := by omega
    obtain ⟨u1, u2, u3, u4, u5⟩ := uses_spec c[i] (List.all_eq_true.1 hg _ (List.getElem_mem hlt))
    obtain ⟨k, rfl⟩ : ∃ m, k = (m + (uses c[i]).length + 1) + 1 := ⟨k - (uses c[i]).length - 2, by omega⟩
    have c1 : (i : Int) < (c.length : Int) := by omega
    have c2 : (0 : Int) ≤ i := by omega
    obtain ⟨O', A', hR', hA', hsub, e1, e2⟩ := inner c (uses c[i]) u3 u4 (c.length : Int) (i : Int) c[i].f0 c[i].f1 c[i].f2 c[i].f3 c[i].f4 S (by omega) B (uses c[i]).length k 0 O A (by omega) hR (by omega) (by omega) (by omega)
    simp only [spec_NamesNeeded.l0, impl_NamesNeeded.l0, if_pos c1, if_pos c2, rd_at45 c i hlt, u1, u2, Option.bind_some]
    rw [show (0 : Int) = ((0 : Nat) : Int) from rfl] at *
    rw [e1, e2, w64 ((i : Int) + 1) (by omega) (by omega), show (i : Int) + 1 = ((i + 1 : Nat) : Int) by omega, List.drop_eq_getElem_cons hlt]
    rw [List.drop_zero] at hsub
    have hz1 : ∀ z, z ∈ O ∨ z ∈ needs (c[i] :: c.drop (i + 1)) S → z ∈ O' ∨ z ∈ needs (c.drop (i + 1)) (if c[i].f0 = 8 then S else put S c[i].f1) := by
      intro z hz
      rcases hz with hz | hz
      · exact .inl (hsub z (.inl hz))
      · rw [needs, List.mem_append, List.mem_filter] at hz
        rcases hz with ⟨hz, hn⟩ | hz
        · exact .inl (hsub z (.inr ⟨hz, of_decide_eq_true hn⟩))
        · exact .inr hz
    by_cases h8 : c[i].f0 = 8
    · rw [if_pos h8, if_pos h8]
      rw [if_pos h8] at hz1
      obtain ⟨r, r1, r2, r3, r4⟩ := ih k (i + 1) S O' A' B hR' (by omega) (by omega) (by omega) (by omega) (by omega)
      exact ⟨r, r1, r2, r3, fun z hz => r4 z (hz1 z hz)⟩
    · rw [if_neg h8, if_neg h8, l1put S c[i].f1 (by omega) k (by omega)]
      rw [if_neg h8] at hz1
      simp only [Option.bind_some]
      rw [if_pos u5.1, if_pos (show c[i].f1 < (B.length : Int) by rw [hR.len]; omega)]
      obtain ⟨r, r1, r2, r3, r4⟩ := ih k (i + 1) (put S c[i].f1) O' A' (B.set (c[i].f1 : Int).toNat true) ⟨by rw [List.length_set]; exact hR.len, hR'.out, fun v v0 v1 => by
        rw [mem_put]
        have hm := hR.mem v v0 v1
        have hb := hR.len
        have hvl : v.toNat < B.length := by omega
        by_cases hv : v = c[i].f1
        · subst hv
          simp [rdOf, hvl]
        · have hne : ¬(c[i].f1.toNat = v.toNat) := by omega
          simp only [rdOf, List.getD_eq_getElem?_getD, List.getElem?_set_ne hne] at hm ⊢
          simp [hv, hm]⟩ (by have := put_len S c[i].f1; omega) (by omega) (by omega) (by omega) (by omega)
      exact ⟨r, r1, r2, r3, fun z hz => r4 z (hz1 z hz)⟩
theorem both0 (c : List S45) (hc : c.length ≤ 1048576) (k : Nat) (hk : 1048700 < k) : ∃ r b, spec_NamesNeeded.f k c = some (r, b) ∧ impl_NamesNeeded.f k c = some (r, b) ∧ r.length ≤ 60 ∧ (codeB c = true → b = true ∧ ∀ z ∈ needs c [], z ∈ r) := by
  simp only [spec_NamesNeeded.f, impl_NamesNeeded.f, spec_good c (by omega) k (by omega), isCode_eq c k (by omega), Option.bind_some]
  cases hcb : codeB c with
  | false => exact ⟨[], false, by simp, by simp, by simp, by simp⟩
  | true =>
    simp only [codeB, Bool.and_eq_true, decide_eq_true_eq] at hcb
    obtain ⟨r, e1, e2, e3, e4⟩ := outer c hcb.2 hcb.1 c.length k 0 [] [] [] (List.replicate 8 false) ⟨by simp, rfl, fun v _ _ => by
      have e : rdOf false (List.replicate 8 false) v = false := by
        unfold rdOf
        rw [List.getD_eq_getElem?_getD, List.getElem?_replicate]
        split <;> rfl
      rw [e]
      simp⟩ (by simp) (by simp) (by omega) (by omega) (by omega)
    simp only [if_true]
    exact ⟨r, true, e1, by simpa using e2, e3, fun _ => ⟨rfl, fun z hz => e4 z (.inr (by simpa using hz))⟩⟩
theorem fix (c : List S45) (hc : c.length ≤ 1048576) : ∃ r b, r.length ≤ 60 ∧ (codeB c = true → b = true ∧ ∀ z ∈ needs c [], z ∈ r) ∧ ∀ k, 1048700 < k → spec_NamesNeeded.f k c = some (r, b) ∧ impl_NamesNeeded.f k c = some (r, b) := by
  obtain ⟨r, b, e1, e2, e3, e4⟩ := both0 c hc 1048701 (by omega)
  refine ⟨r, b, e3, e4, fun k hk => ?_⟩
  have up : ∀ m, spec_NamesNeeded.f (1048701 + m) c = some (r, b) := by
    intro m
    induction m with
    | zero => exact e1
    | succ m ih => exact spec_NamesNeeded.mono c (1048701 + m) _ ih
  have e := up (k - 1048701)
  rw [show 1048701 + (k - 1048701) = k by omega] at e
  obtain ⟨r', b', f1, f2, _⟩ := both0 c hc k hk
  rw [e] at f1
  obtain ⟨rfl, rfl⟩ : r = r' ∧ b = b' := by simpa using f1
  exact ⟨e, f2⟩

theorem wB_and (x : Int) : wB (Go.bits .and .i64 x 65535) = true := by
  rw [and_word]
  exact decide_eq_true (by omega)
theorem dd_word (op a b : Int) : wB (dd op a b) = true := by
  unfold dd
  repeat' split
  all_goals first | exact wB_and _ | rfl
theorem words_set (l : List Int) (i : Nat) (a : Int) (h : wordsB l = true) (ha : wB a = true) : wordsB (l.set i a) = true := by
  simp only [wordsB, Bool.and_eq_true, decide_eq_true_eq, List.length_set] at *
  refine ⟨List.all_eq_true.2 fun y hy => ?_, h.2⟩
  rcases List.mem_or_eq_of_mem_set hy with h2 | rfl
  · exact List.all_eq_true.1 h.1 y h2
  · exact ha
theorem words_rd (l : List Int) (i : Int) (h : wordsB l = true) (h0 : 0 ≤ i) (h1 : i ≤ 7) : wB (rd l i) = true := by
  simp only [wordsB, Bool.and_eq_true, decide_eq_true_eq] at h
  obtain ⟨n, rfl⟩ := Int.eq_ofNat_of_zero_le h0
  rw [rd_atZ l n (by omega)]
  exact List.all_eq_true.1 h.1 _ (List.getElem_mem _)
theorem rstp_words (s : List Int × List Int) (x : S45) (hg : goodB x = true) (h : wordsB s.1 = true) : wordsB (rstp s x).1 = true := by
  obtain ⟨⟨d0, d1⟩, ⟨a0, a1⟩, ⟨b0, b1⟩, ⟨n0, n1⟩, hx⟩ := of_decide_eq_true hg
  unfold rstp
  repeat' split
  · exact words_set _ _ _ h (decide_eq_true ⟨n0, n1⟩)
  · exact words_set _ _ _ h (words_rd _ _ h a0 a1)
  · exact h
  · exact words_set _ _ _ h (dd_word _ _ _)
theorem runs_words (c : List S45) (hg : c.all goodB = true) : ∀ s : List Int × List Int, wordsB s.1 = true → wordsB (c.foldl rstp s).1 = true := by
  induction c with
  | nil => intro s h; exact h
  | cons x c ih =>
    intro s h
    rw [List.all_cons, Bool.and_eq_true] at hg
    exact ih hg.2 _ (rstp_words s x hg.1 h)
theorem rstp_out (v o : List Int) (x : S45) : rstp (v, o) x = ((rstp (v, []) x).1, o ++ (rstp (v, []) x).2) := by
  unfold rstp
  repeat' split
  all_goals simp
theorem fold_out (c : List S45) : ∀ v o : List Int, c.foldl rstp (v, o) = ((c.foldl rstp (v, [])).1, o ++ (c.foldl rstp (v, [])).2) := by
  induction c with
  | nil => intro v o; simp
  | cons x c ih =>
    intro v o
    rw [List.foldl_cons, List.foldl_cons, rstp_out v o x, ih, ih (rstp (v, []) x).1 (rstp (v, []) x).2]
    simp

def val (x : S45) (v : List Int) : Int := if x.f0 = 1 then x.f4 else if x.f0 = 2 then rd v x.f2 else dd x.f0 (rd v x.f2) (rd v x.f3)
theorem rstp_eq (v o : List Int) (x : S45) : rstp (v, o) x = if x.f0 = 8 then (v, o ++ [rd v x.f2]) else (v.set x.f1.toNat (val x v), o) := by
  unfold rstp val
  by_cases h1 : x.f0 = 1
  · rw [if_pos h1, if_neg (by omega), if_pos h1]
  · by_cases h2 : x.f0 = 2
    · rw [if_neg h1, if_pos h2, if_neg (by omega), if_neg h1, if_pos h2]
    · by_cases h8 : x.f0 = 8
      · rw [if_neg h1, if_neg h2, if_pos h8, if_pos h8]
      · rw [if_neg h1, if_neg h2, if_neg h8, if_neg h8, if_neg h1, if_neg h2]
theorem val_agree (x : S45) (v w : List Int) (h8 : x.f0 ≠ 8) (h : ∀ u ∈ uses x, rd v u = rd w u) : val x v = val x w := by
  unfold val
  unfold uses at h
  by_cases h1 : x.f0 = 1
  · rw [if_pos h1, if_pos h1]
  · rw [if_neg h1] at h
    rw [if_neg h1, if_neg h1]
    by_cases h2 : x.f0 = 2
    · rw [if_pos h2] at h
      rw [if_pos h2, if_pos h2]
      exact h _ (by simp)
    · rw [if_neg h2, if_neg h8] at h
      rw [if_neg h2, if_neg h2, h x.f2 (by simp), h x.f3 (by simp)]
theorem rd_setZ (v : List Int) (i z a : Int) (h8 : v.length = 8) (i0 : 0 ≤ i) (i1 : i ≤ 7) (z0 : 0 ≤ z) (z1 : z ≤ 7) : rd (v.set i.toNat a) z = if z = i then a else rd v z := by
  obtain ⟨n, rfl⟩ := Int.eq_ofNat_of_zero_le i0
  obtain ⟨m, rfl⟩ := Int.eq_ofNat_of_zero_le z0
  rw [rd_atZ _ m (by rw [List.length_set]; omega)]
  by_cases h : (m : Int) = (n : Int)
  · obtain rfl : m = n := by omega
    rw [if_pos rfl]
    simp
  · have hne : n ≠ m := by omega
    rw [if_neg h, rd_atZ v m (by omega), Int.toNat_natCast, List.getElem_set_ne hne]
theorem uses_rng (x : S45) (hg : goodB x = true) : (∀ u ∈ uses x, 0 ≤ u ∧ u ≤ 7) ∧ 0 ≤ x.f1 ∧ x.f1 ≤ 7 := ⟨(uses_spec x hg).2.2.2.1, (uses_spec x hg).2.2.2.2⟩
theorem agree (c : List S45) (hg : c.all goodB = true) : ∀ (S v w o : List Int), v.length = 8 → w.length = 8 → (∀ z, 0 ≤ z → z ≤ 7 → (z ∈ S ∨ z ∈ needs c S) → rd v z = rd w z) →
    (c.foldl rstp (v, o)).2 = (c.foldl rstp (w, o)).2 ∧ ∀ z, 0 ≤ z → z ≤ 7 → (z ∈ S ∨ z ∈ vals c) → rd (c.foldl rstp (v, o)).1 z = rd (c.foldl rstp (w, o)).1 z := by
  induction c with
  | nil =>
    intro S v w o hv hw h
    exact ⟨rfl, fun z z0 z1 hz => h z z0 z1 (.inl (by simpa [vals] using hz))⟩
  | cons x t ih =>
    intro S v w o hv hw h
    rw [List.all_cons, Bool.and_eq_true] at hg
    obtain ⟨ur, f0, f1⟩ := uses_rng x hg.1
    have hu : ∀ u ∈ uses x, rd v u = rd w u := by
      intro u hu
      refine h u (ur u hu).1 (ur u hu).2 ?_
      by_cases hS : u ∈ S
      · exact .inl hS
      · right
        rw [needs, List.mem_append, List.mem_filter]
        exact .inl ⟨hu, decide_eq_true hS⟩
    rw [List.foldl_cons, List.foldl_cons, rstp_eq, rstp_eq]
    by_cases h8 : x.f0 = 8
    · have e2 : rd v x.f2 = rd w x.f2 := hu _ (by unfold uses; rw [if_neg (by omega), if_neg (by omega), if_pos h8]; simp)
      rw [if_pos h8, if_pos h8, e2]
      have hn : needs (x :: t) S = (uses x).filter (fun z => decide (z ∉ S)) ++ needs t S := by rw [needs, if_pos h8]
      have hv8 : vals (x :: t) = vals t := by rw [vals, if_pos h8]
      rw [hv8]
      refine ih hg.2 S v w _ hv hw (fun z z0 z1 hz => h z z0 z1 ?_)
      rcases hz with hz | hz
      · exact .inl hz
      · exact .inr (by rw [hn, List.mem_append]; exact .inr hz)
    · rw [if_neg h8, if_neg h8, val_agree x v w h8 hu]
      have hn : needs (x :: t) S = (uses x).filter (fun z => decide (z ∉ S)) ++ needs t (put S x.f1) := by rw [needs, if_neg h8]
      have hv8 : vals (x :: t) = x.f1 :: vals t := by rw [vals, if_neg h8]
      rw [hv8]
      obtain ⟨i1, i2⟩ := ih hg.2 (put S x.f1) (v.set x.f1.toNat (val x w)) (w.set x.f1.toNat (val x w)) o (by rw [List.length_set]; exact hv) (by rw [List.length_set]; exact hw) (fun z z0 z1 hz => by
        rw [rd_setZ v _ z _ hv f0 f1 z0 z1, rd_setZ w _ z _ hw f0 f1 z0 z1]
        by_cases he : z = x.f1
        · rw [if_pos he, if_pos he]
        · rw [if_neg he, if_neg he]
          refine h z z0 z1 ?_
          rcases hz with hz | hz
          · rcases (mem_put _ _ _).1 hz with hz | hz
            · exact absurd hz he
            · exact .inl hz
          · exact .inr (by rw [hn, List.mem_append]; exact .inr hz))
      refine ⟨i1, fun z z0 z1 hz => i2 z z0 z1 ?_⟩
      rcases hz with hz | hz
      · exact .inl ((mem_put _ _ _).2 (.inr hz))
      · rcases List.mem_cons.1 hz with hz | hz
        · exact .inl ((mem_put _ _ _).2 (.inl hz))
        · exact .inr hz
theorem keeps (c : List S45) (hg : c.all goodB = true) : ∀ (v o : List Int), v.length = 8 → ∀ z, 0 ≤ z → z ≤ 7 → z ∉ vals c → rd (c.foldl rstp (v, o)).1 z = rd v z := by
  induction c with
  | nil => intro v o hv z z0 z1 hz; rfl
  | cons x t ih =>
    intro v o hv z z0 z1 hz
    rw [List.all_cons, Bool.and_eq_true] at hg
    obtain ⟨_, f0, f1⟩ := uses_rng x hg.1
    rw [List.foldl_cons, rstp_eq]
    by_cases h8 : x.f0 = 8
    · rw [vals, if_pos h8] at hz
      rw [if_pos h8]
      exact ih hg.2 v _ hv z z0 z1 hz
    · rw [vals, if_neg h8, List.mem_cons, not_or] at hz
      rw [if_neg h8, ih hg.2 _ _ (by rw [List.length_set]; exact hv) z z0 z1 hz.2, rd_setZ v _ z _ hv f0 f1 z0 z1, if_neg hz.1]

theorem instr_j1 (l : List Int) (hl : ∀ x ∈ l, (Lit.int .u8 x).wf = true) (k : Nat) (p s a b c d e : Int) (n : Nat) (h : Cur p n) (hn : n ≤ 2800000000000000000) (hk : 0 < k) : ∃ r0 r1 r2 r3 r4 p' s', spec_l1Cur_instr.j1 k l p s a b c d e = some (r0, r1, r2, r3, r4, p', s') ∧ Cur p' (n + 10) := by
  obtain ⟨k, rfl⟩ : ∃ m, k = m + 1 := ⟨k - 1, by omega⟩
  obtain ⟨t, p1, s1, e1, c1⟩ := one_some l hl p s 60 n h (by omega)
  simp only [spec_l1Cur_instr.j1, e1, Option.bind_some]
  cases t with
  | false => exact ⟨a, b, c, d, e, p1, s1, by simp, c1.1, by have := c1.2.1; omega, by omega⟩
  | true =>
    obtain ⟨v2, p2, s2, e2, _, _, c2⟩ := pick_some l hl p1 s1 10 _ c1 (by omega)
    obtain ⟨v3, p3, s3, e3, _, _, c3⟩ := pick_some l hl p2 s2 10 _ c2 (by omega)
    obtain ⟨v4, p4, s4, e4, _, _, c4⟩ := pick_some l hl p3 s3 3 _ c3 (by omega)
    obtain ⟨v5, p5, s5, e5, _, c5⟩ := among_some l hl p4 s4 [0, 1, 65536] (by decide) _ c4 (by omega)
    simp only [if_true, e2, e3, e4, e5, Option.bind_some]
    exact ⟨_, _, _, _, _, _, _, rfl, c5.1, by have := c5.2.1; omega, by omega⟩
theorem twoS (a : Int) : ∃ b, spec_l3Two.f a = some b := by
  simp only [spec_l3Two.f, inS, Option.bind_some]
  exact ⟨_, rfl⟩
theorem instr_j0 (l : List Int) (hl : ∀ x ∈ l, (Lit.int .u8 x).wf = true) (k : Nat) (p s a b c d e : Int) (n : Nat) (h : Cur p n) (hn : n ≤ 2700000000000000000) (hk : 1 < k) : ∃ r0 r1 r2 r3 r4 p' s', spec_l1Cur_instr.j0 k l p s a b c d e = some (r0, r1, r2, r3, r4, p', s') ∧ Cur p' (n + 14) := by
  obtain ⟨k, rfl⟩ : ∃ m, k = m + 1 := ⟨k - 1, by omega⟩
  have up : ∀ {q : Int} {m m' : Nat}, Cur q m → m ≤ m' → m' ≤ 4000000000000000000 → Cur q m' := fun hq h1 h2 => ⟨hq.1, by have := hq.2.1; omega, h2⟩
  simp only [spec_l1Cur_instr.j0]
  by_cases h1 : a = 1
  · obtain ⟨v, p1, s1, e1, _, c1⟩ := among_some l hl p s [0, 1, 2, 3, 5, 65535] (by decide) n h (by omega)
    obtain ⟨r0, r1, r2, r3, r4, p', s', e2, c2⟩ := instr_j1 l hl k p1 s1 a b c d v _ c1 (by omega) (by omega)
    rw [if_pos h1, e1]
    simp only [Option.bind_some]
    exact ⟨r0, r1, r2, r3, r4, p', s', e2, up c2 (by omega) (by omega)⟩
  · rw [if_neg h1]
    obtain ⟨t, et⟩ := twoS a
    rw [et]
    simp only [Option.bind_some]
    cases t with
    | true =>
      obtain ⟨v1, p1, s1, e1, _, _, c1⟩ := pick_some l hl p s 4 n h (by omega)
      obtain ⟨v2, p2, s2, e2, _, _, c2⟩ := pick_some l hl p1 s1 4 _ c1 (by omega)
      obtain ⟨r0, r1, r2, r3, r4, p', s', e3, c3⟩ := instr_j1 l hl k p2 s2 a b v1 v2 e _ c2 (by omega) (by omega)
      simp only [if_true, e1, e2, Option.bind_some]
      exact ⟨r0, r1, r2, r3, r4, p', s', e3, up c3 (by omega) (by omega)⟩
    | false =>
      obtain ⟨v1, p1, s1, e1, _, _, c1⟩ := pick_some l hl p s 4 n h (by omega)
      obtain ⟨r0, r1, r2, r3, r4, p', s', e3, c3⟩ := instr_j1 l hl k p1 s1 a b v1 d e _ c1 (by omega) (by omega)
      simp only [Bool.false_eq_true, if_false, e1, Option.bind_some]
      exact ⟨r0, r1, r2, r3, r4, p', s', e3, up c3 (by omega) (by omega)⟩
theorem instr_some (l : List Int) (hl : ∀ x ∈ l, (Lit.int .u8 x).wf = true) (k : Nat) (p s : Int) (n : Nat) (h : Cur p n) (hn : n ≤ 2600000000000000000) (hk : 2 < k) : ∃ r0 r1 r2 r3 r4 p' s', spec_l1Cur_instr.f k l p s = some (r0, r1, r2, r3, r4, p', s') ∧ Cur p' (n + 20) := by
  have up : ∀ {q : Int} {m m' : Nat}, Cur q m → m ≤ m' → m' ≤ 4000000000000000000 → Cur q m' := fun hq h1 h2 => ⟨hq.1, by have := hq.2.1; omega, h2⟩
  obtain ⟨v, p1, s1, e1, _, c1⟩ := among_some l hl p s [1, 2, 3, 3, 4, 5, 6, 7, 8] (by decide) n h (by omega)
  simp only [spec_l1Cur_instr.f, e1, Option.bind_some]
  by_cases h8 : v = 8
  · rw [if_pos h8]
    obtain ⟨r0, r1, r2, r3, r4, p', s', e3, c3⟩ := instr_j0 l hl k p1 s1 v 0 0 0 0 _ c1 (by omega) (by omega)
    exact ⟨r0, r1, r2, r3, r4, p', s', e3, up c3 (by omega) (by omega)⟩
  · obtain ⟨v2, p2, s2, e2, _, _, c2⟩ := pick_some l hl p1 s1 4 _ c1 (by omega)
    obtain ⟨r0, r1, r2, r3, r4, p', s', e3, c3⟩ := instr_j0 l hl k p2 s2 v v2 0 0 0 _ c2 (by omega) (by omega)
    rw [if_neg h8, e2]
    simp only [Option.bind_some]
    exact ⟨r0, r1, r2, r3, r4, p', s', e3, up c3 (by omega) (by omega)⟩
theorem code3_loop (l : List Int) (hl : ∀ x ∈ l, (Lit.int .u8 x).wf = true) (d : Nat) : ∀ (k : Nat) (c : List S45) (x4 p s : Int) (n : Nat), x4 ≤ d → -1 ≤ x4 → c.length + d ≤ 1000 → Cur p n → n + 20 * d ≤ 1000000 → d + 10 < k →
    ∃ c' p' s', spec_l1Cur_code3.l0 k c x4 l p s = some (c', p', s') ∧ c'.length ≤ c.length + d ∧ Cur p' (n + 20 * d) := by
  induction d with
  | zero =>
    intro k c x4 p s n h4 h5 hc h hn hk
    obtain ⟨k, rfl⟩ : ∃ m, k = m + 1 := ⟨k - 1, by omega⟩
    simp only [spec_l1Cur_code3.l0]
    rw [if_neg (by omega)]
    exact ⟨_, _, _, rfl, by omega, h⟩
  | succ d ih =>
    intro k c x4 p s n h4 h5 hc h hn hk
    obtain ⟨k, rfl⟩ : ∃ m, k = m + 1 := ⟨k - 1, by omega⟩
    simp only [spec_l1Cur_code3.l0]
    by_cases h0 : x4 > 0
    · obtain ⟨r0, r1, r2, r3, r4, p', s', e, c1⟩ := instr_some l hl k p s n h (by omega) (by omega)
      rw [if_pos h0, e]
      simp only [Option.bind_some]
      rw [if_pos (by omega), w64 _ (by omega) (by omega)]
      obtain ⟨c', p2, s2, e2, l2, c2⟩ := ih k (c ++ [⟨r0, r1, r2, r3, r4⟩]) (x4 - 1) p' s' (n + 20) (by omega) (by omega) (by rw [List.length_append, List.length_singleton]; omega) c1 (by omega) (by omega)
      rw [List.length_append, List.length_singleton] at l2
      exact ⟨c', p2, s2, e2, by omega, c2.1, by have := c2.2.1; omega, by omega⟩
    · rw [if_neg h0]
      exact ⟨_, _, _, rfl, by omega, h.1, by have := h.2.1; omega, by omega⟩
theorem code3_some (l : List Int) (hl : ∀ x ∈ l, (Lit.int .u8 x).wf = true) (k : Nat) (hk : 100 < k) : ∃ c p s, spec_l1Cur_code3.f k l 0 0 = some (c, p, s) ∧ c.length ≤ 40 ∧ Cur p 2000 := by
  obtain ⟨k, rfl⟩ : ∃ m, k = m + 1 := ⟨k - 1, by omega⟩
  obtain ⟨v1, p1, s1, e1, a1, b1, c1⟩ := pick_some l hl 0 0 10 0 ⟨by omega, by omega, by omega⟩ (by omega)
  obtain ⟨t, p2, s2, e2, c2⟩ := one_some l hl p1 s1 20 _ c1 (by omega)
  simp only [spec_l1Cur_code3.f, e1, e2, Option.bind_some]
  cases t with
  | true =>
    obtain ⟨v3, p3, s3, e3, a3, b3, c3⟩ := pick_some l hl p2 s2 2 _ c2 (by omega)
    simp only [if_true, e3, Option.bind_some, spec_l1Cur_code3.j0]
    rw [w64 _ (by omega) (by omega)]
    obtain ⟨c', p', s', e4, l4, c4⟩ := code3_loop l hl 31 k [] (30 + v3) p3 s3 _ (by omega) (by omega) (by simp) c3 (by omega) (by omega)
    simp only [List.length_nil] at l4
    exact ⟨c', p', s', e4, by omega, c4.1, by have := c4.2.1; omega, by omega⟩
  | false =>
    simp only [Bool.false_eq_true, if_false, spec_l1Cur_code3.j0]
    obtain ⟨c', p', s', e4, l4, c4⟩ := code3_loop l hl 31 k [] v1 p2 s2 _ (by omega) (by omega) (by simp) c2 (by omega) (by omega)
    simp only [List.length_nil] at l4
    exact ⟨c', p', s', e4, by omega, c4.1, by have := c4.2.1; omega, by omega⟩
theorem vars_loop (l : List Int) (hl : ∀ x ∈ l, (Lit.int .u8 x).wf = true) (d : Nat) : ∀ (k : Nat) (v : List Int) (p s : Int) (n : Nat), v.length + d = 8 → Cur p n → n + 2 * d + 2 ≤ 1000000 → d + 10 < k →
    ∃ v' p' s', spec_l1Cur_vars.l0 k v (v.length : Int) l p s = some (v', p', s') ∧ v'.length = 8 := by
  induction d with
  | zero =>
    intro k v p s n hv h hn hk
    obtain ⟨k, rfl⟩ : ∃ m, k = m + 1 := ⟨k - 1, by omega⟩
    obtain ⟨t, p1, s1, e1, c1⟩ := one_some l hl p s 30 n h (by omega)
    simp only [spec_l1Cur_vars.l0, e1, Option.bind_some]
    rw [if_neg (by omega)]
    cases t with
    | true =>
      simp only [if_true]
      rw [if_pos (by omega)]
      exact ⟨_, _, _, rfl, by rw [List.length_set]; omega⟩
    | false => exact ⟨v, p1, s1, by simp, by omega⟩
  | succ d ih =>
    intro k v p s n hv h hn hk
    obtain ⟨k, rfl⟩ : ∃ m, k = m + 1 := ⟨k - 1, by omega⟩
    obtain ⟨u, p1, s1, e1, _, c1⟩ := among_some l hl p s [0, 1, 2, 7, 65535] (by decide) n h (by omega)
    simp only [spec_l1Cur_vars.l0, e1, Option.bind_some]
    rw [if_pos (by omega), if_pos (by omega), w64 _ (by omega) (by omega), show (v.length : Int) + 1 = ((v ++ [u]).length : Int) by simp]
    exact ih k (v ++ [u]) p1 s1 (n + 2) (by simp; omega) c1 (by omega) (by omega)
theorem draw_run (l : List Int) (hl : ∀ x ∈ l, (Lit.int .u8 x).wf = true) (k : Nat) (hk : 100 < k) : ∃ c v, spec_DrawRunCode.f k l = some (c, v) ∧ c.length ≤ 40 ∧ v.length = 8 := by
  obtain ⟨c, p, s, e1, l1, c1⟩ := code3_some l hl k hk
  obtain ⟨v, p2, s2, e2, l2⟩ := vars_loop l hl 8 k [] p s 2000 (by simp) c1 (by omega) (by omega)
  refine ⟨c, v, ?_, l1, l2⟩
  have e3 : spec_l1Cur_vars.f k l p s = some (v, p2, s2) := e2
  simp only [spec_DrawRunCode.f, e1, e3, Option.bind_some]
theorem draw_names (l : List Int) (hl : ∀ x ∈ l, (Lit.int .u8 x).wf = true) (k : Nat) (hk : 100 < k) : ∃ c, spec_DrawNamesNeeded.f k l = some c ∧ c.length ≤ 40 := by
  obtain ⟨c, p, s, e1, l1, c1⟩ := code3_some l hl k hk
  exact ⟨c, by simp only [spec_DrawNamesNeeded.f, spec_DrawGoodCode.f, e1, Option.bind_some], l1⟩
theorem lhas_loop (l : List Int) (n : Int) (hl : l.length ≤ 1000000) (d : Nat) : ∀ (k i : Nat), i ≤ l.length → l.length - i = d → d < k → laws_has.l0 k n l (l.length : Int) i = some (decide (n ∈ l.drop i)) := by
  induction d with
  | zero =>
    intro k i hi hd hk
    obtain ⟨k, rfl⟩ : ∃ m, k = m + 1 := ⟨k - 1, by omega⟩
    simp only [laws_has.l0]
    rw [if_neg (by omega), List.drop_of_length_le (by omega)]
    simp
  | succ d ih =>
    intro k i hi hd hk
    obtain ⟨k, rfl⟩ : ∃ m, k = m + 1 := ⟨k - 1, by omega⟩
    have hlt : i < l.length := by omega
    simp only [laws_has.l0]
    rw [if_pos (by omega), if_pos (by omega), if_pos (by omega), w64 _ (by omega) (by omega), rd_atZ l i hlt, List.drop_eq_getElem_cons hlt]
    by_cases h : l[i] = n
    · rw [if_pos h]
      simp [h]
    · rw [if_neg h, show (i : Int) + 1 = ((i + 1 : Nat) : Int) by omega, ih k (i + 1) (by omega) (by omega) (by omega)]
      have h' : ¬(n = l[i]) := fun e => h e.symm
      simp only [List.mem_cons, h', false_or]
theorem lhas (l : List Int) (n : Int) (hl : l.length ≤ 1000000) (k : Nat) (hk : l.length < k) : laws_has.f k l n = some (decide (n ∈ l)) := by
  have := lhas_loop l n hl l.length k 0 (by omega) (by omega) (by omega)
  simpa [laws_has.f] using this

theorem tail_ok (l1 : List Int) (hl1 : ∀ x ∈ l1, (Lit.int .u8 x).wf = true) (k : Nat) (hk : 1048800 < k) : ∃ d a p e q, spec_DrawNamesNeeded.f k l1 = some d ∧ impl_NamesNeeded.f k d = some (a, p) ∧ spec_NamesNeeded.f k d = some (a, p) ∧ impl_NamesSet.f k d = some (e, q) ∧ spec_NamesSet.f k d = some (e, q) ∧ laws_sameInts.f k a a = some true ∧ laws_sameInts.f k e e = some true := by
  obtain ⟨c, e, hc⟩ := draw_names l1 hl1 k (by omega)
  obtain ⟨r, b, al, _, hb⟩ := fix c (by omega)
  have hs := bothS c (by omega) k (by omega)
  have ls := ansS_len c
  generalize ansS c = q at *
  obtain ⟨q, b2⟩ := q
  have ls : q.length ≤ 30 := ls
  exact ⟨c, r, b, q, b2, e, (hb k (by omega)).2, (hb k (by omega)).1, hs.2, hs.1, sameInts r (by omega) k (by omega), sameInts q (by omega) k (by omega)⟩
/-- The variables of which nobody asks, turned one by one. -/
def oth (r : List Int) (m : Int) (v : List Int) : Nat → List Int
  | 0 => v
  | i + 1 => if (i : Int) ∈ r then oth r m v i else (oth r m v i).set ((i : Int)).toNat (Go.bits .and .i64 (wrap64 ((wrap64 ((rd (oth r m v i) (i : Int)) + 1)) + m)) 65535)
theorem oth_ok (r : List Int) (m : Int) (v : List Int) (hw : wordsB v = true) : ∀ i : Nat, i ≤ 8 → wordsB (oth r m v i) = true ∧ ∀ z, 0 ≤ z → z ≤ 7 → z ∈ r → rd (oth r m v i) z = rd v z := by
  intro i
  induction i with
  | zero => intro _; exact ⟨hw, fun _ _ _ _ => rfl⟩
  | succ i ih =>
    intro hi
    obtain ⟨ho, hag⟩ := ih (by omega)
    have o8 : (oth r m v i).length = 8 := by
      simp only [wordsB, Bool.and_eq_true, decide_eq_true_eq] at ho
      exact ho.2
    rw [oth]
    by_cases hin : (i : Int) ∈ r
    · rw [if_pos hin]
      exact ⟨ho, hag⟩
    · rw [if_neg hin]
      refine ⟨words_set _ _ _ ho (wB_and _), fun z z0 z1 hz => ?_⟩
      have hne : ¬(z = (i : Int)) := fun e => hin (by rw [← e]; exact hz)
      rw [rd_setZ _ (i : Int) z _ o8 (by omega) (by omega) z0 z1, if_neg hne]
      exact hag z z0 z1 hz

theorem FnCode (l l1 : List Int) (_ : l.length ≤ 9223372036854775807) (hl : ∀ x, x ∈ l → (Lit.int .u8 x).wf = true) (_ : l.length * 1 ≤ 140737488351232) (_ : l1.length ≤ 9223372036854775807) (hl1 : ∀ x, x ∈ l1 → (Lit.int .u8 x).wf = true) (hs1 : l1.length * 1 ≤ 140737488351232) : ∃ k, laws_FnCode.f k l l1 = some true := by
  suffices H : ∀ k, l1.length + 2000000 < k → laws_FnCode.Goes k l l1 from ⟨l1.length + 2000001, laws_FnCode.of (H _ (by omega))⟩
  intro k hk
  by_cases hbig : 1048576 < wrap64 ((l.length : Int) + (l1.length : Int))
  · exact .inl hbig
  obtain ⟨c, v, e0, hc, hv⟩ := draw_run l hl k (by omega)
  obtain ⟨td, ta, tp, te, tq, u1, u2, u3, u4, u5, u6, u7⟩ := tail_ok l1 hl1 k (by omega)
  have b1 := both_s c (by omega) v (by omega) k (by omega)
  have b2 := both_i c (by omega) v (by omega) k (by omega)
  have al := ans_len c v
  have g1 := spec_good c (by omega) k (by omega)
  have g2 : impl_GoodCode.f k c = some (codeB c) := by rw [impl_GoodCode.f, isCode_eq c k (by omega)]; rfl
  have s1 := sameInts (ans c v).1 (by omega) k (by omega)
  have s2 := sameInts (ans c v).2.1 (by omega) k (by omega)
  have hb1 : decide (1048576 < wrap64 ((l.length : Int) + (l1.length : Int))) = false := decide_eq_false hbig
  by_cases hok : (ans c v).2.2 = true
  · refine .inr (.inr ?_)
    have hcw : codeB c = true ∧ wordsB v = true := by
      unfold ans at hok
      by_cases h1 : codeB c = true
      · by_cases h2 : wordsB v = true
        · exact ⟨h1, h2⟩
        · rw [if_pos h1, if_neg h2] at hok; cases hok
      · rw [if_neg h1] at hok; cases hok
    obtain ⟨hcd, hw⟩ := hcw
    have hcb : c.all goodB = true ∧ c.length ≤ 30 := by simpa only [codeB, Bool.and_eq_true, decide_eq_true_eq] using hcd
    have ea : ans c v = ((c.foldl rstp (v, [])).2, (c.foldl rstp (v, [])).1, true) := by unfold ans; rw [if_pos hcd, if_pos hw]
    rw [ea] at b1 b2 s1 s2
    obtain ⟨n, en, n0, n1⟩ := numberOf l1 hl1 (by omega) k (by omega)
    have w1 : wrap64 ((c.length : Int) + 1) = (c.length : Int) + 1 := w64 ((c.length : Int) + 1) (by omega) (by omega)
    have m0 : 0 ≤ n % ((c.length : Int) + 1) := Int.emod_nonneg _ (by omega)
    have m1 : n % ((c.length : Int) + 1) < (c.length : Int) + 1 := Int.emod_lt_of_pos _ (by omega)
    have mt : Int.tmod n (wrap64 ((c.length : Int) + 1)) = n % ((c.length : Int) + 1) := by rw [w1, Int.tmod_eq_emod_of_nonneg n0]
    have mz : (wrap64 ((c.length : Int) + 1) == 0) = false := by rw [w1]; exact beq_eq_false_iff_ne.2 (by omega)
    generalize n % ((c.length : Int) + 1) = mi at *
    obtain ⟨m, rfl⟩ := Int.eq_ofNat_of_zero_le m0
    have t1 : codeB (c.take m) = true := by
      simp only [codeB, Bool.and_eq_true, decide_eq_true_eq, List.length_take]
      exact ⟨List.all_eq_true.2 fun x hx => List.all_eq_true.1 hcb.1 x (List.mem_of_mem_take hx), by omega⟩
    have t2 : codeB (c.drop m) = true := by
      simp only [codeB, Bool.and_eq_true, decide_eq_true_eq, List.length_drop]
      exact ⟨List.all_eq_true.2 fun x hx => List.all_eq_true.1 hcb.1 x (List.mem_of_mem_drop hx), by omega⟩
    have t1g : (c.take m).all goodB = true := List.all_eq_true.2 fun x hx => List.all_eq_true.1 hcb.1 x (List.mem_of_mem_take hx)
    have w1 := runs_words (c.take m) t1g (v, []) hw
    have lt := List.length_take_le m c
    have ld : (c.drop m).length ≤ c.length := by rw [List.length_drop]; omega
    have f1 := both_i (c.take m) (by omega) v (by omega) k (by omega)
    have x8 : ((c.take m).foldl rstp (v, [])).1.length = 8 := (runs_len (c.take m) (v, [])).1.trans hv
    have f2 := both_i (c.drop m) (by omega) ((c.take m).foldl rstp (v, [])).1 (by omega) k (by omega)
    have ea1 : ans (c.take m) v = (((c.take m).foldl rstp (v, [])).2, ((c.take m).foldl rstp (v, [])).1, true) := by unfold ans; rw [if_pos t1, if_pos hw]
    have ea2 : ans (c.drop m) ((c.take m).foldl rstp (v, [])).1 = (((c.drop m).foldl rstp (((c.take m).foldl rstp (v, [])).1, [])).2, ((c.drop m).foldl rstp (((c.take m).foldl rstp (v, [])).1, [])).1, true) := by unfold ans; rw [if_pos t2, if_pos w1]
    have sp : c.foldl rstp (v, []) = (((c.drop m).foldl rstp (((c.take m).foldl rstp (v, [])).1, [])).1, ((c.take m).foldl rstp (v, [])).2 ++ ((c.drop m).foldl rstp (((c.take m).foldl rstp (v, [])).1, [])).2) := by
      conv => lhs; rw [← List.take_append_drop m c, List.foldl_append]
      exact fold_out (c.drop m) ((c.take m).foldl rstp (v, [])).1 ((c.take m).foldl rstp (v, [])).2
    have lo := runs_len c (v, [])
    simp only [List.length_nil] at lo
    obtain ⟨r, b, rl, hr, hb⟩ := fix c (by omega)
    obtain ⟨hbt, hr2⟩ := hr hcd
    subst hbt
    have hS := bothS c (by omega)
    have eS : ansS c = ((vals c).foldl put [], true) := by unfold ansS; rw [if_pos hcd]
    rw [ea1] at f1
    rw [ea2] at f2
    have q1 : ((c.drop m).foldl rstp (((c.take m).foldl rstp (v, [])).1, [])).1 = (c.foldl rstp (v, [])).1 := by rw [sp]
    have q2 : ((c.take m).foldl rstp (v, [])).2 ++ ((c.drop m).foldl rstp (((c.take m).foldl rstp (v, [])).1, [])).2 = (c.foldl rstp (v, [])).2 := by rw [sp]
    rw [q1] at f2
    have hO := oth_ok r (m : Int) v hw
    have hOl : ∀ i : Nat, i ≤ 8 → (oth r (m : Int) v i).length = 8 := fun i hi => by
      have ho := (hO i hi).1
      simp only [wordsB, Bool.and_eq_true, decide_eq_true_eq] at ho
      exact ho.2
    obtain ⟨o8w, o8a⟩ := hO 8 (by omega)
    have o8 := hOl 8 (by omega)
    have e3 := both_i c (by omega) (oth r (m : Int) v 8) (by omega) k (by omega)
    have ea3 : ans c (oth r (m : Int) v 8) = ((c.foldl rstp (oth r (m : Int) v 8, [])).2, (c.foldl rstp (oth r (m : Int) v 8, [])).1, true) := by unfold ans; rw [if_pos hcd, if_pos o8w]
    obtain ⟨a1, a2⟩ := agree c hcb.1 [] (oth r (m : Int) v 8) v [] o8 hv (fun z z0 z1 hz => by
      rcases hz with hz | hz
      · cases hz
      · exact o8a z z0 z1 (hr2 z hz))
    rw [ea3, a1] at e3
    have l8 : (c.foldl rstp (oth r (m : Int) v 8, [])).1.length = 8 := (runs_len c (oth r (m : Int) v 8, [])).1.trans o8
    have v8 : (c.foldl rstp (v, [])).1.length = 8 := (runs_len c (v, [])).1.trans hv
    obtain ⟨_, p1, p2⟩ := foldl_put (vals c) [] (by simp)
    have vl := vals_len c
    simp only [List.length_nil] at p2
    have hN := (hS k (by omega)).2
    rw [eS] at hN
    refine ⟨c, v, (c.foldl rstp (v, [])).2, (c.foldl rstp (v, [])).1, codeB c, tp, tq, td, ta, te, n, (m : Int), c.take m, c.drop m, ((c.take m).foldl rstp (v, [])).2, ((c.take m).foldl rstp (v, [])).1, ((c.drop m).foldl rstp (((c.take m).foldl rstp (v, [])).1, [])).2, r, (vals c).foldl put [], (c.foldl rstp (oth r (m : Int) v 8, [])).1, oth r (m : Int) v,
      hb1, e0, b2, b1, s1, s2, g2, g1, u1, u2, u3, u4, u5, u6, u7, en, mz, mt, by omega, by omega, by rw [Int.toNat_natCast], by rw [Int.toNat_natCast], f1, f2, q2, (hb k (by omega)).2, hN, ⟨by omega, hv⟩, rfl, hOl, fun i hi => ⟨decide ((i : Int) ∈ r), lhas r _ (by omega) k (by omega), fun h => ?_, fun h => ?_⟩, e3, ⟨l8, v8⟩, fun i hi => ⟨decide ((i : Int) ∈ (vals c).foldl put []), lhas _ _ (by omega) k (by omega), fun h => ?_, fun h => ?_⟩⟩
    · rw [oth, if_pos (of_decide_eq_true h)]
    · rw [oth, if_neg (of_decide_eq_false h)]
    · refine a2 i (by omega) (by omega) (.inr ?_)
      rcases (p1 (i : Int)).1 (of_decide_eq_true h) with h | h
      · exact h
      · cases h
    · have hn : (i : Int) ∉ vals c := fun h' => (of_decide_eq_false h) ((p1 (i : Int)).2 (.inl h'))
      exact ⟨keeps c hcb.1 _ [] o8 i (by omega) (by omega) hn, keeps c hcb.1 v [] hv i (by omega) (by omega) hn⟩
  · refine .inr (.inl ?_)
    have hok' : (ans c v).2.2 = false := Bool.eq_false_iff.2 hok
    have b1' : spec_RunCode.f k c v = some ((ans c v).1, (ans c v).2.1, false) := by rw [← hok']; exact b1
    have b2' : impl_RunCode.f k c v = some ((ans c v).1, (ans c v).2.1, false) := by rw [← hok']; exact b2
    exact ⟨c, v, (ans c v).1, (ans c v).2.1, codeB c, tp, tq, td, ta, te, hb1, e0, b2', b1', s1, s2, g2, g1, u1, u2, u3, u4, u5, u6, u7⟩

end Go.Proofs.Ytoggmpihojkbfaa.Pure

/- The pure statement of FnExactGoodFlow: the program returns what the reference returns, for all arguments. -/
import Derived.Test.YtncagigpflfkbaaXFnExactGoodFlowx6
import Derived.Test.YtncagigpflfkbaaBits
namespace Go.Proofs.Ytncagigpflfkbaa.Pure
open Go.RowKit Go.Proofs.Ytncagigpflfkbaa.XFnExactGoodFlow Go.Proofs.YtncagigpflfkbaaW.PrintWords Go.Proofs.YtncagigpflfkbaaW.PrintLast Go.Proofs.YtncagigpflfkbaaW.PrintMore Go.Proofs.YtncagigpflfkbaaBits

theorem rd_at76 (l : List S76) (i : Nat) (h : i < l.length) : rd_T76 l i = l[i] := by
  simp [rd_T76, List.getD_eq_getElem?_getD, List.getElem?_eq_getElem h]

def toI (x : S79) : S76 := ⟨x.f0, x.f1, x.f2, x.f3, x.f4⟩
theorem rd_at79 (l : List S79) (i : Nat) (h : i < l.length) : rd_T79 l i = l[i] := by
  simp [rd_T79, List.getD_eq_getElem?_getD, List.getElem?_eq_getElem h]
theorem toInstrS_loop (l : List S79) (hl : l.length ≤ 1048576) (d : Nat) : ∀ (k i : Nat) (m : List S76), m.length = l.length → i ≤ l.length → l.length - i = d → d < k → m.take i = (l.map toI).take i → laws_toInstrS.l0 k l m i = some (l.map toI) := by
  induction d with
  | zero =>
    intro k i m hm hi hd hk ht
    obtain ⟨k, rfl⟩ : ∃ m, k = m + 1 := ⟨k - 1, by omega⟩
    simp only [laws_toInstrS.l0]
    rw [if_neg (by omega)]
    rw [List.take_of_length_le (by omega), List.take_of_length_le (by simp; omega)] at ht
    rw [ht]
  | succ d ih =>
    intro k i m hm hi hd hk ht
    obtain ⟨k, rfl⟩ : ∃ m, k = m + 1 := ⟨k - 1, by omega⟩
    have hlt : i < l.length := by omega
    simp only [laws_toInstrS.l0, laws_toInstr.f, Option.bind_some]
    rw [if_pos (by omega), if_pos (by omega), if_pos (by omega), w64 _ (by omega) (by omega), rd_at79 l i hlt]
    refine ih k (i + 1) (m.set ((i : Int)).toNat (toI l[i])) (by simpa using hm) (by omega) (by omega) (by omega) ?_
    rw [Int.toNat_natCast, List.take_succ_eq_append_getElem (by rw [List.length_set]; omega), List.take_succ_eq_append_getElem (by simpa using hlt), List.take_set_of_le (Nat.le_refl _), ht]
    simp
theorem toInstrS (l : List S79) (hl : l.length ≤ 1048576) (k : Nat) (hk : l.length < k) : laws_toInstrS.f k l = some (l.map toI) := by
  unfold laws_toInstrS.f
  rw [if_pos (by omega), if_pos (by omega)]
  exact toInstrS_loop l hl l.length k 0 _ (by simp) (by omega) (by omega) (by omega) (by simp)
theorem szInstrS (l : List S79) (hl : l.length ≤ 9223372036854775807) : ∃ s, laws_szInstrS.f l 1048576 = some s ∧ (s < 0 ∨ l.length ≤ 1048576) := by
  unfold laws_szInstrS.f
  rw [w64 _ (by omega) (by omega)]
  split
  · exact ⟨-1, rfl, .inl (by decide)⟩
  · exact ⟨_, rfl, .inr (by omega)⟩

theorem eqInstrS_loop (l : List S76) (hl : l.length ≤ 4611686018427387904) (d : Nat) : ∀ (k i : Nat), i ≤ l.length → l.length - i = d → d < k → laws_eqInstrS.l0 k l l i = some true := by
  induction d with
  | zero =>
    intro k i hi hd hk
    obtain ⟨k, rfl⟩ : ∃ m, k = m + 1 := ⟨k - 1, by omega⟩
    simp only [laws_eqInstrS.l0]
    rw [if_neg (by omega)]
  | succ d ih =>
    intro k i hi hd hk
    obtain ⟨k, rfl⟩ : ∃ m, k = m + 1 := ⟨k - 1, by omega⟩
    simp only [laws_eqInstrS.l0, laws_eqInstr.f, if_true, Option.bind_some]
    rw [if_pos (by omega), if_pos (by omega), if_pos (by omega), w64 _ (by omega) (by omega)]
    exact ih k (i + 1) (by omega) (by omega) (by omega)
theorem eqInstrS (l : List S76) (hl : l.length ≤ 4611686018427387904) (k : Nat) (hk : l.length < k) : laws_eqInstrS.f k l l = some true := by
  unfold laws_eqInstrS.f
  rw [if_pos rfl]
  exact eqInstrS_loop l hl l.length k 0 (by omega) (by omega) (by omega)

def goodB (x : S76) : Bool := decide ((0 ≤ x.f1 ∧ x.f1 ≤ 7) ∧ (0 ≤ x.f2 ∧ x.f2 ≤ 7) ∧ (0 ≤ x.f3 ∧ x.f3 ≤ 7) ∧ (0 ≤ x.f4 ∧ x.f4 ≤ 65535) ∧ (x.f0 = 1 ∧ x.f2 = 0 ∧ x.f3 = 0 ∨ x.f0 = 2 ∧ x.f3 = 0 ∧ x.f4 = 0 ∨ (3 ≤ x.f0 ∧ x.f0 ≤ 7) ∧ x.f4 = 0 ∨ x.f0 = 8 ∧ x.f1 = 0 ∧ x.f3 = 0 ∧ x.f4 = 0))
theorem inS (a l h : Int) : spec_l1In.f a l h = some (decide (l ≤ a ∧ a ≤ h)) := by
  simp only [spec_l1In.f]
  by_cases h1 : a ≥ l <;> simp [*]
theorem inI (a l h : Int) : impl_in.f a l h = some (decide (l ≤ a ∧ a ≤ h)) := by
  simp only [impl_in.f]
  by_cases h1 : a ≥ l <;> simp [*]
theorem good_spec (x : S76) : spec_l3Good.f x.f0 x.f1 x.f2 x.f3 x.f4 = some (goodB x) := by
  simp only [spec_l3Good.f, spec_l3Name.f, spec_l3Two.f, spec_l1Word.f, inS, Option.bind_some, goodB]
  repeat' split
  all_goals first | rfl | (congr 1; simp_all; done) | (congr 1; simp_all; omega) | (congr 1; rw [Bool.eq_iff_iff]; simp_all; done) | (congr 1; rw [Bool.eq_iff_iff]; simp_all; omega)
theorem good_j0t (k : Nat) (a b c d e : Int) : impl_isInstr.j0 (k + 1) true a b c d e = some false := by simp [impl_isInstr.j0]
theorem good_j0f (k : Nat) (a b c d e : Int) : impl_isInstr.j0 (k + 1 + 1) false a b c d e = some (decide (a = 1 ∧ c = 0 ∧ d = 0 ∨ a = 2 ∧ d = 0 ∧ e = 0 ∨ (3 ≤ a ∧ a ≤ 7) ∧ e = 0 ∨ a = 8 ∧ b = 0 ∧ d = 0 ∧ e = 0)) := by
  simp only [impl_isInstr.j0, impl_isInstr.j1, Bool.false_eq_true, if_false]
  repeat' split
  all_goals first | rfl | (congr 1; simp_all; done) | (congr 1; simp_all; omega) | (congr 1; rw [Bool.eq_iff_iff]; simp_all; done) | (congr 1; rw [Bool.eq_iff_iff]; simp_all; omega)
theorem good_impl (x : S76) (k : Nat) (hk : 2 ≤ k) : impl_isInstr.f k x.f0 x.f1 x.f2 x.f3 x.f4 = some (goodB x) := by
  obtain ⟨k, rfl⟩ : ∃ m, k = m + 1 + 1 := ⟨k - 2, by omega⟩
  simp only [impl_isInstr.f, impl_isName.f, impl_isWord.f, inI, Option.bind_some, goodB]
  by_cases h1 : 0 ≤ x.f1 ∧ x.f1 ≤ 7
  · by_cases h2 : 0 ≤ x.f2 ∧ x.f2 ≤ 7
    · by_cases h3 : 0 ≤ x.f3 ∧ x.f3 ≤ 7
      · by_cases h4 : 0 ≤ x.f4 ∧ x.f4 ≤ 65535
        · simp only [eq_true h1, eq_true h2, eq_true h3, eq_true h4, decide_true, if_true, Bool.not_true, good_j0f, true_and]
        · simp only [eq_true h1, eq_true h2, eq_true h3, eq_false h4, decide_true, if_true, decide_false, Bool.not_false, good_j0t, false_and, and_false]
      · simp only [eq_true h1, eq_true h2, eq_false h3, decide_true, if_true, decide_false, Bool.false_eq_true, if_false, good_j0t, false_and, and_false]
    · simp only [eq_true h1, eq_false h2, decide_true, if_true, decide_false, Bool.false_eq_true, if_false, good_j0t, false_and, and_false]
  · simp only [eq_false h1, decide_false, Bool.false_eq_true, if_false, good_j0t, false_and]

theorem goodCode_loop (l : List S76) (hl : l.length ≤ 4611686018427387904) (d : Nat) : ∀ (k i : Nat), i ≤ l.length → l.length - i = d → d < k →
    spec_GoodCode.l0 k l l (l.length : Int) i = some ((l.drop i).all goodB && decide (l.length ≤ 30)) := by
  induction d with
  | zero =>
    intro k i hi hd hk
    obtain ⟨k, rfl⟩ : ∃ m, k = m + 1 := ⟨k - 1, by omega⟩
    simp only [spec_GoodCode.l0]
    rw [if_neg (by omega), List.drop_of_length_le (by omega)]
    simp
    omega
  | succ d ih =>
    intro k i hi hd hk
    obtain ⟨k, rfl⟩ : ∃ m, k = m + 1 := ⟨k - 1, by omega⟩
    have hlt : i < l.length := by omega
    simp only [spec_GoodCode.l0, good_spec, Option.bind_some]
    rw [if_pos (by omega), if_pos (by omega), if_pos (by omega), w64 _ (by omega) (by omega), rd_at76 l i hlt, List.drop_eq_getElem_cons hlt, List.all_cons]
    cases goodB l[i] with
    | true => simpa using ih k (i + 1) (by omega) (by omega) (by omega)
    | false => simp
def codeB (l : List S76) : Bool := l.all goodB && decide (l.length ≤ 30)
theorem spec_good (l : List S76) (hl : l.length ≤ 4611686018427387904) (k : Nat) (hk : l.length < k) : spec_GoodCode.f k l = some (codeB l) := by
  have := goodCode_loop l hl l.length k 0 (by omega) (by omega) (by omega)
  simpa [spec_GoodCode.f, codeB] using this
theorem index_loop (l : List S76) (hl : l.length ≤ 4611686018427387904) (d : Nat) : ∀ (k i : Nat), i ≤ l.length → l.length - i = d → d + 3 < k →
    ∃ r, slices_IndexFunc_at99.l0 k l (l.length : Int) i = some r ∧ decide (r ≥ 0) = !(l.drop i).all goodB := by
  induction d with
  | zero =>
    intro k i hi hd hk
    obtain ⟨k, rfl⟩ : ∃ m, k = m + 1 := ⟨k - 1, by omega⟩
    simp only [slices_IndexFunc_at99.l0]
    rw [if_neg (by omega), List.drop_of_length_le (by omega)]
    exact ⟨-1, rfl, by simp⟩
  | succ d ih =>
    intro k i hi hd hk
    obtain ⟨k, rfl⟩ : ∃ m, k = m + 1 := ⟨k - 1, by omega⟩
    have hlt : i < l.length := by omega
    simp only [slices_IndexFunc_at99.l0, impl_isCode_1.f, good_impl _ k (by omega), Option.bind_some]
    rw [if_pos (by omega), if_pos (by omega), if_pos (by omega), w64 _ (by omega) (by omega), rd_at76 l i hlt, List.drop_eq_getElem_cons hlt, List.all_cons]
    cases goodB l[i] with
    | true =>
      obtain ⟨r, h1, h2⟩ := ih k (i + 1) (by omega) (by omega) (by omega)
      exact ⟨r, by simpa using h1, by simpa using h2⟩
    | false => exact ⟨i, by simp, by simp⟩
theorem isCode_eq (l : List S76) (k : Nat) (hk : 40 < k) : impl_isCode.f k l = some (codeB l) := by
  unfold impl_isCode.f codeB
  by_cases h : (l.length : Int) ≤ 30
  · rw [if_pos h]
    obtain ⟨r, h1, h2⟩ := index_loop l (by omega) l.length k 0 (by omega) (by omega) (by omega)
    simp only [slices_ContainsFunc_at99.f, slices_IndexFunc_at99.f]
    rw [show (0 : Int) = ((0 : Nat) : Int) from rfl, h1]
    simp only [Option.bind_some]
    rw [show ((0 : Nat) : Int) = 0 from rfl, h2, show decide (l.length ≤ 30) = true from decide_eq_true (by omega)]
    simp
  · rw [if_neg h, show decide (l.length ≤ 30) = false from decide_eq_false (by omega)]
    simp

def toB (x : S84) : S86 := ⟨x.f0.map toI, x.f1, x.f2, x.f3⟩
theorem rd_at84 (l : List S84) (i : Nat) (h : i < l.length) : rd_T84 l i = l[i] := by
  simp [rd_T84, List.getD_eq_getElem?_getD, List.getElem?_eq_getElem h]
theorem rd_at86 (l : List S86) (i : Nat) (h : i < l.length) : rd_T86 l i = l[i] := by
  simp [rd_T86, List.getD_eq_getElem?_getD, List.getElem?_eq_getElem h]
theorem szI (c : List S79) (s : Int) (h0 : 0 ≤ s) (h1 : s ≤ 1048576) (hc : c.length ≤ 9223372036854775807) : ∃ r, laws_szInstrS.f c s = some r ∧ r ≤ 1048576 ∧ (r < 0 ∨ c.length ≤ 1048576) := by
  unfold laws_szInstrS.f
  rw [w64 _ (by omega) (by omega)]
  split
  · exact ⟨-1, rfl, by decide, .inl (by decide)⟩
  · exact ⟨_, rfl, by omega, .inr (by omega)⟩
theorem szBlockS_loop (l : List S84) (hl : l.length ≤ 1048576) (hin : ∀ i : Nat, i < l.length → (rd_T84 l i).f0.length ≤ 9223372036854775807) (d : Nat) : ∀ (k i : Nat) (s : Int), 0 ≤ s → s ≤ 1048576 → i ≤ l.length → l.length - i = d → d < k →
    ∃ r, laws_szBlockS.l0 k l s i = some r ∧ (r < 0 ∨ ∀ j : Nat, i ≤ j → j < l.length → (rd_T84 l j).f0.length ≤ 1048576) := by
  induction d with
  | zero =>
    intro k i s h0 h1 hi hd hk
    obtain ⟨k, rfl⟩ : ∃ m, k = m + 1 := ⟨k - 1, by omega⟩
    simp only [laws_szBlockS.l0]
    rw [if_neg (by omega)]
    exact ⟨s, rfl, .inr fun j a b => by omega⟩
  | succ d ih =>
    intro k i s h0 h1 hi hd hk
    obtain ⟨k, rfl⟩ : ∃ m, k = m + 1 := ⟨k - 1, by omega⟩
    obtain ⟨r, e1, e2, e3⟩ := szI (rd_T84 l i).f0 s h0 h1 (hin i (by omega))
    simp only [laws_szBlockS.l0, laws_szBlock.f, e1, Option.bind_some]
    rw [if_pos (by omega), if_pos (by omega), w64 _ (by omega) (by omega)]
    by_cases hr : r < 0
    · rw [if_pos hr]
      exact ⟨-1, by simp, .inl (by decide)⟩
    · rw [if_neg hr]
      simp only [Option.bind_some]
      rw [if_neg hr]
      obtain ⟨r2, f1, f2⟩ := ih k (i + 1) r (by omega) e2 (by omega) (by omega) (by omega)
      refine ⟨r2, f1, ?_⟩
      rcases f2 with f2 | f2
      · exact .inl f2
      · refine .inr fun j a b => ?_
        by_cases hj : j = i
        · subst hj; omega
        · exact f2 j (by omega) b
theorem szBlockS (l : List S84) (hl : l.length ≤ 9223372036854775807) (hin : ∀ i : Nat, i < l.length → (rd_T84 l i).f0.length ≤ 9223372036854775807) (k : Nat) (hk : 1048577 < k) : ∃ r, laws_szBlockS.f k l 1048576 = some r ∧ (r < 0 ∨ l.length ≤ 1048576 ∧ ∀ x ∈ l, x.f0.length ≤ 1048576) := by
  unfold laws_szBlockS.f
  rw [w64 _ (by omega) (by omega)]
  by_cases h : (1048576 : Int) - (l.length : Int) < 0
  · rw [if_pos h]
    exact ⟨-1, rfl, .inl (by decide)⟩
  · rw [if_neg h]
    obtain ⟨r, e1, e2⟩ := szBlockS_loop l (by omega) hin l.length k 0 (1048576 - (l.length : Int)) (by omega) (by omega) (by omega) (by omega) (by omega)
    refine ⟨r, e1, ?_⟩
    rcases e2 with e2 | e2
    · exact .inl e2
    · refine .inr ⟨by omega, fun x hx => ?_⟩
      obtain ⟨j, hj, rfl⟩ := List.getElem_of_mem hx
      have := e2 j (by omega) hj
      rwa [rd_at84 l j hj] at this
theorem toBlockS_loop (l : List S84) (hl : l.length ≤ 1048576) (hc : ∀ x ∈ l, x.f0.length ≤ 1048576) (d : Nat) : ∀ (k i : Nat) (m : List S86), m.length = l.length → i ≤ l.length → l.length - i = d → d + 1048578 < k → m.take i = (l.map toB).take i → laws_toBlockS.l0 k l m i = some (l.map toB) := by
  induction d with
  | zero =>
    intro k i m hm hi hd hk ht
    obtain ⟨k, rfl⟩ : ∃ m, k = m + 1 := ⟨k - 1, by omega⟩
    simp only [laws_toBlockS.l0]
    rw [if_neg (by omega)]
    rw [List.take_of_length_le (by omega), List.take_of_length_le (by simp; omega)] at ht
    rw [ht]
  | succ d ih =>
    intro k i m hm hi hd hk ht
    obtain ⟨k, rfl⟩ : ∃ m, k = m + 1 := ⟨k - 1, by omega⟩
    have hlt : i < l.length := by omega
    have hci := hc l[i] (List.getElem_mem hlt)
    simp only [laws_toBlockS.l0, laws_toBlock.f, rd_at84 l i hlt, toInstrS l[i].f0 hci k (by omega), Option.bind_some]
    rw [if_pos (by omega), if_pos (by omega), if_pos (by omega), w64 _ (by omega) (by omega)]
    refine ih k (i + 1) (m.set ((i : Int)).toNat (toB l[i])) (by simpa using hm) (by omega) (by omega) (by omega) ?_
    rw [Int.toNat_natCast, List.take_succ_eq_append_getElem (by rw [List.length_set]; omega), List.take_succ_eq_append_getElem (by simpa using hlt), List.take_set_of_le (Nat.le_refl _), ht]
    simp
theorem toBlockS (l : List S84) (hl : l.length ≤ 1048576) (hc : ∀ x ∈ l, x.f0.length ≤ 1048576) (k : Nat) (hk : 2097160 < k) : laws_toBlockS.f k l = some (l.map toB) := by
  unfold laws_toBlockS.f
  rw [if_pos (by omega), if_pos (by omega)]
  exact toBlockS_loop l hl hc l.length k 0 _ (by simp) (by omega) (by omega) (by omega) (by simp)
theorem eqBlockS_loop (l : List S86) (hl : l.length ≤ 1048576) (hc : ∀ x ∈ l, x.f0.length ≤ 1048576) (d : Nat) : ∀ (k i : Nat), i ≤ l.length → l.length - i = d → d + 1048578 < k → laws_eqBlockS.l0 k l l i = some true := by
  induction d with
  | zero =>
    intro k i hi hd hk
    obtain ⟨k, rfl⟩ : ∃ m, k = m + 1 := ⟨k - 1, by omega⟩
    simp only [laws_eqBlockS.l0]
    rw [if_neg (by omega)]
  | succ d ih =>
    intro k i hi hd hk
    obtain ⟨k, rfl⟩ : ∃ m, k = m + 1 := ⟨k - 1, by omega⟩
    have hlt : i < l.length := by omega
    have hci := hc l[i] (List.getElem_mem hlt)
    simp only [laws_eqBlockS.l0, laws_eqBlock.f, rd_at86 l i hlt, eqInstrS l[i].f0 (by omega) k (by omega), if_true, Option.bind_some]
    rw [if_pos (by omega), if_pos (by omega), if_pos (by omega), w64 _ (by omega) (by omega)]
    exact ih k (i + 1) (by omega) (by omega) (by omega)
theorem eqBlockS (l : List S86) (hl : l.length ≤ 1048576) (hc : ∀ x ∈ l, x.f0.length ≤ 1048576) (k : Nat) (hk : 2097160 < k) : laws_eqBlockS.f k l l = some true := by
  unfold laws_eqBlockS.f
  rw [if_pos rfl]
  exact eqBlockS_loop l hl hc l.length k 0 (by omega) (by omega) (by omega)

def blockB (n : Int) (b : S86) : Bool := codeB b.f0 && (decide (0 ≤ b.f1 ∧ b.f1 ≤ 7) && (decide (-1 ≤ b.f2 ∧ b.f2 ≤ n - 1) && decide (-1 ≤ b.f3 ∧ b.f3 ≤ n - 1)))
theorem block_impl (n : Int) (b : S86) (k : Nat) (hk : 40 < k) (h0 : 0 ≤ n) (h1 : n ≤ 1048576) : impl_isFlow_1.f k b.f0 b.f1 b.f2 b.f3 n = some (!blockB n b) := by
  simp only [impl_isFlow_1.f, impl_isName.f, isCode_eq b.f0 k hk, inI, Option.bind_some, w64 (n - 1) (by omega) (by omega), blockB]
  cases codeB b.f0 <;> by_cases h2 : 0 ≤ b.f1 ∧ b.f1 ≤ 7 <;> by_cases h3 : -1 ≤ b.f2 ∧ b.f2 ≤ n - 1 <;> simp [h2, h3]
theorem flow_loop (l : List S86) (hl : l.length ≤ 1048576) (hc : ∀ x ∈ l, x.f0.length ≤ 1048576) (d : Nat) : ∀ (k i : Nat), i ≤ l.length → l.length - i = d → d + 1048578 < k →
    spec_GoodFlow.l0 k l l (l.length : Int) i = some ((l.drop i).all (blockB (l.length : Int)) && decide (1 ≤ (l.length : Int) ∧ (l.length : Int) ≤ 8)) := by
  induction d with
  | zero =>
    intro k i hi hd hk
    obtain ⟨k, rfl⟩ : ∃ m, k = m + 1 := ⟨k - 1, by omega⟩
    simp only [spec_GoodFlow.l0, inS]
    rw [if_neg (by omega), List.drop_of_length_le (by omega)]
    simp
  | succ d ih =>
    intro k i hi hd hk
    obtain ⟨k, rfl⟩ : ∃ m, k = m + 1 := ⟨k - 1, by omega⟩
    have hlt : i < l.length := by omega
    have hci := hc l[i] (List.getElem_mem hlt)
    have c1 : (i : Int) < (l.length : Int) := by omega
    have c2 : (0 : Int) ≤ i := by omega
    simp only [spec_GoodFlow.l0, spec_l3Name.f, rd_at86 l i hlt, spec_good l[i].f0 (by omega) k (by omega), inS, Option.bind_some, if_pos c1, if_pos c2, w64 ((i : Int) + 1) (by omega) (by omega), w64 ((l.length : Int) - 1) (by omega) (by omega)]
    rw [List.drop_eq_getElem_cons hlt, List.all_cons]
    have ih' := ih k (i + 1) (by omega) (by omega) (by omega)
    rw [show (i : Int) + 1 = ((i + 1 : Nat) : Int) by omega, ih']
    generalize (l.drop (i + 1)).all (blockB (l.length : Int)) = R
    generalize (l.length : Int) = n at *
    simp only [blockB]
    cases codeB l[i].f0 <;> by_cases h2 : 0 ≤ l[i].f1 ∧ l[i].f1 ≤ 7 <;> by_cases h3 : -1 ≤ l[i].f2 ∧ l[i].f2 ≤ n - 1 <;> by_cases h4 : -1 ≤ l[i].f3 ∧ l[i].f3 ≤ n - 1 <;> simp [h2, h3, h4]
theorem indexB_loop (l : List S86) (hl : l.length ≤ 1048576) (d : Nat) : ∀ (k i : Nat), i ≤ l.length → l.length - i = d → d + 41 < k →
    ∃ r, slices_IndexFunc_at102.l0 k l (l.length : Int) i (l.length : Int) = some r ∧ decide (r ≥ 0) = !(l.drop i).all (blockB (l.length : Int)) := by
  induction d with
  | zero =>
    intro k i hi hd hk
    obtain ⟨k, rfl⟩ : ∃ m, k = m + 1 := ⟨k - 1, by omega⟩
    simp only [slices_IndexFunc_at102.l0]
    rw [if_neg (by omega), List.drop_of_length_le (by omega)]
    exact ⟨-1, rfl, by simp⟩
  | succ d ih =>
    intro k i hi hd hk
    obtain ⟨k, rfl⟩ : ∃ m, k = m + 1 := ⟨k - 1, by omega⟩
    have hlt : i < l.length := by omega
    simp only [slices_IndexFunc_at102.l0, block_impl (l.length : Int) _ k (by omega) (by omega) (by omega), Option.bind_some]
    rw [if_pos (by omega), if_pos (by omega), if_pos (by omega), w64 _ (by omega) (by omega), rd_at86 l i hlt, List.drop_eq_getElem_cons hlt, List.all_cons]
    cases blockB (l.length : Int) l[i] with
    | true =>
      obtain ⟨r, h1, h2⟩ := ih k (i + 1) (by omega) (by omega) (by omega)
      exact ⟨r, by simpa using h1, by simpa using h2⟩
    | false => exact ⟨i, by simp, by simp⟩
def flowB (l : List S86) : Bool := l.all (blockB (l.length : Int)) && decide (1 ≤ (l.length : Int) ∧ (l.length : Int) ≤ 8)
theorem spec_flow (l : List S86) (hl : l.length ≤ 1048576) (hc : ∀ x ∈ l, x.f0.length ≤ 1048576) (k : Nat) (hk : 2097160 < k) : spec_GoodFlow.f k l = some (flowB l) := by
  have := flow_loop l hl hc l.length k 0 (by omega) (by omega) (by omega)
  simpa [spec_GoodFlow.f, flowB] using this
theorem isFlow_eq (l : List S86) (k : Nat) (hk : 100 < k) : impl_isFlow.f k l = some (flowB l) := by
  simp only [impl_isFlow.f, inI, Option.bind_some, flowB, decide_eq_true_eq]
  by_cases h : 1 ≤ (l.length : Int) ∧ (l.length : Int) ≤ 8
  · obtain ⟨r, h1, h2⟩ := indexB_loop l (by omega) l.length k 0 (by omega) (by omega) (by omega)
    simp only [slices_ContainsFunc_at102.f, slices_IndexFunc_at102.f]
    rw [show (0 : Int) = ((0 : Nat) : Int) from rfl, h1]
    simp only [Option.bind_some]
    rw [show ((0 : Nat) : Int) = 0 from rfl, h2, if_pos h]
    simp [h]
  · rw [if_neg h]
    simp [h]

theorem FnExactGoodFlow (l : List S84) (hl : l.length ≤ 9223372036854775807) (hin : ∀ i : Nat, i < l.length → (rd_T84 l i).f0.length ≤ 9223372036854775807) : ∃ k, laws_FnExactGoodFlow.f k l = some true := by
  suffices H : ∀ k, 3000000 < k → laws_FnExactGoodFlow.f k l = some true from ⟨3000001, H _ (by omega)⟩
  intro k hk
  obtain ⟨s, hs, hs2⟩ := szBlockS l hl hin k (by omega)
  unfold laws_FnExactGoodFlow.f
  rw [hs]
  simp only [Option.bind_some]
  by_cases h0 : s < 0
  · rw [if_pos h0]
  rw [if_neg h0]
  obtain ⟨h1, h2⟩ : l.length ≤ 1048576 ∧ ∀ x ∈ l, x.f0.length ≤ 1048576 := hs2.resolve_left h0
  have t := toBlockS l h1 h2 k (by omega)
  have hm : (l.map toB).length ≤ 1048576 := by simpa using h1
  have hc : ∀ x ∈ l.map toB, x.f0.length ≤ 1048576 := by
    intro x hx
    obtain ⟨y, hy, rfl⟩ := List.mem_map.1 hx
    simpa [toB] using h2 y hy
  generalize l.map toB = m at *
  have e1 := spec_flow m hm hc k (by omega)
  have e2 := isFlow_eq m k (by omega)
  have e3 := eqBlockS m hm hc k (by omega)
  simp [t, e1, impl_GoodFlow.f, e2, e3]

end Go.Proofs.Ytncagigpflfkbaa.Pure

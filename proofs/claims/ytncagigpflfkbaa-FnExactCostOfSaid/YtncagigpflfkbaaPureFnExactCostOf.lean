/- The pure statement of FnExactCostOf: the program returns what the reference returns, for all arguments. -/
import Derived.Test.YtncagigpflfkbaaXFnExactCostOfx4
import Derived.Test.YtncagigpflfkbaaBits
namespace Go.Proofs.Ytncagigpflfkbaa.Pure
open Go.RowKit Go.Proofs.Ytncagigpflfkbaa.XFnExactCostOf Go.Proofs.YtncagigpflfkbaaW.PrintWords Go.Proofs.YtncagigpflfkbaaW.PrintLast Go.Proofs.YtncagigpflfkbaaW.PrintMore Go.Proofs.YtncagigpflfkbaaBits

theorem rd_at76 (l : List S76) (i : Nat) (h : i < l.length) : rd_T76 l i = l[i] := by
  simp [rd_T76, List.getD_eq_getElem?_getD, List.getElem?_eq_getElem h]

def toI (x : S79) : S76 := ⟨x.f0, x.f1, x.f2, x.f3, x.f4⟩
theorem rd_at79 (l : List S79) (i : Nat) (h : i < l.length) : rd_T79 l i = l[i] := by
  simp [rd_T79, List.getD_eq_getElem?_getD, List.getElem?_eq_getElem h]
theorem toInstrS_loop (l : List S79) (hl : l.length ≤ 1048576) (d : Nat) : ∀ (k i : Nat) (m : List S76), m.length = l.length → i ≤ l.length → l.length - i = d → d < k → m.take i = (l.map toI).take i → laws_toInstrS.l0 k l m i = some (l.map toI) := by
  induction d with
  | zero =>
    intro k i m hm hi hd hk ht
    obtain ⟨k, rfl⟩ : ∃ m, k = m + 1 := ⟨k - 1, by omega⟩
    simp only [laws_toInstrS.l0]
    rw [if_neg (by omega)]
    rw [List.take_of_length_le (by omega), List.take_of_length_le (by simp; omega)] at ht
    rw [ht]
  | succ d ih =>
    intro k i m hm hi hd hk ht
    obtain ⟨k, rfl⟩ : ∃ m, k = m + 1 := ⟨k - 1, by omega⟩
    have hlt : i < l.length := by omega
    simp only [laws_toInstrS.l0, laws_toInstr.f, Option.bind_some]
    rw [if_pos (by omega), if_pos (by omega), if_pos (by omega), w64 _ (by omega) (by omega), rd_at79 l i hlt]
    refine ih k (i + 1) (m.set ((i : Int)).toNat (toI l[i])) (by simpa using hm) (by omega) (by omega) (by omega) ?_
    rw [Int.toNat_natCast, List.take_succ_eq_append_getElem (by rw [List.length_set]; omega), List.take_succ_eq_append_getElem (by simpa using hlt), List.take_set_of_le (Nat.le_refl _), ht]
    simp
theorem toInstrS (l : List S79) (hl : l.length ≤ 1048576) (k : Nat) (hk : l.length < k) : laws_toInstrS.f k l = some (l.map toI) := by
  unfold laws_toInstrS.f
  rw [if_pos (by omega), if_pos (by omega)]
  exact toInstrS_loop l hl l.length k 0 _ (by simp) (by omega) (by omega) (by omega) (by simp)
theorem szInstrS (l : List S79) (hl : l.length ≤ 9223372036854775807) : ∃ s, laws_szInstrS.f l 1048576 = some s ∧ (s < 0 ∨ l.length ≤ 1048576) := by
  unfold laws_szInstrS.f
  rw [w64 _ (by omega) (by omega)]
  split
  · exact ⟨-1, rfl, .inl (by decide)⟩
  · exact ⟨_, rfl, .inr (by omega)⟩

theorem eqInstrS_loop (l : List S76) (hl : l.length ≤ 4611686018427387904) (d : Nat) : ∀ (k i : Nat), i ≤ l.length → l.length - i = d → d < k → laws_eqInstrS.l0 k l l i = some true := by
  induction d with
  | zero =>
    intro k i hi hd hk
    obtain ⟨k, rfl⟩ : ∃ m, k = m + 1 := ⟨k - 1, by omega⟩
    simp only [laws_eqInstrS.l0]
    rw [if_neg (by omega)]
  | succ d ih =>
    intro k i hi hd hk
    obtain ⟨k, rfl⟩ : ∃ m, k = m + 1 := ⟨k - 1, by omega⟩
    simp only [laws_eqInstrS.l0, laws_eqInstr.f, if_true, Option.bind_some]
    rw [if_pos (by omega), if_pos (by omega), if_pos (by omega), w64 _ (by omega) (by omega)]
    exact ih k (i + 1) (by omega) (by omega) (by omega)
theorem eqInstrS (l : List S76) (hl : l.length ≤ 4611686018427387904) (k : Nat) (hk : l.length < k) : laws_eqInstrS.f k l l = some true := by
  unfold laws_eqInstrS.f
  rw [if_pos rfl]
  exact eqInstrS_loop l hl l.length k 0 (by omega) (by omega) (by omega)

def goodB (x : S76) : Bool := decide ((0 ≤ x.f1 ∧ x.f1 ≤ 7) ∧ (0 ≤ x.f2 ∧ x.f2 ≤ 7) ∧ (0 ≤ x.f3 ∧ x.f3 ≤ 7) ∧ (0 ≤ x.f4 ∧ x.f4 ≤ 65535) ∧ (x.f0 = 1 ∧ x.f2 = 0 ∧ x.f3 = 0 ∨ x.f0 = 2 ∧ x.f3 = 0 ∧ x.f4 = 0 ∨ (3 ≤ x.f0 ∧ x.f0 ≤ 7) ∧ x.f4 = 0 ∨ x.f0 = 8 ∧ x.f1 = 0 ∧ x.f3 = 0 ∧ x.f4 = 0))
theorem inS (a l h : Int) : spec_l1In.f a l h = some (decide (l ≤ a ∧ a ≤ h)) := by
  simp only [spec_l1In.f]
  by_cases h1 : a ≥ l <;> simp [*]
theorem inI (a l h : Int) : impl_in.f a l h = some (decide (l ≤ a ∧ a ≤ h)) := by
  simp only [impl_in.f]
  by_cases h1 : a ≥ l <;> simp [*]
theorem good_spec (x : S76) : spec_l3Good.f x.f0 x.f1 x.f2 x.f3 x.f4 = some (goodB x) := by
  simp only [spec_l3Good.f, spec_l3Name.f, spec_l3Two.f, spec_l1Word.f, inS, Option.bind_some, goodB]
  repeat' split
  all_goals first | rfl | (congr 1; simp_all; done) | (congr 1; simp_all; omega) | (congr 1; rw [Bool.eq_iff_iff]; simp_all; done) | (congr 1; rw [Bool.eq_iff_iff]; simp_all; omega)
theorem good_j0t (k : Nat) (a b c d e : Int) : impl_isInstr.j0 (k + 1) true a b c d e = some false := by simp [impl_isInstr.j0]
theorem good_j0f (k : Nat) (a b c d e : Int) : impl_isInstr.j0 (k + 1 + 1) false a b c d e = some (decide (a = 1 ∧ c = 0 ∧ d = 0 ∨ a = 2 ∧ d = 0 ∧ e = 0 ∨ (3 ≤ a ∧ a ≤ 7) ∧ e = 0 ∨ a = 8 ∧ b = 0 ∧ d = 0 ∧ e = 0)) := by
  simp only [impl_isInstr.j0, impl_isInstr.j1, Bool.false_eq_true, if_false]
  repeat' split
  all_goals first | rfl | (congr 1; simp_all; done) | (congr 1; simp_all; omega) | (congr 1; rw [Bool.eq_iff_iff]; simp_all; done) | (congr 1; rw [Bool.eq_iff_iff]; simp_all; omega)
theorem good_impl (x : S76) (k : Nat) (hk : 2 ≤ k) : impl_isInstr.f k x.f0 x.f1 x.f2 x.f3 x.f4 = some (goodB x) := by
  obtain ⟨k, rfl⟩ : ∃ m, k = m + 1 + 1 := ⟨k - 2, by omega⟩
  simp only [impl_isInstr.f, impl_isName.f, impl_isWord.f, inI, Option.bind_some, goodB]
  by_cases h1 : 0 ≤ x.f1 ∧ x.f1 ≤ 7
  · by_cases h2 : 0 ≤ x.f2 ∧ x.f2 ≤ 7
    · by_cases h3 : 0 ≤ x.f3 ∧ x.f3 ≤ 7
      · by_cases h4 : 0 ≤ x.f4 ∧ x.f4 ≤ 65535
        · simp only [eq_true h1, eq_true h2, eq_true h3, eq_true h4, decide_true, if_true, Bool.not_true, good_j0f, true_and]
        · simp only [eq_true h1, eq_true h2, eq_true h3, eq_false h4, decide_true, if_true, decide_false, Bool.not_false, good_j0t, false_and, and_false]
      · simp only [eq_true h1, eq_true h2, eq_false h3, decide_true, if_true, decide_false, Bool.false_eq_true, if_false, good_j0t, false_and, and_false]
    · simp only [eq_true h1, eq_false h2, decide_true, if_true, decide_false, Bool.false_eq_true, if_false, good_j0t, false_and, and_false]
  · simp only [eq_false h1, decide_false, Bool.false_eq_true, if_false, good_j0t, false_and]

theorem goodCode_loop (l : List S76) (hl : l.length ≤ 4611686018427387904) (d : Nat) : ∀ (k i : Nat), i ≤ l.length → l.length - i = d → d < k →
    spec_GoodCode.l0 k l l (l.length : Int) i = some ((l.drop i).all goodB && decide (l.length ≤ 30)) := by
  induction d with
  | zero =>
    intro k i hi hd hk
    obtain ⟨k, rfl⟩ : ∃ m, k = m + 1 := ⟨k - 1, by omega⟩
    simp only [spec_GoodCode.l0]
    rw [if_neg (by omega), List.drop_of_length_le (by omega)]
    simp
    omega
  | succ d ih =>
    intro k i hi hd hk
    obtain ⟨k, rfl⟩ : ∃ m, k = m + 1 := ⟨k - 1, by omega⟩
    have hlt : i < l.length := by omega
    simp only [spec_GoodCode.l0, good_spec, Option.bind_some]
    rw [if_pos (by omega), if_pos (by omega), if_pos (by omega), w64 _ (by omega) (by omega), rd_at76 l i hlt, List.drop_eq_getElem_cons hlt, List.all_cons]
    cases goodB l[i] with
    | true => simpa using ih k (i + 1) (by omega) (by omega) (by omega)
    | false => simp
def codeB (l : List S76) : Bool := l.all goodB && decide (l.length ≤ 30)
theorem spec_good (l : List S76) (hl : l.length ≤ 4611686018427387904) (k : Nat) (hk : l.length < k) : spec_GoodCode.f k l = some (codeB l) := by
  have := goodCode_loop l hl l.length k 0 (by omega) (by omega) (by omega)
  simpa [spec_GoodCode.f, codeB] using this
theorem index_loop (l : List S76) (hl : l.length ≤ 4611686018427387904) (d : Nat) : ∀ (k i : Nat), i ≤ l.length → l.length - i = d → d + 3 < k →
    ∃ r, slices_IndexFunc_at99.l0 k l (l.length : Int) i = some r ∧ decide (r ≥ 0) = !(l.drop i).all goodB := by
  induction d with
  | zero =>
    intro k i hi hd hk
    obtain ⟨k, rfl⟩ : ∃ m, k = m + 1 := ⟨k - 1, by omega⟩
    simp only [slices_IndexFunc_at99.l0]
    rw [if_neg (by omega), List.drop_of_length_le (by omega)]
    exact ⟨-1, rfl, by simp⟩
  | succ d ih =>
    intro k i hi hd hk
    obtain ⟨k, rfl⟩ : ∃ m, k = m + 1 := ⟨k - 1, by omega⟩
    have hlt : i < l.length := by omega
    simp only [slices_IndexFunc_at99.l0, impl_isCode_1.f, good_impl _ k (by omega), Option.bind_some]
    rw [if_pos (by omega), if_pos (by omega), if_pos (by omega), w64 _ (by omega) (by omega), rd_at76 l i hlt, List.drop_eq_getElem_cons hlt, List.all_cons]
    cases goodB l[i] with
    | true =>
      obtain ⟨r, h1, h2⟩ := ih k (i + 1) (by omega) (by omega) (by omega)
      exact ⟨r, by simpa using h1, by simpa using h2⟩
    | false => exact ⟨i, by simp, by simp⟩
theorem isCode_eq (l : List S76) (k : Nat) (hk : 40 < k) : impl_isCode.f k l = some (codeB l) := by
  unfold impl_isCode.f codeB
  by_cases h : (l.length : Int) ≤ 30
  · rw [if_pos h]
    obtain ⟨r, h1, h2⟩ := index_loop l (by omega) l.length k 0 (by omega) (by omega) (by omega)
    simp only [slices_ContainsFunc_at99.f, slices_IndexFunc_at99.f]
    rw [show (0 : Int) = ((0 : Nat) : Int) from rfl, h1]
    simp only [Option.bind_some]
    rw [show ((0 : Nat) : Int) = 0 from rfl, h2, show decide (l.length ≤ 30) = true from decide_eq_true (by omega)]
    simp
  · rw [if_neg h, show decide (l.length ≤ 30) = false from decide_eq_false (by omega)]
    simp

theorem cost_loop (l : List S76) (hl : l.length ≤ 1000000) (d : Nat) : ∀ (k i : Nat) (s : Int), i ≤ l.length → l.length - i = d → d < k →
    ∃ r, spec_CostOf.l0 k s l (l.length : Int) i = some (r, true) ∧ impl_CostOf.l0 k s l (l.length : Int) i = some (r, true) := by
  induction d with
  | zero =>
    intro k i s hi hd hk
    obtain ⟨k, rfl⟩ : ∃ m, k = m + 1 := ⟨k - 1, by omega⟩
    exact ⟨s, by simp only [spec_CostOf.l0]; rw [if_neg (by omega)], by simp only [impl_CostOf.l0]; rw [if_neg (by omega)]⟩
  | succ d ih =>
    intro k i s hi hd hk
    obtain ⟨k, rfl⟩ : ∃ m, k = m + 1 := ⟨k - 1, by omega⟩
    have c1 : (i : Int) < (l.length : Int) := by omega
    have c2 : (0 : Int) ≤ i := by omega
    simp only [spec_CostOf.l0, impl_CostOf.l0, spec_l3Two.f, inS, Option.bind_some, if_pos c1, if_pos c2, w64 ((i : Int) + 1) (by omega) (by omega)]
    have ih' := fun s => ih k (i + 1) s (by omega) (by omega) (by omega)
    generalize (rd_T76 l i).f0 = op at *
    by_cases h5 : op = 5
    · simp only [if_pos h5]
      exact ih' _
    · by_cases h3 : op = 3
      · simp only [if_neg h5, if_pos h3]
        rw [if_pos (by simp; omega)]
        exact ih' _
      · by_cases h4 : op = 4
        · simp only [if_neg h5, if_neg h3, if_pos h4]
          rw [if_pos (by simp; omega)]
          exact ih' _
        · by_cases h6 : op = 6
          · simp only [if_neg h5, if_neg h3, if_neg h4, if_pos h6]
            rw [if_pos (by simp; omega)]
            exact ih' _
          · by_cases h7 : op = 7
            · simp only [if_neg h5, if_neg h3, if_neg h4, if_neg h6, if_pos h7]
              rw [if_pos (by simp; omega)]
              exact ih' _
            · simp only [if_neg h5, if_neg h3, if_neg h4, if_neg h6, if_neg h7]
              rw [if_neg (by simp; omega)]
              exact ih' _
theorem cost_eq (l : List S76) (hl : l.length ≤ 1048576) (k : Nat) (hk : l.length + 50 < k) : ∃ r q, spec_CostOf.f k l = some (r, q) ∧ impl_CostOf.f k l = some (r, q) := by
  unfold spec_CostOf.f impl_CostOf.f
  rw [spec_good l (by omega) k (by omega), isCode_eq l k (by omega)]
  cases h : codeB l with
  | false => exact ⟨0, false, by simp, by simp⟩
  | true =>
    have h30 : l.length ≤ 30 := by unfold codeB at h; simp at h; exact h.2
    obtain ⟨r, e1, e2⟩ := cost_loop l (by omega) l.length k 0 0 (by omega) (by omega) (by omega)
    exact ⟨r, true, by simpa using e1, by simpa using e2⟩

theorem FnExactCostOf (l : List S79) (hl : l.length ≤ 9223372036854775807) (_ : ∀ x, x ∈ l → (Lit.int .i64 x.f0).wf = true ∧ (Lit.int .i64 x.f1).wf = true ∧ (Lit.int .i64 x.f2).wf = true ∧ (Lit.int .i64 x.f3).wf = true ∧ (Lit.int .i64 x.f4).wf = true) : ∃ k, laws_FnExactCostOf.f k l = some true := by
  refine ⟨l.length + 100, ?_⟩
  obtain ⟨s, hs, hs2⟩ := szInstrS l hl
  unfold laws_FnExactCostOf.f
  rw [hs]
  simp only [Option.bind_some]
  rcases hs2 with hs2 | hs2
  · rw [if_pos hs2]
  · by_cases h0 : s < 0
    · rw [if_pos h0]
    · rw [if_neg h0]
      have hm : (l.map toI).length = l.length := by simp
      have t1 := toInstrS l hs2 (l.length + 100) (by omega)
      have t1' := toInstrS l hs2 (l.length + 99) (by omega)
      obtain ⟨r, q, e1, e2⟩ := cost_eq (l.map toI) (by omega) (l.length + 100) (by omega)
      have t4 := eqInstrS (l.map toI) (by omega) (l.length + 99) (by omega)
      simp [t1, t1', e1, e2, laws_FnExactCostOf.j0, t4]

end Go.Proofs.Ytncagigpflfkbaa.Pure

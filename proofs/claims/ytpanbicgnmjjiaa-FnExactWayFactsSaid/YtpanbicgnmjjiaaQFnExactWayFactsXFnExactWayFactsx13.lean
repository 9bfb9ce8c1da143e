-- Printed by a patched copy of the print, a program of this session. Lean checks it.
import Derived.Test.YtpanbicgnmjjiaaQFnExactWayFactsSq
import Derived.Test.YtpanbicgnmjjiaaQFnExactWayFactsXFnExactWayFactsx0
import Derived.Test.YtpanbicgnmjjiaaQFnExactWayFactsXFnExactWayFactsx12
namespace Go.Proofs.Ytpanbicgnmjjiaa.XFnExactWayFacts
open Go.RowKit Go.Proofs.YtpanbicgnmjjiaaW.PrintWords Go.Proofs.YtpanbicgnmjjiaaW.PrintLast Go.Proofs.YtpanbicgnmjjiaaW.PrintMore Go.Proofs.YtpanbicgnmjjiaaSq
attribute [local go_sem] max2_int min2_int max_two min_two max_three min_three max_four min_four   -- for this text's walks alone
set_option linter.unusedVariables false
set_option linter.unusedSimpArgs false

/-! ### impl_isInstr: function 74 -/
mutual
def impl_isInstr.j0 : Nat → Bool → Int → Int → Int → Int → Int → Option (Bool)
  | 0, _, _, _, _, _, _ => none
  | k + 1, x24, x303000, x303001, x303002, x303003, x303004 => if x24 = true then (some false) else (if x303000 = 1 then (if x303002 = 0 then (some (x303003 == 0)) else (some false)) else (if x303000 = 2 then (if x303003 = 0 then (some (x303004 == 0)) else (some false)) else (if x303000 = 3 then (impl_isInstr.j1 k x303000 (x303000 == 3) x303000 x303001 x303002 x303003 x303004) else (if x303000 = 4 then (impl_isInstr.j1 k x303000 (x303000 == 4) x303000 x303001 x303002 x303003 x303004) else (if x303000 = 5 then (impl_isInstr.j1 k x303000 (x303000 == 5) x303000 x303001 x303002 x303003 x303004) else (if x303000 = 6 then (impl_isInstr.j1 k x303000 (x303000 == 6) x303000 x303001 x303002 x303003 x303004) else (impl_isInstr.j1 k x303000 (x303000 == 7) x303000 x303001 x303002 x303003 x303004)))))))
def impl_isInstr.j1 : Nat → Int → Bool → Int → Int → Int → Int → Int → Option (Bool)
  | 0, _, _, _, _, _, _, _ => none
  | k + 1, x26, x47, x303000, x303001, x303002, x303003, x303004 => if x47 = true then (some (x303004 == 0)) else (if x26 = 8 then (if x303001 = 0 then (if x303003 = 0 then (some (x303004 == 0)) else (some false)) else (some false)) else (some false))
end
def impl_isInstr.f (k : Nat) (a0_0 : Int) (a0_1 : Int) (a0_2 : Int) (a0_3 : Int) (a0_4 : Int) : Option (Bool) := (impl_isName.f a0_1).bind fun t303 => (if t303 = true then ((impl_isName.f a0_2).bind fun t304 => (if t304 = true then ((impl_isName.f a0_3).bind fun t305 => (if t305 = true then ((impl_isWord.f a0_4).bind fun t306 => (impl_isInstr.j0 k (!t306) a0_0 a0_1 a0_2 a0_3 a0_4)) else (impl_isInstr.j0 k true a0_0 a0_1 a0_2 a0_3 a0_4))) else (impl_isInstr.j0 k true a0_0 a0_1 a0_2 a0_3 a0_4))) else (impl_isInstr.j0 k true a0_0 a0_1 a0_2 a0_3 a0_4))
theorem impl_isInstr.mono_l : ∀ k, (∀ y0 y1 y2 y3 y4 y5, LeO (impl_isInstr.j0 k y0 y1 y2 y3 y4 y5) (impl_isInstr.j0 (k + 1) y0 y1 y2 y3 y4 y5)) ∧ (∀ y0 y1 y2 y3 y4 y5 y6, LeO (impl_isInstr.j1 k y0 y1 y2 y3 y4 y5 y6) (impl_isInstr.j1 (k + 1) y0 y1 y2 y3 y4 y5 y6))
  | 0 => ⟨fun _ _ _ _ _ _ r h => by simp [impl_isInstr.j0] at h, fun _ _ _ _ _ _ _ r h => by simp [impl_isInstr.j1] at h⟩
  | k + 1 => by
    obtain ⟨ih0, ih1⟩ := impl_isInstr.mono_l k
    refine ⟨?_, ?_⟩
    · intro y0 y1 y2 y3 y4 y5
      unfold impl_isInstr.j0
      repeat' first
      | (with_reducible exact ih0 _ _ _ _ _ _)
      | (with_reducible exact ih1 _ _ _ _ _ _ _)
      | (with_reducible exact LeO.refl _)
      | (with_reducible exact LeO.none _)
      | (with_reducible refine LeO.ite ?_ ?_)
      | (with_reducible refine LeO.bind ?_ (fun _ => ?_))
      | exact ih0 _ _ _ _ _ _
      | exact ih1 _ _ _ _ _ _ _
      | exact LeO.none _
      | refine LeO.ite ?_ ?_
      | refine LeO.bind ?_ (fun _ => ?_)
    · intro y0 y1 y2 y3 y4 y5 y6
      unfold impl_isInstr.j1
      repeat' first
      | (with_reducible exact ih0 _ _ _ _ _ _)
      | (with_reducible exact ih1 _ _ _ _ _ _ _)
      | (with_reducible exact LeO.refl _)
      | (with_reducible exact LeO.none _)
      | (with_reducible refine LeO.ite ?_ ?_)
      | (with_reducible refine LeO.bind ?_ (fun _ => ?_))
      | exact ih0 _ _ _ _ _ _
      | exact ih1 _ _ _ _ _ _ _
      | exact LeO.none _
      | refine LeO.ite ?_ ?_
      | refine LeO.bind ?_ (fun _ => ?_)
theorem impl_isInstr.mono : ∀ a0 a1 a2 a3 a4 k, LeO (impl_isInstr.f k a0 a1 a2 a3 a4) (impl_isInstr.f (k + 1) a0 a1 a2 a3 a4) := by
  intro a0 a1 a2 a3 a4 k
  obtain ⟨ih0, ih1⟩ := impl_isInstr.mono_l k
  unfold impl_isInstr.f
  repeat' first
      | (with_reducible exact ih0 _ _ _ _ _ _)
      | (with_reducible exact ih1 _ _ _ _ _ _ _)
      | (with_reducible exact LeO.refl _)
      | (with_reducible exact LeO.none _)
      | (with_reducible refine LeO.ite ?_ ?_)
      | (with_reducible refine LeO.bind ?_ (fun _ => ?_))
      | exact ih0 _ _ _ _ _ _
      | exact ih1 _ _ _ _ _ _ _
      | exact LeO.none _
      | refine LeO.ite ?_ ?_
      | refine LeO.bind ?_ (fun _ => ?_)
set_option maxHeartbeats 8000000 in
set_option maxRecDepth 100000 in
theorem impl_isInstr.calls (k : Nat) (a0_0 : Int) (a0_1 : Int) (a0_2 : Int) (a0_3 : Int) (a0_4 : Int) (r : Bool) (w : World) (h : impl_isInstr.f k a0_0 a0_1 a0_2 a0_3 a0_4 = some r) :
  Calls Try.prog 74 #[.agg #[.int .i64 a0_0, .int .i64 a0_1, .int .i64 a0_2, .int .i64 a0_3, .int .i64 a0_4]] w fun e w' => e = .returned (.bool r) ∧ Below w.heap.size w w' := by
 have hu65 := Try.underlying65; have HB := a_ (Below.refl w.heap.size w); have H : ((impl_isName.f a0_1).bind fun t303 => (if t303 = true then ((impl_isName.f a0_2).bind fun t304 => (if t304 = true then ((impl_isName.f a0_3).bind fun t305 => (if t305 = true then ((impl_isWord.f a0_4).bind fun t306 => (impl_isInstr.j0 k (!t306) a0_0 a0_1 a0_2 a0_3 a0_4)) else (impl_isInstr.j0 k true a0_0 a0_1 a0_2 a0_3 a0_4))) else (impl_isInstr.j0 k true a0_0 a0_1 a0_2 a0_3 a0_4))) else (impl_isInstr.j0 k true a0_0 a0_1 a0_2 a0_3 a0_4))) = some r := h; clear h; have HC2 := a_ H; clear H; go_enter Try.func74, Try.ntmps74; go_upto_region 1 with (first | ((with_reducible refine gate_dst (N := 1) rfl ?_); refine be_ (N := 1) (cs := #[.int .i64 a0_0, .int .i64 a0_1, .int .i64 a0_2, .int .i64 a0_3, .int .i64 a0_4]) (t := 65) ?_; intro gb302 hg w3 hbox hb; have BK302 := a_ hbox; have GW302 := gl_ hg (Bb_ HB.out); have GE302 := gl_ hg (Bb_ HB.out); replace HB := bs_ hb HB; clear hb hbox hg)); (try simp only [Act.put, List.setIfInBounds_toArray, List.set_cons_zero, List.set_cons_succ])
 go_cut [24] (fun v24 wc => ∃ (kq : Nat) (x24_1 : Bool), v24 = .bool x24_1 ∧ Aside0 (impl_isInstr.j0 kq x24_1 a0_0 a0_1 a0_2 a0_3 a0_4 = some r) ∧ Aside0 (kq ≤ k) ∧ Aside0 (wc.heap[gb302]? = some (.cells #[.int .i64 a0_0, .int .i64 a0_1, .int .i64 a0_2, .int .i64 a0_3, .int .i64 a0_4] 65 (0, 0))) ∧ Aside0 (Below w.heap.size w wc))
 case first =>
  have H := HC2.out; clear HC2; replace H := Option.bind_eq_some_iff.mp H; obtain ⟨t303, A40, H⟩ := H; (try dsimp only at H); have A4 := a_ A40; clear A40
  by_cases c5 : t303 = true
  ·subst c5
   rw [if_pos rfl] at H; replace H := Option.bind_eq_some_iff.mp H; obtain ⟨t304, A60, H⟩ := H; (try dsimp only at H); have A6 := a_ A60; clear A60
   by_cases c7 : t304 = true
   ·subst c7
    rw [if_pos rfl] at H; replace H := Option.bind_eq_some_iff.mp H; obtain ⟨t305, A80, H⟩ := H; (try dsimp only at H); have A8 := a_ A80; clear A80
    by_cases c9 : t305 = true
    ·subst c9
     rw [if_pos rfl] at H; replace H := Option.bind_eq_some_iff.mp H; obtain ⟨t306, A100, H⟩ := H; (try dsimp only at H); have A10 := a_ A100; clear A100; have H' := a_ H; clear H; obtain ⟨hcz11_0, hcz11_1, hcz11_2, hcz11_3, hcz11_4, hfz11_0, hfz11_1, hfz11_2, hfz11_3, hfz11_4⟩ := z5_ BK302.out; go_wp2_with (first | ((with_reducible refine gate_callee (f := 86) rfl ?_); refine goesL_ (some 5) rfl rfl Try.func86 (by kernel_rfl) rfl #[.int .i64 a0_1] rfl (by (try simp only [List.map_toArray, List.map_cons, List.map_nil]); first | done | rfl | (simp only [List.length_drop, List.length_take]; rfl)) ?_; (with_reducible refine (impl_isName.calls a0_1 true _ A4.out).mono ?_); rintro e w' ⟨rfl, ⟨nd, rfl⟩⟩; refine ⟨_, rfl, ?_⟩) | (go_at_call 86; (with_reducible refine (impl_isName.calls a0_2 true _ A6.out).mono ?_); rintro e w' ⟨rfl, ⟨nd, rfl⟩⟩) | (go_at_call 86; (with_reducible refine (impl_isName.calls a0_3 true _ A8.out).mono ?_); rintro e w' ⟨rfl, ⟨nd, rfl⟩⟩) | (go_at_call 48; (with_reducible refine (impl_isWord.calls a0_4 t306 _ A10.out).mono ?_); rintro e w' ⟨rfl, ⟨nd, rfl⟩⟩))
     go_meet
     case rel => exact ⟨_, (!t306), (by first | rfl | (simp; done) | (simp [*]; done)), H', ⟨by first | omega | exact Nat.le_refl _⟩, ⟨Kb_ BK302.out⟩, ⟨Bg_⟩⟩
    ·replace c9 := Bool.eq_false_iff.mpr c9
     subst c9; rw [if_neg (show ¬ (false = true) by decide)] at H; have H' := a_ H; clear H; obtain ⟨hcz12_0, hcz12_1, hcz12_2, hcz12_3, hcz12_4, hfz12_0, hfz12_1, hfz12_2, hfz12_3, hfz12_4⟩ := z5_ BK302.out; go_wp2_with (first | ((with_reducible refine gate_callee (f := 86) rfl ?_); refine goesL_ (some 5) rfl rfl Try.func86 (by kernel_rfl) rfl #[.int .i64 a0_1] rfl (by (try simp only [List.map_toArray, List.map_cons, List.map_nil]); first | done | rfl | (simp only [List.length_drop, List.length_take]; rfl)) ?_; (with_reducible refine (impl_isName.calls a0_1 true _ A4.out).mono ?_); rintro e w' ⟨rfl, ⟨nd, rfl⟩⟩; refine ⟨_, rfl, ?_⟩) | (go_at_call 86; (with_reducible refine (impl_isName.calls a0_2 true _ A6.out).mono ?_); rintro e w' ⟨rfl, ⟨nd, rfl⟩⟩) | (go_at_call 86; (with_reducible refine (impl_isName.calls a0_3 false _ A8.out).mono ?_); rintro e w' ⟨rfl, ⟨nd, rfl⟩⟩))
     go_meet
     case rel => exact ⟨_, (true), (by first | rfl | (simp; done) | (simp [*]; done)), H', ⟨by first | omega | exact Nat.le_refl _⟩, ⟨Kb_ BK302.out⟩, ⟨Bg_⟩⟩
   ·replace c7 := Bool.eq_false_iff.mpr c7
    subst c7; rw [if_neg (show ¬ (false = true) by decide)] at H; have H' := a_ H; clear H; obtain ⟨hcz13_0, hcz13_1, hcz13_2, hcz13_3, hcz13_4, hfz13_0, hfz13_1, hfz13_2, hfz13_3, hfz13_4⟩ := z5_ BK302.out; go_wp2_with (first | ((with_reducible refine gate_callee (f := 86) rfl ?_); refine goesL_ (some 5) rfl rfl Try.func86 (by kernel_rfl) rfl #[.int .i64 a0_1] rfl (by (try simp only [List.map_toArray, List.map_cons, List.map_nil]); first | done | rfl | (simp only [List.length_drop, List.length_take]; rfl)) ?_; (with_reducible refine (impl_isName.calls a0_1 true _ A4.out).mono ?_); rintro e w' ⟨rfl, ⟨nd, rfl⟩⟩; refine ⟨_, rfl, ?_⟩) | (go_at_call 86; (with_reducible refine (impl_isName.calls a0_2 false _ A6.out).mono ?_); rintro e w' ⟨rfl, ⟨nd, rfl⟩⟩))
    go_meet
    case rel => exact ⟨_, (true), (by first | rfl | (simp; done) | (simp [*]; done)), H', ⟨by first | omega | exact Nat.le_refl _⟩, ⟨Kb_ BK302.out⟩, ⟨Bg_⟩⟩
  ·replace c5 := Bool.eq_false_iff.mpr c5
   subst c5; rw [if_neg (show ¬ (false = true) by decide)] at H; have H' := a_ H; clear H; obtain ⟨hcz14_0, hcz14_1, hcz14_2, hcz14_3, hcz14_4, hfz14_0, hfz14_1, hfz14_2, hfz14_3, hfz14_4⟩ := z5_ BK302.out; go_wp2_with (first | ((with_reducible refine gate_callee (f := 86) rfl ?_); refine goesL_ (some 5) rfl rfl Try.func86 (by kernel_rfl) rfl #[.int .i64 a0_1] rfl (by (try simp only [List.map_toArray, List.map_cons, List.map_nil]); first | done | rfl | (simp only [List.length_drop, List.length_take]; rfl)) ?_; (with_reducible refine (impl_isName.calls a0_1 false _ A4.out).mono ?_); rintro e w' ⟨rfl, ⟨nd, rfl⟩⟩; refine ⟨_, rfl, ?_⟩))
   go_meet
   case rel => exact ⟨_, (true), (by first | rfl | (simp; done) | (simp [*]; done)), H', ⟨by first | omega | exact Nat.le_refl _⟩, ⟨Kb_ BK302.out⟩, ⟨Bg_⟩⟩
 case rest =>
  clear HC2; (try clear p2); (try clear c5); (try clear c7); (try clear c8); (try clear c9); (try clear hcz11_0 hcz11_1 hcz11_2 hcz11_3 hcz11_4); (try clear hcz12_0 hcz12_1 hcz12_2 hcz12_3 hcz12_4); (try clear hcz13_0 hcz13_1 hcz13_2 hcz13_3 hcz13_4); (try clear hcz14_0 hcz14_1 hcz14_2 hcz14_3 hcz14_4); (try clear hfz11_0); (try clear hfz11_1); (try clear hfz11_2); (try clear hfz11_3); (try clear hfz11_4); (try clear hfz12_0); (try clear hfz12_1); (try clear hfz12_2); (try clear hfz12_3); (try clear hfz12_4); (try clear hfz13_0); (try clear hfz13_1); (try clear hfz13_2); (try clear hfz13_3); (try clear hfz13_4); (try clear hfz14_0); (try clear hfz14_1); (try clear hfz14_2); (try clear hfz14_3); (try clear hfz14_4); obtain ⟨kq, x24_1, rfl, HA, HJ1, BK302, HB⟩ := hcut
  cases kq with
  | zero => exact absurd HA.out (by simp [impl_isInstr.j0])
  | succ kj1 =>
   have H := HA.out; clear HA; simp only [impl_isInstr.j0] at H
   by_cases c15 : x24_1 = true
   ·subst c15
    rw [if_pos rfl] at H; obtain rfl := Option.some.inj H; go_wp2; go_ret; exact ⟨by first | rfl | (simp [errW_none, errW_some] <;> rfl) | (simp [*, errW_none, errW_some] <;> rfl), Bg_⟩
   ·replace c15 := Bool.eq_false_iff.mpr c15
    subst c15; rw [if_neg (show ¬ (false = true) by decide)] at H
    by_cases c16 : a0_0 = 1
    ·rw [if_pos c16] at H
     have c16b0 : (a0_0 == 1) = true := beq_iff_eq.mpr c16; have c16b1 : (a0_0 != 1) = false := bne_eq_false_iff_eq.mpr c16; clear c16
     by_cases c17 : a0_2 = 0
     ·rw [if_pos c17] at H
      have c17b0 : (a0_2 == 0) = true := beq_iff_eq.mpr c17; have c17b1 : (a0_2 != 0) = false := bne_eq_false_iff_eq.mpr c17; clear c17; obtain rfl := Option.some.inj H; obtain ⟨hcz18_0, hcz18_1, hcz18_2, hcz18_3, hcz18_4, hfz18_0, hfz18_1, hfz18_2, hfz18_3, hfz18_4⟩ := z5_ BK302.out; go_wp2; go_ret; exact ⟨by first | rfl | (simp [errW_none, errW_some] <;> rfl) | (simp [*, errW_none, errW_some] <;> rfl), Bg_⟩
     ·rw [if_neg c17] at H
      have c17b0 : (a0_2 == 0) = false := beq_eq_false_iff_ne.mpr c17; have c17b1 : (a0_2 != 0) = true := bne_iff_ne.mpr c17; obtain rfl := Option.some.inj H; obtain ⟨hcz19_0, hcz19_1, hcz19_2, hcz19_3, hcz19_4, hfz19_0, hfz19_1, hfz19_2, hfz19_3, hfz19_4⟩ := z5_ BK302.out; go_wp2; go_ret; exact ⟨by first | rfl | (simp [errW_none, errW_some] <;> rfl) | (simp [*, errW_none, errW_some] <;> rfl), Bg_⟩
    ·rw [if_neg c16] at H
     have c16b0 : (a0_0 == 1) = false := beq_eq_false_iff_ne.mpr c16; have c16b1 : (a0_0 != 1) = true := bne_iff_ne.mpr c16
     by_cases c20 : a0_0 = 2
     ·rw [if_pos c20] at H
      have c20b0 : (a0_0 == 2) = true := beq_iff_eq.mpr c20; have c20b1 : (a0_0 != 2) = false := bne_eq_false_iff_eq.mpr c20; clear c20
      by_cases c21 : a0_3 = 0
      ·rw [if_pos c21] at H
       have c21b0 : (a0_3 == 0) = true := beq_iff_eq.mpr c21; have c21b1 : (a0_3 != 0) = false := bne_eq_false_iff_eq.mpr c21; clear c21; obtain rfl := Option.some.inj H; obtain ⟨hcz22_0, hcz22_1, hcz22_2, hcz22_3, hcz22_4, hfz22_0, hfz22_1, hfz22_2, hfz22_3, hfz22_4⟩ := z5_ BK302.out; go_wp2; go_ret; exact ⟨by first | rfl | (simp [errW_none, errW_some] <;> rfl) | (simp [*, errW_none, errW_some] <;> rfl), Bg_⟩
      ·rw [if_neg c21] at H
       have c21b0 : (a0_3 == 0) = false := beq_eq_false_iff_ne.mpr c21; have c21b1 : (a0_3 != 0) = true := bne_iff_ne.mpr c21; obtain rfl := Option.some.inj H; obtain ⟨hcz23_0, hcz23_1, hcz23_2, hcz23_3, hcz23_4, hfz23_0, hfz23_1, hfz23_2, hfz23_3, hfz23_4⟩ := z5_ BK302.out; go_wp2; go_ret; exact ⟨by first | rfl | (simp [errW_none, errW_some] <;> rfl) | (simp [*, errW_none, errW_some] <;> rfl), Bg_⟩
     ·rw [if_neg c20] at H
      have c20b0 : (a0_0 == 2) = false := beq_eq_false_iff_ne.mpr c20; have c20b1 : (a0_0 != 2) = true := bne_iff_ne.mpr c20; have HC24 := a_ H; clear H; obtain ⟨hcz25_0, hcz25_1, hcz25_2, hcz25_3, hcz25_4, hfz25_0, hfz25_1, hfz25_2, hfz25_3, hfz25_4⟩ := z5_ BK302.out; go_upto_if 47 with (fail)
      go_cut [47] (fun v47 wc => ∃ (kq : Nat) (x47_23 : Bool), v47 = .bool x47_23 ∧ Aside0 (impl_isInstr.j1 kq a0_0 x47_23 a0_0 a0_1 a0_2 a0_3 a0_4 = some r) ∧ Aside0 (kq ≤ kj1) ∧ Aside0 (wc.heap[gb302]? = some (.cells #[.int .i64 a0_0, .int .i64 a0_1, .int .i64 a0_2, .int .i64 a0_3, .int .i64 a0_4] 65 (0, 0))) ∧ Aside0 (Below w.heap.size w wc))
      case first =>
       have H := HC24.out; clear HC24
       by_cases c26 : a0_0 = 3
       ·rw [if_pos c26] at H
        have c26b0 : (a0_0 == 3) = true := beq_iff_eq.mpr c26; have c26b1 : (a0_0 != 3) = false := bne_eq_false_iff_eq.mpr c26; clear c26; (first | rw [c26b0] | (simp only [i64_w, i32_w]; rw [c26b0]) | skip); have H' := a_ H; clear H; go_wp2
        go_meet
        case rel => exact ⟨_, ((a0_0 == 3)), (by first | rfl | (simp; done) | (simp [*]; done)), H', ⟨by have := HJ1.out; first | omega | exact Nat.le_refl _⟩, ⟨Kb_ BK302.out⟩, ⟨Bg_⟩⟩
       ·rw [if_neg c26] at H
        have c26b0 : (a0_0 == 3) = false := beq_eq_false_iff_ne.mpr c26; have c26b1 : (a0_0 != 3) = true := bne_iff_ne.mpr c26; (first | rw [c26b0] | (simp only [i64_w, i32_w]; rw [c26b0]) | skip)
        by_cases c27 : a0_0 = 4
        ·rw [if_pos c27] at H
         have c27b0 : (a0_0 == 4) = true := beq_iff_eq.mpr c27; have c27b1 : (a0_0 != 4) = false := bne_eq_false_iff_eq.mpr c27; clear c27; have H' := a_ H; clear H; go_wp2
         go_meet
         case rel => exact ⟨_, ((a0_0 == 4)), (by first | rfl | (simp; done) | (simp [*]; done)), H', ⟨by have := HJ1.out; first | omega | exact Nat.le_refl _⟩, ⟨Kb_ BK302.out⟩, ⟨Bg_⟩⟩
        ·rw [if_neg c27] at H
         have c27b0 : (a0_0 == 4) = false := beq_eq_false_iff_ne.mpr c27; have c27b1 : (a0_0 != 4) = true := bne_iff_ne.mpr c27
         by_cases c28 : a0_0 = 5
         ·rw [if_pos c28] at H
          have c28b0 : (a0_0 == 5) = true := beq_iff_eq.mpr c28; have c28b1 : (a0_0 != 5) = false := bne_eq_false_iff_eq.mpr c28; clear c28; have H' := a_ H; clear H; go_wp2
          go_meet
          case rel => exact ⟨_, ((a0_0 == 5)), (by first | rfl | (simp; done) | (simp [*]; done)), H', ⟨by have := HJ1.out; first | omega | exact Nat.le_refl _⟩, ⟨Kb_ BK302.out⟩, ⟨Bg_⟩⟩
         ·rw [if_neg c28] at H
          have c28b0 : (a0_0 == 5) = false := beq_eq_false_iff_ne.mpr c28; have c28b1 : (a0_0 != 5) = true := bne_iff_ne.mpr c28
          by_cases c29 : a0_0 = 6
          ·rw [if_pos c29] at H
           have c29b0 : (a0_0 == 6) = true := beq_iff_eq.mpr c29; have c29b1 : (a0_0 != 6) = false := bne_eq_false_iff_eq.mpr c29; clear c29; have H' := a_ H; clear H; go_wp2
           go_meet
           case rel => exact ⟨_, ((a0_0 == 6)), (by first | rfl | (simp; done) | (simp [*]; done)), H', ⟨by have := HJ1.out; first | omega | exact Nat.le_refl _⟩, ⟨Kb_ BK302.out⟩, ⟨Bg_⟩⟩
          ·rw [if_neg c29] at H
           have c29b0 : (a0_0 == 6) = false := beq_eq_false_iff_ne.mpr c29; have c29b1 : (a0_0 != 6) = true := bne_iff_ne.mpr c29; have H' := a_ H; clear H; go_wp2
           go_meet
           case rel => exact ⟨_, ((a0_0 == 7)), (by first | rfl | (simp; done) | (simp [*]; done)), H', ⟨by have := HJ1.out; first | omega | exact Nat.le_refl _⟩, ⟨Kb_ BK302.out⟩, ⟨Bg_⟩⟩
      case rest =>
       clear HC24; (try clear c1); (try clear c2); (try clear p2); (try clear c5); (try clear c7); (try clear c8); (try clear c9); (try clear c15); (try clear c16); (try clear c16b0); (try clear c16b1); (try clear c17); (try clear c17b0); (try clear c17b1); (try clear c20); (try clear c20b0); (try clear c20b1); (try clear c21); (try clear c21b0); (try clear c21b1); (try clear c26); (try clear c26b0); (try clear c26b1); (try clear c27); (try clear c27b0); (try clear c27b1); (try clear c28); (try clear c28b0); (try clear c28b1); (try clear c29); (try clear c29b0); (try clear c29b1); (try clear hcz11_0 hcz11_1 hcz11_2 hcz11_3 hcz11_4); (try clear hcz12_0 hcz12_1 hcz12_2 hcz12_3 hcz12_4); (try clear hcz13_0 hcz13_1 hcz13_2 hcz13_3 hcz13_4); (try clear hcz14_0 hcz14_1 hcz14_2 hcz14_3 hcz14_4); (try clear hcz18_0 hcz18_1 hcz18_2 hcz18_3 hcz18_4); (try clear hcz19_0 hcz19_1 hcz19_2 hcz19_3 hcz19_4); (try clear hcz22_0 hcz22_1 hcz22_2 hcz22_3 hcz22_4); (try clear hcz23_0 hcz23_1 hcz23_2 hcz23_3 hcz23_4); (try clear hcz25_0 hcz25_1 hcz25_2 hcz25_3 hcz25_4); (try clear hfz11_0); (try clear hfz11_1); (try clear hfz11_2); (try clear hfz11_3); (try clear hfz11_4); (try clear hfz12_0); (try clear hfz12_1); (try clear hfz12_2); (try clear hfz12_3); (try clear hfz12_4); (try clear hfz13_0); (try clear hfz13_1); (try clear hfz13_2); (try clear hfz13_3); (try clear hfz13_4); (try clear hfz14_0); (try clear hfz14_1); (try clear hfz14_2); (try clear hfz14_3); (try clear hfz14_4); (try clear hfz18_0); (try clear hfz18_1); (try clear hfz18_2); (try clear hfz18_3); (try clear hfz18_4); (try clear hfz19_0); (try clear hfz19_1); (try clear hfz19_2); (try clear hfz19_3); (try clear hfz19_4); (try clear hfz22_0); (try clear hfz22_1); (try clear hfz22_2); (try clear hfz22_3); (try clear hfz22_4); (try clear hfz23_0); (try clear hfz23_1); (try clear hfz23_2); (try clear hfz23_3); (try clear hfz23_4); (try clear hfz25_0); (try clear hfz25_1); (try clear hfz25_2); (try clear hfz25_3); (try clear hfz25_4); (try clear p2); obtain ⟨kq, x47_23, rfl, HA, HJ23, BK302, HB⟩ := hcut
       cases kq with
       | zero => exact absurd HA.out (by simp [impl_isInstr.j1])
       | succ kj23 =>
        have H := HA.out; clear HA; simp only [impl_isInstr.j1] at H
        by_cases c30 : x47_23 = true
        ·subst c30
         rw [if_pos rfl] at H; obtain rfl := Option.some.inj H; obtain ⟨hcz31_0, hcz31_1, hcz31_2, hcz31_3, hcz31_4, hfz31_0, hfz31_1, hfz31_2, hfz31_3, hfz31_4⟩ := z5_ BK302.out; go_wp2; go_ret; exact ⟨by first | rfl | (simp [errW_none, errW_some] <;> rfl) | (simp [*, errW_none, errW_some] <;> rfl), Bg_⟩
        ·replace c30 := Bool.eq_false_iff.mpr c30
         subst c30; rw [if_neg (show ¬ (false = true) by decide)] at H
         by_cases c32 : a0_0 = 8
         ·rw [if_pos c32] at H
          have c32b0 : (a0_0 == 8) = true := beq_iff_eq.mpr c32; have c32b1 : (a0_0 != 8) = false := bne_eq_false_iff_eq.mpr c32; clear c32
          by_cases c33 : a0_1 = 0
          ·rw [if_pos c33] at H
           have c33b0 : (a0_1 == 0) = true := beq_iff_eq.mpr c33; have c33b1 : (a0_1 != 0) = false := bne_eq_false_iff_eq.mpr c33; clear c33
           by_cases c34 : a0_3 = 0
           ·rw [if_pos c34] at H
            have c34b0 : (a0_3 == 0) = true := beq_iff_eq.mpr c34; have c34b1 : (a0_3 != 0) = false := bne_eq_false_iff_eq.mpr c34; clear c34; obtain rfl := Option.some.inj H; obtain ⟨hcz35_0, hcz35_1, hcz35_2, hcz35_3, hcz35_4, hfz35_0, hfz35_1, hfz35_2, hfz35_3, hfz35_4⟩ := z5_ BK302.out; go_wp2; go_ret; exact ⟨by first | rfl | (simp [errW_none, errW_some] <;> rfl) | (simp [*, errW_none, errW_some] <;> rfl), Bg_⟩
           ·rw [if_neg c34] at H
            have c34b0 : (a0_3 == 0) = false := beq_eq_false_iff_ne.mpr c34; have c34b1 : (a0_3 != 0) = true := bne_iff_ne.mpr c34; obtain rfl := Option.some.inj H; obtain ⟨hcz36_0, hcz36_1, hcz36_2, hcz36_3, hcz36_4, hfz36_0, hfz36_1, hfz36_2, hfz36_3, hfz36_4⟩ := z5_ BK302.out; go_wp2; go_ret; exact ⟨by first | rfl | (simp [errW_none, errW_some] <;> rfl) | (simp [*, errW_none, errW_some] <;> rfl), Bg_⟩
          ·rw [if_neg c33] at H
           have c33b0 : (a0_1 == 0) = false := beq_eq_false_iff_ne.mpr c33; have c33b1 : (a0_1 != 0) = true := bne_iff_ne.mpr c33; obtain rfl := Option.some.inj H; obtain ⟨hcz37_0, hcz37_1, hcz37_2, hcz37_3, hcz37_4, hfz37_0, hfz37_1, hfz37_2, hfz37_3, hfz37_4⟩ := z5_ BK302.out; go_wp2; go_ret; exact ⟨by first | rfl | (simp [errW_none, errW_some] <;> rfl) | (simp [*, errW_none, errW_some] <;> rfl), Bg_⟩
         ·rw [if_neg c32] at H
          have c32b0 : (a0_0 == 8) = false := beq_eq_false_iff_ne.mpr c32; have c32b1 : (a0_0 != 8) = true := bne_iff_ne.mpr c32; obtain rfl := Option.some.inj H; go_wp2; go_ret; exact ⟨by first | rfl | (simp [errW_none, errW_some] <;> rfl) | (simp [*, errW_none, errW_some] <;> rfl), Bg_⟩

/-! ### impl_isCode_1: function 73 -/
def impl_isCode_1.f (k : Nat) (a0_0 : Int) (a0_1 : Int) (a0_2 : Int) (a0_3 : Int) (a0_4 : Int) : Option (Bool) := (impl_isInstr.f k a0_0 a0_1 a0_2 a0_3 a0_4).bind fun t308 => (some (!t308))
theorem impl_isCode_1.mono : ∀ a0 a1 a2 a3 a4 k, LeO (impl_isCode_1.f k a0 a1 a2 a3 a4) (impl_isCode_1.f (k + 1) a0 a1 a2 a3 a4) := by
 intro a0 a1 a2 a3 a4 k
 unfold impl_isCode_1.f
 repeat' first
   | (with_reducible exact impl_isInstr.mono _ _ _ _ _ _)
   | (with_reducible exact LeO.refl _)
   | (with_reducible exact LeO.none _)
   | (with_reducible refine LeO.ite ?_ ?_)
   | (with_reducible refine LeO.bind ?_ (fun _ => ?_))
   | exact impl_isInstr.mono _ _ _ _ _ _
   | exact LeO.none _
   | refine LeO.ite ?_ ?_
   | refine LeO.bind ?_ (fun _ => ?_)
set_option maxHeartbeats 8000000 in
set_option maxRecDepth 100000 in
theorem impl_isCode_1.calls (k : Nat) (a0_0 : Int) (a0_1 : Int) (a0_2 : Int) (a0_3 : Int) (a0_4 : Int) (r : Bool) (w : World) (h : impl_isCode_1.f k a0_0 a0_1 a0_2 a0_3 a0_4 = some r) :
  Calls Try.prog 73 #[.agg #[.int .i64 a0_0, .int .i64 a0_1, .int .i64 a0_2, .int .i64 a0_3, .int .i64 a0_4]] w fun e w' => e = .returned (.bool r) ∧ Below w.heap.size w w' := by
 have hu65 := Try.underlying65; have HB := a_ (Below.refl w.heap.size w); have H : ((impl_isInstr.f k a0_0 a0_1 a0_2 a0_3 a0_4).bind fun t308 => (some (!t308))) = some r := h; clear h; replace H := Option.bind_eq_some_iff.mp H; obtain ⟨t308, A20, H⟩ := H; (try dsimp only at H); have A2 := a_ A20; clear A20; obtain rfl := Option.some.inj H; go_enter Try.func73, Try.ntmps73; go_wp2_with (first | ((with_reducible refine gate_dst (N := 1) rfl ?_); refine be_ (N := 1) (cs := #[.int .i64 a0_0, .int .i64 a0_1, .int .i64 a0_2, .int .i64 a0_3, .int .i64 a0_4]) (t := 65) ?_; intro gb307 hg w3 hbox hb; have BK307 := a_ hbox; have GW307 := gl_ hg (Bb_ HB.out); have GE307 := gl_ hg (Bb_ HB.out); replace HB := bs_ hb HB; clear hb hbox hg; obtain ⟨hcz4_0, hcz4_1, hcz4_2, hcz4_3, hcz4_4, hfz4_0, hfz4_1, hfz4_2, hfz4_3, hfz4_4⟩ := z5_ BK307.out) | ((with_reducible refine gate_callee (f := 74) rfl ?_); refine goesL_ (some 4) rfl rfl Try.func74 (by kernel_rfl) rfl #[.agg #[.int .i64 a0_0, .int .i64 a0_1, .int .i64 a0_2, .int .i64 a0_3, .int .i64 a0_4]] rfl (by (try simp only [List.map_toArray, List.map_cons, List.map_nil]); first | done | rfl | (simp only [List.length_drop, List.length_take]; rfl)) ?_; (with_reducible refine (impl_isInstr.calls k a0_0 a0_1 a0_2 a0_3 a0_4 t308 _ A2.out).mono ?_); rintro e w5 ⟨rfl, hb⟩; refine ⟨_, rfl, ?_⟩; replace BK307 := kc_ hb BK307; replace HB := a_ (below_step (Bg_) hb); (try clear hb))); go_ret; exact ⟨by first | rfl | (simp [errW_none, errW_some] <;> rfl) | (simp [*, errW_none, errW_some] <;> rfl), Bg_⟩

/-! ### slices_IndexFunc_at73: function 92 -/
def slices_IndexFunc_at73.l0 : Nat → List (S65) → Int → Int → Option (Int)
 | 0, _, _, _ => none
 | k + 1, x0, x7, x8 => if x8 < x7 then (if 0 ≤ x8 then (if x8 < (x0.length : Int) then ((impl_isCode_1.f k ((rd_T65 x0 x8).f0) ((rd_T65 x0 x8).f1) ((rd_T65 x0 x8).f2) ((rd_T65 x0 x8).f3) ((rd_T65 x0 x8).f4)).bind fun t310 => (if t310 = true then (some x8) else (slices_IndexFunc_at73.l0 k x0 x7 (wrap64 (x8 + 1))))) else (none)) else (none)) else (some (-1))
def slices_IndexFunc_at73.f (k : Nat) (l0 : List (S65))  : Option (Int) := slices_IndexFunc_at73.l0 k l0 (l0.length : Int) 0
theorem slices_IndexFunc_at73.mono_l : ∀ k, (∀ y0 y1 y2, LeO (slices_IndexFunc_at73.l0 k y0 y1 y2) (slices_IndexFunc_at73.l0 (k + 1) y0 y1 y2))
 | 0 => fun _ _ _ r h => by simp [slices_IndexFunc_at73.l0] at h
 | k + 1 => by
  have ih0 := slices_IndexFunc_at73.mono_l k
  ·intro y0 y1 y2
   unfold slices_IndexFunc_at73.l0
   repeat' first
   | (with_reducible exact ih0 _ _ _)
   | (with_reducible exact impl_isCode_1.mono _ _ _ _ _ _)
   | (with_reducible exact LeO.refl _)
   | (with_reducible exact LeO.none _)
   | (with_reducible refine LeO.ite ?_ ?_)
   | (with_reducible refine LeO.bind ?_ (fun _ => ?_))
   | exact ih0 _ _ _
   | exact impl_isCode_1.mono _ _ _ _ _ _
   | exact LeO.none _
   | refine LeO.ite ?_ ?_
   | refine LeO.bind ?_ (fun _ => ?_)
theorem slices_IndexFunc_at73.mono : ∀ a0 k, LeO (slices_IndexFunc_at73.f k a0) (slices_IndexFunc_at73.f (k + 1) a0) := by
 intro a0 k
 have ih0 := slices_IndexFunc_at73.mono_l k
 unfold slices_IndexFunc_at73.f
 repeat' first
   | (with_reducible exact ih0 _ _ _)
   | (with_reducible exact impl_isCode_1.mono _ _ _ _ _ _)
   | (with_reducible exact LeO.refl _)
   | (with_reducible exact LeO.none _)
   | (with_reducible refine LeO.ite ?_ ?_)
   | (with_reducible refine LeO.bind ?_ (fun _ => ?_))
   | exact ih0 _ _ _
   | exact impl_isCode_1.mono _ _ _ _ _ _
   | exact LeO.none _
   | refine LeO.ite ?_ ?_
   | refine LeO.bind ?_ (fun _ => ?_)
set_option maxHeartbeats 8000000 in
set_option maxRecDepth 100000 in
theorem slices_IndexFunc_at73.calls (k : Nat) (A0 : Option Addr) (c0 : Nat) (l0 : List (S65))  (r : Int) (w : World) (hr0 : Kd.C k65 w A0 l0.length l0) (hc0 : l0.length ≤ c0) (h : slices_IndexFunc_at73.f k l0 = some r) :
  Calls Try.prog 92 #[.slice A0 l0.length c0, .func (.func 73) #[] #[]] w fun e w' => e = .returned (.int .i64 r) ∧ Below w.heap.size w w' := by
 have hu65 := Try.underlying65; have HR0 := a_ hr0; have HC0 := a_ hc0; clear hr0 hc0; have HB := a_ (Below.refl w.heap.size w); have H : (slices_IndexFunc_at73.l0 k l0 (l0.length : Int) 0) = some r := h; clear h; have H' := a_ H; clear H; go_enter Try.func92, Try.ntmps92; go_wp2
 go_loopg [8] k (fun kq v8 w' => ∃ (x8_1 : Int), v8 = .int .i64 x8_1 ∧ Aside0 (slices_IndexFunc_at73.l0 kq l0 (l0.length : Int) x8_1 = some r) ∧ Aside0 (kq ≤ k) ∧ Aside0 (Below w.heap.size w w'))
 case atStart => exact ⟨(0), (by first | rfl | (simp; done) | (simp [*]; done)), H', ⟨Nat.le_refl _⟩, ⟨(Bb_ HB.out)⟩⟩
 case round =>
  clear H'; (try clear p2); obtain ⟨x8_1, rfl, HA, HK1, HB⟩ := hrel
  cases gk with
  | zero => exact absurd HA.out (by simp [slices_IndexFunc_at73.l0])
  | succ k1 =>
   have H := HA.out; clear HA; simp only [slices_IndexFunc_at73.l0] at H
   by_cases c3 : x8_1 < (l0.length : Int)
   ·rw [if_pos c3] at H
    have c3b0 : decide (x8_1 < (l0.length : Int)) = true := decide_eq_true c3; clear c3
    by_cases c4 : 0 ≤ x8_1
    ·rw [if_pos c4] at H
     have c4b0 : decide (0 ≤ x8_1) = true := decide_eq_true c4; clear c4
     by_cases c5 : x8_1 < (l0.length : Int)
     ·rw [if_pos c5] at H
      have c5b0 : decide (x8_1 < (l0.length : Int)) = true := decide_eq_true c5; clear c5; replace H := Option.bind_eq_some_iff.mp H; obtain ⟨t310, A60, H⟩ := H; (try dsimp only at H); have A6 := a_ A60; clear A60
      by_cases c7 : t310 = true
      ·subst c7
       rw [if_pos rfl] at H; obtain rfl := Option.some.inj H; have p309 : 0 ≤ (x8_1 : Int) := of_decide_eq_true Am_; have q309 : x8_1 < (l0.length : Int) := of_decide_eq_true Am_; obtain ⟨ad309, e309, hx309_0, hx309_1, hx309_2, hx309_3, hx309_4⟩ := at_T65 HR0.out x8_1 p309 q309; cases e309; replace hx309_0 := hc_ HB hx309_0; replace hx309_1 := hc_ HB hx309_1; replace hx309_2 := hc_ HB hx309_2; replace hx309_3 := hc_ HB hx309_3; replace hx309_4 := hc_ HB hx309_4; replace p309 := eq_true p309; replace q309 := eq_true q309; go_wp2_with (first | (go_at_call 73; (with_reducible refine (impl_isCode_1.calls k1 ((rd_T65 l0 x8_1).f0) ((rd_T65 l0 x8_1).f1) ((rd_T65 l0 x8_1).f2) ((rd_T65 l0 x8_1).f3) ((rd_T65 l0 x8_1).f4) true _ A6.out).mono ?_); rintro e w8 ⟨rfl, hb⟩; replace HB := bs_ hb HB; (try clear hb))); go_ret; exact ⟨by first | rfl | (simp [errW_none, errW_some] <;> rfl) | (simp [*, errW_none, errW_some] <;> rfl), (Bb_ HB.out)⟩
      ·replace c7 := Bool.eq_false_iff.mpr c7
       subst c7; rw [if_neg (show ¬ (false = true) by decide)] at H; have H' := a_ H; clear H; have p309 : 0 ≤ (x8_1 : Int) := of_decide_eq_true Am_; have q309 : x8_1 < (l0.length : Int) := of_decide_eq_true Am_; obtain ⟨ad309, e309, hx309_0, hx309_1, hx309_2, hx309_3, hx309_4⟩ := at_T65 HR0.out x8_1 p309 q309; cases e309; replace hx309_0 := hc_ HB hx309_0; replace hx309_1 := hc_ HB hx309_1; replace hx309_2 := hc_ HB hx309_2; replace hx309_3 := hc_ HB hx309_3; replace hx309_4 := hc_ HB hx309_4; replace p309 := eq_true p309; replace q309 := eq_true q309; go_wp2_with (first | (go_at_call 73; (with_reducible refine (impl_isCode_1.calls k1 ((rd_T65 l0 x8_1).f0) ((rd_T65 l0 x8_1).f1) ((rd_T65 l0 x8_1).f2) ((rd_T65 l0 x8_1).f3) ((rd_T65 l0 x8_1).f4) false _ A6.out).mono ?_); rintro e w9 ⟨rfl, hb⟩; replace HB := bs_ hb HB; (try clear hb)))
       go_roundg k1
       case measure => have := HK1.out; omega
       case rel => exact ⟨(wrap64 (x8_1 + 1)), (by first | rfl | (simp; done) | (simp [*]; done)), H', ⟨by have := HK1.out; omega⟩, ⟨(Bb_ HB.out)⟩⟩
     ·rw [if_neg c5] at H
      exact absurd H (by simp)
    ·rw [if_neg c4] at H
     exact absurd H (by simp)
   ·rw [if_neg c3] at H
    have c3b0 : decide (x8_1 < (l0.length : Int)) = false := decide_eq_false c3; clear c3; obtain rfl := Option.some.inj H; go_wp2; go_ret; exact ⟨by first | rfl | (simp [errW_none, errW_some] <;> rfl) | (simp [*, errW_none, errW_some] <;> rfl), (Bb_ HB.out)⟩

/-! ### slices_ContainsFunc_at73: function 72 -/
def slices_ContainsFunc_at73.f (k : Nat) (l0 : List (S65))  : Option (Bool) := (slices_IndexFunc_at73.f k l0).bind fun t311 => (some (decide (t311 ≥ 0)))
theorem slices_ContainsFunc_at73.mono : ∀ a0 k, LeO (slices_ContainsFunc_at73.f k a0) (slices_ContainsFunc_at73.f (k + 1) a0) := by
 intro a0 k
 unfold slices_ContainsFunc_at73.f
 repeat' first
   | (with_reducible exact slices_IndexFunc_at73.mono _ _)
   | (with_reducible exact LeO.refl _)
   | (with_reducible exact LeO.none _)
   | (with_reducible refine LeO.ite ?_ ?_)
   | (with_reducible refine LeO.bind ?_ (fun _ => ?_))
   | exact slices_IndexFunc_at73.mono _ _
   | exact LeO.none _
   | refine LeO.ite ?_ ?_
   | refine LeO.bind ?_ (fun _ => ?_)
set_option maxHeartbeats 8000000 in
set_option maxRecDepth 100000 in
theorem slices_ContainsFunc_at73.calls (k : Nat) (A0 : Option Addr) (c0 : Nat) (l0 : List (S65))  (r : Bool) (w : World) (hr0 : Kd.C k65 w A0 l0.length l0) (hc0 : l0.length ≤ c0) (h : slices_ContainsFunc_at73.f k l0 = some r) :
  Calls Try.prog 72 #[.slice A0 l0.length c0, .func (.func 73) #[] #[]] w fun e w' => e = .returned (.bool r) ∧ Below w.heap.size w w' := by
 have HR0 := a_ hr0; have HC0 := a_ hc0; clear hr0 hc0; have HB := a_ (Below.refl w.heap.size w); have H : ((slices_IndexFunc_at73.f k l0).bind fun t311 => (some (decide (t311 ≥ 0)))) = some r := h; clear h; replace H := Option.bind_eq_some_iff.mp H; obtain ⟨t311, A30, H⟩ := H; (try dsimp only at H); have A3 := a_ A30; clear A30; obtain rfl := Option.some.inj H; go_enter Try.func72, Try.ntmps72; go_wp2_with (first | ((with_reducible refine gate_callee (f := 92) rfl ?_); refine goesL_ (some 7) rfl rfl Try.func92 (by kernel_rfl) rfl #[.slice A0 l0.length c0, .func (.func 73) #[] #[]] rfl (by (try simp only [List.map_toArray, List.map_cons, List.map_nil]); first | done | rfl | (simp only [List.length_drop, List.length_take]; rfl)) ?_; (with_reducible refine (slices_IndexFunc_at73.calls k _ _ l0  t311 _ ?side1 ?side2 A3.out).mono ?_); (case side1 => exact Cb_ HR0.out); (case side2 => exact HC0.out); rintro e w4 ⟨rfl, hb⟩; refine ⟨_, rfl, ?_⟩; replace HB := bs_ hb HB; (try clear hb))); go_ret; exact ⟨by first | rfl | (simp [errW_none, errW_some] <;> rfl) | (simp [*, errW_none, errW_some] <;> rfl), (Bb_ HB.out)⟩

end Go.Proofs.Ytpanbicgnmjjiaa.XFnExactWayFacts

-- Printed by a patched copy of the print, a program of this session. Lean checks it.
import Derived.Test.YtoggmpihojkbfaaQFnCodeXFnCodex0
import Derived.Test.YtoggmpihojkbfaaQFnCodeXFnCodex1
namespace Go.Proofs.Ytoggmpihojkbfaa.XFnCode
open Go.RowKit Go.Proofs.YtoggmpihojkbfaaW.PrintWords Go.Proofs.YtoggmpihojkbfaaW.PrintLast Go.Proofs.YtoggmpihojkbfaaW.PrintMore
attribute [local go_sem] max2_int min2_int max_two min_two max_three min_three max_four min_four   -- for this text's walks alone
set_option linter.unusedVariables false
set_option linter.unusedSimpArgs false

/-! ### spec_l3Words: function 41 -/
def spec_l3Words.l0 : Nat → List Int → List Int → Int → Int → Option (Bool)
 | 0, _, _, _, _ => none
 | k + 1, x0, x5, x6, x7 => if x7 < x6 then (if 0 ≤ x7 then (if x7 < (x5.length : Int) then ((spec_l1Word.f (rd x5 x7)).bind fun t371 => (if t371 = true then (spec_l3Words.l0 k x0 x5 x6 (wrap64 (x7 + 1))) else (some false))) else (none)) else (none)) else (some ((x0.length : Int) == 8))
def spec_l3Words.f (k : Nat) (l0 : List Int) : Option (Bool) := spec_l3Words.l0 k l0 l0 (l0.length : Int) 0
theorem spec_l3Words.mono_l : ∀ k, (∀ y0 y1 y2 y3, LeO (spec_l3Words.l0 k y0 y1 y2 y3) (spec_l3Words.l0 (k + 1) y0 y1 y2 y3))
 | 0 => fun _ _ _ _ r h => by simp [spec_l3Words.l0] at h
 | k + 1 => by
  have ih0 := spec_l3Words.mono_l k
  ·intro y0 y1 y2 y3
   unfold spec_l3Words.l0
   repeat' first
   | (with_reducible exact ih0 _ _ _ _)
   | (with_reducible exact LeO.refl _)
   | (with_reducible exact LeO.none _)
   | (with_reducible refine LeO.ite ?_ ?_)
   | (with_reducible refine LeO.bind ?_ (fun _ => ?_))
   | exact ih0 _ _ _ _
   | exact LeO.none _
   | refine LeO.ite ?_ ?_
   | refine LeO.bind ?_ (fun _ => ?_)
theorem spec_l3Words.mono : ∀ a0 k, LeO (spec_l3Words.f k a0) (spec_l3Words.f (k + 1) a0) := by
 intro a0 k
 have ih0 := spec_l3Words.mono_l k
 unfold spec_l3Words.f
 repeat' first
   | (with_reducible exact ih0 _ _ _ _)
   | (with_reducible exact LeO.refl _)
   | (with_reducible exact LeO.none _)
   | (with_reducible refine LeO.ite ?_ ?_)
   | (with_reducible refine LeO.bind ?_ (fun _ => ?_))
   | exact ih0 _ _ _ _
   | exact LeO.none _
   | refine LeO.ite ?_ ?_
   | refine LeO.bind ?_ (fun _ => ?_)
set_option maxHeartbeats 8000000 in
set_option maxRecDepth 100000 in
theorem spec_l3Words.calls (k : Nat) (A0 : Option Addr) (c0 : Nat) (l0 : List Int) (r : Bool) (w : World) (hr0 : Kd.C (Kd.int .i64) w A0 l0.length l0) (hc0 : l0.length ≤ c0) (h : spec_l3Words.f k l0 = some r) :
  Calls Try.prog 41 #[.slice A0 l0.length c0] w fun e w' => e = .returned (.bool r) ∧ Drawn0 w w' := by
 have HR0 := Aside0.mk hr0
 have HC0 := Aside0.mk hc0
 clear hr0 hc0
 have H : (spec_l3Words.l0 k l0 l0 (l0.length : Int) 0) = some r := h
 clear h
 have H' := Aside0.mk H
 clear H
 go_enter Try.func41, Try.ntmps41
 go_wp2
 go_loopg [7] k (fun kq v7 w' => ∃ (x7_1 : Int), v7 = .int .i64 x7_1 ∧ Aside0 (spec_l3Words.l0 kq l0 l0 (l0.length : Int) x7_1 = some r) ∧ Aside0 (kq ≤ k) ∧ Drawn0 w w')
 case atStart => exact ⟨(0), (by first | rfl | (simp; done) | (simp [*]; done)), H', ⟨Nat.le_refl _⟩, by repeat (first | exact Drawn0.refl _ | apply Drawn0.step)⟩
 case round =>
  clear H'
  obtain ⟨x7_1, rfl, HA, HK1, ⟨m1, rfl⟩⟩ := hrel
  cases gk with
  | zero => exact absurd HA.out (by simp [spec_l3Words.l0])
  | succ k1 =>
   have H := HA.out
   clear HA
   simp only [spec_l3Words.l0] at H
   by_cases c2 : x7_1 < (l0.length : Int)
   ·rw [if_pos c2] at H
    have c2b0 : decide (x7_1 < (l0.length : Int)) = true := decide_eq_true c2
    clear c2
    by_cases c3 : 0 ≤ x7_1
    ·rw [if_pos c3] at H
     have c3b0 : decide (0 ≤ x7_1) = true := decide_eq_true c3
     clear c3
     by_cases c4 : x7_1 < (l0.length : Int)
     ·rw [if_pos c4] at H
      have c4b0 : decide (x7_1 < (l0.length : Int)) = true := decide_eq_true c4
      clear c4
      replace H := Option.bind_eq_some_iff.mp H
      obtain ⟨t371, A50, H⟩ := H
      replace H : (if t371 = true then (spec_l3Words.l0 k1 l0 l0 (l0.length : Int) (wrap64 (x7_1 + 1))) else (some false)) = some r := H
      have A5 := Aside0.mk A50
      clear A50
      by_cases c6 : t371 = true
      ·subst c6
       have H1 : (spec_l3Words.l0 k1 l0 l0 (l0.length : Int) (wrap64 (x7_1 + 1))) = some r := by rw [if_pos rfl] at H; exact H
       clear H
       have H := H1
       clear H1
       have H' := Aside0.mk H
       clear H
       have p370 : 0 ≤ (x7_1 : Int) := of_decide_eq_true (by first | (with_reducible assumption) | assumption)
       have q370 : x7_1 < (l0.length : Int) := of_decide_eq_true (by first | (with_reducible assumption) | assumption)
       obtain ⟨ad370, e370, hx370_0⟩ := Kd.at_int HR0.out x7_1 p370 q370
       cases e370
       replace p370 := eq_true p370
       replace q370 := eq_true q370
       go_wp2_with (first | ((with_reducible refine gate_callee (f := 57) rfl ?_); refine goesL_ (some 12) rfl rfl Try.func57 (by kernel_rfl) rfl #[.int .i64 (rd l0 x7_1)] rfl (by (try simp only [List.map_toArray, List.map_cons, List.map_nil]); first | done | rfl | (simp only [List.length_drop, List.length_take]; rfl)) ?_; (with_reducible refine (spec_l1Word.calls (rd l0 x7_1) true _ A5.out).mono ?_); rintro e w' ⟨rfl, ⟨nd, rfl⟩⟩; refine ⟨_, rfl, ?_⟩))
       go_roundg k1
       case measure => have := HK1.out; omega
       case rel => exact ⟨(wrap64 (x7_1 + 1)), (by first | rfl | (simp; done) | (simp [*]; done)), H', ⟨by have := HK1.out; omega⟩, by repeat (first | exact Drawn0.refl _ | apply Drawn0.step)⟩
      ·replace c6 := Bool.eq_false_iff.mpr c6
       subst c6
       have H1 : (some false) = some r := by rw [if_neg (show ¬ (false = true) by decide)] at H; exact H
       clear H
       have H := H1
       clear H1
       obtain rfl := Option.some.inj H
       have p370 : 0 ≤ (x7_1 : Int) := of_decide_eq_true (by first | (with_reducible assumption) | assumption)
       have q370 : x7_1 < (l0.length : Int) := of_decide_eq_true (by first | (with_reducible assumption) | assumption)
       obtain ⟨ad370, e370, hx370_0⟩ := Kd.at_int HR0.out x7_1 p370 q370
       cases e370
       replace p370 := eq_true p370
       replace q370 := eq_true q370
       go_wp2_with (first | ((with_reducible refine gate_callee (f := 57) rfl ?_); refine goesL_ (some 12) rfl rfl Try.func57 (by kernel_rfl) rfl #[.int .i64 (rd l0 x7_1)] rfl (by (try simp only [List.map_toArray, List.map_cons, List.map_nil]); first | done | rfl | (simp only [List.length_drop, List.length_take]; rfl)) ?_; (with_reducible refine (spec_l1Word.calls (rd l0 x7_1) false _ A5.out).mono ?_); rintro e w' ⟨rfl, ⟨nd, rfl⟩⟩; refine ⟨_, rfl, ?_⟩))
       go_ret
       exact ⟨by first | rfl | (simp; done) | (simp [*]; done), by repeat (first | exact Drawn0.refl _ | apply Drawn0.step)⟩
     ·rw [if_neg c4] at H
      exact absurd H (by simp)
    ·rw [if_neg c3] at H
     exact absurd H (by simp)
   ·rw [if_neg c2] at H
    have c2b0 : decide (x7_1 < (l0.length : Int)) = false := decide_eq_false c2
    clear c2
    obtain rfl := Option.some.inj H
    go_wp2
    go_ret
    exact ⟨by first | rfl | (simp; done) | (simp [*]; done), by repeat (first | exact Drawn0.refl _ | apply Drawn0.step)⟩

/-! ### spec_l3Bit: function 75 -/
def spec_l3Bit.f (a0 : Bool) : Option (Int) := if a0 = true then (some 1) else (some 0)
set_option maxHeartbeats 8000000 in
set_option maxRecDepth 100000 in
theorem spec_l3Bit.calls (a0 : Bool) (r : Int) (w : World) (h : spec_l3Bit.f a0 = some r) :
  Calls Try.prog 75 #[.bool a0] w fun e w' => e = .returned (.int .i64 r) ∧ Drawn0 w w' := by
 have H : (if a0 = true then (some 1) else (some 0)) = some r := h
 clear h
 by_cases c2 : a0 = true
 ·subst c2
  have H1 : (some 1) = some r := by rw [if_pos rfl] at H; exact H
  clear H
  have H := H1
  clear H1
  obtain rfl := Option.some.inj H
  go_enter Try.func75, Try.ntmps75
  go_wp2
  go_ret
  exact ⟨by first | rfl | (simp; done) | (simp [*]; done), by repeat (first | exact Drawn0.refl _ | apply Drawn0.step)⟩
 ·replace c2 := Bool.eq_false_iff.mpr c2
  subst c2
  have H1 : (some 0) = some r := by rw [if_neg (show ¬ (false = true) by decide)] at H; exact H
  clear H
  have H := H1
  clear H1
  obtain rfl := Option.some.inj H
  go_enter Try.func75, Try.ntmps75
  go_wp2
  go_ret
  exact ⟨by first | rfl | (simp; done) | (simp [*]; done), by repeat (first | exact Drawn0.refl _ | apply Drawn0.step)⟩

/-! ### spec_l3Do: function 58 -/
def spec_l3Do.f (a0 : Int) (a1 : Int) (a2 : Int) : Option (Int) := if a0 = 3 then (some (Go.bits .and .i64 (wrap64 (a1 + a2)) 65535)) else (if a0 = 4 then (some (Go.bits .and .i64 (wrap64 (a1 - a2)) 65535)) else (if a0 = 5 then (some (Go.bits .and .i64 (wrap64 (a1 * a2)) 65535)) else (if a0 = 6 then ((spec_l3Bit.f (decide (a1 < a2))).bind fun t372 => (some t372)) else ((spec_l3Bit.f (a1 == a2)).bind fun t373 => (some t373)))))
set_option maxHeartbeats 8000000 in
set_option maxRecDepth 100000 in
theorem spec_l3Do.calls (a0 : Int) (a1 : Int) (a2 : Int) (r : Int) (w : World) (h : spec_l3Do.f a0 a1 a2 = some r) :
  Calls Try.prog 58 #[.int .i64 a0, .int .i64 a1, .int .i64 a2] w fun e w' => e = .returned (.int .i64 r) ∧ Drawn0 w w' := by
 have H : (if a0 = 3 then (some (Go.bits .and .i64 (wrap64 (a1 + a2)) 65535)) else (if a0 = 4 then (some (Go.bits .and .i64 (wrap64 (a1 - a2)) 65535)) else (if a0 = 5 then (some (Go.bits .and .i64 (wrap64 (a1 * a2)) 65535)) else (if a0 = 6 then ((spec_l3Bit.f (decide (a1 < a2))).bind fun t372 => (some t372)) else ((spec_l3Bit.f (a1 == a2)).bind fun t373 => (some t373)))))) = some r := h
 clear h
 by_cases c4 : a0 = 3
 ·rw [if_pos c4] at H
  have c4b0 : (a0 == 3) = true := beq_iff_eq.mpr c4
  have c4b1 : (a0 != 3) = false := bne_eq_false_iff_eq.mpr c4
  clear c4
  obtain rfl := Option.some.inj H
  go_enter Try.func58, Try.ntmps58
  go_wp2
  go_ret
  exact ⟨by first | rfl | (simp; done) | (simp [*]; done), by repeat (first | exact Drawn0.refl _ | apply Drawn0.step)⟩
 ·rw [if_neg c4] at H
  have c4b0 : (a0 == 3) = false := beq_eq_false_iff_ne.mpr c4
  have c4b1 : (a0 != 3) = true := bne_iff_ne.mpr c4
  by_cases c5 : a0 = 4
  ·rw [if_pos c5] at H
   have c5b0 : (a0 == 4) = true := beq_iff_eq.mpr c5
   have c5b1 : (a0 != 4) = false := bne_eq_false_iff_eq.mpr c5
   clear c5
   obtain rfl := Option.some.inj H
   go_enter Try.func58, Try.ntmps58
   go_wp2
   go_ret
   exact ⟨by first | rfl | (simp; done) | (simp [*]; done), by repeat (first | exact Drawn0.refl _ | apply Drawn0.step)⟩
  ·rw [if_neg c5] at H
   have c5b0 : (a0 == 4) = false := beq_eq_false_iff_ne.mpr c5
   have c5b1 : (a0 != 4) = true := bne_iff_ne.mpr c5
   by_cases c6 : a0 = 5
   ·rw [if_pos c6] at H
    have c6b0 : (a0 == 5) = true := beq_iff_eq.mpr c6
    have c6b1 : (a0 != 5) = false := bne_eq_false_iff_eq.mpr c6
    clear c6
    obtain rfl := Option.some.inj H
    go_enter Try.func58, Try.ntmps58
    go_wp2
    go_ret
    exact ⟨by first | rfl | (simp; done) | (simp [*]; done), by repeat (first | exact Drawn0.refl _ | apply Drawn0.step)⟩
   ·rw [if_neg c6] at H
    have c6b0 : (a0 == 5) = false := beq_eq_false_iff_ne.mpr c6
    have c6b1 : (a0 != 5) = true := bne_iff_ne.mpr c6
    by_cases c7 : a0 = 6
    ·rw [if_pos c7] at H
     have c7b0 : (a0 == 6) = true := beq_iff_eq.mpr c7
     have c7b1 : (a0 != 6) = false := bne_eq_false_iff_eq.mpr c7
     clear c7
     replace H := Option.bind_eq_some_iff.mp H
     obtain ⟨t372, A80, H⟩ := H
     replace H : (some t372) = some r := H
     have A8 := Aside0.mk A80
     clear A80
     obtain rfl := Option.some.inj H
     go_enter Try.func58, Try.ntmps58
     go_wp2_with (first | ((with_reducible refine gate_callee (f := 75) rfl ?_); refine goesL_ (some 31) rfl rfl Try.func75 (by kernel_rfl) rfl #[.bool (decide (a1 < a2))] rfl (by (try simp only [List.map_toArray, List.map_cons, List.map_nil]); first | done | rfl | (simp only [List.length_drop, List.length_take]; rfl)) ?_; (with_reducible refine (spec_l3Bit.calls (decide (a1 < a2)) t372 _ A8.out).mono ?_); rintro e w' ⟨rfl, ⟨nd, rfl⟩⟩; refine ⟨_, rfl, ?_⟩))
     go_ret
     exact ⟨by first | rfl | (simp; done) | (simp [*]; done), by repeat (first | exact Drawn0.refl _ | apply Drawn0.step)⟩
    ·rw [if_neg c7] at H
     have c7b0 : (a0 == 6) = false := beq_eq_false_iff_ne.mpr c7
     have c7b1 : (a0 != 6) = true := bne_iff_ne.mpr c7
     replace H := Option.bind_eq_some_iff.mp H
     obtain ⟨t373, A90, H⟩ := H
     replace H : (some t373) = some r := H
     have A9 := Aside0.mk A90
     clear A90
     obtain rfl := Option.some.inj H
     go_enter Try.func58, Try.ntmps58
     go_wp2_with (first | ((with_reducible refine gate_callee (f := 75) rfl ?_); refine goesL_ (some 35) rfl rfl Try.func75 (by kernel_rfl) rfl #[.bool (a1 == a2)] rfl (by (try simp only [List.map_toArray, List.map_cons, List.map_nil]); first | done | rfl | (simp only [List.length_drop, List.length_take]; rfl)) ?_; (with_reducible refine (spec_l3Bit.calls (a1 == a2) t373 _ A9.out).mono ?_); rintro e w' ⟨rfl, ⟨nd, rfl⟩⟩; refine ⟨_, rfl, ?_⟩))
     go_ret
     exact ⟨by first | rfl | (simp; done) | (simp [*]; done), by repeat (first | exact Drawn0.refl _ | apply Drawn0.step)⟩

/-! ### spec_l3Run: function 42 -/
def spec_l3Run.l0 : Nat → List Int → List Int → List (S45) → Int → Int → Option (List Int × List Int)
 | 0, _, _, _, _, _ => none
 | k + 1, x1, x2, x9, x10, x11 => if x11 < x10 then (if 0 ≤ x11 then (if x11 < (x9.length : Int) then (if ((rd_T45 x9 x11).f0) = 1 then (if 0 ≤ ((rd_T45 x9 x11).f1) then (if ((rd_T45 x9 x11).f1) < (x1.length : Int) then (spec_l3Run.l0 k (x1.set (((rd_T45 x9 x11).f1) : Int).toNat ((rd_T45 x9 x11).f4)) x2 x9 x10 (wrap64 (x11 + 1))) else (none)) else (none)) else (if ((rd_T45 x9 x11).f0) = 2 then (if 0 ≤ ((rd_T45 x9 x11).f2) then (if ((rd_T45 x9 x11).f2) < (x1.length : Int) then (if 0 ≤ ((rd_T45 x9 x11).f1) then (if ((rd_T45 x9 x11).f1) < (x1.length : Int) then (spec_l3Run.l0 k (x1.set (((rd_T45 x9 x11).f1) : Int).toNat (rd x1 ((rd_T45 x9 x11).f2))) x2 x9 x10 (wrap64 (x11 + 1))) else (none)) else (none)) else (none)) else (none)) else (if ((rd_T45 x9 x11).f0) = 8 then (if 0 ≤ ((rd_T45 x9 x11).f2) then (if ((rd_T45 x9 x11).f2) < (x1.length : Int) then (if x2.length < 17592186044416 then (spec_l3Run.l0 k x1 (x2 ++ [rd x1 ((rd_T45 x9 x11).f2)]) x9 x10 (wrap64 (x11 + 1))) else (none)) else (none)) else (none)) else (if 0 ≤ ((rd_T45 x9 x11).f2) then (if ((rd_T45 x9 x11).f2) < (x1.length : Int) then (if 0 ≤ ((rd_T45 x9 x11).f3) then (if ((rd_T45 x9 x11).f3) < (x1.length : Int) then ((spec_l3Do.f ((rd_T45 x9 x11).f0) (rd x1 ((rd_T45 x9 x11).f2)) (rd x1 ((rd_T45 x9 x11).f3))).bind fun t385 => (if 0 ≤ ((rd_T45 x9 x11).f1) then (if ((rd_T45 x9 x11).f1) < (x1.length : Int) then (spec_l3Run.l0 k (x1.set (((rd_T45 x9 x11).f1) : Int).toNat t385) x2 x9 x10 (wrap64 (x11 + 1))) else (none)) else (none))) else (none)) else (none)) else (none)) else (none))))) else (none)) else (none)) else (some (x2, x1))
def spec_l3Run.f (k : Nat) (l0 : List (S45)) (l1 : List Int) (l2 : List Int) : Option (List Int × List Int) := spec_l3Run.l0 k l1 l2 l0 (l0.length : Int) 0
theorem spec_l3Run.mono_l : ∀ k, (∀ y0 y1 y2 y3 y4, LeO (spec_l3Run.l0 k y0 y1 y2 y3 y4) (spec_l3Run.l0 (k + 1) y0 y1 y2 y3 y4))
 | 0 => fun _ _ _ _ _ r h => by simp [spec_l3Run.l0] at h
 | k + 1 => by
  have ih0 := spec_l3Run.mono_l k
  ·intro y0 y1 y2 y3 y4
   unfold spec_l3Run.l0
   repeat' first
   | (with_reducible exact ih0 _ _ _ _ _)
   | (with_reducible exact LeO.refl _)
   | (with_reducible exact LeO.none _)
   | (with_reducible refine LeO.ite ?_ ?_)
   | (with_reducible refine LeO.bind ?_ (fun _ => ?_))
   | exact ih0 _ _ _ _ _
   | exact LeO.none _
   | refine LeO.ite ?_ ?_
   | refine LeO.bind ?_ (fun _ => ?_)
theorem spec_l3Run.mono : ∀ a0 a1 a2 k, LeO (spec_l3Run.f k a0 a1 a2) (spec_l3Run.f (k + 1) a0 a1 a2) := by
 intro a0 a1 a2 k
 have ih0 := spec_l3Run.mono_l k
 unfold spec_l3Run.f
 repeat' first
   | (with_reducible exact ih0 _ _ _ _ _)
   | (with_reducible exact LeO.refl _)
   | (with_reducible exact LeO.none _)
   | (with_reducible refine LeO.ite ?_ ?_)
   | (with_reducible refine LeO.bind ?_ (fun _ => ?_))
   | exact ih0 _ _ _ _ _
   | exact LeO.none _
   | refine LeO.ite ?_ ?_
   | refine LeO.bind ?_ (fun _ => ?_)
def spec_l3Run.T5 : Bool × List (List Nat × List Nat) := (true, [([], []), ([], []), ([1], [1]), ([], []), ([3], [3]), ([], []), ([], []), ([6], [6]), ([5, 7], [5, 7]), ([8], [8]), ([], []), ([], []), ([11], [11]), ([10, 12], [10, 12]), ([13], [13]), ([4, 9, 14], [4, 9, 14]), ([0, 2, 0, 1, 2, 3, 4, 5, 6, 7, 8, 9, 10, 11, 12, 13, 14, 15], [0, 2]), ([16, 15, 15, 0, 1, 2, 3, 4, 5, 6, 7, 8, 9, 10, 11, 12, 13, 14, 15], [15, 16])])
def spec_l3Run.B5 : List Nat := [0, 0, 2, 0, 8, 0, 0, 64, 224, 480, 0, 0, 2048, 7168, 15360, 32760, 65535, 131071]
theorem spec_l3Run.tab5 : rtab .any (opsOf Try.f42 5) = spec_l3Run.T5 := by kernel_rfl
theorem spec_l3Run.bits5 : waitsOk spec_l3Run.T5.2 spec_l3Run.B5 = true := by kernel_rfl
def spec_l3Run.T9 : Bool × List (List Nat × List Nat) := (true, [([], []), ([], []), ([1], [1]), ([], []), ([], []), ([4], [4]), ([3, 5], [3, 5]), ([6], [6]), ([0, 2, 0, 1, 2, 3, 4, 5, 6, 7], [0, 2]), ([8, 7, 0, 1, 2, 3, 4, 5, 6, 7], [7, 8])])
def spec_l3Run.B9 : List Nat := [0, 0, 2, 0, 0, 16, 56, 120, 255, 511]
theorem spec_l3Run.tab9 : rtab .any (opsOf Try.f42 9) = spec_l3Run.T9 := by kernel_rfl
theorem spec_l3Run.bits9 : waitsOk spec_l3Run.T9.2 spec_l3Run.B9 = true := by kernel_rfl
set_option maxHeartbeats 8000000 in
set_option maxRecDepth 100000 in
theorem spec_l3Run.calls (k : Nat) (A0 : Option Addr) (c0 : Nat) (l0 : List (S45)) (P1_ : Nat → Prop) (u9000_ : Value) (l1 : List Int) (P2_ : Nat → Prop) (u9001_ : Value) (l2 : List Int) (r1 : List Int) (r2 : List Int) (w0 w : World) (hB : Below w0.heap.size w0 w) (hr0 : ∀ W_, Kept w W_ (fun k_ => P1_ k_ ∨ P2_ k_) → Kd.C k45 W_ A0 l0.length l0) (hc0 : l0.length ≤ c0) (ho1 : Kd.R (Kd.int .i64) 3 w w0.heap.size P1_ u9000_ l1) (hp1_2 : ∀ k_, P1_ k_ → ¬ P2_ k_) (ho2 : Kd.R (Kd.int .i64) 3 w w0.heap.size P2_ u9001_ l2) (hp2_1 : ∀ k_, P2_ k_ → ¬ P1_ k_) (h : spec_l3Run.f k l0 l1 l2 = some (r1, r2)) :
  Calls Try.prog 42 #[.slice A0 l0.length c0, u9000_, u9001_] w fun e w' => ∃ v0_ : Value, e = .returned (v0_) ∧ Kd.R (Kd.int .i64) 3 w' w0.heap.size (fun k_ => ((P1_ k_ ∨ P2_ k_) ∨ w.heap.size ≤ k_) ∧ some k_ ≠ (u9000_ : Value).ownBlock) v0_ r1 ∧ Kd.R (Kd.int .i64) 3 w' w0.heap.size (fun k_ => ((P1_ k_ ∨ P2_ k_) ∨ w.heap.size ≤ k_)) u9000_ r2 ∧ Below w0.heap.size w0 w' ∧ Kept w w' (fun k_ => P1_ k_ ∨ P2_ k_) := by
 have hu45 := Try.underlying45
 have HR0 := Aside0.mk hr0
 have HC0 := Aside0.mk hc0
 clear hr0 hc0
 have HO1 := Aside0.mk (show Kd.R (Kd.int .i64) 3 w w0.heap.size (fun k_ => ((P1_ k_ ∨ P2_ k_) ∨ w.heap.size ≤ k_) ∧ some k_ ≠ (u9001_ : Value).ownBlock) u9000_ l1 from Kd.R_mono ho1 (fun k_ hk => ⟨(.inl (.inl hk)), fun e_ => hp1_2 k_ hk (ho2.1 k_ e_.symm)⟩))
 have HO2 := Aside0.mk (show Kd.R (Kd.int .i64) 3 w w0.heap.size (fun k_ => ((P1_ k_ ∨ P2_ k_) ∨ w.heap.size ≤ k_) ∧ some k_ ≠ (u9000_ : Value).ownBlock) u9001_ l2 from Kd.R_mono ho2 (fun k_ hk => ⟨(.inl (.inr hk)), fun e_ => hp2_1 k_ hk (ho1.1 k_ e_.symm)⟩))
 have HK := Aside0.mk (Kept.refl w (fun k_ => P1_ k_ ∨ P2_ k_))
 have HW0 := Aside0.mk hB.size
 have HB := Aside0.mk hB
 clear hB
 have H : (spec_l3Run.l0 k l1 l2 l0 (l0.length : Int) 0) = some (r1, r2) := h
 clear h
 have H' := Aside0.mk H
 clear H
 go_enter Try.func42, Try.ntmps42
 go_wp2
 go_loopg [2, 11] k (fun kq v2 v11 w' => ∃ (x1_1 : List Int) (x2_1 : List Int) (x11_1 : Int), v11 = .int .i64 x11_1 ∧ Aside0 (spec_l3Run.l0 kq x1_1 x2_1 l0 (l0.length : Int) x11_1 = some (r1, r2)) ∧ Aside0 (kq ≤ k) ∧ Aside0 (Kd.R (Kd.int .i64) 3 w' w0.heap.size (fun k_ => ((P1_ k_ ∨ P2_ k_) ∨ w.heap.size ≤ k_) ∧ some k_ ≠ (v2 : Value).ownBlock) u9000_ x1_1) ∧ Aside0 (Kd.R (Kd.int .i64) 3 w' w0.heap.size (fun k_ => ((P1_ k_ ∨ P2_ k_) ∨ w.heap.size ≤ k_) ∧ some k_ ≠ (u9000_ : Value).ownBlock) v2 x2_1) ∧ Aside0 (Kept w w' (fun k_ => P1_ k_ ∨ P2_ k_)) ∧ Aside0 (Below w0.heap.size w0 w'))
 case atStart => exact ⟨(l1), (l2), (0), (by first | rfl | (simp; done) | (simp [*]; done)), H', ⟨Nat.le_refl _⟩, ⟨by (with_reducible repeat (first | apply Kd.R_alloc | apply Kd.R_drewN | apply Kd.R_drew)); exact HO1.out⟩, ⟨by (with_reducible repeat (first | apply Kd.R_alloc | apply Kd.R_drewN | apply Kd.R_drew)); exact HO2.out⟩, ⟨by repeat (first | (with_reducible first | exact HK.out | apply Kept.alloc | apply Kept.drewN | apply Kept.drew) | exact HK.out)⟩, ⟨by repeat (first | (with_reducible first | exact HB.out | apply below_alloc | apply pw_below_drewN | apply below_drew1) | exact HB.out)⟩⟩
 case round =>
  clear H'
  try clear p1
  try clear p2
  obtain ⟨x1_1, x2_1, x11_1, rfl, HA, HK1, HO_1, HO_2, HK, HB⟩ := hrel
  cases gk with
  | zero => exact absurd HA.out (by simp [spec_l3Run.l0])
  | succ k1 =>
   have H := HA.out
   clear HA
   simp only [spec_l3Run.l0] at H
   by_cases c4 : x11_1 < (l0.length : Int)
   ·rw [if_pos c4] at H
    have c4b0 : decide (x11_1 < (l0.length : Int)) = true := decide_eq_true c4
    clear c4
    by_cases c5 : 0 ≤ x11_1
    ·rw [if_pos c5] at H
     have c5b0 : decide (0 ≤ x11_1) = true := decide_eq_true c5
     clear c5
     by_cases c6 : x11_1 < (l0.length : Int)
     ·rw [if_pos c6] at H
      have c6b0 : decide (x11_1 < (l0.length : Int)) = true := decide_eq_true c6
      clear c6
      by_cases c7 : ((rd_T45 l0 x11_1).f0) = 1
      ·rw [if_pos c7] at H
       have c7b0 : (((rd_T45 l0 x11_1).f0) == 1) = true := beq_iff_eq.mpr c7
       have c7b1 : (((rd_T45 l0 x11_1).f0) != 1) = false := bne_eq_false_iff_eq.mpr c7
       clear c7
       by_cases c8 : 0 ≤ ((rd_T45 l0 x11_1).f1)
       ·rw [if_pos c8] at H
        have c8b0 : decide (0 ≤ ((rd_T45 l0 x11_1).f1)) = true := decide_eq_true c8
        clear c8
        by_cases c9 : ((rd_T45 l0 x11_1).f1) < (x1_1.length : Int)
        ·rw [if_pos c9] at H
         have c9b0 : decide (((rd_T45 l0 x11_1).f1) < (x1_1.length : Int)) = true := decide_eq_true c9
         clear c9
         obtain ⟨y376, hy376⟩ : ∃ y_ : List Int, y_ = (x1_1.set (((rd_T45 l0 x11_1).f1) : Int).toNat ((rd_T45 l0 x11_1).f4)) := ⟨_, rfl⟩
         replace H : (spec_l3Run.l0 k1 y376 x2_1 l0 (l0.length : Int) (wrap64 (x11_1 + 1))) = some (r1, r2) := by first | (rw [hy376]; with_reducible exact H) | (have H2_ := (Option.bind_some _ _).symm.trans H; rw [hy376]; with_reducible exact H2_) | (have H2_ := (Option.bind_some _ _).symm.trans H; with_reducible exact H2_) | with_reducible exact H | (rw [hy376]; exact H) | exact H
         have Ny376 := Aside0.mk hy376
         clear hy376
         have H' := Aside0.mk H
         clear H
         have p374 : 0 ≤ (x11_1 : Int) := of_decide_eq_true (by first | (with_reducible assumption) | assumption)
         have q374 : x11_1 < (l0.length : Int) := of_decide_eq_true (by first | (with_reducible assumption) | assumption)
         obtain ⟨ad374, e374, hx374_0, hx374_1, hx374_2, hx374_3, hx374_4⟩ := at_T45 (Kd.C_kept_now HR0.out HK.out) x11_1 p374 q374
         cases e374
         replace p374 := eq_true p374
         replace q374 := eq_true q374
         go_wp2_with (first | ((with_reducible refine gate_dst (N := 8) rfl ?_); refine box_event ?hg (N := 8) ?hd (cs := #[.int .i64 0, .int .i64 0, .int .i64 0, .int .i64 0, .int .i64 0]) (t := 45) ?hr ?_; (case hd => rfl); (case hg => rfl); (case hr => first | (go_simp; done) | (go_simp; rfl)); intro gb375 hg w11 hbox hb; have n0_ := Aside0.mk (Kd.R_below (by (with_reducible repeat (first | apply Kd.R_alloc | apply Kd.R_drewN | apply Kd.R_drew)); exact HO_1.out) hb); have n1_ := Aside0.mk (Kd.R_below (by (with_reducible repeat (first | apply Kd.R_alloc | apply Kd.R_drewN | apply Kd.R_drew)); exact HO_2.out) hb); have n2_ := Aside0.mk (Kept.below (S := (fun k_ => P1_ k_ ∨ P2_ k_)) (by repeat (first | (with_reducible first | exact HK.out | apply Kept.alloc | apply Kept.drewN | apply Kept.drew) | exact HK.out)) hb); have n3_ := Aside0.mk (below_step (by repeat (first | (with_reducible first | exact HB.out | apply below_alloc | apply pw_below_drewN | apply below_drew1) | exact HB.out)) hb); have n4_ := Aside0.mk (hbox); have n5_ := Aside0.mk ((by rw [hg]; exact (by first | exact HK.out.1 | exact (show Kept w _ (fun k_ => P1_ k_ ∨ P2_ k_) from by repeat (first | (with_reducible first | exact HK.out | apply Kept.alloc | apply Kept.drewN | apply Kept.drew) | exact HK.out)).1) : w.heap.size ≤ gb375)); have n6_ := Aside0.mk ((by rw [hg]; exact (below_size (by repeat (first | (with_reducible first | exact HB.out | apply below_alloc | apply pw_below_drewN | apply below_drew1) | exact HB.out))) : w0.heap.size ≤ gb375)); clear HO_1; clear HO_2; clear HK; clear HB; have HO_1 := n0_; have HO_2 := n1_; have HK := n2_; have HB := n3_; have BK375 := n4_; have GW375 := n5_; have GE375 := n6_; clear n0_ n1_ n2_ n3_ n4_ n5_ n6_; clear hb hbox hg; have hcz12_0 : w11.cell? ⟨gb375, 0, none⟩ = some (.int .i64 0) := (blk_cell BK375.out 0).trans rfl; have hcz12_1 : w11.cell? ⟨gb375, 1, none⟩ = some (.int .i64 0) := (blk_cell BK375.out 1).trans rfl; have hcz12_2 : w11.cell? ⟨gb375, 2, none⟩ = some (.int .i64 0) := (blk_cell BK375.out 2).trans rfl; have hcz12_3 : w11.cell? ⟨gb375, 3, none⟩ = some (.int .i64 0) := (blk_cell BK375.out 3).trans rfl; have hcz12_4 : w11.cell? ⟨gb375, 4, none⟩ = some (.int .i64 0) := (blk_cell BK375.out 4).trans rfl; have hfz12_0 := blk_frozen BK375.out 0; have hfz12_1 := blk_frozen BK375.out 1; have hfz12_2 := blk_frozen BK375.out 2; have hfz12_3 := blk_frozen BK375.out 3; have hfz12_4 := blk_frozen BK375.out 4) | ((with_reducible refine gate_store (t := 45) (p := 8) rfl ?_); refine store_event (t := 45) (p := 8) (v := ?vo_w13) (w1 := (((((w11.setCell ⟨gb375, 0, none⟩ (.int .i64 ((rd_T45 l0 x11_1).f0))).setCell ⟨gb375, 1, none⟩ (.int .i64 ((rd_T45 l0 x11_1).f1))).setCell ⟨gb375, 2, none⟩ (.int .i64 ((rd_T45 l0 x11_1).f2))).setCell ⟨gb375, 3, none⟩ (.int .i64 ((rd_T45 l0 x11_1).f3))).setCell ⟨gb375, 4, none⟩ (.int .i64 ((rd_T45 l0 x11_1).f4)))) ?hg ?ho ?hn ?hr ?_; (case ho => rfl); (case hg => rfl); (case hn => rfl); (case hr => first | (go_simp; done) | (go_simp; rfl)); intro w13 hw; have n0_ : Aside0 (Kd.R (Kd.int .i64) 3 w13 w0.heap.size (fun k_ => ((P1_ k_ ∨ P2_ k_) ∨ w.heap.size ≤ k_) ∧ some k_ ≠ (u2 : Value).ownBlock) u9000_ x1_1) := ⟨(by rw [hw]; exact (by (with_reducible repeat (first | apply Kd.R_alloc | apply Kd.R_drewN | apply Kd.R_drew)); exact Kd.R_mono (Kd.R_far (p := ⟨gb375, 4, none⟩) (Kd.R_far (p := ⟨gb375, 3, none⟩) (Kd.R_far (p := ⟨gb375, 2, none⟩) (Kd.R_far (p := ⟨gb375, 1, none⟩) (Kd.R_far (p := ⟨gb375, 0, none⟩) (Kd.R_types HO_1.out BK375.out (by decide)) (fun _ hk => hk.2) (.int .i64 ((rd_T45 l0 x11_1).f0))) (fun _ hk => hk.2) (.int .i64 ((rd_T45 l0 x11_1).f1))) (fun _ hk => hk.2) (.int .i64 ((rd_T45 l0 x11_1).f2))) (fun _ hk => hk.2) (.int .i64 ((rd_T45 l0 x11_1).f3))) (fun _ hk => hk.2) (.int .i64 ((rd_T45 l0 x11_1).f4))) (fun _ hk => ⟨hk.1.1, hk.1.2⟩)))⟩; have n1_ : Aside0 (Kd.R (Kd.int .i64) 3 w13 w0.heap.size (fun k_ => ((P1_ k_ ∨ P2_ k_) ∨ w.heap.size ≤ k_) ∧ some k_ ≠ (u9000_ : Value).ownBlock) u2 x2_1) := ⟨(by rw [hw]; exact (by (with_reducible repeat (first | apply Kd.R_alloc | apply Kd.R_drewN | apply Kd.R_drew)); exact Kd.R_mono (Kd.R_far (p := ⟨gb375, 4, none⟩) (Kd.R_far (p := ⟨gb375, 3, none⟩) (Kd.R_far (p := ⟨gb375, 2, none⟩) (Kd.R_far (p := ⟨gb375, 1, none⟩) (Kd.R_far (p := ⟨gb375, 0, none⟩) (Kd.R_types HO_2.out BK375.out (by decide)) (fun _ hk => hk.2) (.int .i64 ((rd_T45 l0 x11_1).f0))) (fun _ hk => hk.2) (.int .i64 ((rd_T45 l0 x11_1).f1))) (fun _ hk => hk.2) (.int .i64 ((rd_T45 l0 x11_1).f2))) (fun _ hk => hk.2) (.int .i64 ((rd_T45 l0 x11_1).f3))) (fun _ hk => hk.2) (.int .i64 ((rd_T45 l0 x11_1).f4))) (fun _ hk => ⟨hk.1.1, hk.1.2⟩)))⟩; have n2_ : Aside0 (w13.heap[gb375]? = some (.cells #[.int .i64 ((rd_T45 l0 x11_1).f0), .int .i64 ((rd_T45 l0 x11_1).f1), .int .i64 ((rd_T45 l0 x11_1).f2), .int .i64 ((rd_T45 l0 x11_1).f3), .int .i64 ((rd_T45 l0 x11_1).f4)] 45 (0, 0))) := ⟨(by rw [hw]; exact (by (with_reducible repeat (first | refine blk_drewN ?_ _ | refine blk_drew ?_ | refine blk_alloc ?_ _)); refine blk_put (cs := #[.int .i64 ((rd_T45 l0 x11_1).f0), .int .i64 ((rd_T45 l0 x11_1).f1), .int .i64 ((rd_T45 l0 x11_1).f2), .int .i64 ((rd_T45 l0 x11_1).f3), .int .i64 0]) ?_ 4 _ rfl; (with_reducible repeat (first | refine blk_drewN ?_ _ | refine blk_drew ?_ | refine blk_alloc ?_ _)); refine blk_put (cs := #[.int .i64 ((rd_T45 l0 x11_1).f0), .int .i64 ((rd_T45 l0 x11_1).f1), .int .i64 ((rd_T45 l0 x11_1).f2), .int .i64 0, .int .i64 0]) ?_ 3 _ rfl; (with_reducible repeat (first | refine blk_drewN ?_ _ | refine blk_drew ?_ | refine blk_alloc ?_ _)); refine blk_put (cs := #[.int .i64 ((rd_T45 l0 x11_1).f0), .int .i64 ((rd_T45 l0 x11_1).f1), .int .i64 0, .int .i64 0, .int .i64 0]) ?_ 2 _ rfl; (with_reducible repeat (first | refine blk_drewN ?_ _ | refine blk_drew ?_ | refine blk_alloc ?_ _)); refine blk_put (cs := #[.int .i64 ((rd_T45 l0 x11_1).f0), .int .i64 0, .int .i64 0, .int .i64 0, .int .i64 0]) ?_ 1 _ rfl; (with_reducible repeat (first | refine blk_drewN ?_ _ | refine blk_drew ?_ | refine blk_alloc ?_ _)); refine blk_put (cs := #[.int .i64 0, .int .i64 0, .int .i64 0, .int .i64 0, .int .i64 0]) ?_ 0 _ rfl; (with_reducible repeat (first | refine blk_drewN ?_ _ | refine blk_drew ?_ | refine blk_alloc ?_ _)); exact BK375.out))⟩; have n3_ : Aside0 (Kept w w13 (fun k_ => P1_ k_ ∨ P2_ k_)) := ⟨(by rw [hw]; exact (by repeat (first | (with_reducible first | exact HK.out | apply Kept.alloc | apply Kept.drewN | apply Kept.drew | refine Kept.setCell ?_ (.inr GW375.out) _) | exact HK.out)))⟩; have n4_ : Aside0 (Below w0.heap.size w0 w13) := ⟨(by rw [hw]; exact (by repeat (first | (with_reducible first | exact HB.out | apply below_alloc | apply pw_below_drewN | apply below_drew1 | refine below_set ?_ GE375.out) | exact HB.out)))⟩; clear hw; clear HO_1; clear HO_2; clear BK375; clear HK; clear HB; have HO_1 := n0_; have HO_2 := n1_; have BK375 := n2_; have HK := n3_; have HB := n4_; clear n0_ n1_ n2_ n3_ n4_; have hcz14_0 : w13.cell? ⟨gb375, 0, none⟩ = some (.int .i64 ((rd_T45 l0 x11_1).f0)) := (blk_cell BK375.out 0).trans rfl; have hcz14_1 : w13.cell? ⟨gb375, 1, none⟩ = some (.int .i64 ((rd_T45 l0 x11_1).f1)) := (blk_cell BK375.out 1).trans rfl; have hcz14_2 : w13.cell? ⟨gb375, 2, none⟩ = some (.int .i64 ((rd_T45 l0 x11_1).f2)) := (blk_cell BK375.out 2).trans rfl; have hcz14_3 : w13.cell? ⟨gb375, 3, none⟩ = some (.int .i64 ((rd_T45 l0 x11_1).f3)) := (blk_cell BK375.out 3).trans rfl; have hcz14_4 : w13.cell? ⟨gb375, 4, none⟩ = some (.int .i64 ((rd_T45 l0 x11_1).f4)) := (blk_cell BK375.out 4).trans rfl; have hfz14_0 := blk_frozen BK375.out 0; have hfz14_1 := blk_frozen BK375.out 1; have hfz14_2 := blk_frozen BK375.out 2; have hfz14_3 := blk_frozen BK375.out 3; have hfz14_4 := blk_frozen BK375.out 4; have p10 : 0 ≤ (((rd_T45 l0 x11_1).f1) : Int) := of_decide_eq_true (by first | (with_reducible assumption) | assumption); have q10 : (((rd_T45 l0 x11_1).f1) : Int) < ((x1_1.length : Int) : Int) := of_decide_eq_true (by first | (with_reducible assumption) | assumption); obtain ⟨go10, co10, eo10, gb10, gl10, cl10, HG10⟩ := Kd.R_form HO_1.out (by omega); (first | cases eo10 | (injection eo10 with ea_ en_ ec_; (first | subst ea_ | (injection ea_ with ea_; subst ea_)); subst ec_; clear en_)); have GB10 := Aside0.mk gb10; have GG10 := Aside0.mk HG10; clear gb10 gl10 HG10; have HMgo10 := Aside0.mk (show ((P1_ go10 ∨ P2_ go10) ∨ w.heap.size ≤ go10) from (HO_1.out.1 _ rfl).1); obtain ⟨hx10_0, hf10_0⟩ := Kd.R_celln 0 HO_1.out (((rd_T45 l0 x11_1).f1) : Int) p10 q10; replace p10 := eq_true p10; replace q10 := eq_true q10; obtain ⟨hy15_, hz15_⟩ := Kd.R_celln 0 HO_1.out (((rd_T45 l0 x11_1).f1) : Int) (of_decide_eq_true (by first | (with_reducible assumption) | assumption)) (of_decide_eq_true (by first | (with_reducible assumption) | assumption)); have HP15 := Kd.R_putg HO_1.out (((rd_T45 l0 x11_1).f1) : Int) ((rd_T45 l0 x11_1).f4)) | ((with_reducible refine gate_store (t := 3) (p := 41) rfl ?_); refine store_event (t := 3) (p := 41) (v := ?vo_w16) (w1 := (w13.setCell ⟨go10, (((rd_T45 l0 x11_1).f1) : Int).toNat, none⟩ (.int .i64 ((rd_T45 l0 x11_1).f4)))) ?hg ?ho ?hn ?hr ?_; (case ho => rfl); (case hg => rfl); (case hn => rfl); (case hr => first | (go_simp; done) | (go_simp; rfl)); intro w16 hw; have hg : w13.grownBy w16 (some go10) := (by rw [hw]; exact HP15.2); have hp_ : Kd.R (Kd.int .i64) 3 w16 w0.heap.size (fun k_ => ((P1_ k_ ∨ P2_ k_) ∨ w.heap.size ≤ k_) ∧ some k_ ≠ (u2 : Value).ownBlock) (.slice (some ⟨go10, 0, none⟩) x1_1.length co10) y376 := (by rw [hw, Ny376.out]; exact HP15.1); clear HP15; have n0_ := Aside0.mk (hp_); have n1_ := Aside0.mk (Kd.R_after (v := (.slice (some ⟨go10, 0, none⟩) x1_1.length co10)) (v1 := (.slice (some ⟨go10, 0, none⟩) x1_1.length co10)) (ok := (fun k_ => ((P1_ k_ ∨ P2_ k_) ∨ w.heap.size ≤ k_))) (by (with_reducible repeat (first | apply Kd.R_alloc | apply Kd.R_drewN | apply Kd.R_drew)); exact HO_2.out) hg (.inl rfl)); have n2_ := Aside0.mk (blk_grown (g := gb375) (o := .cells #[.int .i64 ((rd_T45 l0 x11_1).f0), .int .i64 ((rd_T45 l0 x11_1).f1), .int .i64 ((rd_T45 l0 x11_1).f2), .int .i64 ((rd_T45 l0 x11_1).f3), .int .i64 ((rd_T45 l0 x11_1).f4)] 45 (0, 0)) (by (with_reducible repeat (first | refine blk_drewN ?_ _ | refine blk_drew ?_ | refine blk_alloc ?_ _)); exact BK375.out) hg (Kd.R_ne HO_1.out BK375.out (by decide))); have n3_ := Aside0.mk ((by rw [hw]; exact below_set (HB.out) GB10.out : Below w0.heap.size w0 w16)); have n4_ := Aside0.mk (Kept.of_grown (S := (fun k_ => P1_ k_ ∨ P2_ k_)) hg (by repeat (first | (with_reducible first | exact HK.out | apply Kept.alloc | apply Kept.drewN | apply Kept.drew | refine Kept.setCell ?_ (.inr GW375.out) _) | exact HK.out)) (fun k_ e_ => (HO_1.out.1 k_ e_).1)); clear HO_1; clear HO_2; clear BK375; clear HB; clear HK; have HO_1 := n0_; have HO_2 := n1_; have BK375 := n2_; have HB := n3_; have HK := n4_; clear n0_ n1_ n2_ n3_ n4_; clear hg hw hp_))
         go_roundg k1
         case measure => have := HK1.out; omega
         case rel => exact ⟨(y376), (x2_1), (wrap64 (x11_1 + 1)), (by first | rfl | (simp; done) | (simp [*]; done)), H', ⟨by have := HK1.out; omega⟩, ⟨by (with_reducible repeat (first | apply Kd.R_alloc | apply Kd.R_drewN | apply Kd.R_drew)); exact HO_1.out⟩, ⟨by (with_reducible repeat (first | apply Kd.R_alloc | apply Kd.R_drewN | apply Kd.R_drew)); exact HO_2.out⟩, ⟨by repeat (first | (with_reducible first | exact HK.out | apply Kept.alloc | apply Kept.drewN | apply Kept.drew | refine Kept.setCell ?_ (.inr GW375.out) _) | exact HK.out)⟩, ⟨by repeat (first | (with_reducible first | exact HB.out | apply below_alloc | apply pw_below_drewN | apply below_drew1 | refine below_set ?_ GE375.out) | exact HB.out)⟩⟩
        ·rw [if_neg c9] at H
         exact absurd H (by simp)
       ·rw [if_neg c8] at H
        exact absurd H (by simp)
      ·rw [if_neg c7] at H
       have c7b0 : (((rd_T45 l0 x11_1).f0) == 1) = false := beq_eq_false_iff_ne.mpr c7
       have c7b1 : (((rd_T45 l0 x11_1).f0) != 1) = true := bne_iff_ne.mpr c7
       by_cases c17 : ((rd_T45 l0 x11_1).f0) = 2
       ·rw [if_pos c17] at H
        have c17b0 : (((rd_T45 l0 x11_1).f0) == 2) = true := beq_iff_eq.mpr c17
        have c17b1 : (((rd_T45 l0 x11_1).f0) != 2) = false := bne_eq_false_iff_eq.mpr c17
        clear c17
        by_cases c18 : 0 ≤ ((rd_T45 l0 x11_1).f2)
        ·rw [if_pos c18] at H
         have c18b0 : decide (0 ≤ ((rd_T45 l0 x11_1).f2)) = true := decide_eq_true c18
         clear c18
         by_cases c19 : ((rd_T45 l0 x11_1).f2) < (x1_1.length : Int)
         ·rw [if_pos c19] at H
          have c19b0 : decide (((rd_T45 l0 x11_1).f2) < (x1_1.length : Int)) = true := decide_eq_true c19
          clear c19
          by_cases c20 : 0 ≤ ((rd_T45 l0 x11_1).f1)
          ·rw [if_pos c20] at H
           have c20b0 : decide (0 ≤ ((rd_T45 l0 x11_1).f1)) = true := decide_eq_true c20
           clear c20
           by_cases c21 : ((rd_T45 l0 x11_1).f1) < (x1_1.length : Int)
           ·rw [if_pos c21] at H
            have c21b0 : decide (((rd_T45 l0 x11_1).f1) < (x1_1.length : Int)) = true := decide_eq_true c21
            clear c21
            obtain ⟨y378, hy378⟩ : ∃ y_ : List Int, y_ = (x1_1.set (((rd_T45 l0 x11_1).f1) : Int).toNat (rd x1_1 ((rd_T45 l0 x11_1).f2))) := ⟨_, rfl⟩
            replace H : (spec_l3Run.l0 k1 y378 x2_1 l0 (l0.length : Int) (wrap64 (x11_1 + 1))) = some (r1, r2) := by first | (rw [hy378]; with_reducible exact H) | (have H2_ := (Option.bind_some _ _).symm.trans H; rw [hy378]; with_reducible exact H2_) | (have H2_ := (Option.bind_some _ _).symm.trans H; with_reducible exact H2_) | with_reducible exact H | (rw [hy378]; exact H) | exact H
            have Ny378 := Aside0.mk hy378
            clear hy378
            have H' := Aside0.mk H
            clear H
            have p374 : 0 ≤ (x11_1 : Int) := of_decide_eq_true (by first | (with_reducible assumption) | assumption)
            have q374 : x11_1 < (l0.length : Int) := of_decide_eq_true (by first | (with_reducible assumption) | assumption)
            obtain ⟨ad374, e374, hx374_0, hx374_1, hx374_2, hx374_3, hx374_4⟩ := at_T45 (Kd.C_kept_now HR0.out HK.out) x11_1 p374 q374
            cases e374
            replace p374 := eq_true p374
            replace q374 := eq_true q374
            try go_wp2_with (first | ((with_reducible refine gate_dst (N := 8) rfl ?_); refine box_event ?hg (N := 8) ?hd (cs := #[.int .i64 0, .int .i64 0, .int .i64 0, .int .i64 0, .int .i64 0]) (t := 45) ?hr ?_; (case hd => rfl); (case hg => rfl); (case hr => first | (go_simp; done) | (go_simp; rfl)); intro gb375 hg w23 hbox hb; have n0_ := Aside0.mk (Kd.R_below (by (with_reducible repeat (first | apply Kd.R_alloc | apply Kd.R_drewN | apply Kd.R_drew)); exact HO_1.out) hb); have n1_ := Aside0.mk (Kd.R_below (by (with_reducible repeat (first | apply Kd.R_alloc | apply Kd.R_drewN | apply Kd.R_drew)); exact HO_2.out) hb); have n2_ := Aside0.mk (Kept.below (S := (fun k_ => P1_ k_ ∨ P2_ k_)) (by repeat (first | (with_reducible first | exact HK.out | apply Kept.alloc | apply Kept.drewN | apply Kept.drew) | exact HK.out)) hb); have n3_ := Aside0.mk (below_step (by repeat (first | (with_reducible first | exact HB.out | apply below_alloc | apply pw_below_drewN | apply below_drew1) | exact HB.out)) hb); have n4_ := Aside0.mk (hbox); have n5_ := Aside0.mk ((by rw [hg]; exact (by first | exact HK.out.1 | exact (show Kept w _ (fun k_ => P1_ k_ ∨ P2_ k_) from by repeat (first | (with_reducible first | exact HK.out | apply Kept.alloc | apply Kept.drewN | apply Kept.drew) | exact HK.out)).1) : w.heap.size ≤ gb375)); have n6_ := Aside0.mk ((by rw [hg]; exact (below_size (by repeat (first | (with_reducible first | exact HB.out | apply below_alloc | apply pw_below_drewN | apply below_drew1) | exact HB.out))) : w0.heap.size ≤ gb375)); clear HO_1; clear HO_2; clear HK; clear HB; have HO_1 := n0_; have HO_2 := n1_; have HK := n2_; have HB := n3_; have BK375 := n4_; have GW375 := n5_; have GE375 := n6_; clear n0_ n1_ n2_ n3_ n4_ n5_ n6_; clear hb hbox hg; have hcz24_0 : w23.cell? ⟨gb375, 0, none⟩ = some (.int .i64 0) := (blk_cell BK375.out 0).trans rfl; have hcz24_1 : w23.cell? ⟨gb375, 1, none⟩ = some (.int .i64 0) := (blk_cell BK375.out 1).trans rfl; have hcz24_2 : w23.cell? ⟨gb375, 2, none⟩ = some (.int .i64 0) := (blk_cell BK375.out 2).trans rfl; have hcz24_3 : w23.cell? ⟨gb375, 3, none⟩ = some (.int .i64 0) := (blk_cell BK375.out 3).trans rfl; have hcz24_4 : w23.cell? ⟨gb375, 4, none⟩ = some (.int .i64 0) := (blk_cell BK375.out 4).trans rfl; have hfz24_0 := blk_frozen BK375.out 0; have hfz24_1 := blk_frozen BK375.out 1; have hfz24_2 := blk_frozen BK375.out 2; have hfz24_3 := blk_frozen BK375.out 3; have hfz24_4 := blk_frozen BK375.out 4))
            have n0_ : Aside0 (Kd.R (Kd.int .i64) 3 (((((w23.setCell ⟨gb375, 0, none⟩ (.int .i64 ((rd_T45 l0 x11_1).f0))).setCell ⟨gb375, 1, none⟩ (.int .i64 ((rd_T45 l0 x11_1).f1))).setCell ⟨gb375, 2, none⟩ (.int .i64 ((rd_T45 l0 x11_1).f2))).setCell ⟨gb375, 3, none⟩ (.int .i64 ((rd_T45 l0 x11_1).f3))).setCell ⟨gb375, 4, none⟩ (.int .i64 ((rd_T45 l0 x11_1).f4))) w0.heap.size (fun k_ => ((P1_ k_ ∨ P2_ k_) ∨ w.heap.size ≤ k_) ∧ some k_ ≠ (u2 : Value).ownBlock) u9000_ x1_1) := ⟨by (with_reducible repeat (first | apply Kd.R_alloc | apply Kd.R_drewN | apply Kd.R_drew)); exact Kd.R_mono (Kd.R_far (p := ⟨gb375, 4, none⟩) (Kd.R_far (p := ⟨gb375, 3, none⟩) (Kd.R_far (p := ⟨gb375, 2, none⟩) (Kd.R_far (p := ⟨gb375, 1, none⟩) (Kd.R_far (p := ⟨gb375, 0, none⟩) (Kd.R_types HO_1.out BK375.out (by decide)) (fun _ hk => hk.2) (.int .i64 ((rd_T45 l0 x11_1).f0))) (fun _ hk => hk.2) (.int .i64 ((rd_T45 l0 x11_1).f1))) (fun _ hk => hk.2) (.int .i64 ((rd_T45 l0 x11_1).f2))) (fun _ hk => hk.2) (.int .i64 ((rd_T45 l0 x11_1).f3))) (fun _ hk => hk.2) (.int .i64 ((rd_T45 l0 x11_1).f4))) (fun _ hk => ⟨hk.1.1, hk.1.2⟩)⟩
            have n1_ : Aside0 (Kd.R (Kd.int .i64) 3 (((((w23.setCell ⟨gb375, 0, none⟩ (.int .i64 ((rd_T45 l0 x11_1).f0))).setCell ⟨gb375, 1, none⟩ (.int .i64 ((rd_T45 l0 x11_1).f1))).setCell ⟨gb375, 2, none⟩ (.int .i64 ((rd_T45 l0 x11_1).f2))).setCell ⟨gb375, 3, none⟩ (.int .i64 ((rd_T45 l0 x11_1).f3))).setCell ⟨gb375, 4, none⟩ (.int .i64 ((rd_T45 l0 x11_1).f4))) w0.heap.size (fun k_ => ((P1_ k_ ∨ P2_ k_) ∨ w.heap.size ≤ k_) ∧ some k_ ≠ (u9000_ : Value).ownBlock) u2 x2_1) := ⟨by (with_reducible repeat (first | apply Kd.R_alloc | apply Kd.R_drewN | apply Kd.R_drew)); exact Kd.R_mono (Kd.R_far (p := ⟨gb375, 4, none⟩) (Kd.R_far (p := ⟨gb375, 3, none⟩) (Kd.R_far (p := ⟨gb375, 2, none⟩) (Kd.R_far (p := ⟨gb375, 1, none⟩) (Kd.R_far (p := ⟨gb375, 0, none⟩) (Kd.R_types HO_2.out BK375.out (by decide)) (fun _ hk => hk.2) (.int .i64 ((rd_T45 l0 x11_1).f0))) (fun _ hk => hk.2) (.int .i64 ((rd_T45 l0 x11_1).f1))) (fun _ hk => hk.2) (.int .i64 ((rd_T45 l0 x11_1).f2))) (fun _ hk => hk.2) (.int .i64 ((rd_T45 l0 x11_1).f3))) (fun _ hk => hk.2) (.int .i64 ((rd_T45 l0 x11_1).f4))) (fun _ hk => ⟨hk.1.1, hk.1.2⟩)⟩
            have n2_ : Aside0 ((((((w23.setCell ⟨gb375, 0, none⟩ (.int .i64 ((rd_T45 l0 x11_1).f0))).setCell ⟨gb375, 1, none⟩ (.int .i64 ((rd_T45 l0 x11_1).f1))).setCell ⟨gb375, 2, none⟩ (.int .i64 ((rd_T45 l0 x11_1).f2))).setCell ⟨gb375, 3, none⟩ (.int .i64 ((rd_T45 l0 x11_1).f3))).setCell ⟨gb375, 4, none⟩ (.int .i64 ((rd_T45 l0 x11_1).f4))).heap[gb375]? = some (.cells #[.int .i64 ((rd_T45 l0 x11_1).f0), .int .i64 ((rd_T45 l0 x11_1).f1), .int .i64 ((rd_T45 l0 x11_1).f2), .int .i64 ((rd_T45 l0 x11_1).f3), .int .i64 ((rd_T45 l0 x11_1).f4)] 45 (0, 0))) := ⟨by (with_reducible repeat (first | refine blk_drewN ?_ _ | refine blk_drew ?_ | refine blk_alloc ?_ _)); refine blk_put (cs := #[.int .i64 ((rd_T45 l0 x11_1).f0), .int .i64 ((rd_T45 l0 x11_1).f1), .int .i64 ((rd_T45 l0 x11_1).f2), .int .i64 ((rd_T45 l0 x11_1).f3), .int .i64 0]) ?_ 4 _ rfl; (with_reducible repeat (first | refine blk_drewN ?_ _ | refine blk_drew ?_ | refine blk_alloc ?_ _)); refine blk_put (cs := #[.int .i64 ((rd_T45 l0 x11_1).f0), .int .i64 ((rd_T45 l0 x11_1).f1), .int .i64 ((rd_T45 l0 x11_1).f2), .int .i64 0, .int .i64 0]) ?_ 3 _ rfl; (with_reducible repeat (first | refine blk_drewN ?_ _ | refine blk_drew ?_ | refine blk_alloc ?_ _)); refine blk_put (cs := #[.int .i64 ((rd_T45 l0 x11_1).f0), .int .i64 ((rd_T45 l0 x11_1).f1), .int .i64 0, .int .i64 0, .int .i64 0]) ?_ 2 _ rfl; (with_reducible repeat (first | refine blk_drewN ?_ _ | refine blk_drew ?_ | refine blk_alloc ?_ _)); refine blk_put (cs := #[.int .i64 ((rd_T45 l0 x11_1).f0), .int .i64 0, .int .i64 0, .int .i64 0, .int .i64 0]) ?_ 1 _ rfl; (with_reducible repeat (first | refine blk_drewN ?_ _ | refine blk_drew ?_ | refine blk_alloc ?_ _)); refine blk_put (cs := #[.int .i64 0, .int .i64 0, .int .i64 0, .int .i64 0, .int .i64 0]) ?_ 0 _ rfl; (with_reducible repeat (first | refine blk_drewN ?_ _ | refine blk_drew ?_ | refine blk_alloc ?_ _)); exact BK375.out⟩
            have n3_ : Aside0 (Kept w (((((w23.setCell ⟨gb375, 0, none⟩ (.int .i64 ((rd_T45 l0 x11_1).f0))).setCell ⟨gb375, 1, none⟩ (.int .i64 ((rd_T45 l0 x11_1).f1))).setCell ⟨gb375, 2, none⟩ (.int .i64 ((rd_T45 l0 x11_1).f2))).setCell ⟨gb375, 3, none⟩ (.int .i64 ((rd_T45 l0 x11_1).f3))).setCell ⟨gb375, 4, none⟩ (.int .i64 ((rd_T45 l0 x11_1).f4))) (fun k_ => P1_ k_ ∨ P2_ k_)) := ⟨by repeat (first | (with_reducible first | exact HK.out | apply Kept.alloc | apply Kept.drewN | apply Kept.drew | refine Kept.setCell ?_ (.inr GW375.out) _) | exact HK.out)⟩
            have n4_ : Aside0 (Below w0.heap.size w0 (((((w23.setCell ⟨gb375, 0, none⟩ (.int .i64 ((rd_T45 l0 x11_1).f0))).setCell ⟨gb375, 1, none⟩ (.int .i64 ((rd_T45 l0 x11_1).f1))).setCell ⟨gb375, 2, none⟩ (.int .i64 ((rd_T45 l0 x11_1).f2))).setCell ⟨gb375, 3, none⟩ (.int .i64 ((rd_T45 l0 x11_1).f3))).setCell ⟨gb375, 4, none⟩ (.int .i64 ((rd_T45 l0 x11_1).f4)))) := ⟨by repeat (first | (with_reducible first | exact HB.out | apply below_alloc | apply pw_below_drewN | apply below_drew1 | refine below_set ?_ GE375.out) | exact HB.out)⟩
            (try clear HO_1)
            (try clear HO_2)
            (try clear BK375)
            (try clear HK)
            (try clear HB)
            generalize (((((w23.setCell ⟨gb375, 0, none⟩ (.int .i64 ((rd_T45 l0 x11_1).f0))).setCell ⟨gb375, 1, none⟩ (.int .i64 ((rd_T45 l0 x11_1).f1))).setCell ⟨gb375, 2, none⟩ (.int .i64 ((rd_T45 l0 x11_1).f2))).setCell ⟨gb375, 3, none⟩ (.int .i64 ((rd_T45 l0 x11_1).f3))).setCell ⟨gb375, 4, none⟩ (.int .i64 ((rd_T45 l0 x11_1).f4))) = w25 at n0_ n1_ n2_ n3_ n4_ ⊢
            have HO_1 := n0_
            have HO_2 := n1_
            have BK375 := n2_
            have HK := n3_
            have HB := n4_
            clear n0_ n1_ n2_ n3_ n4_
            have n0_ := Aside0.mk (Kd.R_drew HO_1.out)
            have n1_ := Aside0.mk (Kd.R_drew HO_2.out)
            have n2_ := Aside0.mk (blk_drew BK375.out)
            have n3_ := Aside0.mk (Kept.drew HK.out)
            have n4_ := Aside0.mk (below_drew1 HB.out)
            clear HO_1
            clear HO_2
            clear BK375
            clear HK
            clear HB
            have HO_1 := n0_
            have HO_2 := n1_
            have BK375 := n2_
            have HK := n3_
            have HB := n4_
            clear n0_ n1_ n2_ n3_ n4_
            obtain ⟨Ao27, co27, eo27⟩ := Kd.R_slice HO_1.out
            (first | subst eo27 | (injection eo27 with f1_ f2_ f3_; have f4_ := f1_.symm; have f5_ := f3_.symm; clear f1_ f2_ f3_; subst f4_; subst f5_))
            have p377 : 0 ≤ (((rd_T45 l0 x11_1).f2) : Int) := of_decide_eq_true (by first | (with_reducible assumption) | assumption)
            have q377 : ((rd_T45 l0 x11_1).f2) < (x1_1.length : Int) := of_decide_eq_true (by first | (with_reducible assumption) | assumption)
            obtain ⟨ad377, e377, hx377_0⟩ := Kd.at_int (Kd.R_reads' HO_1.out).2.2 ((rd_T45 l0 x11_1).f2) p377 q377
            cases e377
            replace p377 := eq_true p377
            replace q377 := eq_true q377
            have p22 : 0 ≤ (((rd_T45 l0 x11_1).f1) : Int) := of_decide_eq_true (by first | (with_reducible assumption) | assumption)
            have q22 : (((rd_T45 l0 x11_1).f1) : Int) < ((x1_1.length : Int) : Int) := of_decide_eq_true (by first | (with_reducible assumption) | assumption)
            obtain ⟨go22, co22, eo22, gb22, gl22, cl22, HG22⟩ := Kd.R_form HO_1.out (by omega)
            (first | cases eo22 | (injection eo22 with ea_ en_ ec_; (first | subst ea_ | (injection ea_ with ea_; subst ea_)); subst ec_; clear en_))
            have GB22 := Aside0.mk gb22
            have GG22 := Aside0.mk HG22
            clear gb22 gl22 HG22
            have HMgo22 := Aside0.mk (show ((P1_ go22 ∨ P2_ go22) ∨ w.heap.size ≤ go22) from (HO_1.out.1 _ rfl).1)
            (first | simp only [add_plain] at hx377_0 | skip)
            obtain ⟨hx22_0, hf22_0⟩ := Kd.R_celln 0 HO_1.out (((rd_T45 l0 x11_1).f1) : Int) p22 q22
            replace p22 := eq_true p22
            replace q22 := eq_true q22
            have HP28 := Kd.R_putn HO_1.out (((rd_T45 l0 x11_1).f1) : Int) (rd x1_1 ((rd_T45 l0 x11_1).f2))
            rw [← Ny378.out] at HP28
            have HQ28 := Aside0.mk HP28
            clear HP28
            refine start_ (n := 10) (S := fun w' => w'.cell? ⟨gb375, 0, none⟩ = some (.int .i64 ((rd_T45 l0 x11_1).f0)) ∧ w'.cell? ⟨gb375, 1, none⟩ = some (.int .i64 ((rd_T45 l0 x11_1).f1)) ∧ w'.cell? ⟨gb375, 2, none⟩ = some (.int .i64 ((rd_T45 l0 x11_1).f2)) ∧ w'.cell? ⟨gb375, 3, none⟩ = some (.int .i64 ((rd_T45 l0 x11_1).f3)) ∧ w'.cell? ⟨gb375, 4, none⟩ = some (.int .i64 ((rd_T45 l0 x11_1).f4)) ∧ w'.cell? ⟨go22, (((rd_T45 l0 x11_1).f2)).toNat, none⟩ = some (.int .i64 (rd x1_1 ((rd_T45 l0 x11_1).f2)))) (ds := [9]) #[false, false, false, false, false, false, false, false, false, false] (by kernel_rfl) rfl rfl ⟨(blk_cell BK375.out 0).trans rfl, (blk_cell BK375.out 1).trans rfl, (blk_cell BK375.out 2).trans rfl, (blk_cell BK375.out 3).trans rfl, (blk_cell BK375.out 4).trans rfl, hx377_0⟩ (fun hHeld => ?_); refine with_tabW spec_l3Run.tab9 spec_l3Run.bits9 (fun HT_ HW_ => ?_)
            generalize w25.drew = w26 at HO_1 HO_2 BK375 HK HB GG22 HQ28 hf22_0 hx22_0 hx377_0 hHeld ⊢
            refine pure_ (i := 0) (N := some 44) (v := ?_) (a' := ?_) #[true, false, false, false, false, false, false, false, false, false] rfl rfl (any_of HT_.out (by kernel_rfl)) (fun _ _ _ h => h) (Or.inl ⟨by rfl, ?_⟩) ?_ ?_
            rotate_left
            ·intro w'
             go_simp
             with_reducible rfl
            rotate_left
            ·simp only [Act.put, List.setIfInBounds_toArray, List.set_cons_zero, List.set_cons_succ, i64_w, i32_w]
             rfl
            refine pure_ (i := 1) (N := some 45) (v := ?_) (a' := ?_) #[true, true, false, false, false, false, false, false, false, false] rfl rfl (any_of HT_.out (by kernel_rfl)) (fun _ _ _ h => h) (Or.inl ⟨by rfl, ?_⟩) ?_ ?_
            rotate_left
            ·intro w'
             go_simp
             with_reducible rfl
            rotate_left
            ·simp only [Act.put, List.setIfInBounds_toArray, List.set_cons_zero, List.set_cons_succ, i64_w, i32_w]
             rfl
            refine pure_ (i := 3) (N := some 47) (v := ?_) (a' := ?_) #[true, true, false, true, false, false, false, false, false, false] rfl rfl (any_of HT_.out (by kernel_rfl)) (fun _ _ _ h => h) (Or.inl ⟨by rfl, ?_⟩) ?_ ?_
            rotate_left
            ·intro w'
             go_simp
             with_reducible rfl
            rotate_left
            ·simp only [Act.put, List.setIfInBounds_toArray, List.set_cons_zero, List.set_cons_succ, i64_w, i32_w]
             rfl
            refine pure_ (i := 4) (N := some 48) (v := ?_) (a' := ?_) #[true, true, false, true, true, false, false, false, false, false] rfl rfl (any_of HT_.out (by kernel_rfl)) (fun _ _ _ h => h) (Or.inl ⟨by rfl, ?_⟩) ?_ ?_
            rotate_left
            ·intro w'
             go_simp
             with_reducible rfl
            rotate_left
            ·simp only [Act.put, List.setIfInBounds_toArray, List.set_cons_zero, List.set_cons_succ, i64_w, i32_w]
             rfl
            refine take_ (i := 2) (N := some 46) (v := ?_) (a' := ?_) #[true, true, true, true, true, false, false, false, false, false] rfl rfl (take_ofW HT_.out HW_.out (by kernel_rfl)) (fun _ _ _ h => h) (Or.inl ⟨by rfl, ?_⟩) hHeld ?_ ?_
            rotate_left
            ·rintro w' ⟨s0, s1, s2, s3, s4, s5⟩
             go_simp
             with_reducible rfl
            rotate_left
            ·simp only [Act.put, List.setIfInBounds_toArray, List.set_cons_zero, List.set_cons_succ, i64_w, i32_w]
             rfl
            refine take_ (i := 5) (N := some 49) (v := ?_) (a' := ?_) #[true, true, true, true, true, true, false, false, false, false] rfl rfl (take_ofW HT_.out HW_.out (by kernel_rfl)) (fun _ _ _ h => h) (Or.inl ⟨by rfl, ?_⟩) hHeld ?_ ?_
            rotate_left
            ·rintro w' ⟨s0, s1, s2, s3, s4, s5⟩
             go_simp
             with_reducible rfl
            rotate_left
            ·simp only [Act.put, List.setIfInBounds_toArray, List.set_cons_zero, List.set_cons_succ, i64_w, i32_w]
             rfl
            refine pure_ (i := 6) (N := some 50) (v := ?_) (a' := ?_) #[true, true, true, true, true, true, true, false, false, false] rfl rfl (any_of HT_.out (by kernel_rfl)) (fun _ _ _ h => h) (Or.inl ⟨by rfl, ?_⟩) ?_ ?_
            rotate_left
            ·intro w'
             go_simp
             with_reducible rfl
            rotate_left
            ·simp only [Act.put, List.setIfInBounds_toArray, List.set_cons_zero, List.set_cons_succ, i64_w, i32_w]
             rfl
            refine take_ (i := 7) (N := some 51) (v := ?_) (a' := ?_) #[true, true, true, true, true, true, true, true, false, false] rfl rfl (take_ofW HT_.out HW_.out (by kernel_rfl)) (fun _ _ _ h => h) (Or.inl ⟨by rfl, ?_⟩) hHeld ?_ ?_
            rotate_left
            ·rintro w' ⟨s0, s1, s2, s3, s4, s5⟩
             go_simp
             with_reducible rfl
            rotate_left
            ·simp only [Act.put, List.setIfInBounds_toArray, List.set_cons_zero, List.set_cons_succ, i64_w, i32_w]
             rfl
            refine pure_ (i := 8) (N := some 52) (v := ?_) (a' := ?_) #[true, true, true, true, true, true, true, true, true, false] rfl rfl (any_of HT_.out (by kernel_rfl)) (fun _ _ _ h => h) (Or.inl ⟨by rfl, ?_⟩) ?_ ?_
            rotate_left
            ·intro w'
             go_simp
             with_reducible rfl
            rotate_left
            ·simp only [Act.put, List.setIfInBounds_toArray, List.set_cons_zero, List.set_cons_succ, i64_w, i32_w]
             rfl
            refine last_ (i := 9) (N := none) #[true, true, true, true, true, true, true, true, true, true] rfl rfl (one_of HT_.out (by kernel_rfl)) (by decide) (fun K hK => ?_)
            refine skip_ (w1 := ?_) (by rfl) rfl ?_ ?_
            rotate_left
            ·go_simp
             rfl
            refine hK.out _ _ ?_
            clear hK K
            refine done_ (done_of HT_.out (by kernel_rfl)) ?_
            try go_wp2
            go_roundg k1
            case measure => have := HK1.out; omega
            case rel => exact ⟨(y378), (x2_1), (wrap64 (x11_1 + 1)), (by first | rfl | (simp; done) | (simp [*]; done)), H', ⟨by have := HK1.out; omega⟩, ⟨by (with_reducible repeat (first | apply Kd.R_alloc | apply Kd.R_drewN | apply Kd.R_drew)); exact HQ28.out⟩, ⟨by (with_reducible repeat (first | apply Kd.R_alloc | apply Kd.R_drewN | apply Kd.R_drew)); exact Kd.R_mono (Kd.R_far (p := ⟨go22, (((rd_T45 l0 x11_1).f1) : Int).toNat, none⟩) (Kd.R_mono HO_2.out (fun k_ hk => (⟨hk, fun e_ => hk.2 (by rw [e_]; rfl)⟩ : _ ∧ k_ ≠ go22))) (fun _ hk => hk.2) (.int .i64 (rd x1_1 ((rd_T45 l0 x11_1).f2)))) (fun _ hk => ⟨hk.1.1, hk.1.2⟩)⟩, ⟨by repeat (first | (with_reducible first | exact HK.out | apply Kept.alloc | apply Kept.drewN | apply Kept.drew | refine Kept.setCell ?_ HMgo22.out _ | refine Kept.setCell ?_ (.inr GW375.out) _) | exact HK.out)⟩, ⟨by repeat (first | (with_reducible first | exact HB.out | apply below_alloc | apply pw_below_drewN | apply below_drew1 | refine below_set ?_ GB22.out | refine below_set ?_ GE375.out) | exact HB.out)⟩⟩
           ·rw [if_neg c21] at H
            exact absurd H (by simp)
          ·rw [if_neg c20] at H
           exact absurd H (by simp)
         ·rw [if_neg c19] at H
          exact absurd H (by simp)
        ·rw [if_neg c18] at H
         exact absurd H (by simp)
       ·rw [if_neg c17] at H
        have c17b0 : (((rd_T45 l0 x11_1).f0) == 2) = false := beq_eq_false_iff_ne.mpr c17
        have c17b1 : (((rd_T45 l0 x11_1).f0) != 2) = true := bne_iff_ne.mpr c17
        by_cases c29 : ((rd_T45 l0 x11_1).f0) = 8
        ·rw [if_pos c29] at H
         have c29b0 : (((rd_T45 l0 x11_1).f0) == 8) = true := beq_iff_eq.mpr c29
         have c29b1 : (((rd_T45 l0 x11_1).f0) != 8) = false := bne_eq_false_iff_eq.mpr c29
         clear c29
         by_cases c30 : 0 ≤ ((rd_T45 l0 x11_1).f2)
         ·rw [if_pos c30] at H
          have c30b0 : decide (0 ≤ ((rd_T45 l0 x11_1).f2)) = true := decide_eq_true c30
          clear c30
          by_cases c31 : ((rd_T45 l0 x11_1).f2) < (x1_1.length : Int)
          ·rw [if_pos c31] at H
           have c31b0 : decide (((rd_T45 l0 x11_1).f2) < (x1_1.length : Int)) = true := decide_eq_true c31
           clear c31
           by_cases c32 : x2_1.length < 17592186044416
           ·rw [if_pos c32] at H
            have LMc32 := Aside0.mk c32
            clear c32
            obtain ⟨y380, hy380⟩ : ∃ y_ : List Int, y_ = (x2_1 ++ [rd x1_1 ((rd_T45 l0 x11_1).f2)]) := ⟨_, rfl⟩
            replace H : (spec_l3Run.l0 k1 x1_1 y380 l0 (l0.length : Int) (wrap64 (x11_1 + 1))) = some (r1, r2) := by first | (rw [hy380]; with_reducible exact H) | (have H2_ := (Option.bind_some _ _).symm.trans H; rw [hy380]; with_reducible exact H2_) | (have H2_ := (Option.bind_some _ _).symm.trans H; with_reducible exact H2_) | with_reducible exact H | (rw [hy380]; exact H) | exact H
            have Ny380 := Aside0.mk hy380
            clear hy380
            have H' := Aside0.mk H
            clear H
            have p374 : 0 ≤ (x11_1 : Int) := of_decide_eq_true (by first | (with_reducible assumption) | assumption)
            have q374 : x11_1 < (l0.length : Int) := of_decide_eq_true (by first | (with_reducible assumption) | assumption)
            obtain ⟨ad374, e374, hx374_0, hx374_1, hx374_2, hx374_3, hx374_4⟩ := at_T45 (Kd.C_kept_now HR0.out HK.out) x11_1 p374 q374
            cases e374
            replace p374 := eq_true p374
            replace q374 := eq_true q374
            go_wp2_with (first | ((with_reducible refine gate_dst (N := 8) rfl ?_); refine box_event ?hg (N := 8) ?hd (cs := #[.int .i64 0, .int .i64 0, .int .i64 0, .int .i64 0, .int .i64 0]) (t := 45) ?hr ?_; (case hd => rfl); (case hg => rfl); (case hr => first | (go_simp; done) | (go_simp; rfl)); intro gb375 hg w33 hbox hb; have n0_ := Aside0.mk (Kd.R_below (by (with_reducible repeat (first | apply Kd.R_alloc | apply Kd.R_drewN | apply Kd.R_drew)); exact HO_1.out) hb); have n1_ := Aside0.mk (Kd.R_below (by (with_reducible repeat (first | apply Kd.R_alloc | apply Kd.R_drewN | apply Kd.R_drew)); exact HO_2.out) hb); have n2_ := Aside0.mk (Kept.below (S := (fun k_ => P1_ k_ ∨ P2_ k_)) (by repeat (first | (with_reducible first | exact HK.out | apply Kept.alloc | apply Kept.drewN | apply Kept.drew) | exact HK.out)) hb); have n3_ := Aside0.mk (below_step (by repeat (first | (with_reducible first | exact HB.out | apply below_alloc | apply pw_below_drewN | apply below_drew1) | exact HB.out)) hb); have n4_ := Aside0.mk (hbox); have n5_ := Aside0.mk ((by rw [hg]; exact (by first | exact HK.out.1 | exact (show Kept w _ (fun k_ => P1_ k_ ∨ P2_ k_) from by repeat (first | (with_reducible first | exact HK.out | apply Kept.alloc | apply Kept.drewN | apply Kept.drew) | exact HK.out)).1) : w.heap.size ≤ gb375)); have n6_ := Aside0.mk ((by rw [hg]; exact (below_size (by repeat (first | (with_reducible first | exact HB.out | apply below_alloc | apply pw_below_drewN | apply below_drew1) | exact HB.out))) : w0.heap.size ≤ gb375)); clear HO_1; clear HO_2; clear HK; clear HB; have HO_1 := n0_; have HO_2 := n1_; have HK := n2_; have HB := n3_; have BK375 := n4_; have GW375 := n5_; have GE375 := n6_; clear n0_ n1_ n2_ n3_ n4_ n5_ n6_; clear hb hbox hg; have hcz34_0 : w33.cell? ⟨gb375, 0, none⟩ = some (.int .i64 0) := (blk_cell BK375.out 0).trans rfl; have hcz34_1 : w33.cell? ⟨gb375, 1, none⟩ = some (.int .i64 0) := (blk_cell BK375.out 1).trans rfl; have hcz34_2 : w33.cell? ⟨gb375, 2, none⟩ = some (.int .i64 0) := (blk_cell BK375.out 2).trans rfl; have hcz34_3 : w33.cell? ⟨gb375, 3, none⟩ = some (.int .i64 0) := (blk_cell BK375.out 3).trans rfl; have hcz34_4 : w33.cell? ⟨gb375, 4, none⟩ = some (.int .i64 0) := (blk_cell BK375.out 4).trans rfl; have hfz34_0 := blk_frozen BK375.out 0; have hfz34_1 := blk_frozen BK375.out 1; have hfz34_2 := blk_frozen BK375.out 2; have hfz34_3 := blk_frozen BK375.out 3; have hfz34_4 := blk_frozen BK375.out 4; obtain ⟨Ao35, co35, eo35⟩ := Kd.R_slice HO_1.out; subst eo35; have p379 : 0 ≤ (((rd_T45 l0 x11_1).f2) : Int) := of_decide_eq_true (by first | (with_reducible assumption) | assumption); have q379 : ((rd_T45 l0 x11_1).f2) < (x1_1.length : Int) := of_decide_eq_true (by first | (with_reducible assumption) | assumption); obtain ⟨ad379, e379, hx379_0⟩ := Kd.at_int (Kd.R_reads' HO_1.out).2.2 ((rd_T45 l0 x11_1).f2) p379 q379; cases e379; have hn379_0 : ad379.block ≠ gb375 := Kd.own_blk (Kd.R_ne HO_1.out BK375.out (by decide)); have hn379_1 : ad379.block ≠ gb375 := Kd.own_blk (Kd.R_ne HO_1.out BK375.out (by decide)); have hn379_2 : ad379.block ≠ gb375 := Kd.own_blk (Kd.R_ne HO_1.out BK375.out (by decide)); have hn379_3 : ad379.block ≠ gb375 := Kd.own_blk (Kd.R_ne HO_1.out BK375.out (by decide)); have hn379_4 : ad379.block ≠ gb375 := Kd.own_blk (Kd.R_ne HO_1.out BK375.out (by decide)); replace hx379_0 := (cell_far (p := ⟨gb375, 0, none⟩) (by first | (rw [add_block]; exact hn379_0) | (show (Addr.add _ _).block ≠ _; rw [add_block]; exact hn379_0) | exact hn379_0) (.int .i64 ((rd_T45 l0 x11_1).f0))).trans hx379_0; replace hx379_0 := (cell_far (p := ⟨gb375, 1, none⟩) (by first | (rw [add_block]; exact hn379_1) | (show (Addr.add _ _).block ≠ _; rw [add_block]; exact hn379_1) | exact hn379_1) (.int .i64 ((rd_T45 l0 x11_1).f1))).trans hx379_0; replace hx379_0 := (cell_far (p := ⟨gb375, 2, none⟩) (by first | (rw [add_block]; exact hn379_2) | (show (Addr.add _ _).block ≠ _; rw [add_block]; exact hn379_2) | exact hn379_2) (.int .i64 ((rd_T45 l0 x11_1).f2))).trans hx379_0; replace hx379_0 := (cell_far (p := ⟨gb375, 3, none⟩) (by first | (rw [add_block]; exact hn379_3) | (show (Addr.add _ _).block ≠ _; rw [add_block]; exact hn379_3) | exact hn379_3) (.int .i64 ((rd_T45 l0 x11_1).f3))).trans hx379_0; replace hx379_0 := (cell_far (p := ⟨gb375, 4, none⟩) (by first | (rw [add_block]; exact hn379_4) | (show (Addr.add _ _).block ≠ _; rw [add_block]; exact hn379_4) | exact hn379_4) (.int .i64 ((rd_T45 l0 x11_1).f4))).trans hx379_0; clear hn379_0; clear hn379_1; clear hn379_2; clear hn379_3; clear hn379_4; replace p379 := eq_true p379; replace q379 := eq_true q379) | ((with_reducible refine gate_builtin (b := .append) (xs := #[.tmp 55, .tmp 61]) rfl ?_); at_builtin; refine Kd.R_append (Kd.int .i64) (w0 := w0) w0.heap.size rfl (.tmp 55) (.tmp 61) 24 3 (.int .i64 0) 8 rfl Try.underlying24 info3 rfl (by decide) (by omega) u2 x2_1 (rd x1_1 ((rd_T45 l0 x11_1).f2)) [.int .i64 (rd x1_1 ((rd_T45 l0 x11_1).f2))] (fun k_ => ((P1_ k_ ∨ P2_ k_) ∨ w.heap.size ≤ k_) ∧ some k_ ≠ (.slice (some ad379) x1_1.length co35 : Value).ownBlock) (fun _ => False) rfl (by first | (go_simp; done) | (go_simp; rfl)) ?aP (fun _ hk => hk.elim) ?aF ?aO ?aB ?aS ?aL ?_; (case aP => exact rfl); (case aB => exact (by repeat (first | (with_reducible first | exact HB.out | apply below_alloc | apply pw_below_drewN | apply below_drew1 | refine below_set ?_ GE375.out) | exact HB.out))); (case aF => exact (fun k_ hk => ⟨(.inr (Nat.le_trans (show Kept w _ (fun k_ => P1_ k_ ∨ P2_ k_) from by repeat (first | (with_reducible first | exact HK.out | apply Kept.alloc | apply Kept.drewN | apply Kept.drew | refine Kept.setCell ?_ (.inr GW375.out) _) | exact HK.out)).1 hk)), Kd.fresh' (Kd.R_lt (by (with_reducible repeat (first | apply Kd.R_alloc | apply Kd.R_drewN | apply Kd.R_drew)); exact (Kd.R_mono (Kd.R_far (p := ⟨gb375, 4, none⟩) (Kd.R_far (p := ⟨gb375, 3, none⟩) (Kd.R_far (p := ⟨gb375, 2, none⟩) (Kd.R_far (p := ⟨gb375, 1, none⟩) (Kd.R_far (p := ⟨gb375, 0, none⟩) (Kd.R_types HO_1.out BK375.out (by decide)) (fun _ hk => hk.2) (.int .i64 ((rd_T45 l0 x11_1).f0))) (fun _ hk => hk.2) (.int .i64 ((rd_T45 l0 x11_1).f1))) (fun _ hk => hk.2) (.int .i64 ((rd_T45 l0 x11_1).f2))) (fun _ hk => hk.2) (.int .i64 ((rd_T45 l0 x11_1).f3))) (fun _ hk => hk.2) (.int .i64 ((rd_T45 l0 x11_1).f4))) (fun _ h_ => h_.1)))) k_ hk⟩)); (case aO => exact (by (with_reducible repeat (first | apply Kd.R_alloc | apply Kd.R_drewN | apply Kd.R_drew)); exact Kd.R_mono (Kd.R_far (p := ⟨gb375, 4, none⟩) (Kd.R_far (p := ⟨gb375, 3, none⟩) (Kd.R_far (p := ⟨gb375, 2, none⟩) (Kd.R_far (p := ⟨gb375, 1, none⟩) (Kd.R_far (p := ⟨gb375, 0, none⟩) (Kd.R_types HO_2.out BK375.out (by decide)) (fun _ hk => hk.2) (.int .i64 ((rd_T45 l0 x11_1).f0))) (fun _ hk => hk.2) (.int .i64 ((rd_T45 l0 x11_1).f1))) (fun _ hk => hk.2) (.int .i64 ((rd_T45 l0 x11_1).f2))) (fun _ hk => hk.2) (.int .i64 ((rd_T45 l0 x11_1).f3))) (fun _ hk => hk.2) (.int .i64 ((rd_T45 l0 x11_1).f4))) (fun _ hk => ⟨hk.1.1, hk.1.2⟩))); (case aS => exact (below_size (by repeat (first | (with_reducible first | exact HB.out | apply below_alloc | apply pw_below_drewN | apply below_drew1 | refine below_set ?_ GE375.out) | exact HB.out)))); (case aL => have := LMc32.out; omega); intro v381 w36 ho hb hg hat; rw [← Ny380.out] at ho; have n0_ := Aside0.mk (Kd.R_after (ok := (fun k_ => ((P1_ k_ ∨ P2_ k_) ∨ w.heap.size ≤ k_))) (by (with_reducible repeat (first | apply Kd.R_alloc | apply Kd.R_drewN | apply Kd.R_drew)); exact Kd.R_mono (Kd.R_far (p := ⟨gb375, 4, none⟩) (Kd.R_far (p := ⟨gb375, 3, none⟩) (Kd.R_far (p := ⟨gb375, 2, none⟩) (Kd.R_far (p := ⟨gb375, 1, none⟩) (Kd.R_far (p := ⟨gb375, 0, none⟩) (Kd.R_types HO_1.out BK375.out (by decide)) (fun _ hk => hk.2) (.int .i64 ((rd_T45 l0 x11_1).f0))) (fun _ hk => hk.2) (.int .i64 ((rd_T45 l0 x11_1).f1))) (fun _ hk => hk.2) (.int .i64 ((rd_T45 l0 x11_1).f2))) (fun _ hk => hk.2) (.int .i64 ((rd_T45 l0 x11_1).f3))) (fun _ hk => hk.2) (.int .i64 ((rd_T45 l0 x11_1).f4))) (fun _ hk => ⟨hk.1.1, hk.1.2⟩)) hg hat); have n1_ := Aside0.mk (blk_grown (g := gb375) (o := .cells #[.int .i64 ((rd_T45 l0 x11_1).f0), .int .i64 ((rd_T45 l0 x11_1).f1), .int .i64 ((rd_T45 l0 x11_1).f2), .int .i64 ((rd_T45 l0 x11_1).f3), .int .i64 ((rd_T45 l0 x11_1).f4)] 45 (0, 0)) (by (with_reducible repeat (first | refine blk_drewN ?_ _ | refine blk_drew ?_ | refine blk_alloc ?_ _)); refine blk_put (cs := #[.int .i64 ((rd_T45 l0 x11_1).f0), .int .i64 ((rd_T45 l0 x11_1).f1), .int .i64 ((rd_T45 l0 x11_1).f2), .int .i64 ((rd_T45 l0 x11_1).f3), .int .i64 0]) ?_ 4 _ rfl; (with_reducible repeat (first | refine blk_drewN ?_ _ | refine blk_drew ?_ | refine blk_alloc ?_ _)); refine blk_put (cs := #[.int .i64 ((rd_T45 l0 x11_1).f0), .int .i64 ((rd_T45 l0 x11_1).f1), .int .i64 ((rd_T45 l0 x11_1).f2), .int .i64 0, .int .i64 0]) ?_ 3 _ rfl; (with_reducible repeat (first | refine blk_drewN ?_ _ | refine blk_drew ?_ | refine blk_alloc ?_ _)); refine blk_put (cs := #[.int .i64 ((rd_T45 l0 x11_1).f0), .int .i64 ((rd_T45 l0 x11_1).f1), .int .i64 0, .int .i64 0, .int .i64 0]) ?_ 2 _ rfl; (with_reducible repeat (first | refine blk_drewN ?_ _ | refine blk_drew ?_ | refine blk_alloc ?_ _)); refine blk_put (cs := #[.int .i64 ((rd_T45 l0 x11_1).f0), .int .i64 0, .int .i64 0, .int .i64 0, .int .i64 0]) ?_ 1 _ rfl; (with_reducible repeat (first | refine blk_drewN ?_ _ | refine blk_drew ?_ | refine blk_alloc ?_ _)); refine blk_put (cs := #[.int .i64 0, .int .i64 0, .int .i64 0, .int .i64 0, .int .i64 0]) ?_ 0 _ rfl; (with_reducible repeat (first | refine blk_drewN ?_ _ | refine blk_drew ?_ | refine blk_alloc ?_ _)); exact BK375.out) hg (Kd.R_ne HO_2.out BK375.out (by decide))); have n2_ := Aside0.mk (hb); have n3_ := Aside0.mk (Kept.of_grown (S := (fun k_ => P1_ k_ ∨ P2_ k_)) hg (by repeat (first | (with_reducible first | exact HK.out | apply Kept.alloc | apply Kept.drewN | apply Kept.drew | refine Kept.setCell ?_ (.inr GW375.out) _) | exact HK.out)) (fun k_ e_ => (HO_2.out.1 k_ e_).1)); have n4_ := Aside0.mk (ho); clear HO_1; clear BK375; clear HB; clear HK; clear HO_2; have HO_1 := n0_; have BK375 := n1_; have HB := n2_; have HK := n3_; have HO382 := n4_; clear n0_ n1_ n2_ n3_ n4_; clear ho hb hg hat))
            go_roundg k1
            case measure => have := HK1.out; omega
            case rel => exact ⟨(x1_1), (y380), (wrap64 (x11_1 + 1)), (by first | rfl | (simp; done) | (simp [*]; done)), H', ⟨by have := HK1.out; omega⟩, ⟨by (with_reducible repeat (first | apply Kd.R_alloc | apply Kd.R_drewN | apply Kd.R_drew)); exact HO_1.out⟩, ⟨by (with_reducible repeat (first | apply Kd.R_alloc | apply Kd.R_drewN | apply Kd.R_drew)); exact HO382.out⟩, ⟨by repeat (first | (with_reducible first | exact HK.out | apply Kept.alloc | apply Kept.drewN | apply Kept.drew | refine Kept.setCell ?_ (.inr GW375.out) _) | exact HK.out)⟩, ⟨by repeat (first | (with_reducible first | exact HB.out | apply below_alloc | apply pw_below_drewN | apply below_drew1 | refine below_set ?_ GE375.out) | exact HB.out)⟩⟩
           ·rw [if_neg c32] at H
            exact absurd H (by simp)
          ·rw [if_neg c31] at H
           exact absurd H (by simp)
         ·rw [if_neg c30] at H
          exact absurd H (by simp)
        ·rw [if_neg c29] at H
         have c29b0 : (((rd_T45 l0 x11_1).f0) == 8) = false := beq_eq_false_iff_ne.mpr c29
         have c29b1 : (((rd_T45 l0 x11_1).f0) != 8) = true := bne_iff_ne.mpr c29
         by_cases c37 : 0 ≤ ((rd_T45 l0 x11_1).f2)
         ·rw [if_pos c37] at H
          have c37b0 : decide (0 ≤ ((rd_T45 l0 x11_1).f2)) = true := decide_eq_true c37
          clear c37
          by_cases c38 : ((rd_T45 l0 x11_1).f2) < (x1_1.length : Int)
          ·rw [if_pos c38] at H
           have c38b0 : decide (((rd_T45 l0 x11_1).f2) < (x1_1.length : Int)) = true := decide_eq_true c38
           clear c38
           by_cases c39 : 0 ≤ ((rd_T45 l0 x11_1).f3)
           ·rw [if_pos c39] at H
            have c39b0 : decide (0 ≤ ((rd_T45 l0 x11_1).f3)) = true := decide_eq_true c39
            clear c39
            by_cases c40 : ((rd_T45 l0 x11_1).f3) < (x1_1.length : Int)
            ·rw [if_pos c40] at H
             have c40b0 : decide (((rd_T45 l0 x11_1).f3) < (x1_1.length : Int)) = true := decide_eq_true c40
             clear c40
             replace H := Option.bind_eq_some_iff.mp H
             obtain ⟨t385, A410, H⟩ := H
             replace H : (if 0 ≤ ((rd_T45 l0 x11_1).f1) then (if ((rd_T45 l0 x11_1).f1) < (x1_1.length : Int) then (spec_l3Run.l0 k1 (x1_1.set (((rd_T45 l0 x11_1).f1) : Int).toNat t385) x2_1 l0 (l0.length : Int) (wrap64 (x11_1 + 1))) else (none)) else (none)) = some (r1, r2) := H
             have A41 := Aside0.mk A410
             clear A410
             by_cases c42 : 0 ≤ ((rd_T45 l0 x11_1).f1)
             ·rw [if_pos c42] at H
              have c42b0 : decide (0 ≤ ((rd_T45 l0 x11_1).f1)) = true := decide_eq_true c42
              clear c42
              by_cases c43 : ((rd_T45 l0 x11_1).f1) < (x1_1.length : Int)
              ·rw [if_pos c43] at H
               have c43b0 : decide (((rd_T45 l0 x11_1).f1) < (x1_1.length : Int)) = true := decide_eq_true c43
               clear c43
               obtain ⟨y386, hy386⟩ : ∃ y_ : List Int, y_ = (x1_1.set (((rd_T45 l0 x11_1).f1) : Int).toNat t385) := ⟨_, rfl⟩
               replace H : (spec_l3Run.l0 k1 y386 x2_1 l0 (l0.length : Int) (wrap64 (x11_1 + 1))) = some (r1, r2) := by first | (rw [hy386]; with_reducible exact H) | (have H2_ := (Option.bind_some _ _).symm.trans H; rw [hy386]; with_reducible exact H2_) | (have H2_ := (Option.bind_some _ _).symm.trans H; with_reducible exact H2_) | with_reducible exact H | (rw [hy386]; exact H) | exact H
               have Ny386 := Aside0.mk hy386
               clear hy386
               have H' := Aside0.mk H
               clear H
               have p374 : 0 ≤ (x11_1 : Int) := of_decide_eq_true (by first | (with_reducible assumption) | assumption)
               have q374 : x11_1 < (l0.length : Int) := of_decide_eq_true (by first | (with_reducible assumption) | assumption)
               obtain ⟨ad374, e374, hx374_0, hx374_1, hx374_2, hx374_3, hx374_4⟩ := at_T45 (Kd.C_kept_now HR0.out HK.out) x11_1 p374 q374
               cases e374
               replace p374 := eq_true p374
               replace q374 := eq_true q374
               try go_wp2_with (first | ((with_reducible refine gate_dst (N := 8) rfl ?_); refine box_event ?hg (N := 8) ?hd (cs := #[.int .i64 0, .int .i64 0, .int .i64 0, .int .i64 0, .int .i64 0]) (t := 45) ?hr ?_; (case hd => rfl); (case hg => rfl); (case hr => first | (go_simp; done) | (go_simp; rfl)); intro gb375 hg w45 hbox hb; have n0_ := Aside0.mk (Kd.R_below (by (with_reducible repeat (first | apply Kd.R_alloc | apply Kd.R_drewN | apply Kd.R_drew)); exact HO_1.out) hb); have n1_ := Aside0.mk (Kd.R_below (by (with_reducible repeat (first | apply Kd.R_alloc | apply Kd.R_drewN | apply Kd.R_drew)); exact HO_2.out) hb); have n2_ := Aside0.mk (Kept.below (S := (fun k_ => P1_ k_ ∨ P2_ k_)) (by repeat (first | (with_reducible first | exact HK.out | apply Kept.alloc | apply Kept.drewN | apply Kept.drew) | exact HK.out)) hb); have n3_ := Aside0.mk (below_step (by repeat (first | (with_reducible first | exact HB.out | apply below_alloc | apply pw_below_drewN | apply below_drew1) | exact HB.out)) hb); have n4_ := Aside0.mk (hbox); have n5_ := Aside0.mk ((by rw [hg]; exact (by first | exact HK.out.1 | exact (show Kept w _ (fun k_ => P1_ k_ ∨ P2_ k_) from by repeat (first | (with_reducible first | exact HK.out | apply Kept.alloc | apply Kept.drewN | apply Kept.drew) | exact HK.out)).1) : w.heap.size ≤ gb375)); have n6_ := Aside0.mk ((by rw [hg]; exact (below_size (by repeat (first | (with_reducible first | exact HB.out | apply below_alloc | apply pw_below_drewN | apply below_drew1) | exact HB.out))) : w0.heap.size ≤ gb375)); clear HO_1; clear HO_2; clear HK; clear HB; have HO_1 := n0_; have HO_2 := n1_; have HK := n2_; have HB := n3_; have BK375 := n4_; have GW375 := n5_; have GE375 := n6_; clear n0_ n1_ n2_ n3_ n4_ n5_ n6_; clear hb hbox hg; have hcz46_0 : w45.cell? ⟨gb375, 0, none⟩ = some (.int .i64 0) := (blk_cell BK375.out 0).trans rfl; have hcz46_1 : w45.cell? ⟨gb375, 1, none⟩ = some (.int .i64 0) := (blk_cell BK375.out 1).trans rfl; have hcz46_2 : w45.cell? ⟨gb375, 2, none⟩ = some (.int .i64 0) := (blk_cell BK375.out 2).trans rfl; have hcz46_3 : w45.cell? ⟨gb375, 3, none⟩ = some (.int .i64 0) := (blk_cell BK375.out 3).trans rfl; have hcz46_4 : w45.cell? ⟨gb375, 4, none⟩ = some (.int .i64 0) := (blk_cell BK375.out 4).trans rfl; have hfz46_0 := blk_frozen BK375.out 0; have hfz46_1 := blk_frozen BK375.out 1; have hfz46_2 := blk_frozen BK375.out 2; have hfz46_3 := blk_frozen BK375.out 3; have hfz46_4 := blk_frozen BK375.out 4))
               have n0_ : Aside0 (Kd.R (Kd.int .i64) 3 (((((w45.setCell ⟨gb375, 0, none⟩ (.int .i64 ((rd_T45 l0 x11_1).f0))).setCell ⟨gb375, 1, none⟩ (.int .i64 ((rd_T45 l0 x11_1).f1))).setCell ⟨gb375, 2, none⟩ (.int .i64 ((rd_T45 l0 x11_1).f2))).setCell ⟨gb375, 3, none⟩ (.int .i64 ((rd_T45 l0 x11_1).f3))).setCell ⟨gb375, 4, none⟩ (.int .i64 ((rd_T45 l0 x11_1).f4))) w0.heap.size (fun k_ => ((P1_ k_ ∨ P2_ k_) ∨ w.heap.size ≤ k_) ∧ some k_ ≠ (u2 : Value).ownBlock) u9000_ x1_1) := ⟨by (with_reducible repeat (first | apply Kd.R_alloc | apply Kd.R_drewN | apply Kd.R_drew)); exact Kd.R_mono (Kd.R_far (p := ⟨gb375, 4, none⟩) (Kd.R_far (p := ⟨gb375, 3, none⟩) (Kd.R_far (p := ⟨gb375, 2, none⟩) (Kd.R_far (p := ⟨gb375, 1, none⟩) (Kd.R_far (p := ⟨gb375, 0, none⟩) (Kd.R_types HO_1.out BK375.out (by decide)) (fun _ hk => hk.2) (.int .i64 ((rd_T45 l0 x11_1).f0))) (fun _ hk => hk.2) (.int .i64 ((rd_T45 l0 x11_1).f1))) (fun _ hk => hk.2) (.int .i64 ((rd_T45 l0 x11_1).f2))) (fun _ hk => hk.2) (.int .i64 ((rd_T45 l0 x11_1).f3))) (fun _ hk => hk.2) (.int .i64 ((rd_T45 l0 x11_1).f4))) (fun _ hk => ⟨hk.1.1, hk.1.2⟩)⟩
               have n1_ : Aside0 (Kd.R (Kd.int .i64) 3 (((((w45.setCell ⟨gb375, 0, none⟩ (.int .i64 ((rd_T45 l0 x11_1).f0))).setCell ⟨gb375, 1, none⟩ (.int .i64 ((rd_T45 l0 x11_1).f1))).setCell ⟨gb375, 2, none⟩ (.int .i64 ((rd_T45 l0 x11_1).f2))).setCell ⟨gb375, 3, none⟩ (.int .i64 ((rd_T45 l0 x11_1).f3))).setCell ⟨gb375, 4, none⟩ (.int .i64 ((rd_T45 l0 x11_1).f4))) w0.heap.size (fun k_ => ((P1_ k_ ∨ P2_ k_) ∨ w.heap.size ≤ k_) ∧ some k_ ≠ (u9000_ : Value).ownBlock) u2 x2_1) := ⟨by (with_reducible repeat (first | apply Kd.R_alloc | apply Kd.R_drewN | apply Kd.R_drew)); exact Kd.R_mono (Kd.R_far (p := ⟨gb375, 4, none⟩) (Kd.R_far (p := ⟨gb375, 3, none⟩) (Kd.R_far (p := ⟨gb375, 2, none⟩) (Kd.R_far (p := ⟨gb375, 1, none⟩) (Kd.R_far (p := ⟨gb375, 0, none⟩) (Kd.R_types HO_2.out BK375.out (by decide)) (fun _ hk => hk.2) (.int .i64 ((rd_T45 l0 x11_1).f0))) (fun _ hk => hk.2) (.int .i64 ((rd_T45 l0 x11_1).f1))) (fun _ hk => hk.2) (.int .i64 ((rd_T45 l0 x11_1).f2))) (fun _ hk => hk.2) (.int .i64 ((rd_T45 l0 x11_1).f3))) (fun _ hk => hk.2) (.int .i64 ((rd_T45 l0 x11_1).f4))) (fun _ hk => ⟨hk.1.1, hk.1.2⟩)⟩
               have n2_ : Aside0 ((((((w45.setCell ⟨gb375, 0, none⟩ (.int .i64 ((rd_T45 l0 x11_1).f0))).setCell ⟨gb375, 1, none⟩ (.int .i64 ((rd_T45 l0 x11_1).f1))).setCell ⟨gb375, 2, none⟩ (.int .i64 ((rd_T45 l0 x11_1).f2))).setCell ⟨gb375, 3, none⟩ (.int .i64 ((rd_T45 l0 x11_1).f3))).setCell ⟨gb375, 4, none⟩ (.int .i64 ((rd_T45 l0 x11_1).f4))).heap[gb375]? = some (.cells #[.int .i64 ((rd_T45 l0 x11_1).f0), .int .i64 ((rd_T45 l0 x11_1).f1), .int .i64 ((rd_T45 l0 x11_1).f2), .int .i64 ((rd_T45 l0 x11_1).f3), .int .i64 ((rd_T45 l0 x11_1).f4)] 45 (0, 0))) := ⟨by (with_reducible repeat (first | refine blk_drewN ?_ _ | refine blk_drew ?_ | refine blk_alloc ?_ _)); refine blk_put (cs := #[.int .i64 ((rd_T45 l0 x11_1).f0), .int .i64 ((rd_T45 l0 x11_1).f1), .int .i64 ((rd_T45 l0 x11_1).f2), .int .i64 ((rd_T45 l0 x11_1).f3), .int .i64 0]) ?_ 4 _ rfl; (with_reducible repeat (first | refine blk_drewN ?_ _ | refine blk_drew ?_ | refine blk_alloc ?_ _)); refine blk_put (cs := #[.int .i64 ((rd_T45 l0 x11_1).f0), .int .i64 ((rd_T45 l0 x11_1).f1), .int .i64 ((rd_T45 l0 x11_1).f2), .int .i64 0, .int .i64 0]) ?_ 3 _ rfl; (with_reducible repeat (first | refine blk_drewN ?_ _ | refine blk_drew ?_ | refine blk_alloc ?_ _)); refine blk_put (cs := #[.int .i64 ((rd_T45 l0 x11_1).f0), .int .i64 ((rd_T45 l0 x11_1).f1), .int .i64 0, .int .i64 0, .int .i64 0]) ?_ 2 _ rfl; (with_reducible repeat (first | refine blk_drewN ?_ _ | refine blk_drew ?_ | refine blk_alloc ?_ _)); refine blk_put (cs := #[.int .i64 ((rd_T45 l0 x11_1).f0), .int .i64 0, .int .i64 0, .int .i64 0, .int .i64 0]) ?_ 1 _ rfl; (with_reducible repeat (first | refine blk_drewN ?_ _ | refine blk_drew ?_ | refine blk_alloc ?_ _)); refine blk_put (cs := #[.int .i64 0, .int .i64 0, .int .i64 0, .int .i64 0, .int .i64 0]) ?_ 0 _ rfl; (with_reducible repeat (first | refine blk_drewN ?_ _ | refine blk_drew ?_ | refine blk_alloc ?_ _)); exact BK375.out⟩
               have n3_ : Aside0 (Kept w (((((w45.setCell ⟨gb375, 0, none⟩ (.int .i64 ((rd_T45 l0 x11_1).f0))).setCell ⟨gb375, 1, none⟩ (.int .i64 ((rd_T45 l0 x11_1).f1))).setCell ⟨gb375, 2, none⟩ (.int .i64 ((rd_T45 l0 x11_1).f2))).setCell ⟨gb375, 3, none⟩ (.int .i64 ((rd_T45 l0 x11_1).f3))).setCell ⟨gb375, 4, none⟩ (.int .i64 ((rd_T45 l0 x11_1).f4))) (fun k_ => P1_ k_ ∨ P2_ k_)) := ⟨by repeat (first | (with_reducible first | exact HK.out | apply Kept.alloc | apply Kept.drewN | apply Kept.drew | refine Kept.setCell ?_ (.inr GW375.out) _) | exact HK.out)⟩
               have n4_ : Aside0 (Below w0.heap.size w0 (((((w45.setCell ⟨gb375, 0, none⟩ (.int .i64 ((rd_T45 l0 x11_1).f0))).setCell ⟨gb375, 1, none⟩ (.int .i64 ((rd_T45 l0 x11_1).f1))).setCell ⟨gb375, 2, none⟩ (.int .i64 ((rd_T45 l0 x11_1).f2))).setCell ⟨gb375, 3, none⟩ (.int .i64 ((rd_T45 l0 x11_1).f3))).setCell ⟨gb375, 4, none⟩ (.int .i64 ((rd_T45 l0 x11_1).f4)))) := ⟨by repeat (first | (with_reducible first | exact HB.out | apply below_alloc | apply pw_below_drewN | apply below_drew1 | refine below_set ?_ GE375.out) | exact HB.out)⟩
               (try clear HO_1)
               (try clear HO_2)
               (try clear BK375)
               (try clear HK)
               (try clear HB)
               generalize (((((w45.setCell ⟨gb375, 0, none⟩ (.int .i64 ((rd_T45 l0 x11_1).f0))).setCell ⟨gb375, 1, none⟩ (.int .i64 ((rd_T45 l0 x11_1).f1))).setCell ⟨gb375, 2, none⟩ (.int .i64 ((rd_T45 l0 x11_1).f2))).setCell ⟨gb375, 3, none⟩ (.int .i64 ((rd_T45 l0 x11_1).f3))).setCell ⟨gb375, 4, none⟩ (.int .i64 ((rd_T45 l0 x11_1).f4))) = w47 at n0_ n1_ n2_ n3_ n4_ ⊢
               have HO_1 := n0_
               have HO_2 := n1_
               have BK375 := n2_
               have HK := n3_
               have HB := n4_
               clear n0_ n1_ n2_ n3_ n4_
               have n0_ := Aside0.mk (Kd.R_drew HO_1.out)
               have n1_ := Aside0.mk (Kd.R_drew HO_2.out)
               have n2_ := Aside0.mk (blk_drew BK375.out)
               have n3_ := Aside0.mk (Kept.drew HK.out)
               have n4_ := Aside0.mk (below_drew1 HB.out)
               clear HO_1
               clear HO_2
               clear BK375
               clear HK
               clear HB
               have HO_1 := n0_
               have HO_2 := n1_
               have BK375 := n2_
               have HK := n3_
               have HB := n4_
               clear n0_ n1_ n2_ n3_ n4_
               obtain ⟨Ao49, co49, eo49⟩ := Kd.R_slice HO_1.out
               (first | subst eo49 | (injection eo49 with f1_ f2_ f3_; have f4_ := f1_.symm; have f5_ := f3_.symm; clear f1_ f2_ f3_; subst f4_; subst f5_))
               have p383 : 0 ≤ (((rd_T45 l0 x11_1).f2) : Int) := of_decide_eq_true (by first | (with_reducible assumption) | assumption)
               have q383 : ((rd_T45 l0 x11_1).f2) < (x1_1.length : Int) := of_decide_eq_true (by first | (with_reducible assumption) | assumption)
               obtain ⟨ad383, e383, hx383_0⟩ := Kd.at_int (Kd.R_reads' HO_1.out).2.2 ((rd_T45 l0 x11_1).f2) p383 q383
               cases e383
               replace p383 := eq_true p383
               replace q383 := eq_true q383
               have p384 : 0 ≤ (((rd_T45 l0 x11_1).f3) : Int) := of_decide_eq_true (by first | (with_reducible assumption) | assumption)
               have q384 : ((rd_T45 l0 x11_1).f3) < (x1_1.length : Int) := of_decide_eq_true (by first | (with_reducible assumption) | assumption)
               obtain ⟨ad384, e384, hx384_0⟩ := Kd.at_int (Kd.R_reads' HO_1.out).2.2 ((rd_T45 l0 x11_1).f3) p384 q384
               obtain rfl : ad383 = ad384 := (by injection e384)
               replace p384 := eq_true p384
               replace q384 := eq_true q384
               refine start_ (n := 18) (S := fun w' => w'.cell? ⟨gb375, 0, none⟩ = some (.int .i64 ((rd_T45 l0 x11_1).f0)) ∧ w'.cell? ⟨gb375, 1, none⟩ = some (.int .i64 ((rd_T45 l0 x11_1).f1)) ∧ w'.cell? ⟨gb375, 2, none⟩ = some (.int .i64 ((rd_T45 l0 x11_1).f2)) ∧ w'.cell? ⟨gb375, 3, none⟩ = some (.int .i64 ((rd_T45 l0 x11_1).f3)) ∧ w'.cell? ⟨gb375, 4, none⟩ = some (.int .i64 ((rd_T45 l0 x11_1).f4)) ∧ w'.cell? (ad383.add (((rd_T45 l0 x11_1).f2)).toNat) = some (.int .i64 (rd x1_1 ((rd_T45 l0 x11_1).f2))) ∧ w'.cell? (ad383.add (((rd_T45 l0 x11_1).f3)).toNat) = some (.int .i64 (rd x1_1 ((rd_T45 l0 x11_1).f3)))) (ds := [17]) #[false, false, false, false, false, false, false, false, false, false, false, false, false, false, false, false, false, false] (by kernel_rfl) rfl rfl ⟨(blk_cell BK375.out 0).trans rfl, (blk_cell BK375.out 1).trans rfl, (blk_cell BK375.out 2).trans rfl, (blk_cell BK375.out 3).trans rfl, (blk_cell BK375.out 4).trans rfl, hx383_0, hx384_0⟩ (fun hHeld => ?_); refine with_tabW spec_l3Run.tab5 spec_l3Run.bits5 (fun HT_ HW_ => ?_)
               generalize w47.drew = w48 at HO_1 HO_2 BK375 HK HB hx383_0 hx384_0 hHeld ⊢
               refine pure_ (i := 0) (N := some 17) (v := ?_) (a' := ?_) #[true, false, false, false, false, false, false, false, false, false, false, false, false, false, false, false, false, false] rfl rfl (any_of HT_.out (by kernel_rfl)) (fun _ _ _ h => h) (Or.inl ⟨by rfl, ?_⟩) ?_ ?_
               rotate_left
               ·intro w'
                go_simp
                with_reducible rfl
               rotate_left
               ·simp only [Act.put, List.setIfInBounds_toArray, List.set_cons_zero, List.set_cons_succ, i64_w, i32_w]
                rfl
               refine pure_ (i := 1) (N := some 18) (v := ?_) (a' := ?_) #[true, true, false, false, false, false, false, false, false, false, false, false, false, false, false, false, false, false] rfl rfl (any_of HT_.out (by kernel_rfl)) (fun _ _ _ h => h) (Or.inl ⟨by rfl, ?_⟩) ?_ ?_
               rotate_left
               ·intro w'
                go_simp
                with_reducible rfl
               rotate_left
               ·simp only [Act.put, List.setIfInBounds_toArray, List.set_cons_zero, List.set_cons_succ, i64_w, i32_w]
                rfl
               refine pure_ (i := 3) (N := some 20) (v := ?_) (a' := ?_) #[true, true, false, true, false, false, false, false, false, false, false, false, false, false, false, false, false, false] rfl rfl (any_of HT_.out (by kernel_rfl)) (fun _ _ _ h => h) (Or.inl ⟨by rfl, ?_⟩) ?_ ?_
               rotate_left
               ·intro w'
                go_simp
                with_reducible rfl
               rotate_left
               ·simp only [Act.put, List.setIfInBounds_toArray, List.set_cons_zero, List.set_cons_succ, i64_w, i32_w]
                rfl
               refine pure_ (i := 5) (N := some 22) (v := ?_) (a' := ?_) #[true, true, false, true, false, true, false, false, false, false, false, false, false, false, false, false, false, false] rfl rfl (any_of HT_.out (by kernel_rfl)) (fun _ _ _ h => h) (Or.inl ⟨by rfl, ?_⟩) ?_ ?_
               rotate_left
               ·intro w'
                go_simp
                with_reducible rfl
               rotate_left
               ·simp only [Act.put, List.setIfInBounds_toArray, List.set_cons_zero, List.set_cons_succ, i64_w, i32_w]
                rfl
               refine pure_ (i := 6) (N := some 23) (v := ?_) (a' := ?_) #[true, true, false, true, false, true, true, false, false, false, false, false, false, false, false, false, false, false] rfl rfl (any_of HT_.out (by kernel_rfl)) (fun _ _ _ h => h) (Or.inl ⟨by rfl, ?_⟩) ?_ ?_
               rotate_left
               ·intro w'
                go_simp
                with_reducible rfl
               rotate_left
               ·simp only [Act.put, List.setIfInBounds_toArray, List.set_cons_zero, List.set_cons_succ, i64_w, i32_w]
                rfl
               refine pure_ (i := 10) (N := some 27) (v := ?_) (a' := ?_) #[true, true, false, true, false, true, true, false, false, false, true, false, false, false, false, false, false, false] rfl rfl (any_of HT_.out (by kernel_rfl)) (fun _ _ _ h => h) (Or.inl ⟨by rfl, ?_⟩) ?_ ?_
               rotate_left
               ·intro w'
                go_simp
                with_reducible rfl
               rotate_left
               ·simp only [Act.put, List.setIfInBounds_toArray, List.set_cons_zero, List.set_cons_succ, i64_w, i32_w]
                rfl
               refine pure_ (i := 11) (N := some 28) (v := ?_) (a' := ?_) #[true, true, false, true, false, true, true, false, false, false, true, true, false, false, false, false, false, false] rfl rfl (any_of HT_.out (by kernel_rfl)) (fun _ _ _ h => h) (Or.inl ⟨by rfl, ?_⟩) ?_ ?_
               rotate_left
               ·intro w'
                go_simp
                with_reducible rfl
               rotate_left
               ·simp only [Act.put, List.setIfInBounds_toArray, List.set_cons_zero, List.set_cons_succ, i64_w, i32_w]
                rfl
               refine take_ (i := 2) (N := some 19) (v := ?_) (a' := ?_) #[true, true, true, true, false, true, true, false, false, false, true, true, false, false, false, false, false, false] rfl rfl (take_ofW HT_.out HW_.out (by kernel_rfl)) (fun _ _ _ h => h) (Or.inl ⟨by rfl, ?_⟩) hHeld ?_ ?_
               rotate_left
               ·rintro w' ⟨s0, s1, s2, s3, s4, s5, s6⟩
                go_simp
                with_reducible rfl
               rotate_left
               ·simp only [Act.put, List.setIfInBounds_toArray, List.set_cons_zero, List.set_cons_succ, i64_w, i32_w]
                rfl
               refine take_ (i := 4) (N := some 21) (v := ?_) (a' := ?_) #[true, true, true, true, true, true, true, false, false, false, true, true, false, false, false, false, false, false] rfl rfl (take_ofW HT_.out HW_.out (by kernel_rfl)) (fun _ _ _ h => h) (Or.inl ⟨by rfl, ?_⟩) hHeld ?_ ?_
               rotate_left
               ·rintro w' ⟨s0, s1, s2, s3, s4, s5, s6⟩
                go_simp
                with_reducible rfl
               rotate_left
               ·simp only [Act.put, List.setIfInBounds_toArray, List.set_cons_zero, List.set_cons_succ, i64_w, i32_w]
                rfl
               refine take_ (i := 7) (N := some 24) (v := ?_) (a' := ?_) #[true, true, true, true, true, true, true, true, false, false, true, true, false, false, false, false, false, false] rfl rfl (take_ofW HT_.out HW_.out (by kernel_rfl)) (fun _ _ _ h => h) (Or.inl ⟨by rfl, ?_⟩) hHeld ?_ ?_
               rotate_left
               ·rintro w' ⟨s0, s1, s2, s3, s4, s5, s6⟩
                go_simp
                with_reducible rfl
               rotate_left
               ·simp only [Act.put, List.setIfInBounds_toArray, List.set_cons_zero, List.set_cons_succ, i64_w, i32_w]
                rfl
               refine pure_ (i := 8) (N := some 25) (v := ?_) (a' := ?_) #[true, true, true, true, true, true, true, true, true, false, true, true, false, false, false, false, false, false] rfl rfl (any_of HT_.out (by kernel_rfl)) (fun _ _ _ h => h) (Or.inl ⟨by rfl, ?_⟩) ?_ ?_
               rotate_left
               ·intro w'
                go_simp
                with_reducible rfl
               rotate_left
               ·simp only [Act.put, List.setIfInBounds_toArray, List.set_cons_zero, List.set_cons_succ, i64_w, i32_w]
                rfl
               refine take_ (i := 9) (N := some 26) (v := ?_) (a' := ?_) #[true, true, true, true, true, true, true, true, true, true, true, true, false, false, false, false, false, false] rfl rfl (take_ofW HT_.out HW_.out (by kernel_rfl)) (fun _ _ _ h => h) (Or.inl ⟨by rfl, ?_⟩) hHeld ?_ ?_
               rotate_left
               ·rintro w' ⟨s0, s1, s2, s3, s4, s5, s6⟩
                go_simp
                with_reducible rfl
               rotate_left
               ·simp only [Act.put, List.setIfInBounds_toArray, List.set_cons_zero, List.set_cons_succ, i64_w, i32_w]
                rfl
               refine take_ (i := 12) (N := some 29) (v := ?_) (a' := ?_) #[true, true, true, true, true, true, true, true, true, true, true, true, true, false, false, false, false, false] rfl rfl (take_ofW HT_.out HW_.out (by kernel_rfl)) (fun _ _ _ h => h) (Or.inl ⟨by rfl, ?_⟩) hHeld ?_ ?_
               rotate_left
               ·rintro w' ⟨s0, s1, s2, s3, s4, s5, s6⟩
                go_simp
                with_reducible rfl
               rotate_left
               ·simp only [Act.put, List.setIfInBounds_toArray, List.set_cons_zero, List.set_cons_succ, i64_w, i32_w]
                rfl
               refine pure_ (i := 13) (N := some 30) (v := ?_) (a' := ?_) #[true, true, true, true, true, true, true, true, true, true, true, true, true, true, false, false, false, false] rfl rfl (any_of HT_.out (by kernel_rfl)) (fun _ _ _ h => h) (Or.inl ⟨by rfl, ?_⟩) ?_ ?_
               rotate_left
               ·intro w'
                go_simp
                with_reducible rfl
               rotate_left
               ·simp only [Act.put, List.setIfInBounds_toArray, List.set_cons_zero, List.set_cons_succ, i64_w, i32_w]
                rfl
               refine take_ (i := 14) (N := some 31) (v := ?_) (a' := ?_) #[true, true, true, true, true, true, true, true, true, true, true, true, true, true, true, false, false, false] rfl rfl (take_ofW HT_.out HW_.out (by kernel_rfl)) (fun _ _ _ h => h) (Or.inl ⟨by rfl, ?_⟩) hHeld ?_ ?_
               rotate_left
               ·rintro w' ⟨s0, s1, s2, s3, s4, s5, s6⟩
                go_simp
                with_reducible rfl
               rotate_left
               ·simp only [Act.put, List.setIfInBounds_toArray, List.set_cons_zero, List.set_cons_succ, i64_w, i32_w]
                rfl
               refine one_ (i := 15) (N := some 32) #[true, true, true, true, true, true, true, true, true, true, true, true, true, true, true, true, false, false] rfl rfl (one_of HT_.out (by kernel_rfl)) (by decide) (fun K hK => ?_)
               refine goes_ Try.func58 (by kernel_rfl) rfl #[.int .i64 ((rd_T45 l0 x11_1).f0), .int .i64 (rd x1_1 ((rd_T45 l0 x11_1).f2)), .int .i64 (rd x1_1 ((rd_T45 l0 x11_1).f3))] (by rfl) rfl rfl (by (try simp only [List.map_toArray, List.map_cons, List.map_nil]); first | done | rfl | (simp only [List.length_drop, List.length_take]; rfl)) ?_
               with_reducible refine (spec_l3Do.calls ((rd_T45 l0 x11_1).f0) (rd x1_1 ((rd_T45 l0 x11_1).f2)) (rd x1_1 ((rd_T45 l0 x11_1).f3)) t385 _ A41.out).mono ?_
               rintro e w' ⟨rfl, ⟨nd, rfl⟩⟩
               refine ⟨_, rfl, ?_⟩
               have p44 : 0 ≤ (((rd_T45 l0 x11_1).f1) : Int) := of_decide_eq_true (by first | (with_reducible assumption) | assumption)
               have q44 : (((rd_T45 l0 x11_1).f1) : Int) < ((x1_1.length : Int) : Int) := of_decide_eq_true (by first | (with_reducible assumption) | assumption)
               obtain ⟨go44, co44, eo44, gb44, gl44, cl44, HG44⟩ := Kd.R_form HO_1.out (by omega)
               (first | cases eo44 | (injection eo44 with ea_ en_ ec_; (first | subst ea_ | (injection ea_ with ea_; subst ea_)); subst ec_; clear en_))
               have GB44 := Aside0.mk gb44
               have GG44 := Aside0.mk HG44
               clear gb44 gl44 HG44
               have HMgo44 := Aside0.mk (show ((P1_ go44 ∨ P2_ go44) ∨ w.heap.size ≤ go44) from (HO_1.out.1 _ rfl).1)
               (first | simp only [add_plain] at hx383_0 | skip)
               (first | simp only [add_plain] at hx384_0 | skip)
               obtain ⟨hx44_0, hf44_0⟩ := Kd.R_celln 0 HO_1.out (((rd_T45 l0 x11_1).f1) : Int) p44 q44
               replace p44 := eq_true p44
               replace q44 := eq_true q44
               have HP50 := Kd.R_putn HO_1.out (((rd_T45 l0 x11_1).f1) : Int) t385
               rw [← Ny386.out] at HP50
               have HQ50 := Aside0.mk HP50
               clear HP50
               refine hK.out _ _ ⟨(blk_cell BK375.out 0).trans rfl, (blk_cell BK375.out 1).trans rfl, (blk_cell BK375.out 2).trans rfl, (blk_cell BK375.out 3).trans rfl, (blk_cell BK375.out 4).trans rfl, hHeld.2.2.2.2.2.1, hHeld.2.2.2.2.2.2⟩ (fun hHeld => ?_)
               clear hK K
               refine norm_ (a' := ?_) ?_ ?_
               rotate_left
               ·show Act.put _ (some 32) _ = _
                simp only [Act.put, List.setIfInBounds_toArray, List.set_cons_zero, List.set_cons_succ, i64_w, i32_w]
                rfl
               refine pure_ (i := 16) (N := some 33) (v := ?_) (a' := ?_) #[true, true, true, true, true, true, true, true, true, true, true, true, true, true, true, true, true, false] rfl rfl (any_of HT_.out (by kernel_rfl)) (fun _ _ _ h => h) (Or.inl ⟨by rfl, ?_⟩) ?_ ?_
               rotate_left
               ·intro w'
                go_simp
                with_reducible rfl
               rotate_left
               ·simp only [Act.put, List.setIfInBounds_toArray, List.set_cons_zero, List.set_cons_succ, i64_w, i32_w]
                rfl
               refine last_ (i := 17) (N := none) #[true, true, true, true, true, true, true, true, true, true, true, true, true, true, true, true, true, true] rfl rfl (one_of HT_.out (by kernel_rfl)) (by decide) (fun K hK => ?_)
               refine skip_ (w1 := ?_) (by rfl) rfl ?_ ?_
               rotate_left
               ·go_simp
                rfl
               refine hK.out _ _ ?_
               clear hK K
               refine done_ (done_of HT_.out (by kernel_rfl)) ?_
               try go_wp2
               go_roundg k1
               case measure => have := HK1.out; omega
               case rel => exact ⟨(y386), (x2_1), (wrap64 (x11_1 + 1)), (by first | rfl | (simp; done) | (simp [*]; done)), H', ⟨by have := HK1.out; omega⟩, ⟨by (with_reducible repeat (first | apply Kd.R_alloc | apply Kd.R_drewN | apply Kd.R_drew)); exact HQ50.out⟩, ⟨by (with_reducible repeat (first | apply Kd.R_alloc | apply Kd.R_drewN | apply Kd.R_drew)); exact Kd.R_mono (Kd.R_far (p := ⟨go44, (((rd_T45 l0 x11_1).f1) : Int).toNat, none⟩) (Kd.R_mono HO_2.out (fun k_ hk => (⟨hk, fun e_ => hk.2 (by rw [e_]; rfl)⟩ : _ ∧ k_ ≠ go44))) (fun _ hk => hk.2) (.int .i64 t385)) (fun _ hk => ⟨hk.1.1, hk.1.2⟩)⟩, ⟨by repeat (first | (with_reducible first | exact HK.out | apply Kept.alloc | apply Kept.drewN | apply Kept.drew | refine Kept.setCell ?_ HMgo44.out _ | refine Kept.setCell ?_ (.inr GW375.out) _) | exact HK.out)⟩, ⟨by repeat (first | (with_reducible first | exact HB.out | apply below_alloc | apply pw_below_drewN | apply below_drew1 | refine below_set ?_ GB44.out | refine below_set ?_ GE375.out) | exact HB.out)⟩⟩
              ·rw [if_neg c43] at H
               exact absurd H (by simp)
             ·rw [if_neg c42] at H
              exact absurd H (by simp)
            ·rw [if_neg c40] at H
             exact absurd H (by simp)
           ·rw [if_neg c39] at H
            exact absurd H (by simp)
          ·rw [if_neg c38] at H
           exact absurd H (by simp)
         ·rw [if_neg c37] at H
          exact absurd H (by simp)
     ·rw [if_neg c6] at H
      exact absurd H (by simp)
    ·rw [if_neg c5] at H
     exact absurd H (by simp)
   ·rw [if_neg c4] at H
    have c4b0 : decide (x11_1 < (l0.length : Int)) = false := decide_eq_false c4
    clear c4
    simp only [Option.some.injEq, Prod.mk.injEq] at H
    obtain ⟨rfl, rfl⟩ := H
    go_wp2
    go_ret
    exact ⟨_, by first | rfl | (simp [errW_none, errW_some] <;> rfl) | (simp [*, errW_none, errW_some] <;> rfl), by (with_reducible repeat (first | apply Kd.R_alloc | apply Kd.R_drewN | apply Kd.R_drew)); exact HO_2.out, by (with_reducible repeat (first | apply Kd.R_alloc | apply Kd.R_drewN | apply Kd.R_drew)); exact Kd.R_mono HO_1.out (fun _ hk => hk.1), by repeat (first | (with_reducible first | exact HB.out | apply below_alloc | apply pw_below_drewN | apply below_drew1) | exact HB.out), by repeat (first | (with_reducible first | exact HK.out | apply Kept.alloc | apply Kept.drewN | apply Kept.drew) | exact HK.out)⟩

end Go.Proofs.Ytoggmpihojkbfaa.XFnCode

-- Printed by a patched copy of the print, a program of this session. Lean checks it.
import Derived.Test.YtoggmpihojkbfaaQFnCodeXFnCodex0
import Derived.Test.YtoggmpihojkbfaaQFnCodeXFnCodex3
import Derived.Test.YtoggmpihojkbfaaQFnCodeXFnCodex6
namespace Go.Proofs.Ytoggmpihojkbfaa.XFnCode
open Go.RowKit Go.Proofs.YtoggmpihojkbfaaW.PrintWords Go.Proofs.YtoggmpihojkbfaaW.PrintLast Go.Proofs.YtoggmpihojkbfaaW.PrintMore
attribute [local go_sem] max2_int min2_int max_two min_two max_three min_three max_four min_four   -- for this text's walks alone
set_option linter.unusedVariables false
set_option linter.unusedSimpArgs false

/-! ### impl_RunCode: function 18 -/
mutual
def impl_RunCode.j0 : Nat → List (S45) → List Int → Bool → Option (List Int × List Int × Bool)
 | 0, _, _, _ => none
 | k + 1, x0, x1, x21 => if x21 = true then (some (([] : List Int), ([] : List Int), false)) else ((some (([] : List Int) : List Int)).bind fun y348 => (if y348.length + x1.length < 17592186044416 then (impl_RunCode.l0 k (y348 ++ x1) (([] : List Int)) x0 (x0.length : Int) 0) else (none)))
def impl_RunCode.l0 : Nat → List Int → List Int → List (S45) → Int → Int → Option (List Int × List Int × Bool)
 | 0, _, _, _, _, _ => none
 | k + 1, x1, x7, x26, x27, x28 => if x28 < x27 then (if 0 ≤ x28 then (if x28 < (x26.length : Int) then (if ((rd_T45 x26 x28).f0) = 8 then (if 0 ≤ ((rd_T45 x26 x28).f2) then (if ((rd_T45 x26 x28).f2) < (x1.length : Int) then (if x7.length < 17592186044416 then (impl_RunCode.l0 k x1 (x7 ++ [rd x1 ((rd_T45 x26 x28).f2)]) x26 x27 (wrap64 (x28 + 1))) else (none)) else (none)) else (none)) else (if ((rd_T45 x26 x28).f0) = 1 then (if 0 ≤ ((rd_T45 x26 x28).f1) then (if ((rd_T45 x26 x28).f1) < (x1.length : Int) then (impl_RunCode.l0 k (x1.set (((rd_T45 x26 x28).f1) : Int).toNat ((rd_T45 x26 x28).f4)) x7 x26 x27 (wrap64 (x28 + 1))) else (none)) else (none)) else (if ((rd_T45 x26 x28).f0) = 2 then (if 0 ≤ ((rd_T45 x26 x28).f2) then (if ((rd_T45 x26 x28).f2) < (x1.length : Int) then (if 0 ≤ ((rd_T45 x26 x28).f1) then (if ((rd_T45 x26 x28).f1) < (x1.length : Int) then (impl_RunCode.l0 k (x1.set (((rd_T45 x26 x28).f1) : Int).toNat (rd x1 ((rd_T45 x26 x28).f2))) x7 x26 x27 (wrap64 (x28 + 1))) else (none)) else (none)) else (none)) else (none)) else (if 0 ≤ ((rd_T45 x26 x28).f2) then (if ((rd_T45 x26 x28).f2) < (x1.length : Int) then (if 0 ≤ ((rd_T45 x26 x28).f3) then (if ((rd_T45 x26 x28).f3) < (x1.length : Int) then ((impl_reckon.f ((rd_T45 x26 x28).f0) (rd x1 ((rd_T45 x26 x28).f2)) (rd x1 ((rd_T45 x26 x28).f3))).bind fun t368 => (if 0 ≤ ((rd_T45 x26 x28).f1) then (if ((rd_T45 x26 x28).f1) < (x1.length : Int) then (impl_RunCode.l0 k (x1.set (((rd_T45 x26 x28).f1) : Int).toNat t368) x7 x26 x27 (wrap64 (x28 + 1))) else (none)) else (none))) else (none)) else (none)) else (none)) else (none))))) else (none)) else (none)) else (some (x7, x1, true))
end
def impl_RunCode.f (k : Nat) (l0 : List (S45)) (l1 : List Int) : Option (List Int × List Int × Bool) := (impl_isCode.f k l0).bind fun t346 => (if t346 = true then (if (l1.length : Int) = 8 then ((slices_ContainsFunc_at38.f k l1).bind fun t347 => (impl_RunCode.j0 k l0 l1 t347)) else (impl_RunCode.j0 k l0 l1 true)) else (impl_RunCode.j0 k l0 l1 true))
theorem impl_RunCode.mono_l : ∀ k, (∀ y0 y1 y2, LeO (impl_RunCode.j0 k y0 y1 y2) (impl_RunCode.j0 (k + 1) y0 y1 y2)) ∧ (∀ y0 y1 y2 y3 y4, LeO (impl_RunCode.l0 k y0 y1 y2 y3 y4) (impl_RunCode.l0 (k + 1) y0 y1 y2 y3 y4))
 | 0 => ⟨fun _ _ _ r h => by simp [impl_RunCode.j0] at h, fun _ _ _ _ _ r h => by simp [impl_RunCode.l0] at h⟩
 | k + 1 => by
  obtain ⟨ih0, ih1⟩ := impl_RunCode.mono_l k
  refine ⟨?_, ?_⟩
  ·intro y0 y1 y2
   unfold impl_RunCode.j0
   repeat' first
   | (with_reducible exact ih0 _ _ _)
   | (with_reducible exact ih1 _ _ _ _ _)
   | (with_reducible exact impl_isCode.mono _ _)
   | (with_reducible exact slices_ContainsFunc_at38.mono _ _)
   | (with_reducible exact LeO.refl _)
   | (with_reducible exact LeO.none _)
   | (with_reducible refine LeO.ite ?_ ?_)
   | (with_reducible refine LeO.bind ?_ (fun _ => ?_))
   | exact ih0 _ _ _
   | exact ih1 _ _ _ _ _
   | exact impl_isCode.mono _ _
   | exact slices_ContainsFunc_at38.mono _ _
   | exact LeO.none _
   | refine LeO.ite ?_ ?_
   | refine LeO.bind ?_ (fun _ => ?_)
  ·intro y0 y1 y2 y3 y4
   unfold impl_RunCode.l0
   repeat' first
   | (with_reducible exact ih0 _ _ _)
   | (with_reducible exact ih1 _ _ _ _ _)
   | (with_reducible exact impl_isCode.mono _ _)
   | (with_reducible exact slices_ContainsFunc_at38.mono _ _)
   | (with_reducible exact LeO.refl _)
   | (with_reducible exact LeO.none _)
   | (with_reducible refine LeO.ite ?_ ?_)
   | (with_reducible refine LeO.bind ?_ (fun _ => ?_))
   | exact ih0 _ _ _
   | exact ih1 _ _ _ _ _
   | exact impl_isCode.mono _ _
   | exact slices_ContainsFunc_at38.mono _ _
   | exact LeO.none _
   | refine LeO.ite ?_ ?_
   | refine LeO.bind ?_ (fun _ => ?_)
theorem impl_RunCode.mono : ∀ a0 a1 k, LeO (impl_RunCode.f k a0 a1) (impl_RunCode.f (k + 1) a0 a1) := by
 intro a0 a1 k
 obtain ⟨ih0, ih1⟩ := impl_RunCode.mono_l k
 unfold impl_RunCode.f
 repeat' first
   | (with_reducible exact ih0 _ _ _)
   | (with_reducible exact ih1 _ _ _ _ _)
   | (with_reducible exact impl_isCode.mono _ _)
   | (with_reducible exact slices_ContainsFunc_at38.mono _ _)
   | (with_reducible exact LeO.refl _)
   | (with_reducible exact LeO.none _)
   | (with_reducible refine LeO.ite ?_ ?_)
   | (with_reducible refine LeO.bind ?_ (fun _ => ?_))
   | exact ih0 _ _ _
   | exact ih1 _ _ _ _ _
   | exact impl_isCode.mono _ _
   | exact slices_ContainsFunc_at38.mono _ _
   | exact LeO.none _
   | refine LeO.ite ?_ ?_
   | refine LeO.bind ?_ (fun _ => ?_)
def impl_RunCode.T9 : Bool × List (List Nat × List Nat) := (true, [([], []), ([], []), ([1], [1]), ([], []), ([3], [3]), ([], []), ([], []), ([6], [6]), ([5, 7], [5, 7]), ([8], [8]), ([], []), ([], []), ([11], [11]), ([10, 12], [10, 12]), ([13], [13]), ([4, 9, 14], [4, 9, 14]), ([0, 2, 0, 1, 2, 3, 4, 5, 6, 7, 8, 9, 10, 11, 12, 13, 14, 15], [0, 2]), ([16, 15, 15, 0, 1, 2, 3, 4, 5, 6, 7, 8, 9, 10, 11, 12, 13, 14, 15], [15, 16])])
def impl_RunCode.B9 : List Nat := [0, 0, 2, 0, 8, 0, 0, 64, 224, 480, 0, 0, 2048, 7168, 15360, 32760, 65535, 131071]
theorem impl_RunCode.tab9 : rtab .any (opsOf Try.f18 9) = impl_RunCode.T9 := by kernel_rfl
theorem impl_RunCode.bits9 : waitsOk impl_RunCode.T9.2 impl_RunCode.B9 = true := by kernel_rfl
def impl_RunCode.T15 : Bool × List (List Nat × List Nat) := (true, [([], []), ([], []), ([1], [1]), ([], []), ([], []), ([4], [4]), ([3, 5], [3, 5]), ([6], [6]), ([0, 2, 0, 1, 2, 3, 4, 5, 6, 7], [0, 2]), ([8, 7, 0, 1, 2, 3, 4, 5, 6, 7], [7, 8])])
def impl_RunCode.B15 : List Nat := [0, 0, 2, 0, 0, 16, 56, 120, 255, 511]
theorem impl_RunCode.tab15 : rtab .any (opsOf Try.f18 15) = impl_RunCode.T15 := by kernel_rfl
theorem impl_RunCode.bits15 : waitsOk impl_RunCode.T15.2 impl_RunCode.B15 = true := by kernel_rfl
set_option maxHeartbeats 8000000 in
set_option maxRecDepth 100000 in
theorem impl_RunCode.calls (k : Nat) (A0 : Option Addr) (c0 : Nat) (l0 : List (S45)) (A1 : Option Addr) (c1 : Nat) (l1 : List Int) (r1 : List Int) (r2 : List Int) (r3 : Bool) (w : World) (hr0 : Kd.C k45 w A0 l0.length l0) (hc0 : l0.length ≤ c0) (hr1 : Kd.C (Kd.int .i64) w A1 l1.length l1) (hc1 : l1.length ≤ c1) (h : impl_RunCode.f k l0 l1 = some (r1, r2, r3)) :
  Calls Try.prog 18 #[.slice A0 l0.length c0, .slice A1 l1.length c1] w fun e w' => ∃ v0_ v1_ : Value, e = .returned (.tuple #[v0_, v1_, .bool r3]) ∧ Kd.R (Kd.int .i64) 3 w' w.heap.size (fun k_ => some k_ ≠ (v1_ : Value).ownBlock) v0_ r1 ∧ Kd.R (Kd.int .i64) 3 w' w.heap.size (fun k_ => some k_ ≠ (v0_ : Value).ownBlock) v1_ r2 ∧ Below w.heap.size w w' := by
 have hu45 := Try.underlying45
 have HR0 := Aside0.mk hr0
 have HC0 := Aside0.mk hc0
 clear hr0 hc0
 have HR1 := Aside0.mk hr1
 have HC1 := Aside0.mk hc1
 clear hr1 hc1
 have HB := Aside0.mk (Below.refl w.heap.size w)
 have H : ((impl_isCode.f k l0).bind fun t346 => (if t346 = true then (if (l1.length : Int) = 8 then ((slices_ContainsFunc_at38.f k l1).bind fun t347 => (impl_RunCode.j0 k l0 l1 t347)) else (impl_RunCode.j0 k l0 l1 true)) else (impl_RunCode.j0 k l0 l1 true))) = some (r1, r2, r3) := h
 clear h
 have HC3 := Aside0.mk H
 clear H
 go_enter Try.func18, Try.ntmps18
 go_upto_region 1 with (fail)
 go_cut [21] (fun v21 wc => ∃ (kq : Nat) (x21_2 : Bool), v21 = .bool x21_2 ∧ Aside0 (impl_RunCode.j0 kq l0 l1 x21_2 = some (r1, r2, r3)) ∧ Aside0 (kq ≤ k) ∧ Aside0 (Below w.heap.size w wc))
 case first =>
  have H := HC3.out
  clear HC3
  replace H := Option.bind_eq_some_iff.mp H
  obtain ⟨t346, A40, H⟩ := H
  replace H : (if t346 = true then (if (l1.length : Int) = 8 then ((slices_ContainsFunc_at38.f k l1).bind fun t347 => (impl_RunCode.j0 k l0 l1 t347)) else (impl_RunCode.j0 k l0 l1 true)) else (impl_RunCode.j0 k l0 l1 true)) = some (r1, r2, r3) := H
  have A4 := Aside0.mk A40
  clear A40
  by_cases c5 : t346 = true
  ·subst c5
   have H1 : (if (l1.length : Int) = 8 then ((slices_ContainsFunc_at38.f k l1).bind fun t347 => (impl_RunCode.j0 k l0 l1 t347)) else (impl_RunCode.j0 k l0 l1 true)) = some (r1, r2, r3) := by rw [if_pos rfl] at H; exact H
   clear H
   have H := H1
   clear H1
   by_cases c6 : (l1.length : Int) = 8
   ·rw [if_pos c6] at H
    have c6b0 : ((l1.length : Int) == 8) = true := beq_iff_eq.mpr c6
    have c6b1 : ((l1.length : Int) != 8) = false := bne_eq_false_iff_eq.mpr c6
    clear c6
    (first | rw [c6b0] | (simp only [i64_w, i32_w]; rw [c6b0]) | skip)
    replace H := Option.bind_eq_some_iff.mp H
    obtain ⟨t347, A70, H⟩ := H
    replace H : (impl_RunCode.j0 k l0 l1 t347) = some (r1, r2, r3) := H
    have A7 := Aside0.mk A70
    clear A70
    have H' := Aside0.mk H
    clear H
    go_wp2_with (first | ((with_reducible refine gate_callee (f := 28) rfl ?_); refine goesL_ (some 11) rfl rfl Try.func28 (by kernel_rfl) rfl #[.slice A0 l0.length c0] rfl (by (try simp only [List.map_toArray, List.map_cons, List.map_nil]); first | done | rfl | (simp only [List.length_drop, List.length_take]; rfl)) ?_; (with_reducible refine (impl_isCode.calls k _ _ l0 true _ ?side1 ?side2 A4.out).mono ?_); (case side1 => repeat (first | exact (Kd.C_below HR0.out HB.out) | (with_reducible refine Kd.C_alloc ?_ _) | (with_reducible refine Kd.C_drewN ?_ _) | (with_reducible refine Kd.C_drew ?_))); (case side2 => exact HC0.out); rintro e w8 ⟨rfl, hb⟩; refine ⟨_, rfl, ?_⟩; have n0_ := Aside0.mk (below_step (by repeat (first | (with_reducible first | exact HB.out | apply below_alloc | apply pw_below_drewN | apply below_drew1) | exact HB.out)) hb); clear HB; have HB := n0_; clear n0_; (try clear hb); (try clear hb2); (try clear hk); (try clear hi)) | (go_at_call 37; (with_reducible refine (slices_ContainsFunc_at38.calls k _ _ l1  t347 _ ?side1 ?side2 A7.out).mono ?_); (case side1 => repeat (first | exact (Kd.C_below HR1.out HB.out) | (with_reducible refine Kd.C_alloc ?_ _) | (with_reducible refine Kd.C_drewN ?_ _) | (with_reducible refine Kd.C_drew ?_))); (case side2 => exact HC1.out); rintro e w' ⟨rfl, ⟨nd, rfl⟩⟩))
    go_meet
    case rel => exact ⟨_, (t347), (by first | rfl | (simp; done) | (simp [*]; done)), H', ⟨by first | omega | exact Nat.le_refl _⟩, ⟨by repeat (first | (with_reducible first | exact HB.out | apply below_alloc | apply pw_below_drewN | apply below_drew1) | exact HB.out)⟩⟩
   ·rw [if_neg c6] at H
    have c6b0 : ((l1.length : Int) == 8) = false := beq_eq_false_iff_ne.mpr c6
    have c6b1 : ((l1.length : Int) != 8) = true := bne_iff_ne.mpr c6
    (first | rw [c6b0] | (simp only [i64_w, i32_w]; rw [c6b0]) | skip)
    have H' := Aside0.mk H
    clear H
    go_wp2_with (first | ((with_reducible refine gate_callee (f := 28) rfl ?_); refine goesL_ (some 11) rfl rfl Try.func28 (by kernel_rfl) rfl #[.slice A0 l0.length c0] rfl (by (try simp only [List.map_toArray, List.map_cons, List.map_nil]); first | done | rfl | (simp only [List.length_drop, List.length_take]; rfl)) ?_; (with_reducible refine (impl_isCode.calls k _ _ l0 true _ ?side1 ?side2 A4.out).mono ?_); (case side1 => repeat (first | exact (Kd.C_below HR0.out HB.out) | (with_reducible refine Kd.C_alloc ?_ _) | (with_reducible refine Kd.C_drewN ?_ _) | (with_reducible refine Kd.C_drew ?_))); (case side2 => exact HC0.out); rintro e w9 ⟨rfl, hb⟩; refine ⟨_, rfl, ?_⟩; have n0_ := Aside0.mk (below_step (by repeat (first | (with_reducible first | exact HB.out | apply below_alloc | apply pw_below_drewN | apply below_drew1) | exact HB.out)) hb); clear HB; have HB := n0_; clear n0_; (try clear hb); (try clear hb2); (try clear hk); (try clear hi)))
    go_meet
    case rel => exact ⟨_, (true), (by first | rfl | (simp; done) | (simp [*]; done)), H', ⟨by first | omega | exact Nat.le_refl _⟩, ⟨by repeat (first | (with_reducible first | exact HB.out | apply below_alloc | apply pw_below_drewN | apply below_drew1) | exact HB.out)⟩⟩
  ·replace c5 := Bool.eq_false_iff.mpr c5
   subst c5
   have H1 : (impl_RunCode.j0 k l0 l1 true) = some (r1, r2, r3) := by rw [if_neg (show ¬ (false = true) by decide)] at H; exact H
   clear H
   have H := H1
   clear H1
   have H' := Aside0.mk H
   clear H
   go_wp2_with (first | ((with_reducible refine gate_callee (f := 28) rfl ?_); refine goesL_ (some 11) rfl rfl Try.func28 (by kernel_rfl) rfl #[.slice A0 l0.length c0] rfl (by (try simp only [List.map_toArray, List.map_cons, List.map_nil]); first | done | rfl | (simp only [List.length_drop, List.length_take]; rfl)) ?_; (with_reducible refine (impl_isCode.calls k _ _ l0 false _ ?side1 ?side2 A4.out).mono ?_); (case side1 => repeat (first | exact (Kd.C_below HR0.out HB.out) | (with_reducible refine Kd.C_alloc ?_ _) | (with_reducible refine Kd.C_drewN ?_ _) | (with_reducible refine Kd.C_drew ?_))); (case side2 => exact HC0.out); rintro e w10 ⟨rfl, hb⟩; refine ⟨_, rfl, ?_⟩; have n0_ := Aside0.mk (below_step (by repeat (first | (with_reducible first | exact HB.out | apply below_alloc | apply pw_below_drewN | apply below_drew1) | exact HB.out)) hb); clear HB; have HB := n0_; clear n0_; (try clear hb); (try clear hb2); (try clear hk); (try clear hi)))
   go_meet
   case rel => exact ⟨_, (true), (by first | rfl | (simp; done) | (simp [*]; done)), H', ⟨by first | omega | exact Nat.le_refl _⟩, ⟨by repeat (first | (with_reducible first | exact HB.out | apply below_alloc | apply pw_below_drewN | apply below_drew1) | exact HB.out)⟩⟩
 case rest =>
  clear HC3
  try clear c1
  try clear c2
  try clear p2
  try clear c5
  try clear c6
  try clear c6b0
  try clear c6b1
  obtain ⟨kq, x21_2, rfl, HA, HJ2, HB⟩ := hcut
  cases kq with
  | zero => exact absurd HA.out (by simp [impl_RunCode.j0])
  | succ kj2 =>
   have H := HA.out
   clear HA
   simp only [impl_RunCode.j0] at H
   by_cases c11 : x21_2 = true
   ·subst c11
    have H1 : (some (([] : List Int), ([] : List Int), false)) = some (r1, r2, r3) := by rw [if_pos rfl] at H; exact H
    clear H
    have H := H1
    clear H1
    simp only [Option.some.injEq, Prod.mk.injEq] at H
    obtain ⟨rfl, rfl, rfl⟩ := H
    go_wp2
    go_ret3
    exact ⟨_, _, by first | rfl | (simp [errW_none, errW_some] <;> rfl) | (simp [*, errW_none, errW_some] <;> rfl), by first | exact Kd.R_nil _ _ _ _ _ | exact Kd.N_nil _ _ _ _ _ | exact Kd.V_nil _ _ _ _ _ | exact Kd.Q_nil _ _ _ _ _ | exact Kd.S_nil _ _ _ _ _, by first | exact Kd.R_nil _ _ _ _ _ | exact Kd.N_nil _ _ _ _ _ | exact Kd.V_nil _ _ _ _ _ | exact Kd.Q_nil _ _ _ _ _ | exact Kd.S_nil _ _ _ _ _, by repeat (first | (with_reducible first | exact HB.out | apply below_alloc | apply pw_below_drewN | apply below_drew1) | exact HB.out)⟩
   ·replace c11 := Bool.eq_false_iff.mpr c11
    subst c11
    have H1 : ((some (([] : List Int) : List Int)).bind fun y348 => (if y348.length + l1.length < 17592186044416 then (impl_RunCode.l0 kj2 (y348 ++ l1) (([] : List Int)) l0 (l0.length : Int) 0) else (none))) = some (r1, r2, r3) := by rw [if_neg (show ¬ (false = true) by decide)] at H; exact H
    clear H
    have H := H1
    clear H1
    obtain ⟨y348, hy348⟩ : ∃ y_ : List Int, y_ = (([] : List Int)) := ⟨_, rfl⟩
    replace H : (if y348.length + l1.length < 17592186044416 then (impl_RunCode.l0 kj2 (y348 ++ l1) (([] : List Int)) l0 (l0.length : Int) 0) else (none)) = some (r1, r2, r3) := by first | (rw [hy348]; with_reducible exact H) | (have H2_ := (Option.bind_some _ _).symm.trans H; rw [hy348]; with_reducible exact H2_) | (have H2_ := (Option.bind_some _ _).symm.trans H; with_reducible exact H2_) | with_reducible exact H | (rw [hy348]; exact H) | exact H
    have Ny348 := Aside0.mk hy348
    clear hy348
    by_cases c12 : y348.length + l1.length < 17592186044416
    ·rw [if_pos c12] at H
     have LMc12 := Aside0.mk c12
     clear c12
     obtain ⟨y351, hy351⟩ : ∃ y_ : List Int, y_ = (y348 ++ l1) := ⟨_, rfl⟩
     replace H : (impl_RunCode.l0 kj2 y351 (([] : List Int)) l0 (l0.length : Int) 0) = some (r1, r2, r3) := by first | (rw [hy351]; with_reducible exact H) | (have H2_ := (Option.bind_some _ _).symm.trans H; rw [hy351]; with_reducible exact H2_) | (have H2_ := (Option.bind_some _ _).symm.trans H; with_reducible exact H2_) | with_reducible exact H | (rw [hy351]; exact H) | exact H
     have Ny351 := Aside0.mk hy351
     clear hy351
     obtain ⟨y354, hy354⟩ : ∃ y_ : List Int, y_ = (([] : List Int)) := ⟨_, rfl⟩
     replace H : (impl_RunCode.l0 kj2 y351 y354 l0 (l0.length : Int) 0) = some (r1, r2, r3) := by first | (rw [hy354]; with_reducible exact H) | (have H2_ := (Option.bind_some _ _).symm.trans H; rw [hy354]; with_reducible exact H2_) | (have H2_ := (Option.bind_some _ _).symm.trans H; with_reducible exact H2_) | with_reducible exact H | (rw [hy354]; exact H) | exact H
     have Ny354 := Aside0.mk hy354
     clear hy354
     have H' := Aside0.mk H
     clear H
     go_wp2_with (first | ((with_reducible refine gate_dst (N := 22) rfl ?_); (try (refine gate_guard (by rfl) ?_; dsimp only)); refine Kd.R_lit (Kd.int .i64) _ 3 ?hg (N := 22) ?hd (xs := ([] : List Int)) (inner := []) (ok := fun _ => True) (okp := fun _ => True) ?hr ?hp (fun _ hk => hk) trivial (Below.refl _ _) (Nat.le_refl _) (by simp) ?_; (case hd => rfl); (case hg => rfl); (case hr => first | (go_simp; done) | (go_simp; rfl)); (case hp => exact (Reps.none _ _)); intro v349 w13 ho14 hb hg_ hnew_; clear hg_ hnew_; (first | rw [← Ny348.out] at ho14 | (simp only [Int.reduceToNat] at ho14; rw [← Ny348.out] at ho14)); have n0_ := Aside0.mk (Kd.R_lower ho14 (below_size (by repeat (first | (with_reducible first | exact HB.out | apply below_alloc | apply pw_below_drewN | apply below_drew1) | exact HB.out)))); have n1_ := Aside0.mk (below_step (by repeat (first | (with_reducible first | exact HB.out | apply below_alloc | apply pw_below_drewN | apply below_drew1) | exact HB.out)) hb); clear HB; have HO350 := n0_; have HB := n1_; clear n0_ n1_; clear hb ho14) | ((with_reducible refine gate_builtin (b := .append) (xs := #[.tmp 22, .tmp 23]) rfl ?_); (try (refine gate_guard (by rfl) ?_; dsimp only)); at_builtin; refine Kd.R_append_rows (Kd.int .i64) (w0 := w) w.heap.size rfl (.tmp 22) (.tmp 23) 24 3 (.int .i64 0) 8 rfl Try.underlying24 info3 rfl (by decide) (by omega) v349 y348 l1 _ _ _ (fun _ => True) (fun _ => False) rfl rfl ?aO ?aR (fun _ _ h => h) (fun _ h => h.elim) ?aF ?aB ?aS ?aL ?_; (case aR => repeat (first | exact (Kd.C_below HR1.out HB.out) | (with_reducible refine Kd.C_alloc ?_ _) | (with_reducible refine Kd.C_drewN ?_ _) | (with_reducible refine Kd.C_drew ?_))); (case aB => exact (by repeat (first | (with_reducible first | exact HB.out | apply below_alloc | apply pw_below_drewN | apply below_drew1) | exact HB.out))); (case aF => exact (fun _ _ => trivial)); (case aO => exact (by (with_reducible repeat (first | apply Kd.R_alloc | apply Kd.R_drewN | apply Kd.R_drew)); exact HO350.out)); (case aS => exact (below_size (by repeat (first | (with_reducible first | exact HB.out | apply below_alloc | apply pw_below_drewN | apply below_drew1) | exact HB.out)))); (case aL => have := LMc12.out; omega); intro v352 w15 ho hb hg hat; rw [← Ny351.out] at ho; have n0_ := Aside0.mk (hb); have n1_ := Aside0.mk (ho); clear HB; clear HO350; have HB := n0_; have HO353 := n1_; clear n0_ n1_; clear ho hb hg hat) | ((with_reducible refine gate_dst (N := 25) rfl ?_); (try (refine gate_guard (by rfl) ?_; dsimp only)); refine Kd.R_lit (Kd.int .i64) _ 3 ?hg (N := 25) ?hd (xs := ([] : List Int)) (inner := []) (ok := fun _ => True) (okp := fun _ => True) ?hr ?hp (fun _ hk => hk) trivial (Below.refl _ _) (Nat.le_refl _) (by simp) ?_; (case hd => rfl); (case hg => rfl); (case hr => first | (go_simp; done) | (go_simp; rfl)); (case hp => exact (Reps.none _ _)); intro v355 w16 ho17 hb hg_ hnew_; clear hg_ hnew_; (first | rw [← Ny354.out] at ho17 | (simp only [Int.reduceToNat] at ho17; rw [← Ny354.out] at ho17)); have n0_ := Aside0.mk (Kd.R_elder' (by (with_reducible repeat (first | apply Kd.R_alloc | apply Kd.R_drewN | apply Kd.R_drew)); exact HO353.out) (Kd.R_base ho17) hb); have n1_ := Aside0.mk (Kd.R_lower (Kd.R_new' ho17 (Kd.R_lt (by (with_reducible repeat (first | apply Kd.R_alloc | apply Kd.R_drewN | apply Kd.R_drew)); exact HO353.out))) (below_size (by repeat (first | (with_reducible first | exact HB.out | apply below_alloc | apply pw_below_drewN | apply below_drew1) | exact HB.out)))); have n2_ := Aside0.mk (below_step (by repeat (first | (with_reducible first | exact HB.out | apply below_alloc | apply pw_below_drewN | apply below_drew1) | exact HB.out)) hb); clear HO353; clear HB; have HO353 := n0_; have HO356 := n1_; have HB := n2_; clear n0_ n1_ n2_; clear hb ho17))
     go_loopg [7, 28] kj2 (fun kq v7 v28 w' => ∃ (x1_2 : List Int) (x7_2 : List Int) (x28_2 : Int), v28 = .int .i64 x28_2 ∧ Aside0 (impl_RunCode.l0 kq x1_2 x7_2 l0 (l0.length : Int) x28_2 = some (r1, r2, r3)) ∧ Aside0 (kq ≤ kj2) ∧ Aside0 (Kd.R (Kd.int .i64) 3 w' w.heap.size (fun k_ => some k_ ≠ (v7 : Value).ownBlock) v352 x1_2) ∧ Aside0 (Kd.R (Kd.int .i64) 3 w' w.heap.size (fun k_ => some k_ ≠ (v352 : Value).ownBlock) v7 x7_2) ∧ Aside0 (Below w.heap.size w w'))
     case atStart => exact ⟨(y351), (y354), (0), (by first | rfl | (simp; done) | (simp [*]; done)), H', ⟨Nat.le_refl _⟩, ⟨by (with_reducible repeat (first | apply Kd.R_alloc | apply Kd.R_drewN | apply Kd.R_drew)); exact Kd.R_mono HO353.out (fun _ hk => hk.2)⟩, ⟨by (with_reducible repeat (first | apply Kd.R_alloc | apply Kd.R_drewN | apply Kd.R_drew)); exact Kd.R_mono HO356.out (fun _ hk => hk.2)⟩, ⟨by repeat (first | (with_reducible first | exact HB.out | apply below_alloc | apply pw_below_drewN | apply below_drew1) | exact HB.out)⟩⟩
     case round =>
      clear H'
      try clear c1
      try clear c2
      try clear p2
      try clear c5
      try clear c6
      try clear c6b0
      try clear c6b1
      try clear c11
      try clear c12
      try clear p2
      obtain ⟨x1_2, x7_2, x28_2, rfl, HA, HK2, HO_1, HO_7, HB⟩ := hrel
      cases gk with
      | zero => exact absurd HA.out (by simp [impl_RunCode.l0])
      | succ k2 =>
       have H := HA.out
       clear HA
       simp only [impl_RunCode.l0] at H
       by_cases c18 : x28_2 < (l0.length : Int)
       ·rw [if_pos c18] at H
        have c18b0 : decide (x28_2 < (l0.length : Int)) = true := decide_eq_true c18
        clear c18
        by_cases c19 : 0 ≤ x28_2
        ·rw [if_pos c19] at H
         have c19b0 : decide (0 ≤ x28_2) = true := decide_eq_true c19
         clear c19
         by_cases c20 : x28_2 < (l0.length : Int)
         ·rw [if_pos c20] at H
          have c20b0 : decide (x28_2 < (l0.length : Int)) = true := decide_eq_true c20
          clear c20
          by_cases c21 : ((rd_T45 l0 x28_2).f0) = 8
          ·rw [if_pos c21] at H
           have c21b0 : (((rd_T45 l0 x28_2).f0) == 8) = true := beq_iff_eq.mpr c21
           have c21b1 : (((rd_T45 l0 x28_2).f0) != 8) = false := bne_eq_false_iff_eq.mpr c21
           clear c21
           by_cases c22 : 0 ≤ ((rd_T45 l0 x28_2).f2)
           ·rw [if_pos c22] at H
            have c22b0 : decide (0 ≤ ((rd_T45 l0 x28_2).f2)) = true := decide_eq_true c22
            clear c22
            by_cases c23 : ((rd_T45 l0 x28_2).f2) < (x1_2.length : Int)
            ·rw [if_pos c23] at H
             have c23b0 : decide (((rd_T45 l0 x28_2).f2) < (x1_2.length : Int)) = true := decide_eq_true c23
             clear c23
             by_cases c24 : x7_2.length < 17592186044416
             ·rw [if_pos c24] at H
              have LMc24 := Aside0.mk c24
              clear c24
              obtain ⟨y360, hy360⟩ : ∃ y_ : List Int, y_ = (x7_2 ++ [rd x1_2 ((rd_T45 l0 x28_2).f2)]) := ⟨_, rfl⟩
              replace H : (impl_RunCode.l0 k2 x1_2 y360 l0 (l0.length : Int) (wrap64 (x28_2 + 1))) = some (r1, r2, r3) := by first | (rw [hy360]; with_reducible exact H) | (have H2_ := (Option.bind_some _ _).symm.trans H; rw [hy360]; with_reducible exact H2_) | (have H2_ := (Option.bind_some _ _).symm.trans H; with_reducible exact H2_) | with_reducible exact H | (rw [hy360]; exact H) | exact H
              have Ny360 := Aside0.mk hy360
              clear hy360
              have H' := Aside0.mk H
              clear H
              have p357 : 0 ≤ (x28_2 : Int) := of_decide_eq_true (by first | (with_reducible assumption) | assumption)
              have q357 : x28_2 < (l0.length : Int) := of_decide_eq_true (by first | (with_reducible assumption) | assumption)
              obtain ⟨ad357, e357, hx357_0, hx357_1, hx357_2, hx357_3, hx357_4⟩ := at_T45 HR0.out x28_2 p357 q357
              cases e357
              replace hx357_0 := (HB.out.cell (World.block_lt_of_cell? w _ hx357_0)).trans hx357_0
              replace hx357_1 := (HB.out.cell (World.block_lt_of_cell? w _ hx357_1)).trans hx357_1
              replace hx357_2 := (HB.out.cell (World.block_lt_of_cell? w _ hx357_2)).trans hx357_2
              replace hx357_3 := (HB.out.cell (World.block_lt_of_cell? w _ hx357_3)).trans hx357_3
              replace hx357_4 := (HB.out.cell (World.block_lt_of_cell? w _ hx357_4)).trans hx357_4
              replace p357 := eq_true p357
              replace q357 := eq_true q357
              go_wp2_with (first | ((with_reducible refine gate_dst (N := 9) rfl ?_); (try (refine gate_guard (by rfl) ?_; dsimp only)); refine box_event ?hg (N := 9) ?hd (cs := #[.int .i64 0, .int .i64 0, .int .i64 0, .int .i64 0, .int .i64 0]) (t := 45) ?hr ?_; (case hd => rfl); (case hg => rfl); (case hr => first | (go_simp; done) | (go_simp; rfl)); intro gb358 hg w25 hbox hb; have n0_ := Aside0.mk (Kd.R_below (by (with_reducible repeat (first | apply Kd.R_alloc | apply Kd.R_drewN | apply Kd.R_drew)); exact HO_1.out) hb); have n1_ := Aside0.mk (Kd.R_below (by (with_reducible repeat (first | apply Kd.R_alloc | apply Kd.R_drewN | apply Kd.R_drew)); exact HO_7.out) hb); have n2_ := Aside0.mk (below_step (by repeat (first | (with_reducible first | exact HB.out | apply below_alloc | apply pw_below_drewN | apply below_drew1) | exact HB.out)) hb); have n3_ := Aside0.mk (hbox); have n4_ := Aside0.mk ((by rw [hg]; exact (below_size (by repeat (first | (with_reducible first | exact HB.out | apply below_alloc | apply pw_below_drewN | apply below_drew1) | exact HB.out))) : w.heap.size ≤ gb358)); have n5_ := Aside0.mk ((by rw [hg]; exact (below_size (by repeat (first | (with_reducible first | exact HB.out | apply below_alloc | apply pw_below_drewN | apply below_drew1) | exact HB.out))) : w.heap.size ≤ gb358)); clear HO_1; clear HO_7; clear HB; have HO_1 := n0_; have HO_7 := n1_; have HB := n2_; have BK358 := n3_; have GW358 := n4_; have GE358 := n5_; clear n0_ n1_ n2_ n3_ n4_ n5_; clear hb hbox hg; have hcz26_0 : w25.cell? ⟨gb358, 0, none⟩ = some (.int .i64 0) := (blk_cell BK358.out 0).trans rfl; have hcz26_1 : w25.cell? ⟨gb358, 1, none⟩ = some (.int .i64 0) := (blk_cell BK358.out 1).trans rfl; have hcz26_2 : w25.cell? ⟨gb358, 2, none⟩ = some (.int .i64 0) := (blk_cell BK358.out 2).trans rfl; have hcz26_3 : w25.cell? ⟨gb358, 3, none⟩ = some (.int .i64 0) := (blk_cell BK358.out 3).trans rfl; have hcz26_4 : w25.cell? ⟨gb358, 4, none⟩ = some (.int .i64 0) := (blk_cell BK358.out 4).trans rfl; have hfz26_0 := blk_frozen BK358.out 0; have hfz26_1 := blk_frozen BK358.out 1; have hfz26_2 := blk_frozen BK358.out 2; have hfz26_3 := blk_frozen BK358.out 3; have hfz26_4 := blk_frozen BK358.out 4; obtain ⟨Ao27, co27, eo27⟩ := Kd.R_slice HO_1.out; subst eo27; have p359 : 0 ≤ (((rd_T45 l0 x28_2).f2) : Int) := of_decide_eq_true (by first | (with_reducible assumption) | assumption); have q359 : ((rd_T45 l0 x28_2).f2) < (x1_2.length : Int) := of_decide_eq_true (by first | (with_reducible assumption) | assumption); obtain ⟨ad359, e359, hx359_0⟩ := Kd.at_int (Kd.R_reads' HO_1.out).2.2 ((rd_T45 l0 x28_2).f2) p359 q359; cases e359; have hn359_0 : ad359.block ≠ gb358 := Kd.own_blk (Kd.R_ne HO_1.out BK358.out (by decide)); have hn359_1 : ad359.block ≠ gb358 := Kd.own_blk (Kd.R_ne HO_1.out BK358.out (by decide)); have hn359_2 : ad359.block ≠ gb358 := Kd.own_blk (Kd.R_ne HO_1.out BK358.out (by decide)); have hn359_3 : ad359.block ≠ gb358 := Kd.own_blk (Kd.R_ne HO_1.out BK358.out (by decide)); have hn359_4 : ad359.block ≠ gb358 := Kd.own_blk (Kd.R_ne HO_1.out BK358.out (by decide)); replace hx359_0 := (cell_far (p := ⟨gb358, 0, none⟩) (by first | (rw [add_block]; exact hn359_0) | (show (Addr.add _ _).block ≠ _; rw [add_block]; exact hn359_0) | exact hn359_0) (.int .i64 ((rd_T45 l0 x28_2).f0))).trans hx359_0; replace hx359_0 := (cell_far (p := ⟨gb358, 1, none⟩) (by first | (rw [add_block]; exact hn359_1) | (show (Addr.add _ _).block ≠ _; rw [add_block]; exact hn359_1) | exact hn359_1) (.int .i64 ((rd_T45 l0 x28_2).f1))).trans hx359_0; replace hx359_0 := (cell_far (p := ⟨gb358, 2, none⟩) (by first | (rw [add_block]; exact hn359_2) | (show (Addr.add _ _).block ≠ _; rw [add_block]; exact hn359_2) | exact hn359_2) (.int .i64 ((rd_T45 l0 x28_2).f2))).trans hx359_0; replace hx359_0 := (cell_far (p := ⟨gb358, 3, none⟩) (by first | (rw [add_block]; exact hn359_3) | (show (Addr.add _ _).block ≠ _; rw [add_block]; exact hn359_3) | exact hn359_3) (.int .i64 ((rd_T45 l0 x28_2).f3))).trans hx359_0; replace hx359_0 := (cell_far (p := ⟨gb358, 4, none⟩) (by first | (rw [add_block]; exact hn359_4) | (show (Addr.add _ _).block ≠ _; rw [add_block]; exact hn359_4) | exact hn359_4) (.int .i64 ((rd_T45 l0 x28_2).f4))).trans hx359_0; clear hn359_0; clear hn359_1; clear hn359_2; clear hn359_3; clear hn359_4; replace p359 := eq_true p359; replace q359 := eq_true q359) | ((with_reducible refine gate_builtin (b := .append) (xs := #[.tmp 53, .tmp 59]) rfl ?_); (try (refine gate_guard (by rfl) ?_; dsimp only)); at_builtin; refine Kd.R_append (Kd.int .i64) (w0 := w) w.heap.size rfl (.tmp 53) (.tmp 59) 24 3 (.int .i64 0) 8 rfl Try.underlying24 info3 rfl (by decide) (by omega) u7 x7_2 (rd x1_2 ((rd_T45 l0 x28_2).f2)) [.int .i64 (rd x1_2 ((rd_T45 l0 x28_2).f2))] (fun k_ => some k_ ≠ (.slice (some ad359) x1_2.length co27 : Value).ownBlock) (fun _ => False) rfl (by first | (go_simp; done) | (go_simp; rfl)) ?aP (fun _ hk => hk.elim) ?aF ?aO ?aB ?aS ?aL ?_; (case aP => exact rfl); (case aB => exact (by repeat (first | (with_reducible first | exact HB.out | apply below_alloc | apply pw_below_drewN | apply below_drew1 | refine below_set ?_ GE358.out) | exact HB.out))); (case aF => exact (fun k_ hk => Kd.fresh' (Kd.R_lt (by (with_reducible repeat (first | apply Kd.R_alloc | apply Kd.R_drewN | apply Kd.R_drew)); exact (Kd.R_mono (Kd.R_far (p := ⟨gb358, 4, none⟩) (Kd.R_far (p := ⟨gb358, 3, none⟩) (Kd.R_far (p := ⟨gb358, 2, none⟩) (Kd.R_far (p := ⟨gb358, 1, none⟩) (Kd.R_far (p := ⟨gb358, 0, none⟩) (Kd.R_types HO_1.out BK358.out (by decide)) (fun _ hk => hk.2) (.int .i64 ((rd_T45 l0 x28_2).f0))) (fun _ hk => hk.2) (.int .i64 ((rd_T45 l0 x28_2).f1))) (fun _ hk => hk.2) (.int .i64 ((rd_T45 l0 x28_2).f2))) (fun _ hk => hk.2) (.int .i64 ((rd_T45 l0 x28_2).f3))) (fun _ hk => hk.2) (.int .i64 ((rd_T45 l0 x28_2).f4))) (fun _ h_ => h_.1)))) k_ hk)); (case aO => exact (by (with_reducible repeat (first | apply Kd.R_alloc | apply Kd.R_drewN | apply Kd.R_drew)); exact Kd.R_mono (Kd.R_far (p := ⟨gb358, 4, none⟩) (Kd.R_far (p := ⟨gb358, 3, none⟩) (Kd.R_far (p := ⟨gb358, 2, none⟩) (Kd.R_far (p := ⟨gb358, 1, none⟩) (Kd.R_far (p := ⟨gb358, 0, none⟩) (Kd.R_types HO_7.out BK358.out (by decide)) (fun _ hk => hk.2) (.int .i64 ((rd_T45 l0 x28_2).f0))) (fun _ hk => hk.2) (.int .i64 ((rd_T45 l0 x28_2).f1))) (fun _ hk => hk.2) (.int .i64 ((rd_T45 l0 x28_2).f2))) (fun _ hk => hk.2) (.int .i64 ((rd_T45 l0 x28_2).f3))) (fun _ hk => hk.2) (.int .i64 ((rd_T45 l0 x28_2).f4))) (fun _ hk => hk.1))); (case aS => exact (below_size (by repeat (first | (with_reducible first | exact HB.out | apply below_alloc | apply pw_below_drewN | apply below_drew1 | refine below_set ?_ GE358.out) | exact HB.out)))); (case aL => have := LMc24.out; omega); intro v361 w28 ho hb hg hat; rw [← Ny360.out] at ho; have n0_ := Aside0.mk (Kd.R_after (ok := (fun _ => True)) (by (with_reducible repeat (first | apply Kd.R_alloc | apply Kd.R_drewN | apply Kd.R_drew)); exact Kd.R_mono (Kd.R_far (p := ⟨gb358, 4, none⟩) (Kd.R_far (p := ⟨gb358, 3, none⟩) (Kd.R_far (p := ⟨gb358, 2, none⟩) (Kd.R_far (p := ⟨gb358, 1, none⟩) (Kd.R_far (p := ⟨gb358, 0, none⟩) (Kd.R_types HO_1.out BK358.out (by decide)) (fun _ hk => hk.2) (.int .i64 ((rd_T45 l0 x28_2).f0))) (fun _ hk => hk.2) (.int .i64 ((rd_T45 l0 x28_2).f1))) (fun _ hk => hk.2) (.int .i64 ((rd_T45 l0 x28_2).f2))) (fun _ hk => hk.2) (.int .i64 ((rd_T45 l0 x28_2).f3))) (fun _ hk => hk.2) (.int .i64 ((rd_T45 l0 x28_2).f4))) (fun _ hk => ⟨trivial, hk.1⟩)) hg hat); have n1_ := Aside0.mk (blk_grown (g := gb358) (o := .cells #[.int .i64 ((rd_T45 l0 x28_2).f0), .int .i64 ((rd_T45 l0 x28_2).f1), .int .i64 ((rd_T45 l0 x28_2).f2), .int .i64 ((rd_T45 l0 x28_2).f3), .int .i64 ((rd_T45 l0 x28_2).f4)] 45 (0, 0)) (by (with_reducible repeat (first | refine blk_drewN ?_ _ | refine blk_drew ?_ | refine blk_alloc ?_ _)); refine blk_put (cs := #[.int .i64 ((rd_T45 l0 x28_2).f0), .int .i64 ((rd_T45 l0 x28_2).f1), .int .i64 ((rd_T45 l0 x28_2).f2), .int .i64 ((rd_T45 l0 x28_2).f3), .int .i64 0]) ?_ 4 _ rfl; (with_reducible repeat (first | refine blk_drewN ?_ _ | refine blk_drew ?_ | refine blk_alloc ?_ _)); refine blk_put (cs := #[.int .i64 ((rd_T45 l0 x28_2).f0), .int .i64 ((rd_T45 l0 x28_2).f1), .int .i64 ((rd_T45 l0 x28_2).f2), .int .i64 0, .int .i64 0]) ?_ 3 _ rfl; (with_reducible repeat (first | refine blk_drewN ?_ _ | refine blk_drew ?_ | refine blk_alloc ?_ _)); refine blk_put (cs := #[.int .i64 ((rd_T45 l0 x28_2).f0), .int .i64 ((rd_T45 l0 x28_2).f1), .int .i64 0, .int .i64 0, .int .i64 0]) ?_ 2 _ rfl; (with_reducible repeat (first | refine blk_drewN ?_ _ | refine blk_drew ?_ | refine blk_alloc ?_ _)); refine blk_put (cs := #[.int .i64 ((rd_T45 l0 x28_2).f0), .int .i64 0, .int .i64 0, .int .i64 0, .int .i64 0]) ?_ 1 _ rfl; (with_reducible repeat (first | refine blk_drewN ?_ _ | refine blk_drew ?_ | refine blk_alloc ?_ _)); refine blk_put (cs := #[.int .i64 0, .int .i64 0, .int .i64 0, .int .i64 0, .int .i64 0]) ?_ 0 _ rfl; (with_reducible repeat (first | refine blk_drewN ?_ _ | refine blk_drew ?_ | refine blk_alloc ?_ _)); exact BK358.out) hg (Kd.R_ne HO_7.out BK358.out (by decide))); have n2_ := Aside0.mk (hb); have n3_ := Aside0.mk (ho); clear HO_1; clear BK358; clear HB; clear HO_7; have HO_1 := n0_; have BK358 := n1_; have HB := n2_; have HO362 := n3_; clear n0_ n1_ n2_ n3_; clear ho hb hg hat))
              go_roundg k2
              case measure => have := HJ2.out; have := HK2.out; omega
              case rel => exact ⟨(x1_2), (y360), (wrap64 (x28_2 + 1)), (by first | rfl | (simp; done) | (simp [*]; done)), H', ⟨by have := HJ2.out; have := HK2.out; omega⟩, ⟨by (with_reducible repeat (first | apply Kd.R_alloc | apply Kd.R_drewN | apply Kd.R_drew)); exact Kd.R_mono HO_1.out (fun _ hk => hk.2)⟩, ⟨by (with_reducible repeat (first | apply Kd.R_alloc | apply Kd.R_drewN | apply Kd.R_drew)); exact HO362.out⟩, ⟨by repeat (first | (with_reducible first | exact HB.out | apply below_alloc | apply pw_below_drewN | apply below_drew1 | refine below_set ?_ GE358.out) | exact HB.out)⟩⟩
             ·rw [if_neg c24] at H
              exact absurd H (by simp)
            ·rw [if_neg c23] at H
             exact absurd H (by simp)
           ·rw [if_neg c22] at H
            exact absurd H (by simp)
          ·rw [if_neg c21] at H
           have c21b0 : (((rd_T45 l0 x28_2).f0) == 8) = false := beq_eq_false_iff_ne.mpr c21
           have c21b1 : (((rd_T45 l0 x28_2).f0) != 8) = true := bne_iff_ne.mpr c21
           by_cases c29 : ((rd_T45 l0 x28_2).f0) = 1
           ·rw [if_pos c29] at H
            have c29b0 : (((rd_T45 l0 x28_2).f0) == 1) = true := beq_iff_eq.mpr c29
            have c29b1 : (((rd_T45 l0 x28_2).f0) != 1) = false := bne_eq_false_iff_eq.mpr c29
            clear c29
            by_cases c30 : 0 ≤ ((rd_T45 l0 x28_2).f1)
            ·rw [if_pos c30] at H
             have c30b0 : decide (0 ≤ ((rd_T45 l0 x28_2).f1)) = true := decide_eq_true c30
             clear c30
             by_cases c31 : ((rd_T45 l0 x28_2).f1) < (x1_2.length : Int)
             ·rw [if_pos c31] at H
              have c31b0 : decide (((rd_T45 l0 x28_2).f1) < (x1_2.length : Int)) = true := decide_eq_true c31
              clear c31
              obtain ⟨y363, hy363⟩ : ∃ y_ : List Int, y_ = (x1_2.set (((rd_T45 l0 x28_2).f1) : Int).toNat ((rd_T45 l0 x28_2).f4)) := ⟨_, rfl⟩
              replace H : (impl_RunCode.l0 k2 y363 x7_2 l0 (l0.length : Int) (wrap64 (x28_2 + 1))) = some (r1, r2, r3) := by first | (rw [hy363]; with_reducible exact H) | (have H2_ := (Option.bind_some _ _).symm.trans H; rw [hy363]; with_reducible exact H2_) | (have H2_ := (Option.bind_some _ _).symm.trans H; with_reducible exact H2_) | with_reducible exact H | (rw [hy363]; exact H) | exact H
              have Ny363 := Aside0.mk hy363
              clear hy363
              have H' := Aside0.mk H
              clear H
              have p357 : 0 ≤ (x28_2 : Int) := of_decide_eq_true (by first | (with_reducible assumption) | assumption)
              have q357 : x28_2 < (l0.length : Int) := of_decide_eq_true (by first | (with_reducible assumption) | assumption)
              obtain ⟨ad357, e357, hx357_0, hx357_1, hx357_2, hx357_3, hx357_4⟩ := at_T45 HR0.out x28_2 p357 q357
              cases e357
              replace hx357_0 := (HB.out.cell (World.block_lt_of_cell? w _ hx357_0)).trans hx357_0
              replace hx357_1 := (HB.out.cell (World.block_lt_of_cell? w _ hx357_1)).trans hx357_1
              replace hx357_2 := (HB.out.cell (World.block_lt_of_cell? w _ hx357_2)).trans hx357_2
              replace hx357_3 := (HB.out.cell (World.block_lt_of_cell? w _ hx357_3)).trans hx357_3
              replace hx357_4 := (HB.out.cell (World.block_lt_of_cell? w _ hx357_4)).trans hx357_4
              replace p357 := eq_true p357
              replace q357 := eq_true q357
              go_wp2_with (first | ((with_reducible refine gate_dst (N := 9) rfl ?_); (try (refine gate_guard (by rfl) ?_; dsimp only)); refine box_event ?hg (N := 9) ?hd (cs := #[.int .i64 0, .int .i64 0, .int .i64 0, .int .i64 0, .int .i64 0]) (t := 45) ?hr ?_; (case hd => rfl); (case hg => rfl); (case hr => first | (go_simp; done) | (go_simp; rfl)); intro gb358 hg w33 hbox hb; have n0_ := Aside0.mk (Kd.R_below (by (with_reducible repeat (first | apply Kd.R_alloc | apply Kd.R_drewN | apply Kd.R_drew)); exact HO_1.out) hb); have n1_ := Aside0.mk (Kd.R_below (by (with_reducible repeat (first | apply Kd.R_alloc | apply Kd.R_drewN | apply Kd.R_drew)); exact HO_7.out) hb); have n2_ := Aside0.mk (below_step (by repeat (first | (with_reducible first | exact HB.out | apply below_alloc | apply pw_below_drewN | apply below_drew1) | exact HB.out)) hb); have n3_ := Aside0.mk (hbox); have n4_ := Aside0.mk ((by rw [hg]; exact (below_size (by repeat (first | (with_reducible first | exact HB.out | apply below_alloc | apply pw_below_drewN | apply below_drew1) | exact HB.out))) : w.heap.size ≤ gb358)); have n5_ := Aside0.mk ((by rw [hg]; exact (below_size (by repeat (first | (with_reducible first | exact HB.out | apply below_alloc | apply pw_below_drewN | apply below_drew1) | exact HB.out))) : w.heap.size ≤ gb358)); clear HO_1; clear HO_7; clear HB; have HO_1 := n0_; have HO_7 := n1_; have HB := n2_; have BK358 := n3_; have GW358 := n4_; have GE358 := n5_; clear n0_ n1_ n2_ n3_ n4_ n5_; clear hb hbox hg; have hcz34_0 : w33.cell? ⟨gb358, 0, none⟩ = some (.int .i64 0) := (blk_cell BK358.out 0).trans rfl; have hcz34_1 : w33.cell? ⟨gb358, 1, none⟩ = some (.int .i64 0) := (blk_cell BK358.out 1).trans rfl; have hcz34_2 : w33.cell? ⟨gb358, 2, none⟩ = some (.int .i64 0) := (blk_cell BK358.out 2).trans rfl; have hcz34_3 : w33.cell? ⟨gb358, 3, none⟩ = some (.int .i64 0) := (blk_cell BK358.out 3).trans rfl; have hcz34_4 : w33.cell? ⟨gb358, 4, none⟩ = some (.int .i64 0) := (blk_cell BK358.out 4).trans rfl; have hfz34_0 := blk_frozen BK358.out 0; have hfz34_1 := blk_frozen BK358.out 1; have hfz34_2 := blk_frozen BK358.out 2; have hfz34_3 := blk_frozen BK358.out 3; have hfz34_4 := blk_frozen BK358.out 4) | ((with_reducible refine gate_store (t := 45) (p := 9) rfl ?_); refine store_event (t := 45) (p := 9) (v := ?vo_w35) (w1 := (((((w33.setCell ⟨gb358, 0, none⟩ (.int .i64 ((rd_T45 l0 x28_2).f0))).setCell ⟨gb358, 1, none⟩ (.int .i64 ((rd_T45 l0 x28_2).f1))).setCell ⟨gb358, 2, none⟩ (.int .i64 ((rd_T45 l0 x28_2).f2))).setCell ⟨gb358, 3, none⟩ (.int .i64 ((rd_T45 l0 x28_2).f3))).setCell ⟨gb358, 4, none⟩ (.int .i64 ((rd_T45 l0 x28_2).f4)))) ?hg ?ho ?hn ?hr ?_; (case ho => rfl); (case hg => rfl); (case hn => rfl); (case hr => first | (go_simp; done) | (go_simp; rfl)); intro w35 hw; have n0_ : Aside0 (Kd.R (Kd.int .i64) 3 w35 w.heap.size (fun k_ => some k_ ≠ (u7 : Value).ownBlock) v352 x1_2) := ⟨(by rw [hw]; exact (by (with_reducible repeat (first | apply Kd.R_alloc | apply Kd.R_drewN | apply Kd.R_drew)); exact Kd.R_mono (Kd.R_far (p := ⟨gb358, 4, none⟩) (Kd.R_far (p := ⟨gb358, 3, none⟩) (Kd.R_far (p := ⟨gb358, 2, none⟩) (Kd.R_far (p := ⟨gb358, 1, none⟩) (Kd.R_far (p := ⟨gb358, 0, none⟩) (Kd.R_types HO_1.out BK358.out (by decide)) (fun _ hk => hk.2) (.int .i64 ((rd_T45 l0 x28_2).f0))) (fun _ hk => hk.2) (.int .i64 ((rd_T45 l0 x28_2).f1))) (fun _ hk => hk.2) (.int .i64 ((rd_T45 l0 x28_2).f2))) (fun _ hk => hk.2) (.int .i64 ((rd_T45 l0 x28_2).f3))) (fun _ hk => hk.2) (.int .i64 ((rd_T45 l0 x28_2).f4))) (fun _ hk => hk.1)))⟩; have n1_ : Aside0 (Kd.R (Kd.int .i64) 3 w35 w.heap.size (fun k_ => some k_ ≠ (v352 : Value).ownBlock) u7 x7_2) := ⟨(by rw [hw]; exact (by (with_reducible repeat (first | apply Kd.R_alloc | apply Kd.R_drewN | apply Kd.R_drew)); exact Kd.R_mono (Kd.R_far (p := ⟨gb358, 4, none⟩) (Kd.R_far (p := ⟨gb358, 3, none⟩) (Kd.R_far (p := ⟨gb358, 2, none⟩) (Kd.R_far (p := ⟨gb358, 1, none⟩) (Kd.R_far (p := ⟨gb358, 0, none⟩) (Kd.R_types HO_7.out BK358.out (by decide)) (fun _ hk => hk.2) (.int .i64 ((rd_T45 l0 x28_2).f0))) (fun _ hk => hk.2) (.int .i64 ((rd_T45 l0 x28_2).f1))) (fun _ hk => hk.2) (.int .i64 ((rd_T45 l0 x28_2).f2))) (fun _ hk => hk.2) (.int .i64 ((rd_T45 l0 x28_2).f3))) (fun _ hk => hk.2) (.int .i64 ((rd_T45 l0 x28_2).f4))) (fun _ hk => hk.1)))⟩; have n2_ : Aside0 (w35.heap[gb358]? = some (.cells #[.int .i64 ((rd_T45 l0 x28_2).f0), .int .i64 ((rd_T45 l0 x28_2).f1), .int .i64 ((rd_T45 l0 x28_2).f2), .int .i64 ((rd_T45 l0 x28_2).f3), .int .i64 ((rd_T45 l0 x28_2).f4)] 45 (0, 0))) := ⟨(by rw [hw]; exact (by (with_reducible repeat (first | refine blk_drewN ?_ _ | refine blk_drew ?_ | refine blk_alloc ?_ _)); refine blk_put (cs := #[.int .i64 ((rd_T45 l0 x28_2).f0), .int .i64 ((rd_T45 l0 x28_2).f1), .int .i64 ((rd_T45 l0 x28_2).f2), .int .i64 ((rd_T45 l0 x28_2).f3), .int .i64 0]) ?_ 4 _ rfl; (with_reducible repeat (first | refine blk_drewN ?_ _ | refine blk_drew ?_ | refine blk_alloc ?_ _)); refine blk_put (cs := #[.int .i64 ((rd_T45 l0 x28_2).f0), .int .i64 ((rd_T45 l0 x28_2).f1), .int .i64 ((rd_T45 l0 x28_2).f2), .int .i64 0, .int .i64 0]) ?_ 3 _ rfl; (with_reducible repeat (first | refine blk_drewN ?_ _ | refine blk_drew ?_ | refine blk_alloc ?_ _)); refine blk_put (cs := #[.int .i64 ((rd_T45 l0 x28_2).f0), .int .i64 ((rd_T45 l0 x28_2).f1), .int .i64 0, .int .i64 0, .int .i64 0]) ?_ 2 _ rfl; (with_reducible repeat (first | refine blk_drewN ?_ _ | refine blk_drew ?_ | refine blk_alloc ?_ _)); refine blk_put (cs := #[.int .i64 ((rd_T45 l0 x28_2).f0), .int .i64 0, .int .i64 0, .int .i64 0, .int .i64 0]) ?_ 1 _ rfl; (with_reducible repeat (first | refine blk_drewN ?_ _ | refine blk_drew ?_ | refine blk_alloc ?_ _)); refine blk_put (cs := #[.int .i64 0, .int .i64 0, .int .i64 0, .int .i64 0, .int .i64 0]) ?_ 0 _ rfl; (with_reducible repeat (first | refine blk_drewN ?_ _ | refine blk_drew ?_ | refine blk_alloc ?_ _)); exact BK358.out))⟩; have n3_ : Aside0 (Below w.heap.size w w35) := ⟨(by rw [hw]; exact (by repeat (first | (with_reducible first | exact HB.out | apply below_alloc | apply pw_below_drewN | apply below_drew1 | refine below_set ?_ GE358.out) | exact HB.out)))⟩; clear hw; clear HO_1; clear HO_7; clear BK358; clear HB; have HO_1 := n0_; have HO_7 := n1_; have BK358 := n2_; have HB := n3_; clear n0_ n1_ n2_ n3_; have hcz36_0 : w35.cell? ⟨gb358, 0, none⟩ = some (.int .i64 ((rd_T45 l0 x28_2).f0)) := (blk_cell BK358.out 0).trans rfl; have hcz36_1 : w35.cell? ⟨gb358, 1, none⟩ = some (.int .i64 ((rd_T45 l0 x28_2).f1)) := (blk_cell BK358.out 1).trans rfl; have hcz36_2 : w35.cell? ⟨gb358, 2, none⟩ = some (.int .i64 ((rd_T45 l0 x28_2).f2)) := (blk_cell BK358.out 2).trans rfl; have hcz36_3 : w35.cell? ⟨gb358, 3, none⟩ = some (.int .i64 ((rd_T45 l0 x28_2).f3)) := (blk_cell BK358.out 3).trans rfl; have hcz36_4 : w35.cell? ⟨gb358, 4, none⟩ = some (.int .i64 ((rd_T45 l0 x28_2).f4)) := (blk_cell BK358.out 4).trans rfl; have hfz36_0 := blk_frozen BK358.out 0; have hfz36_1 := blk_frozen BK358.out 1; have hfz36_2 := blk_frozen BK358.out 2; have hfz36_3 := blk_frozen BK358.out 3; have hfz36_4 := blk_frozen BK358.out 4; have p32 : 0 ≤ (((rd_T45 l0 x28_2).f1) : Int) := of_decide_eq_true (by first | (with_reducible assumption) | assumption); have q32 : (((rd_T45 l0 x28_2).f1) : Int) < ((x1_2.length : Int) : Int) := of_decide_eq_true (by first | (with_reducible assumption) | assumption); obtain ⟨go32, co32, eo32, gb32, gl32, cl32, HG32⟩ := Kd.R_form HO_1.out (by omega); (first | cases eo32 | (injection eo32 with ea_ en_ ec_; (first | subst ea_ | (injection ea_ with ea_; subst ea_)); subst ec_; clear en_)); have GB32 := Aside0.mk gb32; have GG32 := Aside0.mk HG32; clear gb32 gl32 HG32; obtain ⟨hx32_0, hf32_0⟩ := Kd.R_celln 0 HO_1.out (((rd_T45 l0 x28_2).f1) : Int) p32 q32; replace p32 := eq_true p32; replace q32 := eq_true q32; obtain ⟨hy37_, hz37_⟩ := Kd.R_celln 0 HO_1.out (((rd_T45 l0 x28_2).f1) : Int) (of_decide_eq_true (by first | (with_reducible assumption) | assumption)) (of_decide_eq_true (by first | (with_reducible assumption) | assumption)); have HP37 := Kd.R_putg HO_1.out (((rd_T45 l0 x28_2).f1) : Int) ((rd_T45 l0 x28_2).f4)) | ((with_reducible refine gate_store (t := 3) (p := 68) rfl ?_); refine store_event (t := 3) (p := 68) (v := ?vo_w38) (w1 := (w35.setCell ⟨go32, (((rd_T45 l0 x28_2).f1) : Int).toNat, none⟩ (.int .i64 ((rd_T45 l0 x28_2).f4)))) ?hg ?ho ?hn ?hr ?_; (case ho => rfl); (case hg => rfl); (case hn => rfl); (case hr => first | (go_simp; done) | (go_simp; rfl)); intro w38 hw; have hg : w35.grownBy w38 (some go32) := (by rw [hw]; exact HP37.2); have hp_ : Kd.R (Kd.int .i64) 3 w38 w.heap.size (fun k_ => some k_ ≠ (u7 : Value).ownBlock) (.slice (some ⟨go32, 0, none⟩) x1_2.length co32) y363 := (by rw [hw, Ny363.out]; exact HP37.1); clear HP37; have n0_ := Aside0.mk (hp_); have n1_ := Aside0.mk (Kd.R_after (v := (.slice (some ⟨go32, 0, none⟩) x1_2.length co32)) (v1 := (.slice (some ⟨go32, 0, none⟩) x1_2.length co32)) (ok := (fun _ => True)) (by (with_reducible repeat (first | apply Kd.R_alloc | apply Kd.R_drewN | apply Kd.R_drew)); exact Kd.R_mono HO_7.out (fun _ hk => ⟨trivial, hk⟩)) hg (.inl rfl)); have n2_ := Aside0.mk (blk_grown (g := gb358) (o := .cells #[.int .i64 ((rd_T45 l0 x28_2).f0), .int .i64 ((rd_T45 l0 x28_2).f1), .int .i64 ((rd_T45 l0 x28_2).f2), .int .i64 ((rd_T45 l0 x28_2).f3), .int .i64 ((rd_T45 l0 x28_2).f4)] 45 (0, 0)) (by (with_reducible repeat (first | refine blk_drewN ?_ _ | refine blk_drew ?_ | refine blk_alloc ?_ _)); exact BK358.out) hg (Kd.R_ne HO_1.out BK358.out (by decide))); have n3_ := Aside0.mk ((by rw [hw]; exact below_set (HB.out) GB32.out : Below w.heap.size w w38)); clear HO_1; clear HO_7; clear BK358; clear HB; have HO_1 := n0_; have HO_7 := n1_; have BK358 := n2_; have HB := n3_; clear n0_ n1_ n2_ n3_; clear hg hw hp_))
              go_roundg k2
              case measure => have := HJ2.out; have := HK2.out; omega
              case rel => exact ⟨(y363), (x7_2), (wrap64 (x28_2 + 1)), (by first | rfl | (simp; done) | (simp [*]; done)), H', ⟨by have := HJ2.out; have := HK2.out; omega⟩, ⟨by (with_reducible repeat (first | apply Kd.R_alloc | apply Kd.R_drewN | apply Kd.R_drew)); exact HO_1.out⟩, ⟨by (with_reducible repeat (first | apply Kd.R_alloc | apply Kd.R_drewN | apply Kd.R_drew)); exact Kd.R_mono HO_7.out (fun _ hk => hk.2)⟩, ⟨by repeat (first | (with_reducible first | exact HB.out | apply below_alloc | apply pw_below_drewN | apply below_drew1 | refine below_set ?_ GE358.out) | exact HB.out)⟩⟩
             ·rw [if_neg c31] at H
              exact absurd H (by simp)
            ·rw [if_neg c30] at H
             exact absurd H (by simp)
           ·rw [if_neg c29] at H
            have c29b0 : (((rd_T45 l0 x28_2).f0) == 1) = false := beq_eq_false_iff_ne.mpr c29
            have c29b1 : (((rd_T45 l0 x28_2).f0) != 1) = true := bne_iff_ne.mpr c29
            by_cases c39 : ((rd_T45 l0 x28_2).f0) = 2
            ·rw [if_pos c39] at H
             have c39b0 : (((rd_T45 l0 x28_2).f0) == 2) = true := beq_iff_eq.mpr c39
             have c39b1 : (((rd_T45 l0 x28_2).f0) != 2) = false := bne_eq_false_iff_eq.mpr c39
             clear c39
             by_cases c40 : 0 ≤ ((rd_T45 l0 x28_2).f2)
             ·rw [if_pos c40] at H
              have c40b0 : decide (0 ≤ ((rd_T45 l0 x28_2).f2)) = true := decide_eq_true c40
              clear c40
              by_cases c41 : ((rd_T45 l0 x28_2).f2) < (x1_2.length : Int)
              ·rw [if_pos c41] at H
               have c41b0 : decide (((rd_T45 l0 x28_2).f2) < (x1_2.length : Int)) = true := decide_eq_true c41
               clear c41
               by_cases c42 : 0 ≤ ((rd_T45 l0 x28_2).f1)
               ·rw [if_pos c42] at H
                have c42b0 : decide (0 ≤ ((rd_T45 l0 x28_2).f1)) = true := decide_eq_true c42
                clear c42
                by_cases c43 : ((rd_T45 l0 x28_2).f1) < (x1_2.length : Int)
                ·rw [if_pos c43] at H
                 have c43b0 : decide (((rd_T45 l0 x28_2).f1) < (x1_2.length : Int)) = true := decide_eq_true c43
                 clear c43
                 obtain ⟨y365, hy365⟩ : ∃ y_ : List Int, y_ = (x1_2.set (((rd_T45 l0 x28_2).f1) : Int).toNat (rd x1_2 ((rd_T45 l0 x28_2).f2))) := ⟨_, rfl⟩
                 replace H : (impl_RunCode.l0 k2 y365 x7_2 l0 (l0.length : Int) (wrap64 (x28_2 + 1))) = some (r1, r2, r3) := by first | (rw [hy365]; with_reducible exact H) | (have H2_ := (Option.bind_some _ _).symm.trans H; rw [hy365]; with_reducible exact H2_) | (have H2_ := (Option.bind_some _ _).symm.trans H; with_reducible exact H2_) | with_reducible exact H | (rw [hy365]; exact H) | exact H
                 have Ny365 := Aside0.mk hy365
                 clear hy365
                 have H' := Aside0.mk H
                 clear H
                 have p357 : 0 ≤ (x28_2 : Int) := of_decide_eq_true (by first | (with_reducible assumption) | assumption)
                 have q357 : x28_2 < (l0.length : Int) := of_decide_eq_true (by first | (with_reducible assumption) | assumption)
                 obtain ⟨ad357, e357, hx357_0, hx357_1, hx357_2, hx357_3, hx357_4⟩ := at_T45 HR0.out x28_2 p357 q357
                 cases e357
                 replace hx357_0 := (HB.out.cell (World.block_lt_of_cell? w _ hx357_0)).trans hx357_0
                 replace hx357_1 := (HB.out.cell (World.block_lt_of_cell? w _ hx357_1)).trans hx357_1
                 replace hx357_2 := (HB.out.cell (World.block_lt_of_cell? w _ hx357_2)).trans hx357_2
                 replace hx357_3 := (HB.out.cell (World.block_lt_of_cell? w _ hx357_3)).trans hx357_3
                 replace hx357_4 := (HB.out.cell (World.block_lt_of_cell? w _ hx357_4)).trans hx357_4
                 replace p357 := eq_true p357
                 replace q357 := eq_true q357
                 try go_wp2_with (first | ((with_reducible refine gate_dst (N := 9) rfl ?_); (try (refine gate_guard (by rfl) ?_; dsimp only)); refine box_event ?hg (N := 9) ?hd (cs := #[.int .i64 0, .int .i64 0, .int .i64 0, .int .i64 0, .int .i64 0]) (t := 45) ?hr ?_; (case hd => rfl); (case hg => rfl); (case hr => first | (go_simp; done) | (go_simp; rfl)); intro gb358 hg w45 hbox hb; have n0_ := Aside0.mk (Kd.R_below (by (with_reducible repeat (first | apply Kd.R_alloc | apply Kd.R_drewN | apply Kd.R_drew)); exact HO_1.out) hb); have n1_ := Aside0.mk (Kd.R_below (by (with_reducible repeat (first | apply Kd.R_alloc | apply Kd.R_drewN | apply Kd.R_drew)); exact HO_7.out) hb); have n2_ := Aside0.mk (below_step (by repeat (first | (with_reducible first | exact HB.out | apply below_alloc | apply pw_below_drewN | apply below_drew1) | exact HB.out)) hb); have n3_ := Aside0.mk (hbox); have n4_ := Aside0.mk ((by rw [hg]; exact (below_size (by repeat (first | (with_reducible first | exact HB.out | apply below_alloc | apply pw_below_drewN | apply below_drew1) | exact HB.out))) : w.heap.size ≤ gb358)); have n5_ := Aside0.mk ((by rw [hg]; exact (below_size (by repeat (first | (with_reducible first | exact HB.out | apply below_alloc | apply pw_below_drewN | apply below_drew1) | exact HB.out))) : w.heap.size ≤ gb358)); clear HO_1; clear HO_7; clear HB; have HO_1 := n0_; have HO_7 := n1_; have HB := n2_; have BK358 := n3_; have GW358 := n4_; have GE358 := n5_; clear n0_ n1_ n2_ n3_ n4_ n5_; clear hb hbox hg; have hcz46_0 : w45.cell? ⟨gb358, 0, none⟩ = some (.int .i64 0) := (blk_cell BK358.out 0).trans rfl; have hcz46_1 : w45.cell? ⟨gb358, 1, none⟩ = some (.int .i64 0) := (blk_cell BK358.out 1).trans rfl; have hcz46_2 : w45.cell? ⟨gb358, 2, none⟩ = some (.int .i64 0) := (blk_cell BK358.out 2).trans rfl; have hcz46_3 : w45.cell? ⟨gb358, 3, none⟩ = some (.int .i64 0) := (blk_cell BK358.out 3).trans rfl; have hcz46_4 : w45.cell? ⟨gb358, 4, none⟩ = some (.int .i64 0) := (blk_cell BK358.out 4).trans rfl; have hfz46_0 := blk_frozen BK358.out 0; have hfz46_1 := blk_frozen BK358.out 1; have hfz46_2 := blk_frozen BK358.out 2; have hfz46_3 := blk_frozen BK358.out 3; have hfz46_4 := blk_frozen BK358.out 4))
                 have n0_ : Aside0 (Kd.R (Kd.int .i64) 3 (((((w45.setCell ⟨gb358, 0, none⟩ (.int .i64 ((rd_T45 l0 x28_2).f0))).setCell ⟨gb358, 1, none⟩ (.int .i64 ((rd_T45 l0 x28_2).f1))).setCell ⟨gb358, 2, none⟩ (.int .i64 ((rd_T45 l0 x28_2).f2))).setCell ⟨gb358, 3, none⟩ (.int .i64 ((rd_T45 l0 x28_2).f3))).setCell ⟨gb358, 4, none⟩ (.int .i64 ((rd_T45 l0 x28_2).f4))) w.heap.size (fun k_ => some k_ ≠ (u7 : Value).ownBlock) v352 x1_2) := ⟨by (with_reducible repeat (first | apply Kd.R_alloc | apply Kd.R_drewN | apply Kd.R_drew)); exact Kd.R_mono (Kd.R_far (p := ⟨gb358, 4, none⟩) (Kd.R_far (p := ⟨gb358, 3, none⟩) (Kd.R_far (p := ⟨gb358, 2, none⟩) (Kd.R_far (p := ⟨gb358, 1, none⟩) (Kd.R_far (p := ⟨gb358, 0, none⟩) (Kd.R_types HO_1.out BK358.out (by decide)) (fun _ hk => hk.2) (.int .i64 ((rd_T45 l0 x28_2).f0))) (fun _ hk => hk.2) (.int .i64 ((rd_T45 l0 x28_2).f1))) (fun _ hk => hk.2) (.int .i64 ((rd_T45 l0 x28_2).f2))) (fun _ hk => hk.2) (.int .i64 ((rd_T45 l0 x28_2).f3))) (fun _ hk => hk.2) (.int .i64 ((rd_T45 l0 x28_2).f4))) (fun _ hk => hk.1)⟩
                 have n1_ : Aside0 (Kd.R (Kd.int .i64) 3 (((((w45.setCell ⟨gb358, 0, none⟩ (.int .i64 ((rd_T45 l0 x28_2).f0))).setCell ⟨gb358, 1, none⟩ (.int .i64 ((rd_T45 l0 x28_2).f1))).setCell ⟨gb358, 2, none⟩ (.int .i64 ((rd_T45 l0 x28_2).f2))).setCell ⟨gb358, 3, none⟩ (.int .i64 ((rd_T45 l0 x28_2).f3))).setCell ⟨gb358, 4, none⟩ (.int .i64 ((rd_T45 l0 x28_2).f4))) w.heap.size (fun k_ => some k_ ≠ (v352 : Value).ownBlock) u7 x7_2) := ⟨by (with_reducible repeat (first | apply Kd.R_alloc | apply Kd.R_drewN | apply Kd.R_drew)); exact Kd.R_mono (Kd.R_far (p := ⟨gb358, 4, none⟩) (Kd.R_far (p := ⟨gb358, 3, none⟩) (Kd.R_far (p := ⟨gb358, 2, none⟩) (Kd.R_far (p := ⟨gb358, 1, none⟩) (Kd.R_far (p := ⟨gb358, 0, none⟩) (Kd.R_types HO_7.out BK358.out (by decide)) (fun _ hk => hk.2) (.int .i64 ((rd_T45 l0 x28_2).f0))) (fun _ hk => hk.2) (.int .i64 ((rd_T45 l0 x28_2).f1))) (fun _ hk => hk.2) (.int .i64 ((rd_T45 l0 x28_2).f2))) (fun _ hk => hk.2) (.int .i64 ((rd_T45 l0 x28_2).f3))) (fun _ hk => hk.2) (.int .i64 ((rd_T45 l0 x28_2).f4))) (fun _ hk => hk.1)⟩
                 have n2_ : Aside0 ((((((w45.setCell ⟨gb358, 0, none⟩ (.int .i64 ((rd_T45 l0 x28_2).f0))).setCell ⟨gb358, 1, none⟩ (.int .i64 ((rd_T45 l0 x28_2).f1))).setCell ⟨gb358, 2, none⟩ (.int .i64 ((rd_T45 l0 x28_2).f2))).setCell ⟨gb358, 3, none⟩ (.int .i64 ((rd_T45 l0 x28_2).f3))).setCell ⟨gb358, 4, none⟩ (.int .i64 ((rd_T45 l0 x28_2).f4))).heap[gb358]? = some (.cells #[.int .i64 ((rd_T45 l0 x28_2).f0), .int .i64 ((rd_T45 l0 x28_2).f1), .int .i64 ((rd_T45 l0 x28_2).f2), .int .i64 ((rd_T45 l0 x28_2).f3), .int .i64 ((rd_T45 l0 x28_2).f4)] 45 (0, 0))) := ⟨by (with_reducible repeat (first | refine blk_drewN ?_ _ | refine blk_drew ?_ | refine blk_alloc ?_ _)); refine blk_put (cs := #[.int .i64 ((rd_T45 l0 x28_2).f0), .int .i64 ((rd_T45 l0 x28_2).f1), .int .i64 ((rd_T45 l0 x28_2).f2), .int .i64 ((rd_T45 l0 x28_2).f3), .int .i64 0]) ?_ 4 _ rfl; (with_reducible repeat (first | refine blk_drewN ?_ _ | refine blk_drew ?_ | refine blk_alloc ?_ _)); refine blk_put (cs := #[.int .i64 ((rd_T45 l0 x28_2).f0), .int .i64 ((rd_T45 l0 x28_2).f1), .int .i64 ((rd_T45 l0 x28_2).f2), .int .i64 0, .int .i64 0]) ?_ 3 _ rfl; (with_reducible repeat (first | refine blk_drewN ?_ _ | refine blk_drew ?_ | refine blk_alloc ?_ _)); refine blk_put (cs := #[.int .i64 ((rd_T45 l0 x28_2).f0), .int .i64 ((rd_T45 l0 x28_2).f1), .int .i64 0, .int .i64 0, .int .i64 0]) ?_ 2 _ rfl; (with_reducible repeat (first | refine blk_drewN ?_ _ | refine blk_drew ?_ | refine blk_alloc ?_ _)); refine blk_put (cs := #[.int .i64 ((rd_T45 l0 x28_2).f0), .int .i64 0, .int .i64 0, .int .i64 0, .int .i64 0]) ?_ 1 _ rfl; (with_reducible repeat (first | refine blk_drewN ?_ _ | refine blk_drew ?_ | refine blk_alloc ?_ _)); refine blk_put (cs := #[.int .i64 0, .int .i64 0, .int .i64 0, .int .i64 0, .int .i64 0]) ?_ 0 _ rfl; (with_reducible repeat (first | refine blk_drewN ?_ _ | refine blk_drew ?_ | refine blk_alloc ?_ _)); exact BK358.out⟩
                 have n3_ : Aside0 (Below w.heap.size w (((((w45.setCell ⟨gb358, 0, none⟩ (.int .i64 ((rd_T45 l0 x28_2).f0))).setCell ⟨gb358, 1, none⟩ (.int .i64 ((rd_T45 l0 x28_2).f1))).setCell ⟨gb358, 2, none⟩ (.int .i64 ((rd_T45 l0 x28_2).f2))).setCell ⟨gb358, 3, none⟩ (.int .i64 ((rd_T45 l0 x28_2).f3))).setCell ⟨gb358, 4, none⟩ (.int .i64 ((rd_T45 l0 x28_2).f4)))) := ⟨by repeat (first | (with_reducible first | exact HB.out | apply below_alloc | apply pw_below_drewN | apply below_drew1 | refine below_set ?_ GE358.out) | exact HB.out)⟩
                 (try clear HO_1)
                 (try clear HO_7)
                 (try clear BK358)
                 (try clear HB)
                 generalize (((((w45.setCell ⟨gb358, 0, none⟩ (.int .i64 ((rd_T45 l0 x28_2).f0))).setCell ⟨gb358, 1, none⟩ (.int .i64 ((rd_T45 l0 x28_2).f1))).setCell ⟨gb358, 2, none⟩ (.int .i64 ((rd_T45 l0 x28_2).f2))).setCell ⟨gb358, 3, none⟩ (.int .i64 ((rd_T45 l0 x28_2).f3))).setCell ⟨gb358, 4, none⟩ (.int .i64 ((rd_T45 l0 x28_2).f4))) = w47 at n0_ n1_ n2_ n3_ ⊢
                 have HO_1 := n0_
                 have HO_7 := n1_
                 have BK358 := n2_
                 have HB := n3_
                 clear n0_ n1_ n2_ n3_
                 have n0_ := Aside0.mk (Kd.R_drew HO_1.out)
                 have n1_ := Aside0.mk (Kd.R_drew HO_7.out)
                 have n2_ := Aside0.mk (blk_drew BK358.out)
                 have n3_ := Aside0.mk (below_drew1 HB.out)
                 clear HO_1
                 clear HO_7
                 clear BK358
                 clear HB
                 have HO_1 := n0_
                 have HO_7 := n1_
                 have BK358 := n2_
                 have HB := n3_
                 clear n0_ n1_ n2_ n3_
                 obtain ⟨Ao49, co49, eo49⟩ := Kd.R_slice HO_1.out
                 (first | subst eo49 | (injection eo49 with f1_ f2_ f3_; have f4_ := f1_.symm; have f5_ := f3_.symm; clear f1_ f2_ f3_; subst f4_; subst f5_))
                 have p364 : 0 ≤ (((rd_T45 l0 x28_2).f2) : Int) := of_decide_eq_true (by first | (with_reducible assumption) | assumption)
                 have q364 : ((rd_T45 l0 x28_2).f2) < (x1_2.length : Int) := of_decide_eq_true (by first | (with_reducible assumption) | assumption)
                 obtain ⟨ad364, e364, hx364_0⟩ := Kd.at_int (Kd.R_reads' HO_1.out).2.2 ((rd_T45 l0 x28_2).f2) p364 q364
                 cases e364
                 replace p364 := eq_true p364
                 replace q364 := eq_true q364
                 have p44 : 0 ≤ (((rd_T45 l0 x28_2).f1) : Int) := of_decide_eq_true (by first | (with_reducible assumption) | assumption)
                 have q44 : (((rd_T45 l0 x28_2).f1) : Int) < ((x1_2.length : Int) : Int) := of_decide_eq_true (by first | (with_reducible assumption) | assumption)
                 obtain ⟨go44, co44, eo44, gb44, gl44, cl44, HG44⟩ := Kd.R_form HO_1.out (by omega)
                 (first | cases eo44 | (injection eo44 with ea_ en_ ec_; (first | subst ea_ | (injection ea_ with ea_; subst ea_)); subst ec_; clear en_))
                 have GB44 := Aside0.mk gb44
                 have GG44 := Aside0.mk HG44
                 clear gb44 gl44 HG44
                 (first | simp only [add_plain] at hx364_0 | skip)
                 obtain ⟨hx44_0, hf44_0⟩ := Kd.R_celln 0 HO_1.out (((rd_T45 l0 x28_2).f1) : Int) p44 q44
                 replace p44 := eq_true p44
                 replace q44 := eq_true q44
                 have HP50 := Kd.R_putn HO_1.out (((rd_T45 l0 x28_2).f1) : Int) (rd x1_2 ((rd_T45 l0 x28_2).f2))
                 rw [← Ny365.out] at HP50
                 have HQ50 := Aside0.mk HP50
                 clear HP50
                 refine start_ (n := 10) (S := fun w' => w'.cell? ⟨gb358, 0, none⟩ = some (.int .i64 ((rd_T45 l0 x28_2).f0)) ∧ w'.cell? ⟨gb358, 1, none⟩ = some (.int .i64 ((rd_T45 l0 x28_2).f1)) ∧ w'.cell? ⟨gb358, 2, none⟩ = some (.int .i64 ((rd_T45 l0 x28_2).f2)) ∧ w'.cell? ⟨gb358, 3, none⟩ = some (.int .i64 ((rd_T45 l0 x28_2).f3)) ∧ w'.cell? ⟨gb358, 4, none⟩ = some (.int .i64 ((rd_T45 l0 x28_2).f4)) ∧ w'.cell? ⟨go44, (((rd_T45 l0 x28_2).f2)).toNat, none⟩ = some (.int .i64 (rd x1_2 ((rd_T45 l0 x28_2).f2)))) (ds := [9]) #[false, false, false, false, false, false, false, false, false, false] (by kernel_rfl) rfl rfl ⟨(blk_cell BK358.out 0).trans rfl, (blk_cell BK358.out 1).trans rfl, (blk_cell BK358.out 2).trans rfl, (blk_cell BK358.out 3).trans rfl, (blk_cell BK358.out 4).trans rfl, hx364_0⟩ (fun hHeld => ?_); refine with_tabW impl_RunCode.tab15 impl_RunCode.bits15 (fun HT_ HW_ => ?_)
                 generalize w47.drew = w48 at HO_1 HO_7 BK358 HB GG44 HQ50 hf44_0 hx364_0 hx44_0 hHeld ⊢
                 refine pure_ (i := 0) (N := some 71) (v := ?_) (a' := ?_) #[true, false, false, false, false, false, false, false, false, false] rfl rfl (any_of HT_.out (by kernel_rfl)) (fun _ _ _ h => h) (Or.inl ⟨by rfl, ?_⟩) ?_ ?_
                 rotate_left
                 ·intro w'
                  go_simp
                  with_reducible rfl
                 rotate_left
                 ·simp only [Act.put, List.setIfInBounds_toArray, List.set_cons_zero, List.set_cons_succ, i64_w, i32_w]
                  rfl
                 refine pure_ (i := 1) (N := some 72) (v := ?_) (a' := ?_) #[true, true, false, false, false, false, false, false, false, false] rfl rfl (any_of HT_.out (by kernel_rfl)) (fun _ _ _ h => h) (Or.inl ⟨by rfl, ?_⟩) ?_ ?_
                 rotate_left
                 ·intro w'
                  go_simp
                  with_reducible rfl
                 rotate_left
                 ·simp only [Act.put, List.setIfInBounds_toArray, List.set_cons_zero, List.set_cons_succ, i64_w, i32_w]
                  rfl
                 refine pure_ (i := 3) (N := some 74) (v := ?_) (a' := ?_) #[true, true, false, true, false, false, false, false, false, false] rfl rfl (any_of HT_.out (by kernel_rfl)) (fun _ _ _ h => h) (Or.inl ⟨by rfl, ?_⟩) ?_ ?_
                 rotate_left
                 ·intro w'
                  go_simp
                  with_reducible rfl
                 rotate_left
                 ·simp only [Act.put, List.setIfInBounds_toArray, List.set_cons_zero, List.set_cons_succ, i64_w, i32_w]
                  rfl
                 refine pure_ (i := 4) (N := some 75) (v := ?_) (a' := ?_) #[true, true, false, true, true, false, false, false, false, false] rfl rfl (any_of HT_.out (by kernel_rfl)) (fun _ _ _ h => h) (Or.inl ⟨by rfl, ?_⟩) ?_ ?_
                 rotate_left
                 ·intro w'
                  go_simp
                  with_reducible rfl
                 rotate_left
                 ·simp only [Act.put, List.setIfInBounds_toArray, List.set_cons_zero, List.set_cons_succ, i64_w, i32_w]
                  rfl
                 refine take_ (i := 2) (N := some 73) (v := ?_) (a' := ?_) #[true, true, true, true, true, false, false, false, false, false] rfl rfl (take_ofW HT_.out HW_.out (by kernel_rfl)) (fun _ _ _ h => h) (Or.inl ⟨by rfl, ?_⟩) hHeld ?_ ?_
                 rotate_left
                 ·rintro w' ⟨s0, s1, s2, s3, s4, s5⟩
                  go_simp
                  with_reducible rfl
                 rotate_left
                 ·simp only [Act.put, List.setIfInBounds_toArray, List.set_cons_zero, List.set_cons_succ, i64_w, i32_w]
                  rfl
                 refine take_ (i := 5) (N := some 76) (v := ?_) (a' := ?_) #[true, true, true, true, true, true, false, false, false, false] rfl rfl (take_ofW HT_.out HW_.out (by kernel_rfl)) (fun _ _ _ h => h) (Or.inl ⟨by rfl, ?_⟩) hHeld ?_ ?_
                 rotate_left
                 ·rintro w' ⟨s0, s1, s2, s3, s4, s5⟩
                  go_simp
                  with_reducible rfl
                 rotate_left
                 ·simp only [Act.put, List.setIfInBounds_toArray, List.set_cons_zero, List.set_cons_succ, i64_w, i32_w]
                  rfl
                 refine pure_ (i := 6) (N := some 77) (v := ?_) (a' := ?_) #[true, true, true, true, true, true, true, false, false, false] rfl rfl (any_of HT_.out (by kernel_rfl)) (fun _ _ _ h => h) (Or.inl ⟨by rfl, ?_⟩) ?_ ?_
                 rotate_left
                 ·intro w'
                  go_simp
                  with_reducible rfl
                 rotate_left
                 ·simp only [Act.put, List.setIfInBounds_toArray, List.set_cons_zero, List.set_cons_succ, i64_w, i32_w]
                  rfl
                 refine take_ (i := 7) (N := some 78) (v := ?_) (a' := ?_) #[true, true, true, true, true, true, true, true, false, false] rfl rfl (take_ofW HT_.out HW_.out (by kernel_rfl)) (fun _ _ _ h => h) (Or.inl ⟨by rfl, ?_⟩) hHeld ?_ ?_
                 rotate_left
                 ·rintro w' ⟨s0, s1, s2, s3, s4, s5⟩
                  go_simp
                  with_reducible rfl
                 rotate_left
                 ·simp only [Act.put, List.setIfInBounds_toArray, List.set_cons_zero, List.set_cons_succ, i64_w, i32_w]
                  rfl
                 refine pure_ (i := 8) (N := some 79) (v := ?_) (a' := ?_) #[true, true, true, true, true, true, true, true, true, false] rfl rfl (any_of HT_.out (by kernel_rfl)) (fun _ _ _ h => h) (Or.inl ⟨by rfl, ?_⟩) ?_ ?_
                 rotate_left
                 ·intro w'
                  go_simp
                  with_reducible rfl
                 rotate_left
                 ·simp only [Act.put, List.setIfInBounds_toArray, List.set_cons_zero, List.set_cons_succ, i64_w, i32_w]
                  rfl
                 refine last_ (i := 9) (N := none) #[true, true, true, true, true, true, true, true, true, true] rfl rfl (one_of HT_.out (by kernel_rfl)) (by decide) (fun K hK => ?_)
                 refine skip_ (w1 := ?_) (by rfl) rfl ?_ ?_
                 rotate_left
                 ·go_simp
                  rfl
                 refine hK.out _ _ ?_
                 clear hK K
                 refine done_ (done_of HT_.out (by kernel_rfl)) ?_
                 try go_wp2
                 go_roundg k2
                 case measure => have := HJ2.out; have := HK2.out; omega
                 case rel => exact ⟨(y365), (x7_2), (wrap64 (x28_2 + 1)), (by first | rfl | (simp; done) | (simp [*]; done)), H', ⟨by have := HJ2.out; have := HK2.out; omega⟩, ⟨by (with_reducible repeat (first | apply Kd.R_alloc | apply Kd.R_drewN | apply Kd.R_drew)); exact HQ50.out⟩, ⟨by (with_reducible repeat (first | apply Kd.R_alloc | apply Kd.R_drewN | apply Kd.R_drew)); exact Kd.R_mono (Kd.R_far (p := ⟨go44, (((rd_T45 l0 x28_2).f1) : Int).toNat, none⟩) (Kd.R_mono HO_7.out (fun k_ hk => (⟨hk, fun e_ => hk (by rw [e_]; rfl)⟩ : _ ∧ k_ ≠ go44))) (fun _ hk => hk.2) (.int .i64 (rd x1_2 ((rd_T45 l0 x28_2).f2)))) (fun _ hk => hk.1)⟩, ⟨by repeat (first | (with_reducible first | exact HB.out | apply below_alloc | apply pw_below_drewN | apply below_drew1 | refine below_set ?_ GB44.out | refine below_set ?_ GE358.out) | exact HB.out)⟩⟩
                ·rw [if_neg c43] at H
                 exact absurd H (by simp)
               ·rw [if_neg c42] at H
                exact absurd H (by simp)
              ·rw [if_neg c41] at H
               exact absurd H (by simp)
             ·rw [if_neg c40] at H
              exact absurd H (by simp)
            ·rw [if_neg c39] at H
             have c39b0 : (((rd_T45 l0 x28_2).f0) == 2) = false := beq_eq_false_iff_ne.mpr c39
             have c39b1 : (((rd_T45 l0 x28_2).f0) != 2) = true := bne_iff_ne.mpr c39
             by_cases c51 : 0 ≤ ((rd_T45 l0 x28_2).f2)
             ·rw [if_pos c51] at H
              have c51b0 : decide (0 ≤ ((rd_T45 l0 x28_2).f2)) = true := decide_eq_true c51
              clear c51
              by_cases c52 : ((rd_T45 l0 x28_2).f2) < (x1_2.length : Int)
              ·rw [if_pos c52] at H
               have c52b0 : decide (((rd_T45 l0 x28_2).f2) < (x1_2.length : Int)) = true := decide_eq_true c52
               clear c52
               by_cases c53 : 0 ≤ ((rd_T45 l0 x28_2).f3)
               ·rw [if_pos c53] at H
                have c53b0 : decide (0 ≤ ((rd_T45 l0 x28_2).f3)) = true := decide_eq_true c53
                clear c53
                by_cases c54 : ((rd_T45 l0 x28_2).f3) < (x1_2.length : Int)
                ·rw [if_pos c54] at H
                 have c54b0 : decide (((rd_T45 l0 x28_2).f3) < (x1_2.length : Int)) = true := decide_eq_true c54
                 clear c54
                 replace H := Option.bind_eq_some_iff.mp H
                 obtain ⟨t368, A550, H⟩ := H
                 replace H : (if 0 ≤ ((rd_T45 l0 x28_2).f1) then (if ((rd_T45 l0 x28_2).f1) < (x1_2.length : Int) then (impl_RunCode.l0 k2 (x1_2.set (((rd_T45 l0 x28_2).f1) : Int).toNat t368) x7_2 l0 (l0.length : Int) (wrap64 (x28_2 + 1))) else (none)) else (none)) = some (r1, r2, r3) := H
                 have A55 := Aside0.mk A550
                 clear A550
                 by_cases c56 : 0 ≤ ((rd_T45 l0 x28_2).f1)
                 ·rw [if_pos c56] at H
                  have c56b0 : decide (0 ≤ ((rd_T45 l0 x28_2).f1)) = true := decide_eq_true c56
                  clear c56
                  by_cases c57 : ((rd_T45 l0 x28_2).f1) < (x1_2.length : Int)
                  ·rw [if_pos c57] at H
                   have c57b0 : decide (((rd_T45 l0 x28_2).f1) < (x1_2.length : Int)) = true := decide_eq_true c57
                   clear c57
                   obtain ⟨y369, hy369⟩ : ∃ y_ : List Int, y_ = (x1_2.set (((rd_T45 l0 x28_2).f1) : Int).toNat t368) := ⟨_, rfl⟩
                   replace H : (impl_RunCode.l0 k2 y369 x7_2 l0 (l0.length : Int) (wrap64 (x28_2 + 1))) = some (r1, r2, r3) := by first | (rw [hy369]; with_reducible exact H) | (have H2_ := (Option.bind_some _ _).symm.trans H; rw [hy369]; with_reducible exact H2_) | (have H2_ := (Option.bind_some _ _).symm.trans H; with_reducible exact H2_) | with_reducible exact H | (rw [hy369]; exact H) | exact H
                   have Ny369 := Aside0.mk hy369
                   clear hy369
                   have H' := Aside0.mk H
                   clear H
                   have p357 : 0 ≤ (x28_2 : Int) := of_decide_eq_true (by first | (with_reducible assumption) | assumption)
                   have q357 : x28_2 < (l0.length : Int) := of_decide_eq_true (by first | (with_reducible assumption) | assumption)
                   obtain ⟨ad357, e357, hx357_0, hx357_1, hx357_2, hx357_3, hx357_4⟩ := at_T45 HR0.out x28_2 p357 q357
                   cases e357
                   replace hx357_0 := (HB.out.cell (World.block_lt_of_cell? w _ hx357_0)).trans hx357_0
                   replace hx357_1 := (HB.out.cell (World.block_lt_of_cell? w _ hx357_1)).trans hx357_1
                   replace hx357_2 := (HB.out.cell (World.block_lt_of_cell? w _ hx357_2)).trans hx357_2
                   replace hx357_3 := (HB.out.cell (World.block_lt_of_cell? w _ hx357_3)).trans hx357_3
                   replace hx357_4 := (HB.out.cell (World.block_lt_of_cell? w _ hx357_4)).trans hx357_4
                   replace p357 := eq_true p357
                   replace q357 := eq_true q357
                   try go_wp2_with (first | ((with_reducible refine gate_dst (N := 9) rfl ?_); (try (refine gate_guard (by rfl) ?_; dsimp only)); refine box_event ?hg (N := 9) ?hd (cs := #[.int .i64 0, .int .i64 0, .int .i64 0, .int .i64 0, .int .i64 0]) (t := 45) ?hr ?_; (case hd => rfl); (case hg => rfl); (case hr => first | (go_simp; done) | (go_simp; rfl)); intro gb358 hg w59 hbox hb; have n0_ := Aside0.mk (Kd.R_below (by (with_reducible repeat (first | apply Kd.R_alloc | apply Kd.R_drewN | apply Kd.R_drew)); exact HO_1.out) hb); have n1_ := Aside0.mk (Kd.R_below (by (with_reducible repeat (first | apply Kd.R_alloc | apply Kd.R_drewN | apply Kd.R_drew)); exact HO_7.out) hb); have n2_ := Aside0.mk (below_step (by repeat (first | (with_reducible first | exact HB.out | apply below_alloc | apply pw_below_drewN | apply below_drew1) | exact HB.out)) hb); have n3_ := Aside0.mk (hbox); have n4_ := Aside0.mk ((by rw [hg]; exact (below_size (by repeat (first | (with_reducible first | exact HB.out | apply below_alloc | apply pw_below_drewN | apply below_drew1) | exact HB.out))) : w.heap.size ≤ gb358)); have n5_ := Aside0.mk ((by rw [hg]; exact (below_size (by repeat (first | (with_reducible first | exact HB.out | apply below_alloc | apply pw_below_drewN | apply below_drew1) | exact HB.out))) : w.heap.size ≤ gb358)); clear HO_1; clear HO_7; clear HB; have HO_1 := n0_; have HO_7 := n1_; have HB := n2_; have BK358 := n3_; have GW358 := n4_; have GE358 := n5_; clear n0_ n1_ n2_ n3_ n4_ n5_; clear hb hbox hg; have hcz60_0 : w59.cell? ⟨gb358, 0, none⟩ = some (.int .i64 0) := (blk_cell BK358.out 0).trans rfl; have hcz60_1 : w59.cell? ⟨gb358, 1, none⟩ = some (.int .i64 0) := (blk_cell BK358.out 1).trans rfl; have hcz60_2 : w59.cell? ⟨gb358, 2, none⟩ = some (.int .i64 0) := (blk_cell BK358.out 2).trans rfl; have hcz60_3 : w59.cell? ⟨gb358, 3, none⟩ = some (.int .i64 0) := (blk_cell BK358.out 3).trans rfl; have hcz60_4 : w59.cell? ⟨gb358, 4, none⟩ = some (.int .i64 0) := (blk_cell BK358.out 4).trans rfl; have hfz60_0 := blk_frozen BK358.out 0; have hfz60_1 := blk_frozen BK358.out 1; have hfz60_2 := blk_frozen BK358.out 2; have hfz60_3 := blk_frozen BK358.out 3; have hfz60_4 := blk_frozen BK358.out 4))
                   have n0_ : Aside0 (Kd.R (Kd.int .i64) 3 (((((w59.setCell ⟨gb358, 0, none⟩ (.int .i64 ((rd_T45 l0 x28_2).f0))).setCell ⟨gb358, 1, none⟩ (.int .i64 ((rd_T45 l0 x28_2).f1))).setCell ⟨gb358, 2, none⟩ (.int .i64 ((rd_T45 l0 x28_2).f2))).setCell ⟨gb358, 3, none⟩ (.int .i64 ((rd_T45 l0 x28_2).f3))).setCell ⟨gb358, 4, none⟩ (.int .i64 ((rd_T45 l0 x28_2).f4))) w.heap.size (fun k_ => some k_ ≠ (u7 : Value).ownBlock) v352 x1_2) := ⟨by (with_reducible repeat (first | apply Kd.R_alloc | apply Kd.R_drewN | apply Kd.R_drew)); exact Kd.R_mono (Kd.R_far (p := ⟨gb358, 4, none⟩) (Kd.R_far (p := ⟨gb358, 3, none⟩) (Kd.R_far (p := ⟨gb358, 2, none⟩) (Kd.R_far (p := ⟨gb358, 1, none⟩) (Kd.R_far (p := ⟨gb358, 0, none⟩) (Kd.R_types HO_1.out BK358.out (by decide)) (fun _ hk => hk.2) (.int .i64 ((rd_T45 l0 x28_2).f0))) (fun _ hk => hk.2) (.int .i64 ((rd_T45 l0 x28_2).f1))) (fun _ hk => hk.2) (.int .i64 ((rd_T45 l0 x28_2).f2))) (fun _ hk => hk.2) (.int .i64 ((rd_T45 l0 x28_2).f3))) (fun _ hk => hk.2) (.int .i64 ((rd_T45 l0 x28_2).f4))) (fun _ hk => hk.1)⟩
                   have n1_ : Aside0 (Kd.R (Kd.int .i64) 3 (((((w59.setCell ⟨gb358, 0, none⟩ (.int .i64 ((rd_T45 l0 x28_2).f0))).setCell ⟨gb358, 1, none⟩ (.int .i64 ((rd_T45 l0 x28_2).f1))).setCell ⟨gb358, 2, none⟩ (.int .i64 ((rd_T45 l0 x28_2).f2))).setCell ⟨gb358, 3, none⟩ (.int .i64 ((rd_T45 l0 x28_2).f3))).setCell ⟨gb358, 4, none⟩ (.int .i64 ((rd_T45 l0 x28_2).f4))) w.heap.size (fun k_ => some k_ ≠ (v352 : Value).ownBlock) u7 x7_2) := ⟨by (with_reducible repeat (first | apply Kd.R_alloc | apply Kd.R_drewN | apply Kd.R_drew)); exact Kd.R_mono (Kd.R_far (p := ⟨gb358, 4, none⟩) (Kd.R_far (p := ⟨gb358, 3, none⟩) (Kd.R_far (p := ⟨gb358, 2, none⟩) (Kd.R_far (p := ⟨gb358, 1, none⟩) (Kd.R_far (p := ⟨gb358, 0, none⟩) (Kd.R_types HO_7.out BK358.out (by decide)) (fun _ hk => hk.2) (.int .i64 ((rd_T45 l0 x28_2).f0))) (fun _ hk => hk.2) (.int .i64 ((rd_T45 l0 x28_2).f1))) (fun _ hk => hk.2) (.int .i64 ((rd_T45 l0 x28_2).f2))) (fun _ hk => hk.2) (.int .i64 ((rd_T45 l0 x28_2).f3))) (fun _ hk => hk.2) (.int .i64 ((rd_T45 l0 x28_2).f4))) (fun _ hk => hk.1)⟩
                   have n2_ : Aside0 ((((((w59.setCell ⟨gb358, 0, none⟩ (.int .i64 ((rd_T45 l0 x28_2).f0))).setCell ⟨gb358, 1, none⟩ (.int .i64 ((rd_T45 l0 x28_2).f1))).setCell ⟨gb358, 2, none⟩ (.int .i64 ((rd_T45 l0 x28_2).f2))).setCell ⟨gb358, 3, none⟩ (.int .i64 ((rd_T45 l0 x28_2).f3))).setCell ⟨gb358, 4, none⟩ (.int .i64 ((rd_T45 l0 x28_2).f4))).heap[gb358]? = some (.cells #[.int .i64 ((rd_T45 l0 x28_2).f0), .int .i64 ((rd_T45 l0 x28_2).f1), .int .i64 ((rd_T45 l0 x28_2).f2), .int .i64 ((rd_T45 l0 x28_2).f3), .int .i64 ((rd_T45 l0 x28_2).f4)] 45 (0, 0))) := ⟨by (with_reducible repeat (first | refine blk_drewN ?_ _ | refine blk_drew ?_ | refine blk_alloc ?_ _)); refine blk_put (cs := #[.int .i64 ((rd_T45 l0 x28_2).f0), .int .i64 ((rd_T45 l0 x28_2).f1), .int .i64 ((rd_T45 l0 x28_2).f2), .int .i64 ((rd_T45 l0 x28_2).f3), .int .i64 0]) ?_ 4 _ rfl; (with_reducible repeat (first | refine blk_drewN ?_ _ | refine blk_drew ?_ | refine blk_alloc ?_ _)); refine blk_put (cs := #[.int .i64 ((rd_T45 l0 x28_2).f0), .int .i64 ((rd_T45 l0 x28_2).f1), .int .i64 ((rd_T45 l0 x28_2).f2), .int .i64 0, .int .i64 0]) ?_ 3 _ rfl; (with_reducible repeat (first | refine blk_drewN ?_ _ | refine blk_drew ?_ | refine blk_alloc ?_ _)); refine blk_put (cs := #[.int .i64 ((rd_T45 l0 x28_2).f0), .int .i64 ((rd_T45 l0 x28_2).f1), .int .i64 0, .int .i64 0, .int .i64 0]) ?_ 2 _ rfl; (with_reducible repeat (first | refine blk_drewN ?_ _ | refine blk_drew ?_ | refine blk_alloc ?_ _)); refine blk_put (cs := #[.int .i64 ((rd_T45 l0 x28_2).f0), .int .i64 0, .int .i64 0, .int .i64 0, .int .i64 0]) ?_ 1 _ rfl; (with_reducible repeat (first | refine blk_drewN ?_ _ | refine blk_drew ?_ | refine blk_alloc ?_ _)); refine blk_put (cs := #[.int .i64 0, .int .i64 0, .int .i64 0, .int .i64 0, .int .i64 0]) ?_ 0 _ rfl; (with_reducible repeat (first | refine blk_drewN ?_ _ | refine blk_drew ?_ | refine blk_alloc ?_ _)); exact BK358.out⟩
                   have n3_ : Aside0 (Below w.heap.size w (((((w59.setCell ⟨gb358, 0, none⟩ (.int .i64 ((rd_T45 l0 x28_2).f0))).setCell ⟨gb358, 1, none⟩ (.int .i64 ((rd_T45 l0 x28_2).f1))).setCell ⟨gb358, 2, none⟩ (.int .i64 ((rd_T45 l0 x28_2).f2))).setCell ⟨gb358, 3, none⟩ (.int .i64 ((rd_T45 l0 x28_2).f3))).setCell ⟨gb358, 4, none⟩ (.int .i64 ((rd_T45 l0 x28_2).f4)))) := ⟨by repeat (first | (with_reducible first | exact HB.out | apply below_alloc | apply pw_below_drewN | apply below_drew1 | refine below_set ?_ GE358.out) | exact HB.out)⟩
                   (try clear HO_1)
                   (try clear HO_7)
                   (try clear BK358)
                   (try clear HB)
                   generalize (((((w59.setCell ⟨gb358, 0, none⟩ (.int .i64 ((rd_T45 l0 x28_2).f0))).setCell ⟨gb358, 1, none⟩ (.int .i64 ((rd_T45 l0 x28_2).f1))).setCell ⟨gb358, 2, none⟩ (.int .i64 ((rd_T45 l0 x28_2).f2))).setCell ⟨gb358, 3, none⟩ (.int .i64 ((rd_T45 l0 x28_2).f3))).setCell ⟨gb358, 4, none⟩ (.int .i64 ((rd_T45 l0 x28_2).f4))) = w61 at n0_ n1_ n2_ n3_ ⊢
                   have HO_1 := n0_
                   have HO_7 := n1_
                   have BK358 := n2_
                   have HB := n3_
                   clear n0_ n1_ n2_ n3_
                   have n0_ := Aside0.mk (Kd.R_drew HO_1.out)
                   have n1_ := Aside0.mk (Kd.R_drew HO_7.out)
                   have n2_ := Aside0.mk (blk_drew BK358.out)
                   have n3_ := Aside0.mk (below_drew1 HB.out)
                   clear HO_1
                   clear HO_7
                   clear BK358
                   clear HB
                   have HO_1 := n0_
                   have HO_7 := n1_
                   have BK358 := n2_
                   have HB := n3_
                   clear n0_ n1_ n2_ n3_
                   obtain ⟨Ao63, co63, eo63⟩ := Kd.R_slice HO_1.out
                   (first | subst eo63 | (injection eo63 with f1_ f2_ f3_; have f4_ := f1_.symm; have f5_ := f3_.symm; clear f1_ f2_ f3_; subst f4_; subst f5_))
                   have p366 : 0 ≤ (((rd_T45 l0 x28_2).f2) : Int) := of_decide_eq_true (by first | (with_reducible assumption) | assumption)
                   have q366 : ((rd_T45 l0 x28_2).f2) < (x1_2.length : Int) := of_decide_eq_true (by first | (with_reducible assumption) | assumption)
                   obtain ⟨ad366, e366, hx366_0⟩ := Kd.at_int (Kd.R_reads' HO_1.out).2.2 ((rd_T45 l0 x28_2).f2) p366 q366
                   cases e366
                   replace p366 := eq_true p366
                   replace q366 := eq_true q366
                   have p367 : 0 ≤ (((rd_T45 l0 x28_2).f3) : Int) := of_decide_eq_true (by first | (with_reducible assumption) | assumption)
                   have q367 : ((rd_T45 l0 x28_2).f3) < (x1_2.length : Int) := of_decide_eq_true (by first | (with_reducible assumption) | assumption)
                   obtain ⟨ad367, e367, hx367_0⟩ := Kd.at_int (Kd.R_reads' HO_1.out).2.2 ((rd_T45 l0 x28_2).f3) p367 q367
                   obtain rfl : ad366 = ad367 := (by injection e367)
                   replace p367 := eq_true p367
                   replace q367 := eq_true q367
                   refine start_ (n := 18) (S := fun w' => w'.cell? ⟨gb358, 0, none⟩ = some (.int .i64 ((rd_T45 l0 x28_2).f0)) ∧ w'.cell? ⟨gb358, 1, none⟩ = some (.int .i64 ((rd_T45 l0 x28_2).f1)) ∧ w'.cell? ⟨gb358, 2, none⟩ = some (.int .i64 ((rd_T45 l0 x28_2).f2)) ∧ w'.cell? ⟨gb358, 3, none⟩ = some (.int .i64 ((rd_T45 l0 x28_2).f3)) ∧ w'.cell? ⟨gb358, 4, none⟩ = some (.int .i64 ((rd_T45 l0 x28_2).f4)) ∧ w'.cell? (ad366.add (((rd_T45 l0 x28_2).f2)).toNat) = some (.int .i64 (rd x1_2 ((rd_T45 l0 x28_2).f2))) ∧ w'.cell? (ad366.add (((rd_T45 l0 x28_2).f3)).toNat) = some (.int .i64 (rd x1_2 ((rd_T45 l0 x28_2).f3)))) (ds := [17]) #[false, false, false, false, false, false, false, false, false, false, false, false, false, false, false, false, false, false] (by kernel_rfl) rfl rfl ⟨(blk_cell BK358.out 0).trans rfl, (blk_cell BK358.out 1).trans rfl, (blk_cell BK358.out 2).trans rfl, (blk_cell BK358.out 3).trans rfl, (blk_cell BK358.out 4).trans rfl, hx366_0, hx367_0⟩ (fun hHeld => ?_); refine with_tabW impl_RunCode.tab9 impl_RunCode.bits9 (fun HT_ HW_ => ?_)
                   generalize w61.drew = w62 at HO_1 HO_7 BK358 HB hx366_0 hx367_0 hHeld ⊢
                   refine pure_ (i := 0) (N := some 34) (v := ?_) (a' := ?_) #[true, false, false, false, false, false, false, false, false, false, false, false, false, false, false, false, false, false] rfl rfl (any_of HT_.out (by kernel_rfl)) (fun _ _ _ h => h) (Or.inl ⟨by rfl, ?_⟩) ?_ ?_
                   rotate_left
                   ·intro w'
                    go_simp
                    with_reducible rfl
                   rotate_left
                   ·simp only [Act.put, List.setIfInBounds_toArray, List.set_cons_zero, List.set_cons_succ, i64_w, i32_w]
                    rfl
                   refine pure_ (i := 1) (N := some 35) (v := ?_) (a' := ?_) #[true, true, false, false, false, false, false, false, false, false, false, false, false, false, false, false, false, false] rfl rfl (any_of HT_.out (by kernel_rfl)) (fun _ _ _ h => h) (Or.inl ⟨by rfl, ?_⟩) ?_ ?_
                   rotate_left
                   ·intro w'
                    go_simp
                    with_reducible rfl
                   rotate_left
                   ·simp only [Act.put, List.setIfInBounds_toArray, List.set_cons_zero, List.set_cons_succ, i64_w, i32_w]
                    rfl
                   refine pure_ (i := 3) (N := some 37) (v := ?_) (a' := ?_) #[true, true, false, true, false, false, false, false, false, false, false, false, false, false, false, false, false, false] rfl rfl (any_of HT_.out (by kernel_rfl)) (fun _ _ _ h => h) (Or.inl ⟨by rfl, ?_⟩) ?_ ?_
                   rotate_left
                   ·intro w'
                    go_simp
                    with_reducible rfl
                   rotate_left
                   ·simp only [Act.put, List.setIfInBounds_toArray, List.set_cons_zero, List.set_cons_succ, i64_w, i32_w]
                    rfl
                   refine pure_ (i := 5) (N := some 39) (v := ?_) (a' := ?_) #[true, true, false, true, false, true, false, false, false, false, false, false, false, false, false, false, false, false] rfl rfl (any_of HT_.out (by kernel_rfl)) (fun _ _ _ h => h) (Or.inl ⟨by rfl, ?_⟩) ?_ ?_
                   rotate_left
                   ·intro w'
                    go_simp
                    with_reducible rfl
                   rotate_left
                   ·simp only [Act.put, List.setIfInBounds_toArray, List.set_cons_zero, List.set_cons_succ, i64_w, i32_w]
                    rfl
                   refine pure_ (i := 6) (N := some 40) (v := ?_) (a' := ?_) #[true, true, false, true, false, true, true, false, false, false, false, false, false, false, false, false, false, false] rfl rfl (any_of HT_.out (by kernel_rfl)) (fun _ _ _ h => h) (Or.inl ⟨by rfl, ?_⟩) ?_ ?_
                   rotate_left
                   ·intro w'
                    go_simp
                    with_reducible rfl
                   rotate_left
                   ·simp only [Act.put, List.setIfInBounds_toArray, List.set_cons_zero, List.set_cons_succ, i64_w, i32_w]
                    rfl
                   refine pure_ (i := 10) (N := some 44) (v := ?_) (a' := ?_) #[true, true, false, true, false, true, true, false, false, false, true, false, false, false, false, false, false, false] rfl rfl (any_of HT_.out (by kernel_rfl)) (fun _ _ _ h => h) (Or.inl ⟨by rfl, ?_⟩) ?_ ?_
                   rotate_left
                   ·intro w'
                    go_simp
                    with_reducible rfl
                   rotate_left
                   ·simp only [Act.put, List.setIfInBounds_toArray, List.set_cons_zero, List.set_cons_succ, i64_w, i32_w]
                    rfl
                   refine pure_ (i := 11) (N := some 45) (v := ?_) (a' := ?_) #[true, true, false, true, false, true, true, false, false, false, true, true, false, false, false, false, false, false] rfl rfl (any_of HT_.out (by kernel_rfl)) (fun _ _ _ h => h) (Or.inl ⟨by rfl, ?_⟩) ?_ ?_
                   rotate_left
                   ·intro w'
                    go_simp
                    with_reducible rfl
                   rotate_left
                   ·simp only [Act.put, List.setIfInBounds_toArray, List.set_cons_zero, List.set_cons_succ, i64_w, i32_w]
                    rfl
                   refine take_ (i := 2) (N := some 36) (v := ?_) (a' := ?_) #[true, true, true, true, false, true, true, false, false, false, true, true, false, false, false, false, false, false] rfl rfl (take_ofW HT_.out HW_.out (by kernel_rfl)) (fun _ _ _ h => h) (Or.inl ⟨by rfl, ?_⟩) hHeld ?_ ?_
                   rotate_left
                   ·rintro w' ⟨s0, s1, s2, s3, s4, s5, s6⟩
                    go_simp
                    with_reducible rfl
                   rotate_left
                   ·simp only [Act.put, List.setIfInBounds_toArray, List.set_cons_zero, List.set_cons_succ, i64_w, i32_w]
                    rfl
                   refine take_ (i := 4) (N := some 38) (v := ?_) (a' := ?_) #[true, true, true, true, true, true, true, false, false, false, true, true, false, false, false, false, false, false] rfl rfl (take_ofW HT_.out HW_.out (by kernel_rfl)) (fun _ _ _ h => h) (Or.inl ⟨by rfl, ?_⟩) hHeld ?_ ?_
                   rotate_left
                   ·rintro w' ⟨s0, s1, s2, s3, s4, s5, s6⟩
                    go_simp
                    with_reducible rfl
                   rotate_left
                   ·simp only [Act.put, List.setIfInBounds_toArray, List.set_cons_zero, List.set_cons_succ, i64_w, i32_w]
                    rfl
                   refine take_ (i := 7) (N := some 41) (v := ?_) (a' := ?_) #[true, true, true, true, true, true, true, true, false, false, true, true, false, false, false, false, false, false] rfl rfl (take_ofW HT_.out HW_.out (by kernel_rfl)) (fun _ _ _ h => h) (Or.inl ⟨by rfl, ?_⟩) hHeld ?_ ?_
                   rotate_left
                   ·rintro w' ⟨s0, s1, s2, s3, s4, s5, s6⟩
                    go_simp
                    with_reducible rfl
                   rotate_left
                   ·simp only [Act.put, List.setIfInBounds_toArray, List.set_cons_zero, List.set_cons_succ, i64_w, i32_w]
                    rfl
                   refine pure_ (i := 8) (N := some 42) (v := ?_) (a' := ?_) #[true, true, true, true, true, true, true, true, true, false, true, true, false, false, false, false, false, false] rfl rfl (any_of HT_.out (by kernel_rfl)) (fun _ _ _ h => h) (Or.inl ⟨by rfl, ?_⟩) ?_ ?_
                   rotate_left
                   ·intro w'
                    go_simp
                    with_reducible rfl
                   rotate_left
                   ·simp only [Act.put, List.setIfInBounds_toArray, List.set_cons_zero, List.set_cons_succ, i64_w, i32_w]
                    rfl
                   refine take_ (i := 9) (N := some 43) (v := ?_) (a' := ?_) #[true, true, true, true, true, true, true, true, true, true, true, true, false, false, false, false, false, false] rfl rfl (take_ofW HT_.out HW_.out (by kernel_rfl)) (fun _ _ _ h => h) (Or.inl ⟨by rfl, ?_⟩) hHeld ?_ ?_
                   rotate_left
                   ·rintro w' ⟨s0, s1, s2, s3, s4, s5, s6⟩
                    go_simp
                    with_reducible rfl
                   rotate_left
                   ·simp only [Act.put, List.setIfInBounds_toArray, List.set_cons_zero, List.set_cons_succ, i64_w, i32_w]
                    rfl
                   refine take_ (i := 12) (N := some 46) (v := ?_) (a' := ?_) #[true, true, true, true, true, true, true, true, true, true, true, true, true, false, false, false, false, false] rfl rfl (take_ofW HT_.out HW_.out (by kernel_rfl)) (fun _ _ _ h => h) (Or.inl ⟨by rfl, ?_⟩) hHeld ?_ ?_
                   rotate_left
                   ·rintro w' ⟨s0, s1, s2, s3, s4, s5, s6⟩
                    go_simp
                    with_reducible rfl
                   rotate_left
                   ·simp only [Act.put, List.setIfInBounds_toArray, List.set_cons_zero, List.set_cons_succ, i64_w, i32_w]
                    rfl
                   refine pure_ (i := 13) (N := some 47) (v := ?_) (a' := ?_) #[true, true, true, true, true, true, true, true, true, true, true, true, true, true, false, false, false, false] rfl rfl (any_of HT_.out (by kernel_rfl)) (fun _ _ _ h => h) (Or.inl ⟨by rfl, ?_⟩) ?_ ?_
                   rotate_left
                   ·intro w'
                    go_simp
                    with_reducible rfl
                   rotate_left
                   ·simp only [Act.put, List.setIfInBounds_toArray, List.set_cons_zero, List.set_cons_succ, i64_w, i32_w]
                    rfl
                   refine take_ (i := 14) (N := some 48) (v := ?_) (a' := ?_) #[true, true, true, true, true, true, true, true, true, true, true, true, true, true, true, false, false, false] rfl rfl (take_ofW HT_.out HW_.out (by kernel_rfl)) (fun _ _ _ h => h) (Or.inl ⟨by rfl, ?_⟩) hHeld ?_ ?_
                   rotate_left
                   ·rintro w' ⟨s0, s1, s2, s3, s4, s5, s6⟩
                    go_simp
                    with_reducible rfl
                   rotate_left
                   ·simp only [Act.put, List.setIfInBounds_toArray, List.set_cons_zero, List.set_cons_succ, i64_w, i32_w]
                    rfl
                   refine one_ (i := 15) (N := some 49) #[true, true, true, true, true, true, true, true, true, true, true, true, true, true, true, true, false, false] rfl rfl (one_of HT_.out (by kernel_rfl)) (by decide) (fun K hK => ?_)
                   refine goes_ Try.func40 (by kernel_rfl) rfl #[.int .i64 ((rd_T45 l0 x28_2).f0), .int .i64 (rd x1_2 ((rd_T45 l0 x28_2).f2)), .int .i64 (rd x1_2 ((rd_T45 l0 x28_2).f3))] (by rfl) rfl rfl (by (try simp only [List.map_toArray, List.map_cons, List.map_nil]); first | done | rfl | (simp only [List.length_drop, List.length_take]; rfl)) ?_
                   with_reducible refine (impl_reckon.calls ((rd_T45 l0 x28_2).f0) (rd x1_2 ((rd_T45 l0 x28_2).f2)) (rd x1_2 ((rd_T45 l0 x28_2).f3)) t368 _ A55.out).mono ?_
                   rintro e w' ⟨rfl, ⟨nd, rfl⟩⟩
                   refine ⟨_, rfl, ?_⟩
                   have p58 : 0 ≤ (((rd_T45 l0 x28_2).f1) : Int) := of_decide_eq_true (by first | (with_reducible assumption) | assumption)
                   have q58 : (((rd_T45 l0 x28_2).f1) : Int) < ((x1_2.length : Int) : Int) := of_decide_eq_true (by first | (with_reducible assumption) | assumption)
                   obtain ⟨go58, co58, eo58, gb58, gl58, cl58, HG58⟩ := Kd.R_form HO_1.out (by omega)
                   (first | cases eo58 | (injection eo58 with ea_ en_ ec_; (first | subst ea_ | (injection ea_ with ea_; subst ea_)); subst ec_; clear en_))
                   have GB58 := Aside0.mk gb58
                   have GG58 := Aside0.mk HG58
                   clear gb58 gl58 HG58
                   (first | simp only [add_plain] at hx366_0 | skip)
                   (first | simp only [add_plain] at hx367_0 | skip)
                   obtain ⟨hx58_0, hf58_0⟩ := Kd.R_celln 0 HO_1.out (((rd_T45 l0 x28_2).f1) : Int) p58 q58
                   replace p58 := eq_true p58
                   replace q58 := eq_true q58
                   have HP64 := Kd.R_putn HO_1.out (((rd_T45 l0 x28_2).f1) : Int) t368
                   rw [← Ny369.out] at HP64
                   have HQ64 := Aside0.mk HP64
                   clear HP64
                   refine hK.out _ _ ⟨(blk_cell BK358.out 0).trans rfl, (blk_cell BK358.out 1).trans rfl, (blk_cell BK358.out 2).trans rfl, (blk_cell BK358.out 3).trans rfl, (blk_cell BK358.out 4).trans rfl, hHeld.2.2.2.2.2.1, hHeld.2.2.2.2.2.2⟩ (fun hHeld => ?_)
                   clear hK K
                   refine norm_ (a' := ?_) ?_ ?_
                   rotate_left
                   ·show Act.put _ (some 49) _ = _
                    simp only [Act.put, List.setIfInBounds_toArray, List.set_cons_zero, List.set_cons_succ, i64_w, i32_w]
                    rfl
                   refine pure_ (i := 16) (N := some 50) (v := ?_) (a' := ?_) #[true, true, true, true, true, true, true, true, true, true, true, true, true, true, true, true, true, false] rfl rfl (any_of HT_.out (by kernel_rfl)) (fun _ _ _ h => h) (Or.inl ⟨by rfl, ?_⟩) ?_ ?_
                   rotate_left
                   ·intro w'
                    go_simp
                    with_reducible rfl
                   rotate_left
                   ·simp only [Act.put, List.setIfInBounds_toArray, List.set_cons_zero, List.set_cons_succ, i64_w, i32_w]
                    rfl
                   refine last_ (i := 17) (N := none) #[true, true, true, true, true, true, true, true, true, true, true, true, true, true, true, true, true, true] rfl rfl (one_of HT_.out (by kernel_rfl)) (by decide) (fun K hK => ?_)
                   refine skip_ (w1 := ?_) (by rfl) rfl ?_ ?_
                   rotate_left
                   ·go_simp
                    rfl
                   refine hK.out _ _ ?_
                   clear hK K
                   refine done_ (done_of HT_.out (by kernel_rfl)) ?_
                   try go_wp2
                   go_roundg k2
                   case measure => have := HJ2.out; have := HK2.out; omega
                   case rel => exact ⟨(y369), (x7_2), (wrap64 (x28_2 + 1)), (by first | rfl | (simp; done) | (simp [*]; done)), H', ⟨by have := HJ2.out; have := HK2.out; omega⟩, ⟨by (with_reducible repeat (first | apply Kd.R_alloc | apply Kd.R_drewN | apply Kd.R_drew)); exact HQ64.out⟩, ⟨by (with_reducible repeat (first | apply Kd.R_alloc | apply Kd.R_drewN | apply Kd.R_drew)); exact Kd.R_mono (Kd.R_far (p := ⟨go58, (((rd_T45 l0 x28_2).f1) : Int).toNat, none⟩) (Kd.R_mono HO_7.out (fun k_ hk => (⟨hk, fun e_ => hk (by rw [e_]; rfl)⟩ : _ ∧ k_ ≠ go58))) (fun _ hk => hk.2) (.int .i64 t368)) (fun _ hk => hk.1)⟩, ⟨by repeat (first | (with_reducible first | exact HB.out | apply below_alloc | apply pw_below_drewN | apply below_drew1 | refine below_set ?_ GB58.out | refine below_set ?_ GE358.out) | exact HB.out)⟩⟩
                  ·rw [if_neg c57] at H
                   exact absurd H (by simp)
                 ·rw [if_neg c56] at H
                  exact absurd H (by simp)
                ·rw [if_neg c54] at H
                 exact absurd H (by simp)
               ·rw [if_neg c53] at H
                exact absurd H (by simp)
              ·rw [if_neg c52] at H
               exact absurd H (by simp)
             ·rw [if_neg c51] at H
              exact absurd H (by simp)
         ·rw [if_neg c20] at H
          exact absurd H (by simp)
        ·rw [if_neg c19] at H
         exact absurd H (by simp)
       ·rw [if_neg c18] at H
        have c18b0 : decide (x28_2 < (l0.length : Int)) = false := decide_eq_false c18
        clear c18
        simp only [Option.some.injEq, Prod.mk.injEq] at H
        obtain ⟨rfl, rfl, rfl⟩ := H
        go_wp2
        go_ret3
        exact ⟨_, _, by first | rfl | (simp [errW_none, errW_some] <;> rfl) | (simp [*, errW_none, errW_some] <;> rfl), by (with_reducible repeat (first | apply Kd.R_alloc | apply Kd.R_drewN | apply Kd.R_drew)); exact HO_7.out, by (with_reducible repeat (first | apply Kd.R_alloc | apply Kd.R_drewN | apply Kd.R_drew)); exact HO_1.out, by repeat (first | (with_reducible first | exact HB.out | apply below_alloc | apply pw_below_drewN | apply below_drew1) | exact HB.out)⟩
    ·rw [if_neg c12] at H
     exact absurd H (by simp)

end Go.Proofs.Ytoggmpihojkbfaa.XFnCode

-- Printed by a patched copy of the print, a program of this session. Lean checks it.
import Derived.Test.YtncagigpflfkbaaXFnPlansx0
import Derived.Test.YtncagigpflfkbaaXFnPlansx1
import Derived.Test.YtncagigpflfkbaaXFnPlansx2
import Derived.Test.YtncagigpflfkbaaXFnPlansx3
namespace Go.Proofs.Ytncagigpflfkbaa.XFnPlans
open Go.RowKit Go.Proofs.YtncagigpflfkbaaW.PrintWords Go.Proofs.YtncagigpflfkbaaW.PrintLast Go.Proofs.YtncagigpflfkbaaW.PrintMore
attribute [local go_sem] max2_int min2_int max_two min_two max_three min_three max_four min_four   -- for this text's walks alone
set_option linter.unusedVariables false
set_option linter.unusedSimpArgs false

/-! ### laws_FnPlans: function 8 -/
mutual
def laws_FnPlans.j0 : Nat → List Int → Int → List Int → Bool → Bool → Option (Bool)
  | 0, _, _, _, _, _ => none
  | k + 1, x1, x5, x6, x7, x48 => if x48 = true then (some false) else (if x7 = true then ((laws_numberOf.f k x1).bind fun t199 => ((impl_DoPlan.f k x6 (wrap64 ((Int.tmod t199 131071) - 65535))).bind fun bt200 => (if bt200.2 = true then (if bt200.1 = (wrap64 (x5 * (wrap64 ((Int.tmod t199 131071) - 65535)))) then (laws_FnPlans.j1 k x1 x6 (decide ((x6.length : Int) > 9))) else (laws_FnPlans.j1 k x1 x6 true)) else (laws_FnPlans.j1 k x1 x6 true)))) else ((spec_DrawDoPlan.f k x1).bind fun bt212 => ((impl_DoPlan.f k bt212.1 bt212.2).bind fun bt216 => ((spec_DoPlan.f k bt212.1 bt212.2).bind fun bt218 => (if (bt216.2 == bt218.2) = true then (some (bt216.1 == bt218.1)) else (some false))))))
def laws_FnPlans.j1 : Nat → List Int → List Int → Bool → Option (Bool)
  | 0, _, _, _ => none
  | k + 1, x1, x6, x73 => if x73 = true then (some false) else (laws_FnPlans.l0 k x1 x6 1)
def laws_FnPlans.l0 : Nat → List Int → List Int → Int → Option (Bool)
  | 0, _, _, _ => none
  | k + 1, x1, x6, x13 => if x13 < (x6.length : Int) then (if 0 ≤ (wrap64 (x13 - 1)) then (if (wrap64 (x13 - 1)) < (x6.length : Int) then (if 0 ≤ x13 then (if (rd x6 (wrap64 (x13 - 1))) < 0 then (laws_FnPlans.j3 k x1 x6 x13 (wrap64 (-(rd x6 (wrap64 (x13 - 1))))) (rd x6 x13)) else (laws_FnPlans.j3 k x1 x6 x13 (rd x6 (wrap64 (x13 - 1))) (rd x6 x13))) else (none)) else (none)) else (none)) else ((spec_DrawDoPlan.f k x1).bind fun bt202 => ((impl_DoPlan.f k bt202.1 bt202.2).bind fun bt206 => ((spec_DoPlan.f k bt202.1 bt202.2).bind fun bt208 => (if (bt206.2 == bt208.2) = true then (some (bt206.1 == bt208.1)) else (some false)))))
def laws_FnPlans.j3 : Nat → List Int → List Int → Int → Int → Int → Option (Bool)
  | 0, _, _, _, _, _ => none
  | k + 1, x1, x6, x13, x14, x15 => if x15 < 0 then (if (wrap64 (-x15)) < (wrap64 (x14 + 2)) then (some false) else (laws_FnPlans.l0 k x1 x6 (wrap64 (x13 + 1)))) else (if x15 < (wrap64 (x14 + 2)) then (some false) else (laws_FnPlans.l0 k x1 x6 (wrap64 (x13 + 1))))
end
def laws_FnPlans.f (k : Nat) (l0 : List Int) (l1 : List Int) : Option (Bool) := if (wrap64 ((l0.length : Int) + (l1.length : Int))) > 1048576 then (some true) else ((spec_DrawPlanMul.f l0).bind fun t189 => ((impl_PlanMul.f k t189).bind fun bt190 => ((spec_PlanMul.f k t189).bind fun bt194 => (if (bt190.2 != bt194.2) = true then (laws_FnPlans.j0 k l1 t189 bt190.1 bt190.2 true) else ((laws_sameInts.f k bt190.1 bt194.1).bind fun t198 => (laws_FnPlans.j0 k l1 t189 bt190.1 bt190.2 (!t198)))))))
theorem laws_FnPlans.mono_l : ∀ k, (∀ y0 y1 y2 y3 y4, LeO (laws_FnPlans.j0 k y0 y1 y2 y3 y4) (laws_FnPlans.j0 (k + 1) y0 y1 y2 y3 y4)) ∧ (∀ y0 y1 y2, LeO (laws_FnPlans.j1 k y0 y1 y2) (laws_FnPlans.j1 (k + 1) y0 y1 y2)) ∧ (∀ y0 y1 y2, LeO (laws_FnPlans.l0 k y0 y1 y2) (laws_FnPlans.l0 (k + 1) y0 y1 y2)) ∧ (∀ y0 y1 y2 y3 y4, LeO (laws_FnPlans.j3 k y0 y1 y2 y3 y4) (laws_FnPlans.j3 (k + 1) y0 y1 y2 y3 y4))
  | 0 => ⟨fun _ _ _ _ _ r h => by simp [laws_FnPlans.j0] at h, fun _ _ _ r h => by simp [laws_FnPlans.j1] at h, fun _ _ _ r h => by simp [laws_FnPlans.l0] at h, fun _ _ _ _ _ r h => by simp [laws_FnPlans.j3] at h⟩
  | k + 1 => by
    obtain ⟨ih0, ih1, ih2, ih3⟩ := laws_FnPlans.mono_l k
    refine ⟨?_, ?_, ?_, ?_⟩
    · intro y0 y1 y2 y3 y4
      unfold laws_FnPlans.j0
      repeat' first
      | (with_reducible exact ih0 _ _ _ _ _)
      | (with_reducible exact ih1 _ _ _)
      | (with_reducible exact ih2 _ _ _)
      | (with_reducible exact ih3 _ _ _ _ _)
      | (with_reducible exact impl_DoPlan.mono _ _ _)
      | (with_reducible exact impl_PlanMul.mono _ _)
      | (with_reducible exact laws_numberOf.mono _ _)
      | (with_reducible exact laws_sameInts.mono _ _ _)
      | (with_reducible exact spec_DoPlan.mono _ _ _)
      | (with_reducible exact spec_DrawDoPlan.mono _ _)
      | (with_reducible exact spec_PlanMul.mono _ _)
      | (with_reducible exact LeO.refl _)
      | (with_reducible exact LeO.none _)
      | (with_reducible refine LeO.ite ?_ ?_)
      | (with_reducible refine LeO.bind ?_ (fun _ => ?_))
      | exact ih0 _ _ _ _ _
      | exact ih1 _ _ _
      | exact ih2 _ _ _
      | exact ih3 _ _ _ _ _
      | exact impl_DoPlan.mono _ _ _
      | exact impl_PlanMul.mono _ _
      | exact laws_numberOf.mono _ _
      | exact laws_sameInts.mono _ _ _
      | exact spec_DoPlan.mono _ _ _
      | exact spec_DrawDoPlan.mono _ _
      | exact spec_PlanMul.mono _ _
      | exact LeO.none _
      | refine LeO.ite ?_ ?_
      | refine LeO.bind ?_ (fun _ => ?_)
    · intro y0 y1 y2
      unfold laws_FnPlans.j1
      repeat' first
      | (with_reducible exact ih0 _ _ _ _ _)
      | (with_reducible exact ih1 _ _ _)
      | (with_reducible exact ih2 _ _ _)
      | (with_reducible exact ih3 _ _ _ _ _)
      | (with_reducible exact impl_DoPlan.mono _ _ _)
      | (with_reducible exact impl_PlanMul.mono _ _)
      | (with_reducible exact laws_numberOf.mono _ _)
      | (with_reducible exact laws_sameInts.mono _ _ _)
      | (with_reducible exact spec_DoPlan.mono _ _ _)
      | (with_reducible exact spec_DrawDoPlan.mono _ _)
      | (with_reducible exact spec_PlanMul.mono _ _)
      | (with_reducible exact LeO.refl _)
      | (with_reducible exact LeO.none _)
      | (with_reducible refine LeO.ite ?_ ?_)
      | (with_reducible refine LeO.bind ?_ (fun _ => ?_))
      | exact ih0 _ _ _ _ _
      | exact ih1 _ _ _
      | exact ih2 _ _ _
      | exact ih3 _ _ _ _ _
      | exact impl_DoPlan.mono _ _ _
      | exact impl_PlanMul.mono _ _
      | exact laws_numberOf.mono _ _
      | exact laws_sameInts.mono _ _ _
      | exact spec_DoPlan.mono _ _ _
      | exact spec_DrawDoPlan.mono _ _
      | exact spec_PlanMul.mono _ _
      | exact LeO.none _
      | refine LeO.ite ?_ ?_
      | refine LeO.bind ?_ (fun _ => ?_)
    · intro y0 y1 y2
      unfold laws_FnPlans.l0
      repeat' first
      | (with_reducible exact ih0 _ _ _ _ _)
      | (with_reducible exact ih1 _ _ _)
      | (with_reducible exact ih2 _ _ _)
      | (with_reducible exact ih3 _ _ _ _ _)
      | (with_reducible exact impl_DoPlan.mono _ _ _)
      | (with_reducible exact impl_PlanMul.mono _ _)
      | (with_reducible exact laws_numberOf.mono _ _)
      | (with_reducible exact laws_sameInts.mono _ _ _)
      | (with_reducible exact spec_DoPlan.mono _ _ _)
      | (with_reducible exact spec_DrawDoPlan.mono _ _)
      | (with_reducible exact spec_PlanMul.mono _ _)
      | (with_reducible exact LeO.refl _)
      | (with_reducible exact LeO.none _)
      | (with_reducible refine LeO.ite ?_ ?_)
      | (with_reducible refine LeO.bind ?_ (fun _ => ?_))
      | exact ih0 _ _ _ _ _
      | exact ih1 _ _ _
      | exact ih2 _ _ _
      | exact ih3 _ _ _ _ _
      | exact impl_DoPlan.mono _ _ _
      | exact impl_PlanMul.mono _ _
      | exact laws_numberOf.mono _ _
      | exact laws_sameInts.mono _ _ _
      | exact spec_DoPlan.mono _ _ _
      | exact spec_DrawDoPlan.mono _ _
      | exact spec_PlanMul.mono _ _
      | exact LeO.none _
      | refine LeO.ite ?_ ?_
      | refine LeO.bind ?_ (fun _ => ?_)
    · intro y0 y1 y2 y3 y4
      unfold laws_FnPlans.j3
      repeat' first
      | (with_reducible exact ih0 _ _ _ _ _)
      | (with_reducible exact ih1 _ _ _)
      | (with_reducible exact ih2 _ _ _)
      | (with_reducible exact ih3 _ _ _ _ _)
      | (with_reducible exact impl_DoPlan.mono _ _ _)
      | (with_reducible exact impl_PlanMul.mono _ _)
      | (with_reducible exact laws_numberOf.mono _ _)
      | (with_reducible exact laws_sameInts.mono _ _ _)
      | (with_reducible exact spec_DoPlan.mono _ _ _)
      | (with_reducible exact spec_DrawDoPlan.mono _ _)
      | (with_reducible exact spec_PlanMul.mono _ _)
      | (with_reducible exact LeO.refl _)
      | (with_reducible exact LeO.none _)
      | (with_reducible refine LeO.ite ?_ ?_)
      | (with_reducible refine LeO.bind ?_ (fun _ => ?_))
      | exact ih0 _ _ _ _ _
      | exact ih1 _ _ _
      | exact ih2 _ _ _
      | exact ih3 _ _ _ _ _
      | exact impl_DoPlan.mono _ _ _
      | exact impl_PlanMul.mono _ _
      | exact laws_numberOf.mono _ _
      | exact laws_sameInts.mono _ _ _
      | exact spec_DoPlan.mono _ _ _
      | exact spec_DrawDoPlan.mono _ _
      | exact spec_PlanMul.mono _ _
      | exact LeO.none _
      | refine LeO.ite ?_ ?_
      | refine LeO.bind ?_ (fun _ => ?_)
theorem laws_FnPlans.mono : ∀ a0 a1 k, LeO (laws_FnPlans.f k a0 a1) (laws_FnPlans.f (k + 1) a0 a1) := by
  intro a0 a1 k
  obtain ⟨ih0, ih1, ih2, ih3⟩ := laws_FnPlans.mono_l k
  unfold laws_FnPlans.f
  repeat' first
      | (with_reducible exact ih0 _ _ _ _ _)
      | (with_reducible exact ih1 _ _ _)
      | (with_reducible exact ih2 _ _ _)
      | (with_reducible exact ih3 _ _ _ _ _)
      | (with_reducible exact impl_DoPlan.mono _ _ _)
      | (with_reducible exact impl_PlanMul.mono _ _)
      | (with_reducible exact laws_numberOf.mono _ _)
      | (with_reducible exact laws_sameInts.mono _ _ _)
      | (with_reducible exact spec_DoPlan.mono _ _ _)
      | (with_reducible exact spec_DrawDoPlan.mono _ _)
      | (with_reducible exact spec_PlanMul.mono _ _)
      | (with_reducible exact LeO.refl _)
      | (with_reducible exact LeO.none _)
      | (with_reducible refine LeO.ite ?_ ?_)
      | (with_reducible refine LeO.bind ?_ (fun _ => ?_))
      | exact ih0 _ _ _ _ _
      | exact ih1 _ _ _
      | exact ih2 _ _ _
      | exact ih3 _ _ _ _ _
      | exact impl_DoPlan.mono _ _ _
      | exact impl_PlanMul.mono _ _
      | exact laws_numberOf.mono _ _
      | exact laws_sameInts.mono _ _ _
      | exact spec_DoPlan.mono _ _ _
      | exact spec_DrawDoPlan.mono _ _
      | exact spec_PlanMul.mono _ _
      | exact LeO.none _
      | refine LeO.ite ?_ ?_
      | refine LeO.bind ?_ (fun _ => ?_)
set_option maxHeartbeats 8000000 in
set_option maxRecDepth 100000 in
theorem laws_FnPlans.calls (k : Nat) (A0 : Option Addr) (c0 : Nat) (l0 : List Int) (A1 : Option Addr) (c1 : Nat) (l1 : List Int) (w : World) (hr0 : Kd.C (Kd.int .u8) w A0 l0.length l0) (hc0 : l0.length ≤ c0) (hr1 : Kd.C (Kd.int .u8) w A1 l1.length l1) (hc1 : l1.length ≤ c1) (h : laws_FnPlans.f k l0 l1 = some true) :
    Calls Try.prog 8 #[.slice A0 l0.length c0, .slice A1 l1.length c1] w fun e w' => e = .returned (.bool true) ∧ Below w.heap.size w w' := by
  have HR0 := Aside0.mk hr0
  have HC0 := Aside0.mk hc0
  clear hr0 hc0
  have HR1 := Aside0.mk hr1
  have HC1 := Aside0.mk hc1
  clear hr1 hc1
  have HB := Aside0.mk (Below.refl w.heap.size w)
  have H : (if (wrap64 ((l0.length : Int) + (l1.length : Int))) > 1048576 then (some true) else ((spec_DrawPlanMul.f l0).bind fun t189 => ((impl_PlanMul.f k t189).bind fun bt190 => ((spec_PlanMul.f k t189).bind fun bt194 => (if (bt190.2 != bt194.2) = true then (laws_FnPlans.j0 k l1 t189 bt190.1 bt190.2 true) else ((laws_sameInts.f k bt190.1 bt194.1).bind fun t198 => (laws_FnPlans.j0 k l1 t189 bt190.1 bt190.2 (!t198)))))))) = some true := h
  clear h
  by_cases c3 : (wrap64 ((l0.length : Int) + (l1.length : Int))) > 1048576
  · rw [if_pos c3] at H
    have c3b0 : decide (1048576 < (wrap64 ((l0.length : Int) + (l1.length : Int)))) = true := decide_eq_true c3
    clear c3
    as_aux_lemma =>
      go_enter Try.func8, Try.ntmps8
      go_wp2
      go_ret
      exact ⟨by first | rfl | (simp [errW_none, errW_some] <;> rfl) | (simp [*, errW_none, errW_some] <;> rfl), by repeat (first | (with_reducible first | exact HB.out | apply below_alloc | apply pw_below_drewN | apply below_drew1) | exact HB.out)⟩
  · rw [if_neg c3] at H
    have c3b0 : decide (1048576 < (wrap64 ((l0.length : Int) + (l1.length : Int)))) = false := decide_eq_false c3
    clear c3
    replace H := Option.bind_eq_some_iff.mp H
    obtain ⟨t189, A40, H⟩ := H
    replace H : ((impl_PlanMul.f k t189).bind fun bt190 => ((spec_PlanMul.f k t189).bind fun bt194 => (if (bt190.2 != bt194.2) = true then (laws_FnPlans.j0 k l1 t189 bt190.1 bt190.2 true) else ((laws_sameInts.f k bt190.1 bt194.1).bind fun t198 => (laws_FnPlans.j0 k l1 t189 bt190.1 bt190.2 (!t198)))))) = some true := H
    have A4 := Aside0.mk A40
    clear A40
    replace H := Option.bind_eq_some_iff.mp H
    obtain ⟨⟨t190, t191⟩, A50, H⟩ := H
    replace H : ((spec_PlanMul.f k t189).bind fun bt194 => (if (t191 != bt194.2) = true then (laws_FnPlans.j0 k l1 t189 t190 t191 true) else ((laws_sameInts.f k t190 bt194.1).bind fun t198 => (laws_FnPlans.j0 k l1 t189 t190 t191 (!t198))))) = some true := H
    have A5 := Aside0.mk A50
    clear A50
    replace H := Option.bind_eq_some_iff.mp H
    obtain ⟨⟨t194, t195⟩, A60, H⟩ := H
    replace H : (if (t191 != t195) = true then (laws_FnPlans.j0 k l1 t189 t190 t191 true) else ((laws_sameInts.f k t190 t194).bind fun t198 => (laws_FnPlans.j0 k l1 t189 t190 t191 (!t198)))) = some true := H
    have A6 := Aside0.mk A60
    clear A60
    have HC7 := Aside0.mk H
    clear H
    go_enter Try.func8, Try.ntmps8
    go_upto_region 6 with (first | ((with_reducible refine gate_callee (f := 29) rfl ?_); refine goesL_ (some 29) rfl rfl Try.func29 (by kernel_rfl) rfl #[.slice A0 l0.length c0] rfl (by (try simp only [List.map_toArray, List.map_cons, List.map_nil]); first | done | rfl | (simp only [List.length_drop, List.length_take]; rfl)) ?_; (with_reducible refine (spec_DrawPlanMul.calls _ _ l0 t189 _ ?side1 ?side2 A4.out).mono ?_); (case side1 => repeat (first | exact HR0.out | (with_reducible refine Kd.C_alloc ?_ _) | (with_reducible refine Kd.C_drewN ?_ _) | (with_reducible refine Kd.C_drew ?_))); (case side2 => exact HC0.out); rintro e w8 ⟨rfl, hb⟩; refine ⟨_, rfl, ?_⟩; have n0_ := Aside0.mk (below_step (by repeat (first | (with_reducible first | exact HB.out | apply below_alloc | apply pw_below_drewN | apply below_drew1) | exact HB.out)) hb); clear HB; have HB := n0_; clear n0_; (try clear hb); (try clear hb2); (try clear hk); (try clear hi)) | ((with_reducible refine gate_callee (f := 30) rfl ?_); refine goesL_ (some 32) rfl rfl Try.func30 (by kernel_rfl) rfl #[.int .i64 t189] rfl (by (try simp only [List.map_toArray, List.map_cons, List.map_nil]); first | done | rfl | (simp only [List.length_drop, List.length_take]; rfl)) ?_; (with_reducible refine (impl_PlanMul.calls k t189 t190 t191 _ A5.out).mono ?_); rintro e w9 ⟨v192, rfl, ho0, hb⟩; refine ⟨_, rfl, ?_⟩; have n0_ := Aside0.mk (Kd.R_lower ho0 (below_size (by repeat (first | (with_reducible first | exact HB.out | apply below_alloc | apply pw_below_drewN | apply below_drew1) | exact HB.out)))); have n1_ := Aside0.mk (below_step (by repeat (first | (with_reducible first | exact HB.out | apply below_alloc | apply pw_below_drewN | apply below_drew1) | exact HB.out)) hb); clear HB; have HO193 := n0_; have HB := n1_; clear n0_ n1_; (try clear hb); (try clear hb2); (try clear hk); (try clear hi); (try clear ho0)) | ((with_reducible refine gate_callee (f := 31) rfl ?_); refine goesL_ (some 37) rfl rfl Try.func31 (by kernel_rfl) rfl #[.int .i64 t189] rfl (by (try simp only [List.map_toArray, List.map_cons, List.map_nil]); first | done | rfl | (simp only [List.length_drop, List.length_take]; rfl)) ?_; (with_reducible refine (spec_PlanMul.calls k t189 t194 t195 _ A6.out).mono ?_); rintro e w10 ⟨v196, rfl, ho0, hb⟩; refine ⟨_, rfl, ?_⟩; have n0_ := Aside0.mk (Kd.R_elder' (by (with_reducible repeat (first | apply Kd.R_alloc | apply Kd.R_drewN | apply Kd.R_drew)); exact HO193.out) (Kd.R_base ho0) hb); have n1_ := Aside0.mk (Kd.R_lower (Kd.R_new' ho0 (Kd.R_lt (by (with_reducible repeat (first | apply Kd.R_alloc | apply Kd.R_drewN | apply Kd.R_drew)); exact HO193.out))) (below_size (by repeat (first | (with_reducible first | exact HB.out | apply below_alloc | apply pw_below_drewN | apply below_drew1) | exact HB.out)))); have n2_ := Aside0.mk (below_step (by repeat (first | (with_reducible first | exact HB.out | apply below_alloc | apply pw_below_drewN | apply below_drew1) | exact HB.out)) hb); clear HO193; clear HB; have HO193 := n0_; have HO197 := n1_; have HB := n2_; clear n0_ n1_ n2_; (try clear hb); (try clear hb2); (try clear hk); (try clear hi); (try clear ho0)))
    (try simp only [Act.put, List.setIfInBounds_toArray, List.set_cons_zero, List.set_cons_succ])
    go_cut [48] (fun v48 wc => ∃ (kq : Nat) (x48_6 : Bool), v48 = .bool x48_6 ∧ Aside0 (laws_FnPlans.j0 kq l1 t189 t190 t191 x48_6 = some true) ∧ Aside0 (kq ≤ k) ∧ Aside0 (Kd.R (Kd.int .i64) 3 wc w.heap.size (fun _ => True) v192 t190) ∧ Aside0 (Below w.heap.size w wc))
    case first =>
      have H := HC7.out
      clear HC7
      by_cases c11 : (t191 != t195) = true
      · rw [if_pos c11] at H
        have c11b0 : (t191 != t195) = true := c11
        (try (have c11b1 : decide (t191 = t195) = false := by simpa using c11))
        (try (have c11b2 : (t191 == t195) = false := by simpa using c11))
        (try (have c11b3 : ¬ (t191 = t195) := by simpa using c11))
        clear c11
        (first | rw [c11b0] | (simp only [i64_w, i32_w]; rw [c11b0]) | skip)
        as_aux_lemma =>
          have H' := Aside0.mk H
          clear H
          go_wp2
          go_meet
          case rel => exact ⟨_, (true), (by first | rfl | (simp; done) | (simp [*]; done)), H', ⟨by first | omega | exact Nat.le_refl _⟩, ⟨by (with_reducible repeat (first | apply Kd.R_alloc | apply Kd.R_drewN | apply Kd.R_drew)); exact Kd.R_mono HO193.out (fun _ hk => trivial)⟩, ⟨by repeat (first | (with_reducible first | exact HB.out | apply below_alloc | apply pw_below_drewN | apply below_drew1) | exact HB.out)⟩⟩
      · rw [if_neg c11] at H
        have c11b0 : (t191 != t195) = false := by simpa using c11
        (try (have c11b1 : decide (t191 = t195) = true := by simpa using c11))
        (try (have c11b2 : (t191 == t195) = true := by simpa using c11))
        clear c11
        (first | rw [c11b0] | (simp only [i64_w, i32_w]; rw [c11b0]) | skip)
        replace H := Option.bind_eq_some_iff.mp H
        obtain ⟨t198, A120, H⟩ := H
        replace H : (laws_FnPlans.j0 k l1 t189 t190 t191 (!t198)) = some true := H
        have A12 := Aside0.mk A120
        clear A120
        as_aux_lemma =>
          have H' := Aside0.mk H
          clear H
          obtain ⟨Ao13, co13, eo13⟩ := Kd.R_slice HO193.out
          subst eo13
          obtain ⟨Ao14, co14, eo14⟩ := Kd.R_slice HO197.out
          subst eo14
          go_wp2_with (first | (go_at_call 32; (with_reducible refine (laws_sameInts.calls k _ _ t190 _ _ t194 t198 _ ?side1 ?side2 ?side3 ?side4 A12.out).mono ?_); (case side1 => repeat (first | exact (Kd.R_reads' HO193.out).2.2 | (with_reducible refine Kd.C_alloc ?_ _) | (with_reducible refine Kd.C_drewN ?_ _) | (with_reducible refine Kd.C_drew ?_))); (case side2 => exact (Kd.R_reads' HO193.out).2.1); (case side3 => repeat (first | exact (Kd.R_reads' HO197.out).2.2 | (with_reducible refine Kd.C_alloc ?_ _) | (with_reducible refine Kd.C_drewN ?_ _) | (with_reducible refine Kd.C_drew ?_))); (case side4 => exact (Kd.R_reads' HO197.out).2.1); rintro e w' ⟨rfl, ⟨nd, rfl⟩⟩))
          go_meet
          case rel => exact ⟨_, (!t198), (by first | rfl | (simp; done) | (simp [*]; done)), H', ⟨by first | omega | exact Nat.le_refl _⟩, ⟨by (with_reducible repeat (first | apply Kd.R_alloc | apply Kd.R_drewN | apply Kd.R_drew)); exact Kd.R_mono HO193.out (fun _ hk => trivial)⟩, ⟨by repeat (first | (with_reducible first | exact HB.out | apply below_alloc | apply pw_below_drewN | apply below_drew1) | exact HB.out)⟩⟩
    case rest =>
      clear HC7
      try clear c1
      try clear c2
      try clear p2
      try clear c3
      try clear c3b0
      try clear p6
      try clear c8
      try clear c11
      try clear c11b0
      try clear c11b1
      try clear c11b2
      obtain ⟨kq, x48_6, rfl, HA, HJ6, HO_6, HB⟩ := hcut
      cases kq with
      | zero => exact absurd HA.out (by simp [laws_FnPlans.j0])
      | succ kj6 =>
        have H := HA.out
        clear HA
        simp only [laws_FnPlans.j0] at H
        by_cases c15 : x48_6 = true
        · subst c15
          have H1 : (some false) = some true := by rw [if_pos rfl] at H; exact H
          clear H
          have H := H1
          clear H1
          as_aux_lemma =>
            exact absurd H (by simp)
        · replace c15 := Bool.eq_false_iff.mpr c15
          subst c15
          have H1 : (if t191 = true then ((laws_numberOf.f kj6 l1).bind fun t199 => ((impl_DoPlan.f kj6 t190 (wrap64 ((Int.tmod t199 131071) - 65535))).bind fun bt200 => (if bt200.2 = true then (if bt200.1 = (wrap64 (t189 * (wrap64 ((Int.tmod t199 131071) - 65535)))) then (laws_FnPlans.j1 kj6 l1 t190 (decide ((t190.length : Int) > 9))) else (laws_FnPlans.j1 kj6 l1 t190 true)) else (laws_FnPlans.j1 kj6 l1 t190 true)))) else ((spec_DrawDoPlan.f kj6 l1).bind fun bt212 => ((impl_DoPlan.f kj6 bt212.1 bt212.2).bind fun bt216 => ((spec_DoPlan.f kj6 bt212.1 bt212.2).bind fun bt218 => (if (bt216.2 == bt218.2) = true then (some (bt216.1 == bt218.1)) else (some false)))))) = some true := by rw [if_neg (show ¬ (false = true) by decide)] at H; exact H
          clear H
          have H := H1
          clear H1
          by_cases c16 : t191 = true
          · subst c16
            have H1 : ((laws_numberOf.f kj6 l1).bind fun t199 => ((impl_DoPlan.f kj6 t190 (wrap64 ((Int.tmod t199 131071) - 65535))).bind fun bt200 => (if bt200.2 = true then (if bt200.1 = (wrap64 (t189 * (wrap64 ((Int.tmod t199 131071) - 65535)))) then (laws_FnPlans.j1 kj6 l1 t190 (decide ((t190.length : Int) > 9))) else (laws_FnPlans.j1 kj6 l1 t190 true)) else (laws_FnPlans.j1 kj6 l1 t190 true)))) = some true := by rw [if_pos rfl] at H; exact H
            clear H
            have H := H1
            clear H1
            replace H := Option.bind_eq_some_iff.mp H
            obtain ⟨t199, A170, H⟩ := H
            replace H : ((impl_DoPlan.f kj6 t190 (wrap64 ((Int.tmod t199 131071) - 65535))).bind fun bt200 => (if bt200.2 = true then (if bt200.1 = (wrap64 (t189 * (wrap64 ((Int.tmod t199 131071) - 65535)))) then (laws_FnPlans.j1 kj6 l1 t190 (decide ((t190.length : Int) > 9))) else (laws_FnPlans.j1 kj6 l1 t190 true)) else (laws_FnPlans.j1 kj6 l1 t190 true))) = some true := H
            have A17 := Aside0.mk A170
            clear A170
            replace H := Option.bind_eq_some_iff.mp H
            obtain ⟨⟨t200, t201⟩, A180, H⟩ := H
            replace H : (if t201 = true then (if t200 = (wrap64 (t189 * (wrap64 ((Int.tmod t199 131071) - 65535)))) then (laws_FnPlans.j1 kj6 l1 t190 (decide ((t190.length : Int) > 9))) else (laws_FnPlans.j1 kj6 l1 t190 true)) else (laws_FnPlans.j1 kj6 l1 t190 true)) = some true := H
            have A18 := Aside0.mk A180
            clear A180
            have HC19 := Aside0.mk H
            clear H
            go_upto_region 11 with (first | ((with_reducible refine gate_callee (f := 33) rfl ?_); refine goesL_ (some 51) rfl rfl Try.func33 (by kernel_rfl) rfl #[.slice A1 l1.length c1] rfl (by (try simp only [List.map_toArray, List.map_cons, List.map_nil]); first | done | rfl | (simp only [List.length_drop, List.length_take]; rfl)) ?_; (with_reducible refine (laws_numberOf.calls kj6 _ _ l1 t199 _ ?side1 ?side2 A17.out).mono ?_); (case side1 => repeat (first | exact (Kd.C_below HR1.out HB.out) | (with_reducible refine Kd.C_alloc ?_ _) | (with_reducible refine Kd.C_drewN ?_ _) | (with_reducible refine Kd.C_drew ?_))); (case side2 => exact HC1.out); rintro e w' ⟨rfl, ⟨nd, rfl⟩⟩; refine ⟨_, rfl, ?_⟩; obtain ⟨Ao20, co20, eo20⟩ := Kd.R_slice HO_6.out; subst eo20) | ((with_reducible refine gate_callee (f := 34) rfl ?_); refine goesL_ (some 57) rfl rfl Try.func34 (by kernel_rfl) rfl #[.slice Ao20 t190.length co20, .int .i64 (wrap64 ((Int.tmod t199 131071) - 65535))] rfl (by (try simp only [List.map_toArray, List.map_cons, List.map_nil]); first | done | rfl | (simp only [List.length_drop, List.length_take]; rfl)) ?_; (with_reducible refine (impl_DoPlan.calls kj6 _ _ t190 (wrap64 ((Int.tmod t199 131071) - 65535)) t200 t201 _ ?side1 ?side2 A18.out).mono ?_); (case side1 => repeat (first | exact (Kd.R_reads' HO_6.out).2.2 | (with_reducible refine Kd.C_alloc ?_ _) | (with_reducible refine Kd.C_drewN ?_ _) | (with_reducible refine Kd.C_drew ?_))); (case side2 => exact (Kd.R_reads' HO_6.out).2.1); rintro e w' ⟨rfl, ⟨nd, rfl⟩⟩; refine ⟨_, rfl, ?_⟩))
            (try simp only [Act.put, List.setIfInBounds_toArray, List.set_cons_zero, List.set_cons_succ])
            go_cut [73] (fun v73 wc => ∃ (kq : Nat) (x73_18 : Bool), v73 = .bool x73_18 ∧ Aside0 (laws_FnPlans.j1 kq l1 t190 x73_18 = some true) ∧ Aside0 (kq ≤ kj6) ∧ Aside0 (Kd.R (Kd.int .i64) 3 wc w.heap.size (fun _ => True) (.slice Ao20 t190.length co20) t190) ∧ Aside0 (Below w.heap.size w wc))
            case first =>
              have H := HC19.out
              clear HC19
              by_cases c21 : t201 = true
              · subst c21
                have H1 : (if t200 = (wrap64 (t189 * (wrap64 ((Int.tmod t199 131071) - 65535)))) then (laws_FnPlans.j1 kj6 l1 t190 (decide ((t190.length : Int) > 9))) else (laws_FnPlans.j1 kj6 l1 t190 true)) = some true := by rw [if_pos rfl] at H; exact H
                clear H
                have H := H1
                clear H1
                by_cases c22 : t200 = (wrap64 (t189 * (wrap64 ((Int.tmod t199 131071) - 65535))))
                · rw [if_pos c22] at H
                  have c22b0 : (t200 == (wrap64 (t189 * (wrap64 ((Int.tmod t199 131071) - 65535))))) = true := beq_iff_eq.mpr c22
                  have c22b1 : (t200 != (wrap64 (t189 * (wrap64 ((Int.tmod t199 131071) - 65535))))) = false := bne_eq_false_iff_eq.mpr c22
                  clear c22
                  (first | rw [c22b0] | (simp only [i64_w, i32_w]; rw [c22b0]) | skip)
                  as_aux_lemma =>
                    have H' := Aside0.mk H
                    clear H
                    go_wp2
                    go_meet
                    case rel => exact ⟨_, (decide ((t190.length : Int) > 9)), (by first | rfl | (simp; done) | (simp [*]; done)), H', ⟨by have := HJ6.out; first | omega | exact Nat.le_refl _⟩, ⟨by (with_reducible repeat (first | apply Kd.R_alloc | apply Kd.R_drewN | apply Kd.R_drew)); exact HO_6.out⟩, ⟨by repeat (first | (with_reducible first | exact HB.out | apply below_alloc | apply pw_below_drewN | apply below_drew1) | exact HB.out)⟩⟩
                · rw [if_neg c22] at H
                  have c22b0 : (t200 == (wrap64 (t189 * (wrap64 ((Int.tmod t199 131071) - 65535))))) = false := beq_eq_false_iff_ne.mpr c22
                  have c22b1 : (t200 != (wrap64 (t189 * (wrap64 ((Int.tmod t199 131071) - 65535))))) = true := bne_iff_ne.mpr c22
                  (first | rw [c22b0] | (simp only [i64_w, i32_w]; rw [c22b0]) | skip)
                  as_aux_lemma =>
                    have H' := Aside0.mk H
                    clear H
                    go_wp2
                    go_meet
                    case rel => exact ⟨_, (true), (by first | rfl | (simp; done) | (simp [*]; done)), H', ⟨by have := HJ6.out; first | omega | exact Nat.le_refl _⟩, ⟨by (with_reducible repeat (first | apply Kd.R_alloc | apply Kd.R_drewN | apply Kd.R_drew)); exact HO_6.out⟩, ⟨by repeat (first | (with_reducible first | exact HB.out | apply below_alloc | apply pw_below_drewN | apply below_drew1) | exact HB.out)⟩⟩
              · replace c21 := Bool.eq_false_iff.mpr c21
                subst c21
                have H1 : (laws_FnPlans.j1 kj6 l1 t190 true) = some true := by rw [if_neg (show ¬ (false = true) by decide)] at H; exact H
                clear H
                have H := H1
                clear H1
                as_aux_lemma =>
                  have H' := Aside0.mk H
                  clear H
                  go_wp2
                  go_meet
                  case rel => exact ⟨_, (true), (by first | rfl | (simp; done) | (simp [*]; done)), H', ⟨by have := HJ6.out; first | omega | exact Nat.le_refl _⟩, ⟨by (with_reducible repeat (first | apply Kd.R_alloc | apply Kd.R_drewN | apply Kd.R_drew)); exact HO_6.out⟩, ⟨by repeat (first | (with_reducible first | exact HB.out | apply below_alloc | apply pw_below_drewN | apply below_drew1) | exact HB.out)⟩⟩
            case rest =>
              clear HC19
              try clear c1
              try clear c2
              try clear p2
              try clear c3
              try clear c3b0
              try clear p6
              try clear c8
              try clear c11
              try clear c11b0
              try clear c11b1
              try clear c11b2
              try clear c15
              try clear c16
              try clear c21
              try clear c22
              try clear c22b0
              try clear c22b1
              try clear p2
              try clear p6
              obtain ⟨kq, x73_18, rfl, HA, HJ18, HO_6, HB⟩ := hcut
              cases kq with
              | zero => exact absurd HA.out (by simp [laws_FnPlans.j1])
              | succ kj18 =>
                have H := HA.out
                clear HA
                simp only [laws_FnPlans.j1] at H
                by_cases c23 : x73_18 = true
                · subst c23
                  have H1 : (some false) = some true := by rw [if_pos rfl] at H; exact H
                  clear H
                  have H := H1
                  clear H1
                  as_aux_lemma =>
                    exact absurd H (by simp)
                · replace c23 := Bool.eq_false_iff.mpr c23
                  subst c23
                  have H1 : (laws_FnPlans.l0 kj18 l1 t190 1) = some true := by rw [if_neg (show ¬ (false = true) by decide)] at H; exact H
                  clear H
                  have H := H1
                  clear H1
                  have H' := Aside0.mk H
                  clear H
                  go_wp2
                  go_loopg [13] kj18 (fun kq v13 w' => ∃ (x13_3 : Int), v13 = .int .i64 x13_3 ∧ Aside0 (laws_FnPlans.l0 kq l1 t190 x13_3 = some true) ∧ Aside0 (kq ≤ kj18) ∧ Aside0 (Kd.R (Kd.int .i64) 3 w' w.heap.size (fun _ => True) (.slice Ao20 t190.length co20) t190) ∧ Aside0 (Below w.heap.size w w'))
                  case atStart => exact ⟨(1), (by first | rfl | (simp; done) | (simp [*]; done)), H', ⟨Nat.le_refl _⟩, ⟨by (with_reducible repeat (first | apply Kd.R_alloc | apply Kd.R_drewN | apply Kd.R_drew)); exact HO_6.out⟩, ⟨by repeat (first | (with_reducible first | exact HB.out | apply below_alloc | apply pw_below_drewN | apply below_drew1) | exact HB.out)⟩⟩
                  case round =>
                    clear H'
                    try clear c1
                    try clear c2
                    try clear p2
                    try clear c3
                    try clear c3b0
                    try clear p6
                    try clear c8
                    try clear c11
                    try clear c11b0
                    try clear c11b1
                    try clear c11b2
                    try clear c15
                    try clear c16
                    try clear c21
                    try clear c22
                    try clear c22b0
                    try clear c22b1
                    try clear c23
                    try clear p2
                    try clear p6
                    obtain ⟨x13_3, rfl, HA, HK3, HO_6, HB⟩ := hrel
                    cases gk with
                    | zero => exact absurd HA.out (by simp [laws_FnPlans.l0])
                    | succ k3 =>
                      have H := HA.out
                      clear HA
                      simp only [laws_FnPlans.l0] at H
                      by_cases c24 : x13_3 < (t190.length : Int)
                      · rw [if_pos c24] at H
                        have c24b0 : decide (x13_3 < (t190.length : Int)) = true := decide_eq_true c24
                        clear c24
                        obtain ⟨ji25, hji25⟩ : ∃ j_ : Int, (wrap64 (x13_3 - 1)) = j_ := ⟨_, rfl⟩
                        replace H : (if 0 ≤ (ji25) then (if (ji25) < (t190.length : Int) then (if 0 ≤ x13_3 then (if (rd t190 (ji25)) < 0 then (laws_FnPlans.j3 k3 l1 t190 x13_3 (wrap64 (-(rd t190 (ji25)))) (rd t190 x13_3)) else (laws_FnPlans.j3 k3 l1 t190 x13_3 (rd t190 (ji25)) (rd t190 x13_3))) else (none)) else (none)) else (none)) = some true := by first | (rw [hji25] at H; exact H) | (simp only [hji25] at H ⊢; exact H)
                        have hji25w : (IntKind.i64.wrap (x13_3 - 1)) = ji25 := (i64_w _).trans hji25
                        by_cases c26 : 0 ≤ (ji25)
                        · rw [if_pos c26] at H
                          have c26b0 : decide (0 ≤ (ji25)) = true := decide_eq_true c26
                          clear c26
                          by_cases c27 : (ji25) < (t190.length : Int)
                          · rw [if_pos c27] at H
                            have c27b0 : decide ((ji25) < (t190.length : Int)) = true := decide_eq_true c27
                            clear c27
                            by_cases c28 : 0 ≤ x13_3
                            · rw [if_pos c28] at H
                              have c28b0 : decide (0 ≤ x13_3) = true := decide_eq_true c28
                              clear c28
                              have HC29 := Aside0.mk H
                              clear H
                              have p210 : 0 ≤ ((ji25) : Int) := of_decide_eq_true (by first | (with_reducible assumption) | assumption)
                              have q210 : (ji25) < (t190.length : Int) := of_decide_eq_true (by first | (with_reducible assumption) | assumption)
                              obtain ⟨ad210, e210, hx210_0⟩ := Kd.at_int (Kd.R_reads' HO_6.out).2.2 (ji25) p210 q210
                              cases e210
                              replace p210 := eq_true p210
                              replace q210 := eq_true q210
                              have p211 : 0 ≤ (x13_3 : Int) := of_decide_eq_true (by first | (with_reducible assumption) | assumption)
                              have q211 : x13_3 < (t190.length : Int) := of_decide_eq_true (by first | (with_reducible assumption) | assumption)
                              obtain ⟨ad211, e211, hx211_0⟩ := Kd.at_int (Kd.R_reads' HO_6.out).2.2 x13_3 p211 q211
                              obtain rfl : ad210 = ad211 := (by injection e211)
                              replace p211 := eq_true p211
                              replace q211 := eq_true q211
                              go_upto_if 90 with (fail)
                              go_cut [14] (fun v14 wc => ∃ (kq : Nat) (x14_28 : Int), v14 = .int .i64 x14_28 ∧ Aside0 (laws_FnPlans.j3 kq l1 t190 x13_3 x14_28 (rd t190 x13_3) = some true) ∧ Aside0 (kq ≤ k3) ∧ Aside0 (Kd.R (Kd.int .i64) 3 wc w.heap.size (fun _ => True) (.slice (some ad210) t190.length co20) t190) ∧ Aside0 (Below w.heap.size w wc))
                              case first =>
                                have H := HC29.out
                                clear HC29
                                by_cases c30 : (rd t190 (ji25)) < 0
                                · rw [if_pos c30] at H
                                  have c30b0 : decide ((rd t190 (ji25)) < 0) = true := decide_eq_true c30
                                  clear c30
                                  (first | rw [c30b0] | (simp only [i64_w, i32_w]; rw [c30b0]) | skip)
                                  as_aux_lemma =>
                                    have H' := Aside0.mk H
                                    clear H
                                    go_wp2
                                    go_meet
                                    case rel => exact ⟨_, (wrap64 (-(rd t190 (ji25)))), (by first | rfl | (simp; done) | (simp only [← hji25] <;> (first | rfl | simp)) | (simp [*]; done)), H', ⟨by have := HJ6.out; have := HJ18.out; have := HK3.out; first | omega | exact Nat.le_refl _⟩, ⟨by (with_reducible repeat (first | apply Kd.R_alloc | apply Kd.R_drewN | apply Kd.R_drew)); exact HO_6.out⟩, ⟨by repeat (first | (with_reducible first | exact HB.out | apply below_alloc | apply pw_below_drewN | apply below_drew1) | exact HB.out)⟩⟩
                                · rw [if_neg c30] at H
                                  have c30b0 : decide ((rd t190 (ji25)) < 0) = false := decide_eq_false c30
                                  clear c30
                                  (first | rw [c30b0] | (simp only [i64_w, i32_w]; rw [c30b0]) | skip)
                                  as_aux_lemma =>
                                    have H' := Aside0.mk H
                                    clear H
                                    go_wp2
                                    go_meet
                                    case rel => exact ⟨_, (rd t190 (ji25)), (by first | rfl | (simp; done) | (simp only [← hji25] <;> (first | rfl | simp)) | (simp [*]; done)), H', ⟨by have := HJ6.out; have := HJ18.out; have := HK3.out; first | omega | exact Nat.le_refl _⟩, ⟨by (with_reducible repeat (first | apply Kd.R_alloc | apply Kd.R_drewN | apply Kd.R_drew)); exact HO_6.out⟩, ⟨by repeat (first | (with_reducible first | exact HB.out | apply below_alloc | apply pw_below_drewN | apply below_drew1) | exact HB.out)⟩⟩
                              case rest =>
                                clear HC29
                                try clear c1
                                try clear c2
                                try clear p2
                                try clear q2
                                try clear hx2
                                try clear c3
                                try clear c3b0
                                try clear p6
                                try clear c8
                                try clear c11
                                try clear c11b0
                                try clear c11b1
                                try clear c11b2
                                try clear c15
                                try clear c16
                                try clear c21
                                try clear p21
                                try clear q21
                                try clear hx21
                                try clear c22
                                try clear c22b0
                                try clear c22b1
                                try clear c23
                                try clear c24
                                try clear c24b0
                                try clear c26
                                try clear c26b0
                                try clear c27
                                try clear c27b0
                                try clear c28
                                try clear c28b0
                                try clear c29
                                try clear c30
                                try clear c30b0
                                try clear hx210_0
                                try clear hx211_0
                                try clear p2
                                try clear p210
                                try clear p211
                                try clear p6
                                try clear q210
                                try clear q211
                                obtain ⟨kq, x14_28, rfl, HA, HJ28, HO_6, HB⟩ := hcut
                                cases kq with
                                | zero => exact absurd HA.out (by simp [laws_FnPlans.j3])
                                | succ kj28 =>
                                  have H := HA.out
                                  clear HA
                                  simp only [laws_FnPlans.j3] at H
                                  by_cases c31 : (rd t190 x13_3) < 0
                                  · rw [if_pos c31] at H
                                    have c31b0 : decide ((rd t190 x13_3) < 0) = true := decide_eq_true c31
                                    clear c31
                                    by_cases c32 : (wrap64 (-(rd t190 x13_3))) < (wrap64 (x14_28 + 2))
                                    · rw [if_pos c32] at H
                                      have c32b0 : decide ((wrap64 (-(rd t190 x13_3))) < (wrap64 (x14_28 + 2))) = true := decide_eq_true c32
                                      clear c32
                                      as_aux_lemma =>
                                        exact absurd H (by simp)
                                    · rw [if_neg c32] at H
                                      have c32b0 : decide ((wrap64 (-(rd t190 x13_3))) < (wrap64 (x14_28 + 2))) = false := decide_eq_false c32
                                      clear c32
                                      as_aux_lemma =>
                                        have H' := Aside0.mk H
                                        clear H
                                        go_wp2
                                        go_roundg kj28
                                        case measure => have := HJ6.out; have := HJ18.out; have := HK3.out; have := HJ28.out; omega
                                        case rel => exact ⟨(wrap64 (x13_3 + 1)), (by first | rfl | (simp; done) | (simp [*]; done)), H', ⟨by have := HJ6.out; have := HJ18.out; have := HK3.out; have := HJ28.out; omega⟩, ⟨by (with_reducible repeat (first | apply Kd.R_alloc | apply Kd.R_drewN | apply Kd.R_drew)); exact HO_6.out⟩, ⟨by repeat (first | (with_reducible first | exact HB.out | apply below_alloc | apply pw_below_drewN | apply below_drew1) | exact HB.out)⟩⟩
                                  · rw [if_neg c31] at H
                                    have c31b0 : decide ((rd t190 x13_3) < 0) = false := decide_eq_false c31
                                    clear c31
                                    by_cases c33 : (rd t190 x13_3) < (wrap64 (x14_28 + 2))
                                    · rw [if_pos c33] at H
                                      have c33b0 : decide ((rd t190 x13_3) < (wrap64 (x14_28 + 2))) = true := decide_eq_true c33
                                      clear c33
                                      as_aux_lemma =>
                                        exact absurd H (by simp)
                                    · rw [if_neg c33] at H
                                      have c33b0 : decide ((rd t190 x13_3) < (wrap64 (x14_28 + 2))) = false := decide_eq_false c33
                                      clear c33
                                      as_aux_lemma =>
                                        have H' := Aside0.mk H
                                        clear H
                                        go_wp2
                                        go_roundg kj28
                                        case measure => have := HJ6.out; have := HJ18.out; have := HK3.out; have := HJ28.out; omega
                                        case rel => exact ⟨(wrap64 (x13_3 + 1)), (by first | rfl | (simp; done) | (simp [*]; done)), H', ⟨by have := HJ6.out; have := HJ18.out; have := HK3.out; have := HJ28.out; omega⟩, ⟨by (with_reducible repeat (first | apply Kd.R_alloc | apply Kd.R_drewN | apply Kd.R_drew)); exact HO_6.out⟩, ⟨by repeat (first | (with_reducible first | exact HB.out | apply below_alloc | apply pw_below_drewN | apply below_drew1) | exact HB.out)⟩⟩
                            · rw [if_neg c28] at H
                              exact absurd H (by simp)
                          · rw [if_neg c27] at H
                            exact absurd H (by simp)
                        · rw [if_neg c26] at H
                          exact absurd H (by simp)
                      · rw [if_neg c24] at H
                        have c24b0 : decide (x13_3 < (t190.length : Int)) = false := decide_eq_false c24
                        clear c24
                        replace H := Option.bind_eq_some_iff.mp H
                        obtain ⟨⟨t202, t203⟩, A340, H⟩ := H
                        replace H : ((impl_DoPlan.f k3 t202 t203).bind fun bt206 => ((spec_DoPlan.f k3 t202 t203).bind fun bt208 => (if (bt206.2 == bt208.2) = true then (some (bt206.1 == bt208.1)) else (some false)))) = some true := H
                        have A34 := Aside0.mk A340
                        clear A340
                        replace H := Option.bind_eq_some_iff.mp H
                        obtain ⟨⟨t206, t207⟩, A350, H⟩ := H
                        replace H : ((spec_DoPlan.f k3 t202 t203).bind fun bt208 => (if (t207 == bt208.2) = true then (some (t206 == bt208.1)) else (some false))) = some true := H
                        have A35 := Aside0.mk A350
                        clear A350
                        replace H := Option.bind_eq_some_iff.mp H
                        obtain ⟨⟨t208, t209⟩, A360, H⟩ := H
                        replace H : (if (t207 == t209) = true then (some (t206 == t208)) else (some false)) = some true := H
                        have A36 := Aside0.mk A360
                        clear A360
                        by_cases c37 : (t207 == t209) = true
                        · rw [if_pos c37] at H
                          have c37b0 : (t207 == t209) = true := c37
                          (try (have c37b1 : decide (t207 = t209) = true := by simpa using c37))
                          (try (have c37b2 : (t207 == t209) = true := by simpa using c37))
                          clear c37
                          as_aux_lemma =>
                            have hrv_ := Option.some.inj H
                            go_wp2_with (first | ((with_reducible refine gate_callee (f := 35) rfl ?_); refine goesL_ (some 103) rfl rfl Try.func35 (by kernel_rfl) rfl #[.slice A1 l1.length c1] rfl (by (try simp only [List.map_toArray, List.map_cons, List.map_nil]); first | done | rfl | (simp only [List.length_drop, List.length_take]; rfl)) ?_; (with_reducible refine (spec_DrawDoPlan.calls k3 _ _ l1 t202 t203 _ ?side1 ?side2 A34.out).mono ?_); (case side1 => repeat (first | exact (Kd.C_below HR1.out HB.out) | (with_reducible refine Kd.C_alloc ?_ _) | (with_reducible refine Kd.C_drewN ?_ _) | (with_reducible refine Kd.C_drew ?_))); (case side2 => exact HC1.out); rintro e w38 ⟨v204, rfl, ho0, hb⟩; refine ⟨_, rfl, ?_⟩; have n0_ := Aside0.mk (Kd.R_elder' (by (with_reducible repeat (first | apply Kd.R_alloc | apply Kd.R_drewN | apply Kd.R_drew)); exact HO_6.out) (Kd.R_base ho0) hb); have n1_ := Aside0.mk (Kd.R_lower (Kd.R_new' ho0 (Kd.R_lt (by (with_reducible repeat (first | apply Kd.R_alloc | apply Kd.R_drewN | apply Kd.R_drew)); exact HO_6.out))) (below_size (by repeat (first | (with_reducible first | exact HB.out | apply below_alloc | apply pw_below_drewN | apply below_drew1) | exact HB.out)))); have n2_ := Aside0.mk (below_step (by repeat (first | (with_reducible first | exact HB.out | apply below_alloc | apply pw_below_drewN | apply below_drew1) | exact HB.out)) hb); clear HO_6; clear HB; have HO_6 := n0_; have HO205 := n1_; have HB := n2_; clear n0_ n1_ n2_; (try clear hb); (try clear hb2); (try clear hk); (try clear hi); (try clear ho0); obtain ⟨Ao39, co39, eo39⟩ := Kd.R_slice HO205.out; subst eo39) | ((with_reducible refine gate_callee (f := 34) rfl ?_); refine goesL_ (some 109) rfl rfl Try.func34 (by kernel_rfl) rfl #[.slice Ao39 t202.length co39, .int .i64 t203] rfl (by (try simp only [List.map_toArray, List.map_cons, List.map_nil]); first | done | rfl | (simp only [List.length_drop, List.length_take]; rfl)) ?_; (with_reducible refine (impl_DoPlan.calls k3 _ _ t202 t203 t206 t207 _ ?side1 ?side2 A35.out).mono ?_); (case side1 => repeat (first | exact (Kd.R_reads' HO205.out).2.2 | (with_reducible refine Kd.C_alloc ?_ _) | (with_reducible refine Kd.C_drewN ?_ _) | (with_reducible refine Kd.C_drew ?_))); (case side2 => exact (Kd.R_reads' HO205.out).2.1); rintro e w' ⟨rfl, ⟨nd, rfl⟩⟩; refine ⟨_, rfl, ?_⟩) | ((with_reducible refine gate_callee (f := 36) rfl ?_); refine goesL_ (some 115) rfl rfl Try.func36 (by kernel_rfl) rfl #[.slice Ao39 t202.length co39, .int .i64 t203] rfl (by (try simp only [List.map_toArray, List.map_cons, List.map_nil]); first | done | rfl | (simp only [List.length_drop, List.length_take]; rfl)) ?_; (with_reducible refine (spec_DoPlan.calls k3 _ _ t202 t203 t208 t209 _ ?side1 ?side2 A36.out).mono ?_); (case side1 => repeat (first | exact (Kd.R_reads' HO205.out).2.2 | (with_reducible refine Kd.C_alloc ?_ _) | (with_reducible refine Kd.C_drewN ?_ _) | (with_reducible refine Kd.C_drew ?_))); (case side2 => exact (Kd.R_reads' HO205.out).2.1); rintro e w' ⟨rfl, ⟨nd, rfl⟩⟩; refine ⟨_, rfl, ?_⟩))
                            go_ret
                            exact ⟨by first | rfl | (simp [errW_none, errW_some] <;> rfl) | (simp [*, errW_none, errW_some] <;> rfl), by repeat (first | (with_reducible first | exact HB.out | apply below_alloc | apply pw_below_drewN | apply below_drew1) | exact HB.out)⟩
                        · rw [if_neg c37] at H
                          have c37b0 : (t207 == t209) = false := by simpa using c37
                          (try (have c37b1 : decide (t207 = t209) = false := by simpa using c37))
                          (try (have c37b2 : (t207 == t209) = false := by simpa using c37))
                          (try (have c37b3 : ¬ (t207 = t209) := by simpa using c37))
                          clear c37
                          as_aux_lemma =>
                            exact absurd H (by simp)
          · replace c16 := Bool.eq_false_iff.mpr c16
            subst c16
            have H1 : ((spec_DrawDoPlan.f kj6 l1).bind fun bt212 => ((impl_DoPlan.f kj6 bt212.1 bt212.2).bind fun bt216 => ((spec_DoPlan.f kj6 bt212.1 bt212.2).bind fun bt218 => (if (bt216.2 == bt218.2) = true then (some (bt216.1 == bt218.1)) else (some false))))) = some true := by rw [if_neg (show ¬ (false = true) by decide)] at H; exact H
            clear H
            have H := H1
            clear H1
            replace H := Option.bind_eq_some_iff.mp H
            obtain ⟨⟨t212, t213⟩, A400, H⟩ := H
            replace H : ((impl_DoPlan.f kj6 t212 t213).bind fun bt216 => ((spec_DoPlan.f kj6 t212 t213).bind fun bt218 => (if (bt216.2 == bt218.2) = true then (some (bt216.1 == bt218.1)) else (some false)))) = some true := H
            have A40 := Aside0.mk A400
            clear A400
            replace H := Option.bind_eq_some_iff.mp H
            obtain ⟨⟨t216, t217⟩, A410, H⟩ := H
            replace H : ((spec_DoPlan.f kj6 t212 t213).bind fun bt218 => (if (t217 == bt218.2) = true then (some (t216 == bt218.1)) else (some false))) = some true := H
            have A41 := Aside0.mk A410
            clear A410
            replace H := Option.bind_eq_some_iff.mp H
            obtain ⟨⟨t218, t219⟩, A420, H⟩ := H
            replace H : (if (t217 == t219) = true then (some (t216 == t218)) else (some false)) = some true := H
            have A42 := Aside0.mk A420
            clear A420
            by_cases c43 : (t217 == t219) = true
            · rw [if_pos c43] at H
              have c43b0 : (t217 == t219) = true := c43
              (try (have c43b1 : decide (t217 = t219) = true := by simpa using c43))
              (try (have c43b2 : (t217 == t219) = true := by simpa using c43))
              clear c43
              as_aux_lemma =>
                have hrv_ := Option.some.inj H
                go_wp2_with (first | ((with_reducible refine gate_callee (f := 35) rfl ?_); refine goesL_ (some 103) rfl rfl Try.func35 (by kernel_rfl) rfl #[.slice A1 l1.length c1] rfl (by (try simp only [List.map_toArray, List.map_cons, List.map_nil]); first | done | rfl | (simp only [List.length_drop, List.length_take]; rfl)) ?_; (with_reducible refine (spec_DrawDoPlan.calls kj6 _ _ l1 t212 t213 _ ?side1 ?side2 A40.out).mono ?_); (case side1 => repeat (first | exact (Kd.C_below HR1.out HB.out) | (with_reducible refine Kd.C_alloc ?_ _) | (with_reducible refine Kd.C_drewN ?_ _) | (with_reducible refine Kd.C_drew ?_))); (case side2 => exact HC1.out); rintro e w44 ⟨v214, rfl, ho0, hb⟩; refine ⟨_, rfl, ?_⟩; have n0_ := Aside0.mk (Kd.R_elder' (by (with_reducible repeat (first | apply Kd.R_alloc | apply Kd.R_drewN | apply Kd.R_drew)); exact HO_6.out) (Kd.R_base ho0) hb); have n1_ := Aside0.mk (Kd.R_lower (Kd.R_new' ho0 (Kd.R_lt (by (with_reducible repeat (first | apply Kd.R_alloc | apply Kd.R_drewN | apply Kd.R_drew)); exact HO_6.out))) (below_size (by repeat (first | (with_reducible first | exact HB.out | apply below_alloc | apply pw_below_drewN | apply below_drew1) | exact HB.out)))); have n2_ := Aside0.mk (below_step (by repeat (first | (with_reducible first | exact HB.out | apply below_alloc | apply pw_below_drewN | apply below_drew1) | exact HB.out)) hb); clear HO_6; clear HB; have HO_6 := n0_; have HO215 := n1_; have HB := n2_; clear n0_ n1_ n2_; (try clear hb); (try clear hb2); (try clear hk); (try clear hi); (try clear ho0); obtain ⟨Ao45, co45, eo45⟩ := Kd.R_slice HO215.out; subst eo45) | ((with_reducible refine gate_callee (f := 34) rfl ?_); refine goesL_ (some 109) rfl rfl Try.func34 (by kernel_rfl) rfl #[.slice Ao45 t212.length co45, .int .i64 t213] rfl (by (try simp only [List.map_toArray, List.map_cons, List.map_nil]); first | done | rfl | (simp only [List.length_drop, List.length_take]; rfl)) ?_; (with_reducible refine (impl_DoPlan.calls kj6 _ _ t212 t213 t216 t217 _ ?side1 ?side2 A41.out).mono ?_); (case side1 => repeat (first | exact (Kd.R_reads' HO215.out).2.2 | (with_reducible refine Kd.C_alloc ?_ _) | (with_reducible refine Kd.C_drewN ?_ _) | (with_reducible refine Kd.C_drew ?_))); (case side2 => exact (Kd.R_reads' HO215.out).2.1); rintro e w' ⟨rfl, ⟨nd, rfl⟩⟩; refine ⟨_, rfl, ?_⟩) | ((with_reducible refine gate_callee (f := 36) rfl ?_); refine goesL_ (some 115) rfl rfl Try.func36 (by kernel_rfl) rfl #[.slice Ao45 t212.length co45, .int .i64 t213] rfl (by (try simp only [List.map_toArray, List.map_cons, List.map_nil]); first | done | rfl | (simp only [List.length_drop, List.length_take]; rfl)) ?_; (with_reducible refine (spec_DoPlan.calls kj6 _ _ t212 t213 t218 t219 _ ?side1 ?side2 A42.out).mono ?_); (case side1 => repeat (first | exact (Kd.R_reads' HO215.out).2.2 | (with_reducible refine Kd.C_alloc ?_ _) | (with_reducible refine Kd.C_drewN ?_ _) | (with_reducible refine Kd.C_drew ?_))); (case side2 => exact (Kd.R_reads' HO215.out).2.1); rintro e w' ⟨rfl, ⟨nd, rfl⟩⟩; refine ⟨_, rfl, ?_⟩))
                go_ret
                exact ⟨by first | rfl | (simp [errW_none, errW_some] <;> rfl) | (simp [*, errW_none, errW_some] <;> rfl), by repeat (first | (with_reducible first | exact HB.out | apply below_alloc | apply pw_below_drewN | apply below_drew1) | exact HB.out)⟩
            · rw [if_neg c43] at H
              have c43b0 : (t217 == t219) = false := by simpa using c43
              (try (have c43b1 : decide (t217 = t219) = false := by simpa using c43))
              (try (have c43b2 : (t217 == t219) = false := by simpa using c43))
              (try (have c43b3 : ¬ (t217 = t219) := by simpa using c43))
              clear c43
              as_aux_lemma =>
                exact absurd H (by simp)

end Go.Proofs.Ytncagigpflfkbaa.XFnPlans

-- Printed by a patched copy of the print, a program of this session. Lean checks it.
import Derived.Test.YtpanbicgnmjjiaaQFnExactRunFlowXFnExactRunFlowx0
import Derived.Test.YtpanbicgnmjjiaaQFnExactRunFlowXFnExactRunFlowx1
import Derived.Test.YtpanbicgnmjjiaaQFnExactRunFlowXFnExactRunFlowx2
import Derived.Test.YtpanbicgnmjjiaaQFnExactRunFlowXFnExactRunFlowx3
import Derived.Test.YtpanbicgnmjjiaaQFnExactRunFlowXFnExactRunFlowx6
import Derived.Test.YtpanbicgnmjjiaaQFnExactRunFlowXFnExactRunFlowx10
namespace Go.Proofs.Ytpanbicgnmjjiaa.XFnExactRunFlow
open Go.RowKit Go.Proofs.YtpanbicgnmjjiaaW.PrintWords Go.Proofs.YtpanbicgnmjjiaaW.PrintLast Go.Proofs.YtpanbicgnmjjiaaW.PrintMore
attribute [local go_sem] max2_int min2_int max_two min_two max_three min_three max_four min_four   -- for this text's walks alone
set_option linter.unusedVariables false
set_option linter.unusedSimpArgs false

/-! ### laws_FnExactRunFlow: function 6 -/
mutual
def laws_FnExactRunFlow.j0 : Nat → List (S81) → List Int → Int → List Int → List Int → Int → Bool → List (S87) → List Int → List Int → List Int → Int → Bool → Bool → Option (Bool)
 | 0, _, _, _, _, _, _, _, _, _, _, _, _, _, _ => none
 | k + 1, x0, x1, x2, x8, x9, x10, x11, x12, x13, x14, x15, x16, x17, x76 => if x76 = true then (some false) else ((laws_toBlockS.f k x0).bind fun t357 => ((laws_eqBlockS.f k x12 t357).bind fun t360 => (if t360 = true then ((laws_toIntS.f k x1).bind fun t361 => ((laws_eqIntS.f k x13 t361).bind fun t364 => (if t364 = true then ((laws_markBlockS.f k x12 1).bind fun t365 => ((laws_markIntS.f k x13 t365).bind fun bt366 => (if bt366.1 < 0 then (laws_FnExactRunFlow.j1 k x0 x1 x2 x8 x9 x10 x11 x14 x15 true) else ((laws_eqIntS.f k x14 x8).bind fun t368 => (if t368 = true then ((laws_eqIntS.f k x15 x9).bind fun t369 => (if t369 = true then (if x16 = x10 then (laws_FnExactRunFlow.j1 k x0 x1 x2 x8 x9 x10 x11 x14 x15 (x17 != x11)) else (laws_FnExactRunFlow.j1 k x0 x1 x2 x8 x9 x10 x11 x14 x15 true)) else (laws_FnExactRunFlow.j1 k x0 x1 x2 x8 x9 x10 x11 x14 x15 true))) else (laws_FnExactRunFlow.j1 k x0 x1 x2 x8 x9 x10 x11 x14 x15 true)))))) else (some false)))) else (some false))))
def laws_FnExactRunFlow.j1 : Nat → List (S81) → List Int → Int → List Int → List Int → Int → Bool → List Int → List Int → Bool → Option (Bool)
 | 0, _, _, _, _, _, _, _, _, _, _ => none
 | k + 1, x0, x1, x2, x8, x9, x10, x11, x14, x15, x116 => if x116 = true then (some false) else ((laws_markIntS.f k x14 1).bind fun bt370 => ((laws_markIntS.f k x15 bt370.1).bind fun bt372 => ((laws_heldIntS.f k bt370.2 1).bind fun t374 => (if t374 < 0 then (some false) else ((laws_heldIntS.f k bt372.2 t374).bind fun t375 => (if t375 < 0 then (some false) else (if t375 = bt372.1 then ((laws_toBlockS.f k x0).bind fun t376 => ((laws_toIntS.f k x1).bind fun t379 => ((impl_RunFlow.f k t376 t379 x2).bind fun bt382 => ((laws_eqIntS.f k bt382.1 x8).bind fun t390 => (if t390 = true then ((laws_eqIntS.f k bt382.2.1 x9).bind fun t391 => (if t391 = true then (if bt382.2.2.1 = x10 then (laws_FnExactRunFlow.j2 k bt370.2 bt372.2 bt372.1 (bt382.2.2.2 != x11)) else (laws_FnExactRunFlow.j2 k bt370.2 bt372.2 bt372.1 true)) else (laws_FnExactRunFlow.j2 k bt370.2 bt372.2 bt372.1 true))) else (laws_FnExactRunFlow.j2 k bt370.2 bt372.2 bt372.1 true)))))) else (some false))))))))
def laws_FnExactRunFlow.j2 : Nat → List Int → List Int → Int → Bool → Option (Bool)
 | 0, _, _, _, _ => none
 | k + 1, x14, x15, x19, x166 => if x166 = true then (some false) else ((laws_heldIntS.f k x14 1).bind fun t392 => (if t392 < 0 then (some false) else ((laws_heldIntS.f k x15 t392).bind fun t393 => (if t393 < 0 then (some false) else (if t393 = x19 then (some true) else (some false))))))
end
def laws_FnExactRunFlow.f (k : Nat) (l0 : List (S81)) (l1 : List Int) (a2 : Int) : Option (Bool) := if (l1.length : Int) > 1048576 then (some true) else ((laws_szBlockS.f k l0 1048576).bind fun t326 => (if t326 < 0 then (some true) else ((laws_toBlockS.f k l0).bind fun t327 => ((laws_toIntS.f k l1).bind fun t330 => ((spec_RunFlow.f k t327 t330 a2).bind fun bt333 => ((laws_toBlockS.f k l0).bind fun t341 => ((laws_toIntS.f k l1).bind fun t344 => ((impl_RunFlow.f k t341 t344 a2).bind fun bt347 => ((laws_eqIntS.f k bt347.1 bt333.1).bind fun t355 => (if t355 = true then ((laws_eqIntS.f k bt347.2.1 bt333.2.1).bind fun t356 => (if t356 = true then (if bt347.2.2.1 = bt333.2.2.1 then (laws_FnExactRunFlow.j0 k l0 l1 a2 bt333.1 bt333.2.1 bt333.2.2.1 bt333.2.2.2 t341 t344 bt347.1 bt347.2.1 bt347.2.2.1 bt347.2.2.2 (bt347.2.2.2 != bt333.2.2.2)) else (laws_FnExactRunFlow.j0 k l0 l1 a2 bt333.1 bt333.2.1 bt333.2.2.1 bt333.2.2.2 t341 t344 bt347.1 bt347.2.1 bt347.2.2.1 bt347.2.2.2 true)) else (laws_FnExactRunFlow.j0 k l0 l1 a2 bt333.1 bt333.2.1 bt333.2.2.1 bt333.2.2.2 t341 t344 bt347.1 bt347.2.1 bt347.2.2.1 bt347.2.2.2 true))) else (laws_FnExactRunFlow.j0 k l0 l1 a2 bt333.1 bt333.2.1 bt333.2.2.1 bt333.2.2.2 t341 t344 bt347.1 bt347.2.1 bt347.2.2.1 bt347.2.2.2 true)))))))))))
theorem laws_FnExactRunFlow.mono_l : ∀ k, (∀ y0 y1 y2 y3 y4 y5 y6 y7 y8 y9 y10 y11 y12 y13, LeO (laws_FnExactRunFlow.j0 k y0 y1 y2 y3 y4 y5 y6 y7 y8 y9 y10 y11 y12 y13) (laws_FnExactRunFlow.j0 (k + 1) y0 y1 y2 y3 y4 y5 y6 y7 y8 y9 y10 y11 y12 y13)) ∧ (∀ y0 y1 y2 y3 y4 y5 y6 y7 y8 y9, LeO (laws_FnExactRunFlow.j1 k y0 y1 y2 y3 y4 y5 y6 y7 y8 y9) (laws_FnExactRunFlow.j1 (k + 1) y0 y1 y2 y3 y4 y5 y6 y7 y8 y9)) ∧ (∀ y0 y1 y2 y3, LeO (laws_FnExactRunFlow.j2 k y0 y1 y2 y3) (laws_FnExactRunFlow.j2 (k + 1) y0 y1 y2 y3))
 | 0 => ⟨fun _ _ _ _ _ _ _ _ _ _ _ _ _ _ r h => by simp [laws_FnExactRunFlow.j0] at h, fun _ _ _ _ _ _ _ _ _ _ r h => by simp [laws_FnExactRunFlow.j1] at h, fun _ _ _ _ r h => by simp [laws_FnExactRunFlow.j2] at h⟩
 | k + 1 => by
  obtain ⟨ih0, ih1, ih2⟩ := laws_FnExactRunFlow.mono_l k
  refine ⟨?_, ?_, ?_⟩
  ·intro y0 y1 y2 y3 y4 y5 y6 y7 y8 y9 y10 y11 y12 y13
   unfold laws_FnExactRunFlow.j0
   repeat' first
   | (with_reducible exact ih0 _ _ _ _ _ _ _ _ _ _ _ _ _ _)
   | (with_reducible exact ih1 _ _ _ _ _ _ _ _ _ _)
   | (with_reducible exact ih2 _ _ _ _)
   | (with_reducible exact impl_RunFlow.mono _ _ _ _)
   | (with_reducible exact laws_eqBlockS.mono _ _ _)
   | (with_reducible exact laws_eqIntS.mono _ _ _)
   | (with_reducible exact laws_heldIntS.mono _ _ _)
   | (with_reducible exact laws_markBlockS.mono _ _ _)
   | (with_reducible exact laws_markIntS.mono _ _ _)
   | (with_reducible exact laws_szBlockS.mono _ _ _)
   | (with_reducible exact laws_toBlockS.mono _ _)
   | (with_reducible exact laws_toIntS.mono _ _)
   | (with_reducible exact spec_RunFlow.mono _ _ _ _)
   | (with_reducible exact LeO.refl _)
   | (with_reducible exact LeO.none _)
   | (with_reducible refine LeO.ite ?_ ?_)
   | (with_reducible refine LeO.bind ?_ (fun _ => ?_))
   | exact ih0 _ _ _ _ _ _ _ _ _ _ _ _ _ _
   | exact ih1 _ _ _ _ _ _ _ _ _ _
   | exact ih2 _ _ _ _
   | exact impl_RunFlow.mono _ _ _ _
   | exact laws_eqBlockS.mono _ _ _
   | exact laws_eqIntS.mono _ _ _
   | exact laws_heldIntS.mono _ _ _
   | exact laws_markBlockS.mono _ _ _
   | exact laws_markIntS.mono _ _ _
   | exact laws_szBlockS.mono _ _ _
   | exact laws_toBlockS.mono _ _
   | exact laws_toIntS.mono _ _
   | exact spec_RunFlow.mono _ _ _ _
   | exact LeO.none _
   | refine LeO.ite ?_ ?_
   | refine LeO.bind ?_ (fun _ => ?_)
  ·intro y0 y1 y2 y3 y4 y5 y6 y7 y8 y9
   unfold laws_FnExactRunFlow.j1
   repeat' first
   | (with_reducible exact ih0 _ _ _ _ _ _ _ _ _ _ _ _ _ _)
   | (with_reducible exact ih1 _ _ _ _ _ _ _ _ _ _)
   | (with_reducible exact ih2 _ _ _ _)
   | (with_reducible exact impl_RunFlow.mono _ _ _ _)
   | (with_reducible exact laws_eqBlockS.mono _ _ _)
   | (with_reducible exact laws_eqIntS.mono _ _ _)
   | (with_reducible exact laws_heldIntS.mono _ _ _)
   | (with_reducible exact laws_markBlockS.mono _ _ _)
   | (with_reducible exact laws_markIntS.mono _ _ _)
   | (with_reducible exact laws_szBlockS.mono _ _ _)
   | (with_reducible exact laws_toBlockS.mono _ _)
   | (with_reducible exact laws_toIntS.mono _ _)
   | (with_reducible exact spec_RunFlow.mono _ _ _ _)
   | (with_reducible exact LeO.refl _)
   | (with_reducible exact LeO.none _)
   | (with_reducible refine LeO.ite ?_ ?_)
   | (with_reducible refine LeO.bind ?_ (fun _ => ?_))
   | exact ih0 _ _ _ _ _ _ _ _ _ _ _ _ _ _
   | exact ih1 _ _ _ _ _ _ _ _ _ _
   | exact ih2 _ _ _ _
   | exact impl_RunFlow.mono _ _ _ _
   | exact laws_eqBlockS.mono _ _ _
   | exact laws_eqIntS.mono _ _ _
   | exact laws_heldIntS.mono _ _ _
   | exact laws_markBlockS.mono _ _ _
   | exact laws_markIntS.mono _ _ _
   | exact laws_szBlockS.mono _ _ _
   | exact laws_toBlockS.mono _ _
   | exact laws_toIntS.mono _ _
   | exact spec_RunFlow.mono _ _ _ _
   | exact LeO.none _
   | refine LeO.ite ?_ ?_
   | refine LeO.bind ?_ (fun _ => ?_)
  ·intro y0 y1 y2 y3
   unfold laws_FnExactRunFlow.j2
   repeat' first
   | (with_reducible exact ih0 _ _ _ _ _ _ _ _ _ _ _ _ _ _)
   | (with_reducible exact ih1 _ _ _ _ _ _ _ _ _ _)
   | (with_reducible exact ih2 _ _ _ _)
   | (with_reducible exact impl_RunFlow.mono _ _ _ _)
   | (with_reducible exact laws_eqBlockS.mono _ _ _)
   | (with_reducible exact laws_eqIntS.mono _ _ _)
   | (with_reducible exact laws_heldIntS.mono _ _ _)
   | (with_reducible exact laws_markBlockS.mono _ _ _)
   | (with_reducible exact laws_markIntS.mono _ _ _)
   | (with_reducible exact laws_szBlockS.mono _ _ _)
   | (with_reducible exact laws_toBlockS.mono _ _)
   | (with_reducible exact laws_toIntS.mono _ _)
   | (with_reducible exact spec_RunFlow.mono _ _ _ _)
   | (with_reducible exact LeO.refl _)
   | (with_reducible exact LeO.none _)
   | (with_reducible refine LeO.ite ?_ ?_)
   | (with_reducible refine LeO.bind ?_ (fun _ => ?_))
   | exact ih0 _ _ _ _ _ _ _ _ _ _ _ _ _ _
   | exact ih1 _ _ _ _ _ _ _ _ _ _
   | exact ih2 _ _ _ _
   | exact impl_RunFlow.mono _ _ _ _
   | exact laws_eqBlockS.mono _ _ _
   | exact laws_eqIntS.mono _ _ _
   | exact laws_heldIntS.mono _ _ _
   | exact laws_markBlockS.mono _ _ _
   | exact laws_markIntS.mono _ _ _
   | exact laws_szBlockS.mono _ _ _
   | exact laws_toBlockS.mono _ _
   | exact laws_toIntS.mono _ _
   | exact spec_RunFlow.mono _ _ _ _
   | exact LeO.none _
   | refine LeO.ite ?_ ?_
   | refine LeO.bind ?_ (fun _ => ?_)
theorem laws_FnExactRunFlow.mono : ∀ a0 a1 a2 k, LeO (laws_FnExactRunFlow.f k a0 a1 a2) (laws_FnExactRunFlow.f (k + 1) a0 a1 a2) := by
 intro a0 a1 a2 k
 obtain ⟨ih0, ih1, ih2⟩ := laws_FnExactRunFlow.mono_l k
 unfold laws_FnExactRunFlow.f
 repeat' first
   | (with_reducible exact ih0 _ _ _ _ _ _ _ _ _ _ _ _ _ _)
   | (with_reducible exact ih1 _ _ _ _ _ _ _ _ _ _)
   | (with_reducible exact ih2 _ _ _ _)
   | (with_reducible exact impl_RunFlow.mono _ _ _ _)
   | (with_reducible exact laws_eqBlockS.mono _ _ _)
   | (with_reducible exact laws_eqIntS.mono _ _ _)
   | (with_reducible exact laws_heldIntS.mono _ _ _)
   | (with_reducible exact laws_markBlockS.mono _ _ _)
   | (with_reducible exact laws_markIntS.mono _ _ _)
   | (with_reducible exact laws_szBlockS.mono _ _ _)
   | (with_reducible exact laws_toBlockS.mono _ _)
   | (with_reducible exact laws_toIntS.mono _ _)
   | (with_reducible exact spec_RunFlow.mono _ _ _ _)
   | (with_reducible exact LeO.refl _)
   | (with_reducible exact LeO.none _)
   | (with_reducible refine LeO.ite ?_ ?_)
   | (with_reducible refine LeO.bind ?_ (fun _ => ?_))
   | exact ih0 _ _ _ _ _ _ _ _ _ _ _ _ _ _
   | exact ih1 _ _ _ _ _ _ _ _ _ _
   | exact ih2 _ _ _ _
   | exact impl_RunFlow.mono _ _ _ _
   | exact laws_eqBlockS.mono _ _ _
   | exact laws_eqIntS.mono _ _ _
   | exact laws_heldIntS.mono _ _ _
   | exact laws_markBlockS.mono _ _ _
   | exact laws_markIntS.mono _ _ _
   | exact laws_szBlockS.mono _ _ _
   | exact laws_toBlockS.mono _ _
   | exact laws_toIntS.mono _ _
   | exact spec_RunFlow.mono _ _ _ _
   | exact LeO.none _
   | refine LeO.ite ?_ ?_
   | refine LeO.bind ?_ (fun _ => ?_)
set_option maxHeartbeats 8000000 in
set_option maxRecDepth 100000 in
theorem laws_FnExactRunFlow.calls (k : Nat) (A0 : Option Addr) (c0 : Nat) (l0 : List (S81)) (A1 : Option Addr) (c1 : Nat) (l1 : List Int) (a2 : Int) (w : World) (hr0 : Kd.C k81 w A0 l0.length l0) (hc0 : l0.length ≤ c0) (hr1 : Kd.C (Kd.int .i64) w A1 l1.length l1) (hc1 : l1.length ≤ c1) (h : laws_FnExactRunFlow.f k l0 l1 a2 = some true) :
  Calls Try.prog 6 #[.slice A0 l0.length c0, .slice A1 l1.length c1, .int .i64 a2] w fun e w' => e = .returned (.bool true) ∧ Below w.heap.size w w' := by
 have HR0 := Aside0.mk hr0
 have HC0 := Aside0.mk hc0
 clear hr0 hc0
 have HR1 := Aside0.mk hr1
 have HC1 := Aside0.mk hc1
 clear hr1 hc1
 have HB := Aside0.mk (Below.refl w.heap.size w)
 have H : (if (l1.length : Int) > 1048576 then (some true) else ((laws_szBlockS.f k l0 1048576).bind fun t326 => (if t326 < 0 then (some true) else ((laws_toBlockS.f k l0).bind fun t327 => ((laws_toIntS.f k l1).bind fun t330 => ((spec_RunFlow.f k t327 t330 a2).bind fun bt333 => ((laws_toBlockS.f k l0).bind fun t341 => ((laws_toIntS.f k l1).bind fun t344 => ((impl_RunFlow.f k t341 t344 a2).bind fun bt347 => ((laws_eqIntS.f k bt347.1 bt333.1).bind fun t355 => (if t355 = true then ((laws_eqIntS.f k bt347.2.1 bt333.2.1).bind fun t356 => (if t356 = true then (if bt347.2.2.1 = bt333.2.2.1 then (laws_FnExactRunFlow.j0 k l0 l1 a2 bt333.1 bt333.2.1 bt333.2.2.1 bt333.2.2.2 t341 t344 bt347.1 bt347.2.1 bt347.2.2.1 bt347.2.2.2 (bt347.2.2.2 != bt333.2.2.2)) else (laws_FnExactRunFlow.j0 k l0 l1 a2 bt333.1 bt333.2.1 bt333.2.2.1 bt333.2.2.2 t341 t344 bt347.1 bt347.2.1 bt347.2.2.1 bt347.2.2.2 true)) else (laws_FnExactRunFlow.j0 k l0 l1 a2 bt333.1 bt333.2.1 bt333.2.2.1 bt333.2.2.2 t341 t344 bt347.1 bt347.2.1 bt347.2.2.1 bt347.2.2.2 true))) else (laws_FnExactRunFlow.j0 k l0 l1 a2 bt333.1 bt333.2.1 bt333.2.2.1 bt333.2.2.2 t341 t344 bt347.1 bt347.2.1 bt347.2.2.1 bt347.2.2.2 true)))))))))))) = some true := h
 clear h
 by_cases c4 : (l1.length : Int) > 1048576
 ·rw [if_pos c4] at H
  have c4b0 : decide (1048576 < (l1.length : Int)) = true := decide_eq_true c4
  have c4b1 : decide (1048576 < l1.length) = true := decide_eq_true (by omega)
  clear c4
  as_aux_lemma =>
   go_enter Try.func6, Try.ntmps6
   go_wp2
   go_ret
   exact ⟨by first | rfl | (simp [errW_none, errW_some] <;> rfl) | (simp [*, errW_none, errW_some] <;> rfl), by repeat (first | (with_reducible first | exact HB.out | apply below_alloc | apply pw_below_drewN | apply below_drew1) | exact HB.out)⟩
 ·rw [if_neg c4] at H
  have c4b0 : decide (1048576 < (l1.length : Int)) = false := decide_eq_false c4
  have c4b1 : decide (1048576 < l1.length) = false := decide_eq_false (by omega)
  clear c4
  replace H := Option.bind_eq_some_iff.mp H
  obtain ⟨t326, A50, H⟩ := H
  replace H : (if t326 < 0 then (some true) else ((laws_toBlockS.f k l0).bind fun t327 => ((laws_toIntS.f k l1).bind fun t330 => ((spec_RunFlow.f k t327 t330 a2).bind fun bt333 => ((laws_toBlockS.f k l0).bind fun t341 => ((laws_toIntS.f k l1).bind fun t344 => ((impl_RunFlow.f k t341 t344 a2).bind fun bt347 => ((laws_eqIntS.f k bt347.1 bt333.1).bind fun t355 => (if t355 = true then ((laws_eqIntS.f k bt347.2.1 bt333.2.1).bind fun t356 => (if t356 = true then (if bt347.2.2.1 = bt333.2.2.1 then (laws_FnExactRunFlow.j0 k l0 l1 a2 bt333.1 bt333.2.1 bt333.2.2.1 bt333.2.2.2 t341 t344 bt347.1 bt347.2.1 bt347.2.2.1 bt347.2.2.2 (bt347.2.2.2 != bt333.2.2.2)) else (laws_FnExactRunFlow.j0 k l0 l1 a2 bt333.1 bt333.2.1 bt333.2.2.1 bt333.2.2.2 t341 t344 bt347.1 bt347.2.1 bt347.2.2.1 bt347.2.2.2 true)) else (laws_FnExactRunFlow.j0 k l0 l1 a2 bt333.1 bt333.2.1 bt333.2.2.1 bt333.2.2.2 t341 t344 bt347.1 bt347.2.1 bt347.2.2.1 bt347.2.2.2 true))) else (laws_FnExactRunFlow.j0 k l0 l1 a2 bt333.1 bt333.2.1 bt333.2.2.1 bt333.2.2.2 t341 t344 bt347.1 bt347.2.1 bt347.2.2.1 bt347.2.2.2 true)))))))))) = some true := H
  have A5 := Aside0.mk A50
  clear A50
  by_cases c6 : t326 < 0
  ·rw [if_pos c6] at H
   have c6b0 : decide (t326 < 0) = true := decide_eq_true c6
   clear c6
   as_aux_lemma =>
    go_enter Try.func6, Try.ntmps6
    go_wp2_with (first | ((with_reducible refine gate_callee (f := 26) rfl ?_); refine goesL_ (some 30) rfl rfl Try.func26 (by kernel_rfl) rfl #[.slice A0 l0.length c0, .int .i64 1048576] rfl (by (try simp only [List.map_toArray, List.map_cons, List.map_nil]); first | done | rfl | (simp only [List.length_drop, List.length_take]; rfl)) ?_; (with_reducible refine (laws_szBlockS.calls k _ _ l0 1048576 t326 _ ?side1 ?side2 A5.out).mono ?_); (case side1 => repeat (first | exact HR0.out | (with_reducible refine Kd.C_alloc ?_ _) | (with_reducible refine Kd.C_drewN ?_ _) | (with_reducible refine Kd.C_drew ?_))); (case side2 => exact HC0.out); rintro e w7 ⟨rfl, hb⟩; refine ⟨_, rfl, ?_⟩; have n0_ := Aside0.mk (below_step (by repeat (first | (with_reducible first | exact HB.out | apply below_alloc | apply pw_below_drewN | apply below_drew1) | exact HB.out)) hb); clear HB; have HB := n0_; clear n0_; (try clear hb); (try clear hb2); (try clear hk); (try clear hi)))
    go_ret
    exact ⟨by first | rfl | (simp [errW_none, errW_some] <;> rfl) | (simp [*, errW_none, errW_some] <;> rfl), by repeat (first | (with_reducible first | exact HB.out | apply below_alloc | apply pw_below_drewN | apply below_drew1) | exact HB.out)⟩
  ·rw [if_neg c6] at H
   have c6b0 : decide (t326 < 0) = false := decide_eq_false c6
   clear c6
   replace H := Option.bind_eq_some_iff.mp H
   obtain ⟨t327, A80, H⟩ := H
   replace H : ((laws_toIntS.f k l1).bind fun t330 => ((spec_RunFlow.f k t327 t330 a2).bind fun bt333 => ((laws_toBlockS.f k l0).bind fun t341 => ((laws_toIntS.f k l1).bind fun t344 => ((impl_RunFlow.f k t341 t344 a2).bind fun bt347 => ((laws_eqIntS.f k bt347.1 bt333.1).bind fun t355 => (if t355 = true then ((laws_eqIntS.f k bt347.2.1 bt333.2.1).bind fun t356 => (if t356 = true then (if bt347.2.2.1 = bt333.2.2.1 then (laws_FnExactRunFlow.j0 k l0 l1 a2 bt333.1 bt333.2.1 bt333.2.2.1 bt333.2.2.2 t341 t344 bt347.1 bt347.2.1 bt347.2.2.1 bt347.2.2.2 (bt347.2.2.2 != bt333.2.2.2)) else (laws_FnExactRunFlow.j0 k l0 l1 a2 bt333.1 bt333.2.1 bt333.2.2.1 bt333.2.2.2 t341 t344 bt347.1 bt347.2.1 bt347.2.2.1 bt347.2.2.2 true)) else (laws_FnExactRunFlow.j0 k l0 l1 a2 bt333.1 bt333.2.1 bt333.2.2.1 bt333.2.2.2 t341 t344 bt347.1 bt347.2.1 bt347.2.2.1 bt347.2.2.2 true))) else (laws_FnExactRunFlow.j0 k l0 l1 a2 bt333.1 bt333.2.1 bt333.2.2.1 bt333.2.2.2 t341 t344 bt347.1 bt347.2.1 bt347.2.2.1 bt347.2.2.2 true)))))))) = some true := H
   have A8 := Aside0.mk A80
   clear A80
   replace H := Option.bind_eq_some_iff.mp H
   obtain ⟨t330, A90, H⟩ := H
   replace H : ((spec_RunFlow.f k t327 t330 a2).bind fun bt333 => ((laws_toBlockS.f k l0).bind fun t341 => ((laws_toIntS.f k l1).bind fun t344 => ((impl_RunFlow.f k t341 t344 a2).bind fun bt347 => ((laws_eqIntS.f k bt347.1 bt333.1).bind fun t355 => (if t355 = true then ((laws_eqIntS.f k bt347.2.1 bt333.2.1).bind fun t356 => (if t356 = true then (if bt347.2.2.1 = bt333.2.2.1 then (laws_FnExactRunFlow.j0 k l0 l1 a2 bt333.1 bt333.2.1 bt333.2.2.1 bt333.2.2.2 t341 t344 bt347.1 bt347.2.1 bt347.2.2.1 bt347.2.2.2 (bt347.2.2.2 != bt333.2.2.2)) else (laws_FnExactRunFlow.j0 k l0 l1 a2 bt333.1 bt333.2.1 bt333.2.2.1 bt333.2.2.2 t341 t344 bt347.1 bt347.2.1 bt347.2.2.1 bt347.2.2.2 true)) else (laws_FnExactRunFlow.j0 k l0 l1 a2 bt333.1 bt333.2.1 bt333.2.2.1 bt333.2.2.2 t341 t344 bt347.1 bt347.2.1 bt347.2.2.1 bt347.2.2.2 true))) else (laws_FnExactRunFlow.j0 k l0 l1 a2 bt333.1 bt333.2.1 bt333.2.2.1 bt333.2.2.2 t341 t344 bt347.1 bt347.2.1 bt347.2.2.1 bt347.2.2.2 true))))))) = some true := H
   have A9 := Aside0.mk A90
   clear A90
   replace H := Option.bind_eq_some_iff.mp H
   obtain ⟨⟨t333, t334, t335, t336⟩, A100, H⟩ := H
   replace H : ((laws_toBlockS.f k l0).bind fun t341 => ((laws_toIntS.f k l1).bind fun t344 => ((impl_RunFlow.f k t341 t344 a2).bind fun bt347 => ((laws_eqIntS.f k bt347.1 t333).bind fun t355 => (if t355 = true then ((laws_eqIntS.f k bt347.2.1 t334).bind fun t356 => (if t356 = true then (if bt347.2.2.1 = t335 then (laws_FnExactRunFlow.j0 k l0 l1 a2 t333 t334 t335 t336 t341 t344 bt347.1 bt347.2.1 bt347.2.2.1 bt347.2.2.2 (bt347.2.2.2 != t336)) else (laws_FnExactRunFlow.j0 k l0 l1 a2 t333 t334 t335 t336 t341 t344 bt347.1 bt347.2.1 bt347.2.2.1 bt347.2.2.2 true)) else (laws_FnExactRunFlow.j0 k l0 l1 a2 t333 t334 t335 t336 t341 t344 bt347.1 bt347.2.1 bt347.2.2.1 bt347.2.2.2 true))) else (laws_FnExactRunFlow.j0 k l0 l1 a2 t333 t334 t335 t336 t341 t344 bt347.1 bt347.2.1 bt347.2.2.1 bt347.2.2.2 true)))))) = some true := H
   have A10 := Aside0.mk A100
   clear A100
   replace H := Option.bind_eq_some_iff.mp H
   obtain ⟨t341, A110, H⟩ := H
   replace H : ((laws_toIntS.f k l1).bind fun t344 => ((impl_RunFlow.f k t341 t344 a2).bind fun bt347 => ((laws_eqIntS.f k bt347.1 t333).bind fun t355 => (if t355 = true then ((laws_eqIntS.f k bt347.2.1 t334).bind fun t356 => (if t356 = true then (if bt347.2.2.1 = t335 then (laws_FnExactRunFlow.j0 k l0 l1 a2 t333 t334 t335 t336 t341 t344 bt347.1 bt347.2.1 bt347.2.2.1 bt347.2.2.2 (bt347.2.2.2 != t336)) else (laws_FnExactRunFlow.j0 k l0 l1 a2 t333 t334 t335 t336 t341 t344 bt347.1 bt347.2.1 bt347.2.2.1 bt347.2.2.2 true)) else (laws_FnExactRunFlow.j0 k l0 l1 a2 t333 t334 t335 t336 t341 t344 bt347.1 bt347.2.1 bt347.2.2.1 bt347.2.2.2 true))) else (laws_FnExactRunFlow.j0 k l0 l1 a2 t333 t334 t335 t336 t341 t344 bt347.1 bt347.2.1 bt347.2.2.1 bt347.2.2.2 true))))) = some true := H
   have A11 := Aside0.mk A110
   clear A110
   replace H := Option.bind_eq_some_iff.mp H
   obtain ⟨t344, A120, H⟩ := H
   replace H : ((impl_RunFlow.f k t341 t344 a2).bind fun bt347 => ((laws_eqIntS.f k bt347.1 t333).bind fun t355 => (if t355 = true then ((laws_eqIntS.f k bt347.2.1 t334).bind fun t356 => (if t356 = true then (if bt347.2.2.1 = t335 then (laws_FnExactRunFlow.j0 k l0 l1 a2 t333 t334 t335 t336 t341 t344 bt347.1 bt347.2.1 bt347.2.2.1 bt347.2.2.2 (bt347.2.2.2 != t336)) else (laws_FnExactRunFlow.j0 k l0 l1 a2 t333 t334 t335 t336 t341 t344 bt347.1 bt347.2.1 bt347.2.2.1 bt347.2.2.2 true)) else (laws_FnExactRunFlow.j0 k l0 l1 a2 t333 t334 t335 t336 t341 t344 bt347.1 bt347.2.1 bt347.2.2.1 bt347.2.2.2 true))) else (laws_FnExactRunFlow.j0 k l0 l1 a2 t333 t334 t335 t336 t341 t344 bt347.1 bt347.2.1 bt347.2.2.1 bt347.2.2.2 true)))) = some true := H
   have A12 := Aside0.mk A120
   clear A120
   replace H := Option.bind_eq_some_iff.mp H
   obtain ⟨⟨t347, t348, t349, t350⟩, A130, H⟩ := H
   replace H : ((laws_eqIntS.f k t347 t333).bind fun t355 => (if t355 = true then ((laws_eqIntS.f k t348 t334).bind fun t356 => (if t356 = true then (if t349 = t335 then (laws_FnExactRunFlow.j0 k l0 l1 a2 t333 t334 t335 t336 t341 t344 t347 t348 t349 t350 (t350 != t336)) else (laws_FnExactRunFlow.j0 k l0 l1 a2 t333 t334 t335 t336 t341 t344 t347 t348 t349 t350 true)) else (laws_FnExactRunFlow.j0 k l0 l1 a2 t333 t334 t335 t336 t341 t344 t347 t348 t349 t350 true))) else (laws_FnExactRunFlow.j0 k l0 l1 a2 t333 t334 t335 t336 t341 t344 t347 t348 t349 t350 true))) = some true := H
   have A13 := Aside0.mk A130
   clear A130
   have HC14 := Aside0.mk H
   clear H
   go_enter Try.func6, Try.ntmps6
   go_upto_region 11 with (first | ((with_reducible refine gate_callee (f := 26) rfl ?_); refine goesL_ (some 30) rfl rfl Try.func26 (by kernel_rfl) rfl #[.slice A0 l0.length c0, .int .i64 1048576] rfl (by (try simp only [List.map_toArray, List.map_cons, List.map_nil]); first | done | rfl | (simp only [List.length_drop, List.length_take]; rfl)) ?_; (with_reducible refine (laws_szBlockS.calls k _ _ l0 1048576 t326 _ ?side1 ?side2 A5.out).mono ?_); (case side1 => repeat (first | exact HR0.out | (with_reducible refine Kd.C_alloc ?_ _) | (with_reducible refine Kd.C_drewN ?_ _) | (with_reducible refine Kd.C_drew ?_))); (case side2 => exact HC0.out); rintro e w15 ⟨rfl, hb⟩; refine ⟨_, rfl, ?_⟩; have n0_ := Aside0.mk (below_step (by repeat (first | (with_reducible first | exact HB.out | apply below_alloc | apply pw_below_drewN | apply below_drew1) | exact HB.out)) hb); clear HB; have HB := n0_; clear n0_; (try clear hb); (try clear hb2); (try clear hk); (try clear hi)) | ((with_reducible refine gate_callee (f := 28) rfl ?_); refine goesL_ (some 35) rfl rfl Try.func28 (by kernel_rfl) rfl #[.slice A0 l0.length c0] rfl (by (try simp only [List.map_toArray, List.map_cons, List.map_nil]); first | done | rfl | (simp only [List.length_drop, List.length_take]; rfl)) ?_; (with_reducible refine (laws_toBlockS.calls k _ _ l0 t327 _ ?side1 ?side2 A8.out).mono ?_); (case side1 => repeat (first | exact (Kd.C_below HR0.out HB.out) | (with_reducible refine Kd.C_alloc ?_ _) | (with_reducible refine Kd.C_drewN ?_ _) | (with_reducible refine Kd.C_drew ?_))); (case side2 => exact HC0.out); rintro e w16 ⟨v328, rfl, ho0, hb⟩; refine ⟨_, rfl, ?_⟩; have n0_ := Aside0.mk (Kd.S_lower ho0 (below_size (by repeat (first | (with_reducible first | exact HB.out | apply below_alloc | apply pw_below_drewN | apply below_drew1) | exact HB.out)))); have n1_ := Aside0.mk (below_step (by repeat (first | (with_reducible first | exact HB.out | apply below_alloc | apply pw_below_drewN | apply below_drew1) | exact HB.out)) hb); clear HB; have HO329 := n0_; have HB := n1_; clear n0_ n1_; (try clear hb); (try clear hb2); (try clear hk); (try clear hi); (try clear ho0)) | ((with_reducible refine gate_callee (f := 12) rfl ?_); refine goesL_ (some 37) rfl rfl Try.func12 (by kernel_rfl) rfl #[.slice A1 l1.length c1] rfl (by (try simp only [List.map_toArray, List.map_cons, List.map_nil]); first | done | rfl | (simp only [List.length_drop, List.length_take]; rfl)) ?_; (with_reducible refine (laws_toIntS.calls k _ _ l1 t330 _ ?side1 ?side2 A9.out).mono ?_); (case side1 => repeat (first | exact (Kd.C_below HR1.out HB.out) | (with_reducible refine Kd.C_alloc ?_ _) | (with_reducible refine Kd.C_drewN ?_ _) | (with_reducible refine Kd.C_drew ?_))); (case side2 => exact HC1.out); rintro e w17 ⟨v331, rfl, ho0, hb⟩; refine ⟨_, rfl, ?_⟩; have n0_ := Aside0.mk (Kd.S_below (by (with_reducible repeat (first | apply Kd.S_alloc | apply Kd.S_drewN | apply Kd.S_drew)); exact HO329.out) hb); have n1_ := Aside0.mk (Kd.R_lower ho0 (below_size (by repeat (first | (with_reducible first | exact HB.out | apply below_alloc | apply pw_below_drewN | apply below_drew1) | exact HB.out)))); have n2_ := Aside0.mk (below_step (by repeat (first | (with_reducible first | exact HB.out | apply below_alloc | apply pw_below_drewN | apply below_drew1) | exact HB.out)) hb); clear HO329; clear HB; have HO329 := n0_; have HO332 := n1_; have HB := n2_; clear n0_ n1_ n2_; (try clear hb); (try clear hb2); (try clear hk); (try clear hi); (try clear ho0); obtain ⟨Ao18, co18, eo18⟩ := Kd.S_slice HO329.out; subst eo18; obtain ⟨Ao19, co19, eo19⟩ := Kd.R_slice HO332.out; subst eo19) | ((with_reducible refine gate_callee (f := 32) rfl ?_); refine goesL_ (some 39) rfl rfl Try.func32 (by kernel_rfl) rfl #[.slice Ao18 t327.length co18, .slice Ao19 t330.length co19, .int .i64 a2] rfl (by (try simp only [List.map_toArray, List.map_cons, List.map_nil]); first | done | rfl | (simp only [List.length_drop, List.length_take]; rfl)) ?_; (with_reducible refine (spec_RunFlow.calls k _ _ t327 _ _ t330 a2 t333 t334 t335 t336 _ ?side1 ?side2 ?side3 ?side4 A10.out).mono ?_); (case side1 => repeat (first | exact (Kd.S_reads' HO329.out).2.2 | (with_reducible refine Kd.C_alloc ?_ _) | (with_reducible refine Kd.C_drewN ?_ _) | (with_reducible refine Kd.C_drew ?_))); (case side2 => exact (Kd.S_reads' HO329.out).2.1); (case side3 => repeat (first | exact (Kd.R_reads' HO332.out).2.2 | (with_reducible refine Kd.C_alloc ?_ _) | (with_reducible refine Kd.C_drewN ?_ _) | (with_reducible refine Kd.C_drew ?_))); (case side4 => exact (Kd.R_reads' HO332.out).2.1); rintro e w20 ⟨v337, v339, rfl, ho0, ho1, hb⟩; refine ⟨_, rfl, ?_⟩; have n0_ := Aside0.mk (Kd.S_below (by (with_reducible repeat (first | apply Kd.S_alloc | apply Kd.S_drewN | apply Kd.S_drew)); exact HO329.out) hb); have n1_ := Aside0.mk (Kd.R_mono (Kd.R_told (Kd.R_told (Kd.R_old (by (with_reducible repeat (first | apply Kd.R_alloc | apply Kd.R_drewN | apply Kd.R_drew)); exact HO332.out) hb) (Kd.R_base ho0)) (Kd.R_base ho1)) (fun _ h_ => h_.1)); have n2_ := Aside0.mk (Kd.R_lower (Kd.R_new' ho0 (Kd.R_lt (by (with_reducible repeat (first | apply Kd.R_alloc | apply Kd.R_drewN | apply Kd.R_drew)); exact HO332.out))) (below_size (by repeat (first | (with_reducible first | exact HB.out | apply below_alloc | apply pw_below_drewN | apply below_drew1) | exact HB.out)))); have n3_ := Aside0.mk (Kd.R_lower (Kd.R_new' ho1 (Kd.R_lt (by (with_reducible repeat (first | apply Kd.R_alloc | apply Kd.R_drewN | apply Kd.R_drew)); exact HO332.out))) (below_size (by repeat (first | (with_reducible first | exact HB.out | apply below_alloc | apply pw_below_drewN | apply below_drew1) | exact HB.out)))); have n4_ := Aside0.mk (below_step (by repeat (first | (with_reducible first | exact HB.out | apply below_alloc | apply pw_below_drewN | apply below_drew1) | exact HB.out)) hb); clear HO329; clear HO332; clear HB; have HO329 := n0_; have HO332 := n1_; have HO338 := n2_; have HO340 := n3_; have HB := n4_; clear n0_ n1_ n2_ n3_ n4_; (try clear hb); (try clear hb2); (try clear hk); (try clear hi); (try clear ho0); (try clear ho1)) | ((with_reducible refine gate_callee (f := 28) rfl ?_); refine goesL_ (some 45) rfl rfl Try.func28 (by kernel_rfl) rfl #[.slice A0 l0.length c0] rfl (by (try simp only [List.map_toArray, List.map_cons, List.map_nil]); first | done | rfl | (simp only [List.length_drop, List.length_take]; rfl)) ?_; (with_reducible refine (laws_toBlockS.calls k _ _ l0 t341 _ ?side1 ?side2 A11.out).mono ?_); (case side1 => repeat (first | exact (Kd.C_below HR0.out HB.out) | (with_reducible refine Kd.C_alloc ?_ _) | (with_reducible refine Kd.C_drewN ?_ _) | (with_reducible refine Kd.C_drew ?_))); (case side2 => exact HC0.out); rintro e w21 ⟨v342, rfl, ho0, hb⟩; refine ⟨_, rfl, ?_⟩; have n0_ := Aside0.mk (Kd.S_elder' (by (with_reducible repeat (first | apply Kd.S_alloc | apply Kd.S_drewN | apply Kd.S_drew)); exact HO329.out) (Kd.S_base ho0) hb); have n1_ := Aside0.mk (Kd.R_below (by (with_reducible repeat (first | apply Kd.R_alloc | apply Kd.R_drewN | apply Kd.R_drew)); exact HO332.out) hb); have n2_ := Aside0.mk (Kd.R_below (by (with_reducible repeat (first | apply Kd.R_alloc | apply Kd.R_drewN | apply Kd.R_drew)); exact HO338.out) hb); have n3_ := Aside0.mk (Kd.R_below (by (with_reducible repeat (first | apply Kd.R_alloc | apply Kd.R_drewN | apply Kd.R_drew)); exact HO340.out) hb); have n4_ := Aside0.mk (Kd.S_lower (Kd.S_new' ho0 (Kd.S_lt (by (with_reducible repeat (first | apply Kd.S_alloc | apply Kd.S_drewN | apply Kd.S_drew)); exact HO329.out))) (below_size (by repeat (first | (with_reducible first | exact HB.out | apply below_alloc | apply pw_below_drewN | apply below_drew1) | exact HB.out)))); have n5_ := Aside0.mk (below_step (by repeat (first | (with_reducible first | exact HB.out | apply below_alloc | apply pw_below_drewN | apply below_drew1) | exact HB.out)) hb); clear HO329; clear HO332; clear HO338; clear HO340; clear HB; have HO329 := n0_; have HO332 := n1_; have HO338 := n2_; have HO340 := n3_; have HO343 := n4_; have HB := n5_; clear n0_ n1_ n2_ n3_ n4_ n5_; (try clear hb); (try clear hb2); (try clear hk); (try clear hi); (try clear ho0)) | ((with_reducible refine gate_callee (f := 12) rfl ?_); refine goesL_ (some 47) rfl rfl Try.func12 (by kernel_rfl) rfl #[.slice A1 l1.length c1] rfl (by (try simp only [List.map_toArray, List.map_cons, List.map_nil]); first | done | rfl | (simp only [List.length_drop, List.length_take]; rfl)) ?_; (with_reducible refine (laws_toIntS.calls k _ _ l1 t344 _ ?side1 ?side2 A12.out).mono ?_); (case side1 => repeat (first | exact (Kd.C_below HR1.out HB.out) | (with_reducible refine Kd.C_alloc ?_ _) | (with_reducible refine Kd.C_drewN ?_ _) | (with_reducible refine Kd.C_drew ?_))); (case side2 => exact HC1.out); rintro e w22 ⟨v345, rfl, ho0, hb⟩; refine ⟨_, rfl, ?_⟩; have n0_ := Aside0.mk (Kd.S_below (by (with_reducible repeat (first | apply Kd.S_alloc | apply Kd.S_drewN | apply Kd.S_drew)); exact HO329.out) hb); have n1_ := Aside0.mk (Kd.R_elder' (by (with_reducible repeat (first | apply Kd.R_alloc | apply Kd.R_drewN | apply Kd.R_drew)); exact HO332.out) (Kd.R_base ho0) hb); have n2_ := Aside0.mk (Kd.R_elder' (by (with_reducible repeat (first | apply Kd.R_alloc | apply Kd.R_drewN | apply Kd.R_drew)); exact HO338.out) (Kd.R_base ho0) hb); have n3_ := Aside0.mk (Kd.R_elder' (by (with_reducible repeat (first | apply Kd.R_alloc | apply Kd.R_drewN | apply Kd.R_drew)); exact HO340.out) (Kd.R_base ho0) hb); have n4_ := Aside0.mk (Kd.S_below (by (with_reducible repeat (first | apply Kd.S_alloc | apply Kd.S_drewN | apply Kd.S_drew)); exact HO343.out) hb); have n5_ := Aside0.mk (Kd.R_lower (Kd.R_new' (Kd.R_new' (Kd.R_new' ho0 (Kd.R_lt (by (with_reducible repeat (first | apply Kd.R_alloc | apply Kd.R_drewN | apply Kd.R_drew)); exact HO332.out))) (Kd.R_lt (by (with_reducible repeat (first | apply Kd.R_alloc | apply Kd.R_drewN | apply Kd.R_drew)); exact HO338.out))) (Kd.R_lt (by (with_reducible repeat (first | apply Kd.R_alloc | apply Kd.R_drewN | apply Kd.R_drew)); exact HO340.out))) (below_size (by repeat (first | (with_reducible first | exact HB.out | apply below_alloc | apply pw_below_drewN | apply below_drew1) | exact HB.out)))); have n6_ := Aside0.mk (below_step (by repeat (first | (with_reducible first | exact HB.out | apply below_alloc | apply pw_below_drewN | apply below_drew1) | exact HB.out)) hb); clear HO329; clear HO332; clear HO338; clear HO340; clear HO343; clear HB; have HO329 := n0_; have HO332 := n1_; have HO338 := n2_; have HO340 := n3_; have HO343 := n4_; have HO346 := n5_; have HB := n6_; clear n0_ n1_ n2_ n3_ n4_ n5_ n6_; (try clear hb); (try clear hb2); (try clear hk); (try clear hi); (try clear ho0); obtain ⟨Ao23, co23, eo23⟩ := Kd.S_slice HO343.out; subst eo23; obtain ⟨Ao24, co24, eo24⟩ := Kd.R_slice HO346.out; subst eo24) | ((with_reducible refine gate_callee (f := 33) rfl ?_); refine goesL_ (some 52) rfl rfl Try.func33 (by kernel_rfl) rfl #[.slice Ao23 t341.length co23, .slice Ao24 t344.length co24, .int .i64 a2] rfl (by (try simp only [List.map_toArray, List.map_cons, List.map_nil]); first | done | rfl | (simp only [List.length_drop, List.length_take]; rfl)) ?_; (with_reducible refine (impl_RunFlow.calls k _ _ t341 _ _ t344 a2 t347 t348 t349 t350 _ ?side1 ?side2 ?side3 ?side4 A13.out).mono ?_); (case side1 => repeat (first | exact (Kd.S_reads' HO343.out).2.2 | (with_reducible refine Kd.C_alloc ?_ _) | (with_reducible refine Kd.C_drewN ?_ _) | (with_reducible refine Kd.C_drew ?_))); (case side2 => exact (Kd.S_reads' HO343.out).2.1); (case side3 => repeat (first | exact (Kd.R_reads' HO346.out).2.2 | (with_reducible refine Kd.C_alloc ?_ _) | (with_reducible refine Kd.C_drewN ?_ _) | (with_reducible refine Kd.C_drew ?_))); (case side4 => exact (Kd.R_reads' HO346.out).2.1); rintro e w25 ⟨v351, v353, rfl, ho0, ho1, hb⟩; refine ⟨_, rfl, ?_⟩; have n0_ := Aside0.mk (Kd.S_below (by (with_reducible repeat (first | apply Kd.S_alloc | apply Kd.S_drewN | apply Kd.S_drew)); exact HO329.out) hb); have n1_ := Aside0.mk (Kd.R_mono (Kd.R_told (Kd.R_told (Kd.R_old (by (with_reducible repeat (first | apply Kd.R_alloc | apply Kd.R_drewN | apply Kd.R_drew)); exact HO332.out) hb) (Kd.R_base ho0)) (Kd.R_base ho1)) (fun _ h_ => h_.1)); have n2_ := Aside0.mk (Kd.R_mono (Kd.R_told (Kd.R_told (Kd.R_old (by (with_reducible repeat (first | apply Kd.R_alloc | apply Kd.R_drewN | apply Kd.R_drew)); exact HO338.out) hb) (Kd.R_base ho0)) (Kd.R_base ho1)) (fun _ h_ => h_.1)); have n3_ := Aside0.mk (Kd.R_mono (Kd.R_told (Kd.R_told (Kd.R_old (by (with_reducible repeat (first | apply Kd.R_alloc | apply Kd.R_drewN | apply Kd.R_drew)); exact HO340.out) hb) (Kd.R_base ho0)) (Kd.R_base ho1)) (fun _ h_ => h_.1)); have n4_ := Aside0.mk (Kd.S_below (by (with_reducible repeat (first | apply Kd.S_alloc | apply Kd.S_drewN | apply Kd.S_drew)); exact HO343.out) hb); have n5_ := Aside0.mk (Kd.R_mono (Kd.R_told (Kd.R_told (Kd.R_old (by (with_reducible repeat (first | apply Kd.R_alloc | apply Kd.R_drewN | apply Kd.R_drew)); exact HO346.out) hb) (Kd.R_base ho0)) (Kd.R_base ho1)) (fun _ h_ => h_.1)); have n6_ := Aside0.mk (Kd.R_lower (Kd.R_new' (Kd.R_new' (Kd.R_new' (Kd.R_new' ho0 (Kd.R_lt (by (with_reducible repeat (first | apply Kd.R_alloc | apply Kd.R_drewN | apply Kd.R_drew)); exact HO332.out))) (Kd.R_lt (by (with_reducible repeat (first | apply Kd.R_alloc | apply Kd.R_drewN | apply Kd.R_drew)); exact HO338.out))) (Kd.R_lt (by (with_reducible repeat (first | apply Kd.R_alloc | apply Kd.R_drewN | apply Kd.R_drew)); exact HO340.out))) (Kd.R_lt (by (with_reducible repeat (first | apply Kd.R_alloc | apply Kd.R_drewN | apply Kd.R_drew)); exact HO346.out))) (below_size (by repeat (first | (with_reducible first | exact HB.out | apply below_alloc | apply pw_below_drewN | apply below_drew1) | exact HB.out)))); have n7_ := Aside0.mk (Kd.R_lower (Kd.R_new' (Kd.R_new' (Kd.R_new' (Kd.R_new' ho1 (Kd.R_lt (by (with_reducible repeat (first | apply Kd.R_alloc | apply Kd.R_drewN | apply Kd.R_drew)); exact HO332.out))) (Kd.R_lt (by (with_reducible repeat (first | apply Kd.R_alloc | apply Kd.R_drewN | apply Kd.R_drew)); exact HO338.out))) (Kd.R_lt (by (with_reducible repeat (first | apply Kd.R_alloc | apply Kd.R_drewN | apply Kd.R_drew)); exact HO340.out))) (Kd.R_lt (by (with_reducible repeat (first | apply Kd.R_alloc | apply Kd.R_drewN | apply Kd.R_drew)); exact HO346.out))) (below_size (by repeat (first | (with_reducible first | exact HB.out | apply below_alloc | apply pw_below_drewN | apply below_drew1) | exact HB.out)))); have n8_ := Aside0.mk (below_step (by repeat (first | (with_reducible first | exact HB.out | apply below_alloc | apply pw_below_drewN | apply below_drew1) | exact HB.out)) hb); clear HO329; clear HO332; clear HO338; clear HO340; clear HO343; clear HO346; clear HB; have HO329 := n0_; have HO332 := n1_; have HO338 := n2_; have HO340 := n3_; have HO343 := n4_; have HO346 := n5_; have HO352 := n6_; have HO354 := n7_; have HB := n8_; clear n0_ n1_ n2_ n3_ n4_ n5_ n6_ n7_ n8_; (try clear hb); (try clear hb2); (try clear hk); (try clear hi); (try clear ho0); (try clear ho1)))
   (try simp only [Act.put, List.setIfInBounds_toArray, List.set_cons_zero, List.set_cons_succ])
   go_cut [76] (fun v76 wc => ∃ (kq : Nat) (x76_13 : Bool), v76 = .bool x76_13 ∧ Aside0 (laws_FnExactRunFlow.j0 kq l0 l1 a2 t333 t334 t335 t336 t341 t344 t347 t348 t349 t350 x76_13 = some true) ∧ Aside0 (kq ≤ k) ∧ Aside0 (Kd.R (Kd.int .i64) 3 wc w.heap.size (fun k_ => some k_ ≠ (v339 : Value).ownBlock ∧ some k_ ≠ ((.slice Ao24 t344.length co24) : Value).ownBlock ∧ some k_ ≠ (v351 : Value).ownBlock ∧ some k_ ≠ (v353 : Value).ownBlock) v337 t333) ∧ Aside0 (Kd.R (Kd.int .i64) 3 wc w.heap.size (fun k_ => some k_ ≠ (v337 : Value).ownBlock ∧ some k_ ≠ ((.slice Ao24 t344.length co24) : Value).ownBlock ∧ some k_ ≠ (v351 : Value).ownBlock ∧ some k_ ≠ (v353 : Value).ownBlock) v339 t334) ∧ Aside0 (Kd.S k87 87 wc w.heap.size (fun _ => True) (.slice Ao23 t341.length co23) t341) ∧ Aside0 (Kd.R (Kd.int .i64) 3 wc w.heap.size (fun k_ => some k_ ≠ (v337 : Value).ownBlock ∧ some k_ ≠ (v339 : Value).ownBlock ∧ some k_ ≠ (v351 : Value).ownBlock ∧ some k_ ≠ (v353 : Value).ownBlock) (.slice Ao24 t344.length co24) t344) ∧ Aside0 (Kd.R (Kd.int .i64) 3 wc w.heap.size (fun k_ => some k_ ≠ (v337 : Value).ownBlock ∧ some k_ ≠ (v339 : Value).ownBlock ∧ some k_ ≠ ((.slice Ao24 t344.length co24) : Value).ownBlock ∧ some k_ ≠ (v353 : Value).ownBlock) v351 t347) ∧ Aside0 (Kd.R (Kd.int .i64) 3 wc w.heap.size (fun k_ => some k_ ≠ (v337 : Value).ownBlock ∧ some k_ ≠ (v339 : Value).ownBlock ∧ some k_ ≠ ((.slice Ao24 t344.length co24) : Value).ownBlock ∧ some k_ ≠ (v351 : Value).ownBlock) v353 t348) ∧ Aside0 (Below w.heap.size w wc))
   case first =>
    have H := HC14.out
    clear HC14
    replace H := Option.bind_eq_some_iff.mp H
    obtain ⟨t355, A260, H⟩ := H
    replace H : (if t355 = true then ((laws_eqIntS.f k t348 t334).bind fun t356 => (if t356 = true then (if t349 = t335 then (laws_FnExactRunFlow.j0 k l0 l1 a2 t333 t334 t335 t336 t341 t344 t347 t348 t349 t350 (t350 != t336)) else (laws_FnExactRunFlow.j0 k l0 l1 a2 t333 t334 t335 t336 t341 t344 t347 t348 t349 t350 true)) else (laws_FnExactRunFlow.j0 k l0 l1 a2 t333 t334 t335 t336 t341 t344 t347 t348 t349 t350 true))) else (laws_FnExactRunFlow.j0 k l0 l1 a2 t333 t334 t335 t336 t341 t344 t347 t348 t349 t350 true)) = some true := H
    have A26 := Aside0.mk A260
    clear A260
    by_cases c27 : t355 = true
    ·subst c27
     have H1 : ((laws_eqIntS.f k t348 t334).bind fun t356 => (if t356 = true then (if t349 = t335 then (laws_FnExactRunFlow.j0 k l0 l1 a2 t333 t334 t335 t336 t341 t344 t347 t348 t349 t350 (t350 != t336)) else (laws_FnExactRunFlow.j0 k l0 l1 a2 t333 t334 t335 t336 t341 t344 t347 t348 t349 t350 true)) else (laws_FnExactRunFlow.j0 k l0 l1 a2 t333 t334 t335 t336 t341 t344 t347 t348 t349 t350 true))) = some true := by rw [if_pos rfl] at H; exact H
     clear H
     have H := H1
     clear H1
     replace H := Option.bind_eq_some_iff.mp H
     obtain ⟨t356, A280, H⟩ := H
     replace H : (if t356 = true then (if t349 = t335 then (laws_FnExactRunFlow.j0 k l0 l1 a2 t333 t334 t335 t336 t341 t344 t347 t348 t349 t350 (t350 != t336)) else (laws_FnExactRunFlow.j0 k l0 l1 a2 t333 t334 t335 t336 t341 t344 t347 t348 t349 t350 true)) else (laws_FnExactRunFlow.j0 k l0 l1 a2 t333 t334 t335 t336 t341 t344 t347 t348 t349 t350 true)) = some true := H
     have A28 := Aside0.mk A280
     clear A280
     by_cases c29 : t356 = true
     ·subst c29
      have H1 : (if t349 = t335 then (laws_FnExactRunFlow.j0 k l0 l1 a2 t333 t334 t335 t336 t341 t344 t347 t348 t349 t350 (t350 != t336)) else (laws_FnExactRunFlow.j0 k l0 l1 a2 t333 t334 t335 t336 t341 t344 t347 t348 t349 t350 true)) = some true := by rw [if_pos rfl] at H; exact H
      clear H
      have H := H1
      clear H1
      by_cases c30 : t349 = t335
      ·rw [if_pos c30] at H
       have c30b0 : (t349 == t335) = true := beq_iff_eq.mpr c30
       have c30b1 : (t349 != t335) = false := bne_eq_false_iff_eq.mpr c30
       clear c30
       (first | rw [c30b0] | (simp only [i64_w, i32_w]; rw [c30b0]) | skip)
       as_aux_lemma =>
        have H' := Aside0.mk H
        clear H
        obtain ⟨Ao31, co31, eo31⟩ := Kd.R_slice HO352.out
        subst eo31
        obtain ⟨Ao32, co32, eo32⟩ := Kd.R_slice HO338.out
        subst eo32
        go_wp2_with (first | ((with_reducible refine gate_callee (f := 14) rfl ?_); refine goesL_ (some 59) rfl rfl Try.func14 (by kernel_rfl) rfl #[.slice Ao31 t347.length co31, .slice Ao32 t333.length co32] rfl (by (try simp only [List.map_toArray, List.map_cons, List.map_nil]); first | done | rfl | (simp only [List.length_drop, List.length_take]; rfl)) ?_; (with_reducible refine (laws_eqIntS.calls k _ _ t347 _ _ t333 true _ ?side1 ?side2 ?side3 ?side4 A26.out).mono ?_); (case side1 => repeat (first | exact (Kd.R_reads' HO352.out).2.2 | (with_reducible refine Kd.C_alloc ?_ _) | (with_reducible refine Kd.C_drewN ?_ _) | (with_reducible refine Kd.C_drew ?_))); (case side2 => exact (Kd.R_reads' HO352.out).2.1); (case side3 => repeat (first | exact (Kd.R_reads' HO338.out).2.2 | (with_reducible refine Kd.C_alloc ?_ _) | (with_reducible refine Kd.C_drewN ?_ _) | (with_reducible refine Kd.C_drew ?_))); (case side4 => exact (Kd.R_reads' HO338.out).2.1); rintro e w' ⟨rfl, ⟨nd, rfl⟩⟩; refine ⟨_, rfl, ?_⟩; obtain ⟨Ao33, co33, eo33⟩ := Kd.R_slice HO354.out; subst eo33; obtain ⟨Ao34, co34, eo34⟩ := Kd.R_slice HO340.out; subst eo34) | (go_at_call 14; (with_reducible refine (laws_eqIntS.calls k _ _ t348 _ _ t334 true _ ?side1 ?side2 ?side3 ?side4 A28.out).mono ?_); (case side1 => repeat (first | exact (Kd.R_reads' HO354.out).2.2 | (with_reducible refine Kd.C_alloc ?_ _) | (with_reducible refine Kd.C_drewN ?_ _) | (with_reducible refine Kd.C_drew ?_))); (case side2 => exact (Kd.R_reads' HO354.out).2.1); (case side3 => repeat (first | exact (Kd.R_reads' HO340.out).2.2 | (with_reducible refine Kd.C_alloc ?_ _) | (with_reducible refine Kd.C_drewN ?_ _) | (with_reducible refine Kd.C_drew ?_))); (case side4 => exact (Kd.R_reads' HO340.out).2.1); rintro e w' ⟨rfl, ⟨nd, rfl⟩⟩))
        go_meet
        case rel => exact ⟨_, ((t350 != t336)), (by first | rfl | (simp; done) | (simp [*]; done)), H', ⟨by first | omega | exact Nat.le_refl _⟩, ⟨by (with_reducible repeat (first | apply Kd.R_alloc | apply Kd.R_drewN | apply Kd.R_drew)); exact Kd.R_mono HO338.out (fun _ hk => ⟨hk.1.1.1.1, ⟨hk.1.1.2, ⟨hk.1.2, hk.2⟩⟩⟩)⟩, ⟨by (with_reducible repeat (first | apply Kd.R_alloc | apply Kd.R_drewN | apply Kd.R_drew)); exact Kd.R_mono HO340.out (fun _ hk => ⟨hk.1.1.1.1, ⟨hk.1.1.2, ⟨hk.1.2, hk.2⟩⟩⟩)⟩, ⟨by (with_reducible repeat (first | apply Kd.S_alloc | apply Kd.S_drewN | apply Kd.S_drew)); exact Kd.S_mono HO343.out (fun _ hk => trivial)⟩, ⟨by (with_reducible repeat (first | apply Kd.R_alloc | apply Kd.R_drewN | apply Kd.R_drew)); exact Kd.R_mono HO346.out (fun _ hk => ⟨hk.1.1.1.2, ⟨hk.1.1.2, ⟨hk.1.2, hk.2⟩⟩⟩)⟩, ⟨by (with_reducible repeat (first | apply Kd.R_alloc | apply Kd.R_drewN | apply Kd.R_drew)); exact Kd.R_mono HO352.out (fun _ hk => ⟨hk.1.1.2, ⟨hk.1.2, ⟨hk.2, hk.1.1.1.1⟩⟩⟩)⟩, ⟨by (with_reducible repeat (first | apply Kd.R_alloc | apply Kd.R_drewN | apply Kd.R_drew)); exact Kd.R_mono HO354.out (fun _ hk => ⟨hk.1.1.2, ⟨hk.1.2, ⟨hk.2, hk.1.1.1.1⟩⟩⟩)⟩, ⟨by repeat (first | (with_reducible first | exact HB.out | apply below_alloc | apply pw_below_drewN | apply below_drew1) | exact HB.out)⟩⟩
      ·rw [if_neg c30] at H
       have c30b0 : (t349 == t335) = false := beq_eq_false_iff_ne.mpr c30
       have c30b1 : (t349 != t335) = true := bne_iff_ne.mpr c30
       (first | rw [c30b0] | (simp only [i64_w, i32_w]; rw [c30b0]) | skip)
       as_aux_lemma =>
        have H' := Aside0.mk H
        clear H
        obtain ⟨Ao35, co35, eo35⟩ := Kd.R_slice HO352.out
        subst eo35
        obtain ⟨Ao36, co36, eo36⟩ := Kd.R_slice HO338.out
        subst eo36
        go_wp2_with (first | ((with_reducible refine gate_callee (f := 14) rfl ?_); refine goesL_ (some 59) rfl rfl Try.func14 (by kernel_rfl) rfl #[.slice Ao35 t347.length co35, .slice Ao36 t333.length co36] rfl (by (try simp only [List.map_toArray, List.map_cons, List.map_nil]); first | done | rfl | (simp only [List.length_drop, List.length_take]; rfl)) ?_; (with_reducible refine (laws_eqIntS.calls k _ _ t347 _ _ t333 true _ ?side1 ?side2 ?side3 ?side4 A26.out).mono ?_); (case side1 => repeat (first | exact (Kd.R_reads' HO352.out).2.2 | (with_reducible refine Kd.C_alloc ?_ _) | (with_reducible refine Kd.C_drewN ?_ _) | (with_reducible refine Kd.C_drew ?_))); (case side2 => exact (Kd.R_reads' HO352.out).2.1); (case side3 => repeat (first | exact (Kd.R_reads' HO338.out).2.2 | (with_reducible refine Kd.C_alloc ?_ _) | (with_reducible refine Kd.C_drewN ?_ _) | (with_reducible refine Kd.C_drew ?_))); (case side4 => exact (Kd.R_reads' HO338.out).2.1); rintro e w' ⟨rfl, ⟨nd, rfl⟩⟩; refine ⟨_, rfl, ?_⟩; obtain ⟨Ao37, co37, eo37⟩ := Kd.R_slice HO354.out; subst eo37; obtain ⟨Ao38, co38, eo38⟩ := Kd.R_slice HO340.out; subst eo38) | (go_at_call 14; (with_reducible refine (laws_eqIntS.calls k _ _ t348 _ _ t334 true _ ?side1 ?side2 ?side3 ?side4 A28.out).mono ?_); (case side1 => repeat (first | exact (Kd.R_reads' HO354.out).2.2 | (with_reducible refine Kd.C_alloc ?_ _) | (with_reducible refine Kd.C_drewN ?_ _) | (with_reducible refine Kd.C_drew ?_))); (case side2 => exact (Kd.R_reads' HO354.out).2.1); (case side3 => repeat (first | exact (Kd.R_reads' HO340.out).2.2 | (with_reducible refine Kd.C_alloc ?_ _) | (with_reducible refine Kd.C_drewN ?_ _) | (with_reducible refine Kd.C_drew ?_))); (case side4 => exact (Kd.R_reads' HO340.out).2.1); rintro e w' ⟨rfl, ⟨nd, rfl⟩⟩))
        go_meet
        case rel => exact ⟨_, (true), (by first | rfl | (simp; done) | (simp [*]; done)), H', ⟨by first | omega | exact Nat.le_refl _⟩, ⟨by (with_reducible repeat (first | apply Kd.R_alloc | apply Kd.R_drewN | apply Kd.R_drew)); exact Kd.R_mono HO338.out (fun _ hk => ⟨hk.1.1.1.1, ⟨hk.1.1.2, ⟨hk.1.2, hk.2⟩⟩⟩)⟩, ⟨by (with_reducible repeat (first | apply Kd.R_alloc | apply Kd.R_drewN | apply Kd.R_drew)); exact Kd.R_mono HO340.out (fun _ hk => ⟨hk.1.1.1.1, ⟨hk.1.1.2, ⟨hk.1.2, hk.2⟩⟩⟩)⟩, ⟨by (with_reducible repeat (first | apply Kd.S_alloc | apply Kd.S_drewN | apply Kd.S_drew)); exact Kd.S_mono HO343.out (fun _ hk => trivial)⟩, ⟨by (with_reducible repeat (first | apply Kd.R_alloc | apply Kd.R_drewN | apply Kd.R_drew)); exact Kd.R_mono HO346.out (fun _ hk => ⟨hk.1.1.1.2, ⟨hk.1.1.2, ⟨hk.1.2, hk.2⟩⟩⟩)⟩, ⟨by (with_reducible repeat (first | apply Kd.R_alloc | apply Kd.R_drewN | apply Kd.R_drew)); exact Kd.R_mono HO352.out (fun _ hk => ⟨hk.1.1.2, ⟨hk.1.2, ⟨hk.2, hk.1.1.1.1⟩⟩⟩)⟩, ⟨by (with_reducible repeat (first | apply Kd.R_alloc | apply Kd.R_drewN | apply Kd.R_drew)); exact Kd.R_mono HO354.out (fun _ hk => ⟨hk.1.1.2, ⟨hk.1.2, ⟨hk.2, hk.1.1.1.1⟩⟩⟩)⟩, ⟨by repeat (first | (with_reducible first | exact HB.out | apply below_alloc | apply pw_below_drewN | apply below_drew1) | exact HB.out)⟩⟩
     ·replace c29 := Bool.eq_false_iff.mpr c29
      subst c29
      have H1 : (laws_FnExactRunFlow.j0 k l0 l1 a2 t333 t334 t335 t336 t341 t344 t347 t348 t349 t350 true) = some true := by rw [if_neg (show ¬ (false = true) by decide)] at H; exact H
      clear H
      have H := H1
      clear H1
      as_aux_lemma =>
       have H' := Aside0.mk H
       clear H
       obtain ⟨Ao39, co39, eo39⟩ := Kd.R_slice HO352.out
       subst eo39
       obtain ⟨Ao40, co40, eo40⟩ := Kd.R_slice HO338.out
       subst eo40
       go_wp2_with (first | ((with_reducible refine gate_callee (f := 14) rfl ?_); refine goesL_ (some 59) rfl rfl Try.func14 (by kernel_rfl) rfl #[.slice Ao39 t347.length co39, .slice Ao40 t333.length co40] rfl (by (try simp only [List.map_toArray, List.map_cons, List.map_nil]); first | done | rfl | (simp only [List.length_drop, List.length_take]; rfl)) ?_; (with_reducible refine (laws_eqIntS.calls k _ _ t347 _ _ t333 true _ ?side1 ?side2 ?side3 ?side4 A26.out).mono ?_); (case side1 => repeat (first | exact (Kd.R_reads' HO352.out).2.2 | (with_reducible refine Kd.C_alloc ?_ _) | (with_reducible refine Kd.C_drewN ?_ _) | (with_reducible refine Kd.C_drew ?_))); (case side2 => exact (Kd.R_reads' HO352.out).2.1); (case side3 => repeat (first | exact (Kd.R_reads' HO338.out).2.2 | (with_reducible refine Kd.C_alloc ?_ _) | (with_reducible refine Kd.C_drewN ?_ _) | (with_reducible refine Kd.C_drew ?_))); (case side4 => exact (Kd.R_reads' HO338.out).2.1); rintro e w' ⟨rfl, ⟨nd, rfl⟩⟩; refine ⟨_, rfl, ?_⟩; obtain ⟨Ao41, co41, eo41⟩ := Kd.R_slice HO354.out; subst eo41; obtain ⟨Ao42, co42, eo42⟩ := Kd.R_slice HO340.out; subst eo42) | (go_at_call 14; (with_reducible refine (laws_eqIntS.calls k _ _ t348 _ _ t334 false _ ?side1 ?side2 ?side3 ?side4 A28.out).mono ?_); (case side1 => repeat (first | exact (Kd.R_reads' HO354.out).2.2 | (with_reducible refine Kd.C_alloc ?_ _) | (with_reducible refine Kd.C_drewN ?_ _) | (with_reducible refine Kd.C_drew ?_))); (case side2 => exact (Kd.R_reads' HO354.out).2.1); (case side3 => repeat (first | exact (Kd.R_reads' HO340.out).2.2 | (with_reducible refine Kd.C_alloc ?_ _) | (with_reducible refine Kd.C_drewN ?_ _) | (with_reducible refine Kd.C_drew ?_))); (case side4 => exact (Kd.R_reads' HO340.out).2.1); rintro e w' ⟨rfl, ⟨nd, rfl⟩⟩))
       go_meet
       case rel => exact ⟨_, (true), (by first | rfl | (simp; done) | (simp [*]; done)), H', ⟨by first | omega | exact Nat.le_refl _⟩, ⟨by (with_reducible repeat (first | apply Kd.R_alloc | apply Kd.R_drewN | apply Kd.R_drew)); exact Kd.R_mono HO338.out (fun _ hk => ⟨hk.1.1.1.1, ⟨hk.1.1.2, ⟨hk.1.2, hk.2⟩⟩⟩)⟩, ⟨by (with_reducible repeat (first | apply Kd.R_alloc | apply Kd.R_drewN | apply Kd.R_drew)); exact Kd.R_mono HO340.out (fun _ hk => ⟨hk.1.1.1.1, ⟨hk.1.1.2, ⟨hk.1.2, hk.2⟩⟩⟩)⟩, ⟨by (with_reducible repeat (first | apply Kd.S_alloc | apply Kd.S_drewN | apply Kd.S_drew)); exact Kd.S_mono HO343.out (fun _ hk => trivial)⟩, ⟨by (with_reducible repeat (first | apply Kd.R_alloc | apply Kd.R_drewN | apply Kd.R_drew)); exact Kd.R_mono HO346.out (fun _ hk => ⟨hk.1.1.1.2, ⟨hk.1.1.2, ⟨hk.1.2, hk.2⟩⟩⟩)⟩, ⟨by (with_reducible repeat (first | apply Kd.R_alloc | apply Kd.R_drewN | apply Kd.R_drew)); exact Kd.R_mono HO352.out (fun _ hk => ⟨hk.1.1.2, ⟨hk.1.2, ⟨hk.2, hk.1.1.1.1⟩⟩⟩)⟩, ⟨by (with_reducible repeat (first | apply Kd.R_alloc | apply Kd.R_drewN | apply Kd.R_drew)); exact Kd.R_mono HO354.out (fun _ hk => ⟨hk.1.1.2, ⟨hk.1.2, ⟨hk.2, hk.1.1.1.1⟩⟩⟩)⟩, ⟨by repeat (first | (with_reducible first | exact HB.out | apply below_alloc | apply pw_below_drewN | apply below_drew1) | exact HB.out)⟩⟩
    ·replace c27 := Bool.eq_false_iff.mpr c27
     subst c27
     have H1 : (laws_FnExactRunFlow.j0 k l0 l1 a2 t333 t334 t335 t336 t341 t344 t347 t348 t349 t350 true) = some true := by rw [if_neg (show ¬ (false = true) by decide)] at H; exact H
     clear H
     have H := H1
     clear H1
     as_aux_lemma =>
      have H' := Aside0.mk H
      clear H
      obtain ⟨Ao43, co43, eo43⟩ := Kd.R_slice HO352.out
      subst eo43
      obtain ⟨Ao44, co44, eo44⟩ := Kd.R_slice HO338.out
      subst eo44
      go_wp2_with (first | ((with_reducible refine gate_callee (f := 14) rfl ?_); refine goesL_ (some 59) rfl rfl Try.func14 (by kernel_rfl) rfl #[.slice Ao43 t347.length co43, .slice Ao44 t333.length co44] rfl (by (try simp only [List.map_toArray, List.map_cons, List.map_nil]); first | done | rfl | (simp only [List.length_drop, List.length_take]; rfl)) ?_; (with_reducible refine (laws_eqIntS.calls k _ _ t347 _ _ t333 false _ ?side1 ?side2 ?side3 ?side4 A26.out).mono ?_); (case side1 => repeat (first | exact (Kd.R_reads' HO352.out).2.2 | (with_reducible refine Kd.C_alloc ?_ _) | (with_reducible refine Kd.C_drewN ?_ _) | (with_reducible refine Kd.C_drew ?_))); (case side2 => exact (Kd.R_reads' HO352.out).2.1); (case side3 => repeat (first | exact (Kd.R_reads' HO338.out).2.2 | (with_reducible refine Kd.C_alloc ?_ _) | (with_reducible refine Kd.C_drewN ?_ _) | (with_reducible refine Kd.C_drew ?_))); (case side4 => exact (Kd.R_reads' HO338.out).2.1); rintro e w' ⟨rfl, ⟨nd, rfl⟩⟩; refine ⟨_, rfl, ?_⟩))
      go_meet
      case rel => exact ⟨_, (true), (by first | rfl | (simp; done) | (simp [*]; done)), H', ⟨by first | omega | exact Nat.le_refl _⟩, ⟨by (with_reducible repeat (first | apply Kd.R_alloc | apply Kd.R_drewN | apply Kd.R_drew)); exact Kd.R_mono HO338.out (fun _ hk => ⟨hk.1.1.1.1, ⟨hk.1.1.2, ⟨hk.1.2, hk.2⟩⟩⟩)⟩, ⟨by (with_reducible repeat (first | apply Kd.R_alloc | apply Kd.R_drewN | apply Kd.R_drew)); exact Kd.R_mono HO340.out (fun _ hk => ⟨hk.1.1.1.1, ⟨hk.1.1.2, ⟨hk.1.2, hk.2⟩⟩⟩)⟩, ⟨by (with_reducible repeat (first | apply Kd.S_alloc | apply Kd.S_drewN | apply Kd.S_drew)); exact Kd.S_mono HO343.out (fun _ hk => trivial)⟩, ⟨by (with_reducible repeat (first | apply Kd.R_alloc | apply Kd.R_drewN | apply Kd.R_drew)); exact Kd.R_mono HO346.out (fun _ hk => ⟨hk.1.1.1.2, ⟨hk.1.1.2, ⟨hk.1.2, hk.2⟩⟩⟩)⟩, ⟨by (with_reducible repeat (first | apply Kd.R_alloc | apply Kd.R_drewN | apply Kd.R_drew)); exact Kd.R_mono HO352.out (fun _ hk => ⟨hk.1.1.2, ⟨hk.1.2, ⟨hk.2, hk.1.1.1.1⟩⟩⟩)⟩, ⟨by (with_reducible repeat (first | apply Kd.R_alloc | apply Kd.R_drewN | apply Kd.R_drew)); exact Kd.R_mono HO354.out (fun _ hk => ⟨hk.1.1.2, ⟨hk.1.2, ⟨hk.2, hk.1.1.1.1⟩⟩⟩)⟩, ⟨by repeat (first | (with_reducible first | exact HB.out | apply below_alloc | apply pw_below_drewN | apply below_drew1) | exact HB.out)⟩⟩
   case rest =>
    clear HC14
    try clear c1
    try clear c2
    try clear p2
    try clear c3
    try clear c4
    try clear c4b0
    try clear c4b1
    try clear c6
    try clear c6b0
    try clear c12
    try clear c14
    try clear c26
    try clear c27
    try clear c28
    try clear c29
    try clear c30
    try clear c30b0
    try clear c30b1
    try clear c32
    try clear c33
    obtain ⟨kq, x76_13, rfl, HA, HJ13, HO_8, HO_9, HO_12, HO_13, HO_14, HO_15, HB⟩ := hcut
    cases kq with
    | zero => exact absurd HA.out (by simp [laws_FnExactRunFlow.j0])
    | succ kj13 =>
     have H := HA.out
     clear HA
     simp only [laws_FnExactRunFlow.j0] at H
     by_cases c45 : x76_13 = true
     ·subst c45
      have H1 : (some false) = some true := by rw [if_pos rfl] at H; exact H
      clear H
      have H := H1
      clear H1
      as_aux_lemma =>
       exact absurd H (by simp)
     ·replace c45 := Bool.eq_false_iff.mpr c45
      subst c45
      have H1 : ((laws_toBlockS.f kj13 l0).bind fun t357 => ((laws_eqBlockS.f kj13 t341 t357).bind fun t360 => (if t360 = true then ((laws_toIntS.f kj13 l1).bind fun t361 => ((laws_eqIntS.f kj13 t344 t361).bind fun t364 => (if t364 = true then ((laws_markBlockS.f kj13 t341 1).bind fun t365 => ((laws_markIntS.f kj13 t344 t365).bind fun bt366 => (if bt366.1 < 0 then (laws_FnExactRunFlow.j1 kj13 l0 l1 a2 t333 t334 t335 t336 t347 t348 true) else ((laws_eqIntS.f kj13 t347 t333).bind fun t368 => (if t368 = true then ((laws_eqIntS.f kj13 t348 t334).bind fun t369 => (if t369 = true then (if t349 = t335 then (laws_FnExactRunFlow.j1 kj13 l0 l1 a2 t333 t334 t335 t336 t347 t348 (t350 != t336)) else (laws_FnExactRunFlow.j1 kj13 l0 l1 a2 t333 t334 t335 t336 t347 t348 true)) else (laws_FnExactRunFlow.j1 kj13 l0 l1 a2 t333 t334 t335 t336 t347 t348 true))) else (laws_FnExactRunFlow.j1 kj13 l0 l1 a2 t333 t334 t335 t336 t347 t348 true)))))) else (some false)))) else (some false)))) = some true := by rw [if_neg (show ¬ (false = true) by decide)] at H; exact H
      clear H
      have H := H1
      clear H1
      replace H := Option.bind_eq_some_iff.mp H
      obtain ⟨t357, A460, H⟩ := H
      replace H : ((laws_eqBlockS.f kj13 t341 t357).bind fun t360 => (if t360 = true then ((laws_toIntS.f kj13 l1).bind fun t361 => ((laws_eqIntS.f kj13 t344 t361).bind fun t364 => (if t364 = true then ((laws_markBlockS.f kj13 t341 1).bind fun t365 => ((laws_markIntS.f kj13 t344 t365).bind fun bt366 => (if bt366.1 < 0 then (laws_FnExactRunFlow.j1 kj13 l0 l1 a2 t333 t334 t335 t336 t347 t348 true) else ((laws_eqIntS.f kj13 t347 t333).bind fun t368 => (if t368 = true then ((laws_eqIntS.f kj13 t348 t334).bind fun t369 => (if t369 = true then (if t349 = t335 then (laws_FnExactRunFlow.j1 kj13 l0 l1 a2 t333 t334 t335 t336 t347 t348 (t350 != t336)) else (laws_FnExactRunFlow.j1 kj13 l0 l1 a2 t333 t334 t335 t336 t347 t348 true)) else (laws_FnExactRunFlow.j1 kj13 l0 l1 a2 t333 t334 t335 t336 t347 t348 true))) else (laws_FnExactRunFlow.j1 kj13 l0 l1 a2 t333 t334 t335 t336 t347 t348 true)))))) else (some false)))) else (some false))) = some true := H
      have A46 := Aside0.mk A460
      clear A460
      replace H := Option.bind_eq_some_iff.mp H
      obtain ⟨t360, A470, H⟩ := H
      replace H : (if t360 = true then ((laws_toIntS.f kj13 l1).bind fun t361 => ((laws_eqIntS.f kj13 t344 t361).bind fun t364 => (if t364 = true then ((laws_markBlockS.f kj13 t341 1).bind fun t365 => ((laws_markIntS.f kj13 t344 t365).bind fun bt366 => (if bt366.1 < 0 then (laws_FnExactRunFlow.j1 kj13 l0 l1 a2 t333 t334 t335 t336 t347 t348 true) else ((laws_eqIntS.f kj13 t347 t333).bind fun t368 => (if t368 = true then ((laws_eqIntS.f kj13 t348 t334).bind fun t369 => (if t369 = true then (if t349 = t335 then (laws_FnExactRunFlow.j1 kj13 l0 l1 a2 t333 t334 t335 t336 t347 t348 (t350 != t336)) else (laws_FnExactRunFlow.j1 kj13 l0 l1 a2 t333 t334 t335 t336 t347 t348 true)) else (laws_FnExactRunFlow.j1 kj13 l0 l1 a2 t333 t334 t335 t336 t347 t348 true))) else (laws_FnExactRunFlow.j1 kj13 l0 l1 a2 t333 t334 t335 t336 t347 t348 true)))))) else (some false)))) else (some false)) = some true := H
      have A47 := Aside0.mk A470
      clear A470
      by_cases c48 : t360 = true
      ·subst c48
       have H1 : ((laws_toIntS.f kj13 l1).bind fun t361 => ((laws_eqIntS.f kj13 t344 t361).bind fun t364 => (if t364 = true then ((laws_markBlockS.f kj13 t341 1).bind fun t365 => ((laws_markIntS.f kj13 t344 t365).bind fun bt366 => (if bt366.1 < 0 then (laws_FnExactRunFlow.j1 kj13 l0 l1 a2 t333 t334 t335 t336 t347 t348 true) else ((laws_eqIntS.f kj13 t347 t333).bind fun t368 => (if t368 = true then ((laws_eqIntS.f kj13 t348 t334).bind fun t369 => (if t369 = true then (if t349 = t335 then (laws_FnExactRunFlow.j1 kj13 l0 l1 a2 t333 t334 t335 t336 t347 t348 (t350 != t336)) else (laws_FnExactRunFlow.j1 kj13 l0 l1 a2 t333 t334 t335 t336 t347 t348 true)) else (laws_FnExactRunFlow.j1 kj13 l0 l1 a2 t333 t334 t335 t336 t347 t348 true))) else (laws_FnExactRunFlow.j1 kj13 l0 l1 a2 t333 t334 t335 t336 t347 t348 true)))))) else (some false)))) = some true := by rw [if_pos rfl] at H; exact H
       clear H
       have H := H1
       clear H1
       replace H := Option.bind_eq_some_iff.mp H
       obtain ⟨t361, A490, H⟩ := H
       replace H : ((laws_eqIntS.f kj13 t344 t361).bind fun t364 => (if t364 = true then ((laws_markBlockS.f kj13 t341 1).bind fun t365 => ((laws_markIntS.f kj13 t344 t365).bind fun bt366 => (if bt366.1 < 0 then (laws_FnExactRunFlow.j1 kj13 l0 l1 a2 t333 t334 t335 t336 t347 t348 true) else ((laws_eqIntS.f kj13 t347 t333).bind fun t368 => (if t368 = true then ((laws_eqIntS.f kj13 t348 t334).bind fun t369 => (if t369 = true then (if t349 = t335 then (laws_FnExactRunFlow.j1 kj13 l0 l1 a2 t333 t334 t335 t336 t347 t348 (t350 != t336)) else (laws_FnExactRunFlow.j1 kj13 l0 l1 a2 t333 t334 t335 t336 t347 t348 true)) else (laws_FnExactRunFlow.j1 kj13 l0 l1 a2 t333 t334 t335 t336 t347 t348 true))) else (laws_FnExactRunFlow.j1 kj13 l0 l1 a2 t333 t334 t335 t336 t347 t348 true)))))) else (some false))) = some true := H
       have A49 := Aside0.mk A490
       clear A490
       replace H := Option.bind_eq_some_iff.mp H
       obtain ⟨t364, A500, H⟩ := H
       replace H : (if t364 = true then ((laws_markBlockS.f kj13 t341 1).bind fun t365 => ((laws_markIntS.f kj13 t344 t365).bind fun bt366 => (if bt366.1 < 0 then (laws_FnExactRunFlow.j1 kj13 l0 l1 a2 t333 t334 t335 t336 t347 t348 true) else ((laws_eqIntS.f kj13 t347 t333).bind fun t368 => (if t368 = true then ((laws_eqIntS.f kj13 t348 t334).bind fun t369 => (if t369 = true then (if t349 = t335 then (laws_FnExactRunFlow.j1 kj13 l0 l1 a2 t333 t334 t335 t336 t347 t348 (t350 != t336)) else (laws_FnExactRunFlow.j1 kj13 l0 l1 a2 t333 t334 t335 t336 t347 t348 true)) else (laws_FnExactRunFlow.j1 kj13 l0 l1 a2 t333 t334 t335 t336 t347 t348 true))) else (laws_FnExactRunFlow.j1 kj13 l0 l1 a2 t333 t334 t335 t336 t347 t348 true)))))) else (some false)) = some true := H
       have A50 := Aside0.mk A500
       clear A500
       by_cases c51 : t364 = true
       ·subst c51
        have H1 : ((laws_markBlockS.f kj13 t341 1).bind fun t365 => ((laws_markIntS.f kj13 t344 t365).bind fun bt366 => (if bt366.1 < 0 then (laws_FnExactRunFlow.j1 kj13 l0 l1 a2 t333 t334 t335 t336 t347 t348 true) else ((laws_eqIntS.f kj13 t347 t333).bind fun t368 => (if t368 = true then ((laws_eqIntS.f kj13 t348 t334).bind fun t369 => (if t369 = true then (if t349 = t335 then (laws_FnExactRunFlow.j1 kj13 l0 l1 a2 t333 t334 t335 t336 t347 t348 (t350 != t336)) else (laws_FnExactRunFlow.j1 kj13 l0 l1 a2 t333 t334 t335 t336 t347 t348 true)) else (laws_FnExactRunFlow.j1 kj13 l0 l1 a2 t333 t334 t335 t336 t347 t348 true))) else (laws_FnExactRunFlow.j1 kj13 l0 l1 a2 t333 t334 t335 t336 t347 t348 true)))))) = some true := by rw [if_pos rfl] at H; exact H
        clear H
        have H := H1
        clear H1
        replace H := Option.bind_eq_some_iff.mp H
        obtain ⟨t365, A520, H⟩ := H
        replace H : ((laws_markIntS.f kj13 t344 t365).bind fun bt366 => (if bt366.1 < 0 then (laws_FnExactRunFlow.j1 kj13 l0 l1 a2 t333 t334 t335 t336 t347 t348 true) else ((laws_eqIntS.f kj13 t347 t333).bind fun t368 => (if t368 = true then ((laws_eqIntS.f kj13 t348 t334).bind fun t369 => (if t369 = true then (if t349 = t335 then (laws_FnExactRunFlow.j1 kj13 l0 l1 a2 t333 t334 t335 t336 t347 t348 (t350 != t336)) else (laws_FnExactRunFlow.j1 kj13 l0 l1 a2 t333 t334 t335 t336 t347 t348 true)) else (laws_FnExactRunFlow.j1 kj13 l0 l1 a2 t333 t334 t335 t336 t347 t348 true))) else (laws_FnExactRunFlow.j1 kj13 l0 l1 a2 t333 t334 t335 t336 t347 t348 true))))) = some true := H
        have A52 := Aside0.mk A520
        clear A520
        replace H := Option.bind_eq_some_iff.mp H
        obtain ⟨⟨t366, t367⟩, A530, H⟩ := H
        replace H : (if t366 < 0 then (laws_FnExactRunFlow.j1 kj13 l0 l1 a2 t333 t334 t335 t336 t347 t348 true) else ((laws_eqIntS.f kj13 t347 t333).bind fun t368 => (if t368 = true then ((laws_eqIntS.f kj13 t348 t334).bind fun t369 => (if t369 = true then (if t349 = t335 then (laws_FnExactRunFlow.j1 kj13 l0 l1 a2 t333 t334 t335 t336 t347 t348 (t350 != t336)) else (laws_FnExactRunFlow.j1 kj13 l0 l1 a2 t333 t334 t335 t336 t347 t348 true)) else (laws_FnExactRunFlow.j1 kj13 l0 l1 a2 t333 t334 t335 t336 t347 t348 true))) else (laws_FnExactRunFlow.j1 kj13 l0 l1 a2 t333 t334 t335 t336 t347 t348 true)))) = some true := H
        have A53 := Aside0.mk A530
        clear A530
        have HC54 := Aside0.mk H
        clear H
        go_upto_region 20 with (first | ((with_reducible refine gate_callee (f := 28) rfl ?_); refine goesL_ (some 79) rfl rfl Try.func28 (by kernel_rfl) rfl #[.slice A0 l0.length c0] rfl (by (try simp only [List.map_toArray, List.map_cons, List.map_nil]); first | done | rfl | (simp only [List.length_drop, List.length_take]; rfl)) ?_; (with_reducible refine (laws_toBlockS.calls kj13 _ _ l0 t357 _ ?side1 ?side2 A46.out).mono ?_); (case side1 => repeat (first | exact (Kd.C_below HR0.out HB.out) | (with_reducible refine Kd.C_alloc ?_ _) | (with_reducible refine Kd.C_drewN ?_ _) | (with_reducible refine Kd.C_drew ?_))); (case side2 => exact HC0.out); rintro e w55 ⟨v358, rfl, ho0, hb⟩; refine ⟨_, rfl, ?_⟩; have n0_ := Aside0.mk (Kd.R_below (by (with_reducible repeat (first | apply Kd.R_alloc | apply Kd.R_drewN | apply Kd.R_drew)); exact HO_8.out) hb); have n1_ := Aside0.mk (Kd.R_below (by (with_reducible repeat (first | apply Kd.R_alloc | apply Kd.R_drewN | apply Kd.R_drew)); exact HO_9.out) hb); have n2_ := Aside0.mk (Kd.S_elder' (by (with_reducible repeat (first | apply Kd.S_alloc | apply Kd.S_drewN | apply Kd.S_drew)); exact HO_12.out) (Kd.S_base ho0) hb); have n3_ := Aside0.mk (Kd.R_below (by (with_reducible repeat (first | apply Kd.R_alloc | apply Kd.R_drewN | apply Kd.R_drew)); exact HO_13.out) hb); have n4_ := Aside0.mk (Kd.R_below (by (with_reducible repeat (first | apply Kd.R_alloc | apply Kd.R_drewN | apply Kd.R_drew)); exact HO_14.out) hb); have n5_ := Aside0.mk (Kd.R_below (by (with_reducible repeat (first | apply Kd.R_alloc | apply Kd.R_drewN | apply Kd.R_drew)); exact HO_15.out) hb); have n6_ := Aside0.mk (Kd.S_lower (Kd.S_new' ho0 (Kd.S_lt (by (with_reducible repeat (first | apply Kd.S_alloc | apply Kd.S_drewN | apply Kd.S_drew)); exact HO_12.out))) (below_size (by repeat (first | (with_reducible first | exact HB.out | apply below_alloc | apply pw_below_drewN | apply below_drew1) | exact HB.out)))); have n7_ := Aside0.mk (below_step (by repeat (first | (with_reducible first | exact HB.out | apply below_alloc | apply pw_below_drewN | apply below_drew1) | exact HB.out)) hb); clear HO_8; clear HO_9; clear HO_12; clear HO_13; clear HO_14; clear HO_15; clear HB; have HO_8 := n0_; have HO_9 := n1_; have HO_12 := n2_; have HO_13 := n3_; have HO_14 := n4_; have HO_15 := n5_; have HO359 := n6_; have HB := n7_; clear n0_ n1_ n2_ n3_ n4_ n5_ n6_ n7_; (try clear hb); (try clear hb2); (try clear hk); (try clear hi); (try clear ho0); obtain ⟨Ao56, co56, eo56⟩ := Kd.S_slice HO359.out; subst eo56) | ((with_reducible refine gate_callee (f := 30) rfl ?_); refine goesL_ (some 80) rfl rfl Try.func30 (by kernel_rfl) rfl #[.slice Ao23 t341.length co23, .slice Ao56 t357.length co56] rfl (by (try simp only [List.map_toArray, List.map_cons, List.map_nil]); first | done | rfl | (simp only [List.length_drop, List.length_take]; rfl)) ?_; (with_reducible refine (laws_eqBlockS.calls kj13 _ _ t341 _ _ t357 true _ ?side1 ?side2 ?side3 ?side4 A47.out).mono ?_); (case side1 => repeat (first | exact (Kd.S_reads' HO_12.out).2.2 | (with_reducible refine Kd.C_alloc ?_ _) | (with_reducible refine Kd.C_drewN ?_ _) | (with_reducible refine Kd.C_drew ?_))); (case side2 => exact (Kd.S_reads' HO_12.out).2.1); (case side3 => repeat (first | exact (Kd.S_reads' HO359.out).2.2 | (with_reducible refine Kd.C_alloc ?_ _) | (with_reducible refine Kd.C_drewN ?_ _) | (with_reducible refine Kd.C_drew ?_))); (case side4 => exact (Kd.S_reads' HO359.out).2.1); rintro e w57 ⟨rfl, hb⟩; refine ⟨_, rfl, ?_⟩; have n0_ := Aside0.mk (Kd.R_below (by (with_reducible repeat (first | apply Kd.R_alloc | apply Kd.R_drewN | apply Kd.R_drew)); exact HO_8.out) hb); have n1_ := Aside0.mk (Kd.R_below (by (with_reducible repeat (first | apply Kd.R_alloc | apply Kd.R_drewN | apply Kd.R_drew)); exact HO_9.out) hb); have n2_ := Aside0.mk (Kd.S_below (by (with_reducible repeat (first | apply Kd.S_alloc | apply Kd.S_drewN | apply Kd.S_drew)); exact HO_12.out) hb); have n3_ := Aside0.mk (Kd.R_below (by (with_reducible repeat (first | apply Kd.R_alloc | apply Kd.R_drewN | apply Kd.R_drew)); exact HO_13.out) hb); have n4_ := Aside0.mk (Kd.R_below (by (with_reducible repeat (first | apply Kd.R_alloc | apply Kd.R_drewN | apply Kd.R_drew)); exact HO_14.out) hb); have n5_ := Aside0.mk (Kd.R_below (by (with_reducible repeat (first | apply Kd.R_alloc | apply Kd.R_drewN | apply Kd.R_drew)); exact HO_15.out) hb); have n6_ := Aside0.mk (Kd.S_below (by (with_reducible repeat (first | apply Kd.S_alloc | apply Kd.S_drewN | apply Kd.S_drew)); exact HO359.out) hb); have n7_ := Aside0.mk (below_step (by repeat (first | (with_reducible first | exact HB.out | apply below_alloc | apply pw_below_drewN | apply below_drew1) | exact HB.out)) hb); clear HO_8; clear HO_9; clear HO_12; clear HO_13; clear HO_14; clear HO_15; clear HO359; clear HB; have HO_8 := n0_; have HO_9 := n1_; have HO_12 := n2_; have HO_13 := n3_; have HO_14 := n4_; have HO_15 := n5_; have HO359 := n6_; have HB := n7_; clear n0_ n1_ n2_ n3_ n4_ n5_ n6_ n7_; (try clear hb); (try clear hb2); (try clear hk); (try clear hi)) | ((with_reducible refine gate_callee (f := 12) rfl ?_); refine goesL_ (some 84) rfl rfl Try.func12 (by kernel_rfl) rfl #[.slice A1 l1.length c1] rfl (by (try simp only [List.map_toArray, List.map_cons, List.map_nil]); first | done | rfl | (simp only [List.length_drop, List.length_take]; rfl)) ?_; (with_reducible refine (laws_toIntS.calls kj13 _ _ l1 t361 _ ?side1 ?side2 A49.out).mono ?_); (case side1 => repeat (first | exact (Kd.C_below HR1.out HB.out) | (with_reducible refine Kd.C_alloc ?_ _) | (with_reducible refine Kd.C_drewN ?_ _) | (with_reducible refine Kd.C_drew ?_))); (case side2 => exact HC1.out); rintro e w58 ⟨v362, rfl, ho0, hb⟩; refine ⟨_, rfl, ?_⟩; have n0_ := Aside0.mk (Kd.R_elder' (by (with_reducible repeat (first | apply Kd.R_alloc | apply Kd.R_drewN | apply Kd.R_drew)); exact HO_8.out) (Kd.R_base ho0) hb); have n1_ := Aside0.mk (Kd.R_elder' (by (with_reducible repeat (first | apply Kd.R_alloc | apply Kd.R_drewN | apply Kd.R_drew)); exact HO_9.out) (Kd.R_base ho0) hb); have n2_ := Aside0.mk (Kd.S_below (by (with_reducible repeat (first | apply Kd.S_alloc | apply Kd.S_drewN | apply Kd.S_drew)); exact HO_12.out) hb); have n3_ := Aside0.mk (Kd.R_elder' (by (with_reducible repeat (first | apply Kd.R_alloc | apply Kd.R_drewN | apply Kd.R_drew)); exact HO_13.out) (Kd.R_base ho0) hb); have n4_ := Aside0.mk (Kd.R_elder' (by (with_reducible repeat (first | apply Kd.R_alloc | apply Kd.R_drewN | apply Kd.R_drew)); exact HO_14.out) (Kd.R_base ho0) hb); have n5_ := Aside0.mk (Kd.R_elder' (by (with_reducible repeat (first | apply Kd.R_alloc | apply Kd.R_drewN | apply Kd.R_drew)); exact HO_15.out) (Kd.R_base ho0) hb); have n6_ := Aside0.mk (Kd.S_below (by (with_reducible repeat (first | apply Kd.S_alloc | apply Kd.S_drewN | apply Kd.S_drew)); exact HO359.out) hb); have n7_ := Aside0.mk (Kd.R_lower (Kd.R_new' (Kd.R_new' (Kd.R_new' (Kd.R_new' (Kd.R_new' ho0 (Kd.R_lt (by (with_reducible repeat (first | apply Kd.R_alloc | apply Kd.R_drewN | apply Kd.R_drew)); exact HO_8.out))) (Kd.R_lt (by (with_reducible repeat (first | apply Kd.R_alloc | apply Kd.R_drewN | apply Kd.R_drew)); exact HO_9.out))) (Kd.R_lt (by (with_reducible repeat (first | apply Kd.R_alloc | apply Kd.R_drewN | apply Kd.R_drew)); exact HO_13.out))) (Kd.R_lt (by (with_reducible repeat (first | apply Kd.R_alloc | apply Kd.R_drewN | apply Kd.R_drew)); exact HO_14.out))) (Kd.R_lt (by (with_reducible repeat (first | apply Kd.R_alloc | apply Kd.R_drewN | apply Kd.R_drew)); exact HO_15.out))) (below_size (by repeat (first | (with_reducible first | exact HB.out | apply below_alloc | apply pw_below_drewN | apply below_drew1) | exact HB.out)))); have n8_ := Aside0.mk (below_step (by repeat (first | (with_reducible first | exact HB.out | apply below_alloc | apply pw_below_drewN | apply below_drew1) | exact HB.out)) hb); clear HO_8; clear HO_9; clear HO_12; clear HO_13; clear HO_14; clear HO_15; clear HO359; clear HB; have HO_8 := n0_; have HO_9 := n1_; have HO_12 := n2_; have HO_13 := n3_; have HO_14 := n4_; have HO_15 := n5_; have HO359 := n6_; have HO363 := n7_; have HB := n8_; clear n0_ n1_ n2_ n3_ n4_ n5_ n6_ n7_ n8_; (try clear hb); (try clear hb2); (try clear hk); (try clear hi); (try clear ho0); obtain ⟨Ao59, co59, eo59⟩ := Kd.R_slice HO363.out; subst eo59) | ((with_reducible refine gate_callee (f := 14) rfl ?_); refine goesL_ (some 85) rfl rfl Try.func14 (by kernel_rfl) rfl #[.slice Ao24 t344.length co24, .slice Ao59 t361.length co59] rfl (by (try simp only [List.map_toArray, List.map_cons, List.map_nil]); first | done | rfl | (simp only [List.length_drop, List.length_take]; rfl)) ?_; (with_reducible refine (laws_eqIntS.calls kj13 _ _ t344 _ _ t361 true _ ?side1 ?side2 ?side3 ?side4 A50.out).mono ?_); (case side1 => repeat (first | exact (Kd.R_reads' HO_13.out).2.2 | (with_reducible refine Kd.C_alloc ?_ _) | (with_reducible refine Kd.C_drewN ?_ _) | (with_reducible refine Kd.C_drew ?_))); (case side2 => exact (Kd.R_reads' HO_13.out).2.1); (case side3 => repeat (first | exact (Kd.R_reads' HO363.out).2.2 | (with_reducible refine Kd.C_alloc ?_ _) | (with_reducible refine Kd.C_drewN ?_ _) | (with_reducible refine Kd.C_drew ?_))); (case side4 => exact (Kd.R_reads' HO363.out).2.1); rintro e w' ⟨rfl, ⟨nd, rfl⟩⟩; refine ⟨_, rfl, ?_⟩) | ((with_reducible refine gate_callee (f := 31) rfl ?_); refine goesL_ (some 89) rfl rfl Try.func31 (by kernel_rfl) rfl #[.slice Ao23 t341.length co23, .int .i64 1] rfl (by (try simp only [List.map_toArray, List.map_cons, List.map_nil]); first | done | rfl | (simp only [List.length_drop, List.length_take]; rfl)) ?_; (with_reducible refine (laws_markBlockS.calls kj13 (fun k_ => some k_ ≠ (v337 : Value).ownBlock ∧ some k_ ≠ (v339 : Value).ownBlock ∧ some k_ ≠ (.slice Ao24 t344.length co24 : Value).ownBlock ∧ some k_ ≠ (v351 : Value).ownBlock ∧ some k_ ≠ (v353 : Value).ownBlock ∧ some k_ ≠ (.slice Ao59 t361.length co59 : Value).ownBlock) (.slice Ao23 t341.length co23) t341 1 t365 w _ ?side1 ?side2 A52.out).mono ?_); (case side1 => repeat (first | (with_reducible first | exact HB.out | apply below_alloc | apply pw_below_drewN | apply below_drew1) | exact HB.out)); (case side2 => exact Kd.S_mono (ok' := fun k_ => some k_ ≠ (v337 : Value).ownBlock ∧ some k_ ≠ (v339 : Value).ownBlock ∧ some k_ ≠ (.slice Ao24 t344.length co24 : Value).ownBlock ∧ some k_ ≠ (v351 : Value).ownBlock ∧ some k_ ≠ (v353 : Value).ownBlock ∧ some k_ ≠ (.slice Ao59 t361.length co59 : Value).ownBlock) (Kd.S_apart' (Kd.S_apart' (Kd.S_apart' (Kd.S_apart' (Kd.S_apart' (Kd.S_apart' (by (with_reducible repeat (first | apply Kd.S_alloc | apply Kd.S_drewN | apply Kd.S_drew)); exact HO_12.out) (Kd.R_typed HO_8.out) (by decide)) (Kd.R_typed HO_9.out) (by decide)) (Kd.R_typed HO_13.out) (by decide)) (Kd.R_typed HO_14.out) (by decide)) (Kd.R_typed HO_15.out) (by decide)) (Kd.R_typed HO363.out) (by decide)) (fun k_ hk_ => ⟨hk_.1.1.1.1.1.2, hk_.1.1.1.1.2, hk_.1.1.1.2, hk_.1.1.2, hk_.1.2, hk_.2⟩)); rintro e w60 ⟨rfl, hb, hkp⟩; refine ⟨_, rfl, ?_⟩; have n0_ := Aside0.mk (Kd.R_mono (ok := fun k_ => ((some k_ ≠ (v339 : Value).ownBlock ∧ (some k_ ≠ (.slice Ao24 t344.length co24 : Value).ownBlock ∧ (some k_ ≠ (v351 : Value).ownBlock ∧ some k_ ≠ (v353 : Value).ownBlock))) ∧ some k_ ≠ (.slice Ao59 t361.length co59 : Value).ownBlock)) (ok' := fun k_ => some k_ ≠ (v339 : Value).ownBlock ∧ some k_ ≠ (.slice Ao24 t344.length co24 : Value).ownBlock ∧ some k_ ≠ (v351 : Value).ownBlock ∧ some k_ ≠ (v353 : Value).ownBlock ∧ some k_ ≠ (.slice Ao59 t361.length co59 : Value).ownBlock) (Kd.R_reok rfl (Kd.R_keptB (Kd.R_tight rfl (by (with_reducible repeat (first | apply Kd.R_alloc | apply Kd.R_drewN | apply Kd.R_drew)); exact HO_8.out)) hkp (fun k_ e_ hs_ => (hs_.1) e_)) (fun k_ e_ => HO_8.out.1 k_ e_)) (fun k_ hk_ => ⟨hk_.1.1, hk_.1.2.1, hk_.1.2.2.1, hk_.1.2.2.2, hk_.2⟩)); have n1_ := Aside0.mk (Kd.R_mono (ok := fun k_ => ((some k_ ≠ (v337 : Value).ownBlock ∧ (some k_ ≠ (.slice Ao24 t344.length co24 : Value).ownBlock ∧ (some k_ ≠ (v351 : Value).ownBlock ∧ some k_ ≠ (v353 : Value).ownBlock))) ∧ some k_ ≠ (.slice Ao59 t361.length co59 : Value).ownBlock)) (ok' := fun k_ => some k_ ≠ (v337 : Value).ownBlock ∧ some k_ ≠ (.slice Ao24 t344.length co24 : Value).ownBlock ∧ some k_ ≠ (v351 : Value).ownBlock ∧ some k_ ≠ (v353 : Value).ownBlock ∧ some k_ ≠ (.slice Ao59 t361.length co59 : Value).ownBlock) (Kd.R_reok rfl (Kd.R_keptB (Kd.R_tight rfl (by (with_reducible repeat (first | apply Kd.R_alloc | apply Kd.R_drewN | apply Kd.R_drew)); exact HO_9.out)) hkp (fun k_ e_ hs_ => (hs_.2.1) e_)) (fun k_ e_ => HO_9.out.1 k_ e_)) (fun k_ hk_ => ⟨hk_.1.1, hk_.1.2.1, hk_.1.2.2.1, hk_.1.2.2.2, hk_.2⟩)); have n2_ := Aside0.mk (Kd.R_mono (ok := fun k_ => ((some k_ ≠ (v337 : Value).ownBlock ∧ (some k_ ≠ (v339 : Value).ownBlock ∧ (some k_ ≠ (v351 : Value).ownBlock ∧ some k_ ≠ (v353 : Value).ownBlock))) ∧ some k_ ≠ (.slice Ao59 t361.length co59 : Value).ownBlock)) (ok' := fun k_ => some k_ ≠ (v337 : Value).ownBlock ∧ some k_ ≠ (v339 : Value).ownBlock ∧ some k_ ≠ (v351 : Value).ownBlock ∧ some k_ ≠ (v353 : Value).ownBlock ∧ some k_ ≠ (.slice Ao59 t361.length co59 : Value).ownBlock) (Kd.R_reok rfl (Kd.R_keptB (Kd.R_tight rfl (by (with_reducible repeat (first | apply Kd.R_alloc | apply Kd.R_drewN | apply Kd.R_drew)); exact HO_13.out)) hkp (fun k_ e_ hs_ => (hs_.2.2.1) e_)) (fun k_ e_ => HO_13.out.1 k_ e_)) (fun k_ hk_ => ⟨hk_.1.1, hk_.1.2.1, hk_.1.2.2.1, hk_.1.2.2.2, hk_.2⟩)); have n3_ := Aside0.mk (Kd.R_mono (ok := fun k_ => ((some k_ ≠ (v337 : Value).ownBlock ∧ (some k_ ≠ (v339 : Value).ownBlock ∧ (some k_ ≠ (.slice Ao24 t344.length co24 : Value).ownBlock ∧ some k_ ≠ (v353 : Value).ownBlock))) ∧ some k_ ≠ (.slice Ao59 t361.length co59 : Value).ownBlock)) (ok' := fun k_ => some k_ ≠ (v337 : Value).ownBlock ∧ some k_ ≠ (v339 : Value).ownBlock ∧ some k_ ≠ (.slice Ao24 t344.length co24 : Value).ownBlock ∧ some k_ ≠ (v353 : Value).ownBlock ∧ some k_ ≠ (.slice Ao59 t361.length co59 : Value).ownBlock) (Kd.R_reok rfl (Kd.R_keptB (Kd.R_tight rfl (by (with_reducible repeat (first | apply Kd.R_alloc | apply Kd.R_drewN | apply Kd.R_drew)); exact HO_14.out)) hkp (fun k_ e_ hs_ => (hs_.2.2.2.1) e_)) (fun k_ e_ => HO_14.out.1 k_ e_)) (fun k_ hk_ => ⟨hk_.1.1, hk_.1.2.1, hk_.1.2.2.1, hk_.1.2.2.2, hk_.2⟩)); have n4_ := Aside0.mk (Kd.R_mono (ok := fun k_ => ((some k_ ≠ (v337 : Value).ownBlock ∧ (some k_ ≠ (v339 : Value).ownBlock ∧ (some k_ ≠ (.slice Ao24 t344.length co24 : Value).ownBlock ∧ some k_ ≠ (v351 : Value).ownBlock))) ∧ some k_ ≠ (.slice Ao59 t361.length co59 : Value).ownBlock)) (ok' := fun k_ => some k_ ≠ (v337 : Value).ownBlock ∧ some k_ ≠ (v339 : Value).ownBlock ∧ some k_ ≠ (.slice Ao24 t344.length co24 : Value).ownBlock ∧ some k_ ≠ (v351 : Value).ownBlock ∧ some k_ ≠ (.slice Ao59 t361.length co59 : Value).ownBlock) (Kd.R_reok rfl (Kd.R_keptB (Kd.R_tight rfl (by (with_reducible repeat (first | apply Kd.R_alloc | apply Kd.R_drewN | apply Kd.R_drew)); exact HO_15.out)) hkp (fun k_ e_ hs_ => (hs_.2.2.2.2.1) e_)) (fun k_ e_ => HO_15.out.1 k_ e_)) (fun k_ hk_ => ⟨hk_.1.1, hk_.1.2.1, hk_.1.2.2.1, hk_.1.2.2.2, hk_.2⟩)); have n5_ := Aside0.mk (Kd.R_mono (ok := fun k_ => (((((True ∧ some k_ ≠ (v337 : Value).ownBlock) ∧ some k_ ≠ (v339 : Value).ownBlock) ∧ some k_ ≠ (.slice Ao24 t344.length co24 : Value).ownBlock) ∧ some k_ ≠ (v351 : Value).ownBlock) ∧ some k_ ≠ (v353 : Value).ownBlock)) (ok' := fun k_ => some k_ ≠ (v337 : Value).ownBlock ∧ some k_ ≠ (v339 : Value).ownBlock ∧ some k_ ≠ (.slice Ao24 t344.length co24 : Value).ownBlock ∧ some k_ ≠ (v351 : Value).ownBlock ∧ some k_ ≠ (v353 : Value).ownBlock) (Kd.R_reok rfl (Kd.R_keptB (Kd.R_tight rfl (by (with_reducible repeat (first | apply Kd.R_alloc | apply Kd.R_drewN | apply Kd.R_drew)); exact HO363.out)) hkp (fun k_ e_ hs_ => (hs_.2.2.2.2.2) e_)) (fun k_ e_ => HO363.out.1 k_ e_)) (fun k_ hk_ => ⟨hk_.1.1.1.1.2, hk_.1.1.1.2, hk_.1.1.2, hk_.1.2, hk_.2⟩)); have n6_ := Aside0.mk (hb); clear HO_8; clear HO_9; clear HO_13; clear HO_14; clear HO_15; clear HO363; clear HB; clear HO_12; clear HO359; have HO_8 := n0_; have HO_9 := n1_; have HO_13 := n2_; have HO_14 := n3_; have HO_15 := n4_; have HO363 := n5_; have HB := n6_; clear n0_ n1_ n2_ n3_ n4_ n5_ n6_; (try clear hb); (try clear hkp)) | ((with_reducible refine gate_callee (f := 17) rfl ?_); refine goesL_ (some 92) rfl rfl Try.func17 (by kernel_rfl) rfl #[.slice Ao24 t344.length co24, .int .i64 t365] rfl (by (try simp only [List.map_toArray, List.map_cons, List.map_nil]); first | done | rfl | (simp only [List.length_drop, List.length_take]; rfl)) ?_; (with_reducible refine (laws_markIntS.calls kj13 (fun k_ => some k_ = (.slice Ao24 t344.length co24 : Value).ownBlock) (.slice Ao24 t344.length co24) t344 t365 t366 t367 w _ ?side1 ?side2 A53.out).mono ?_); (case side1 => repeat (first | (with_reducible first | exact HB.out | apply below_alloc | apply pw_below_drewN | apply below_drew1) | exact HB.out)); (case side2 => exact Kd.R_tight rfl HO_13.out); rintro e w61 ⟨rfl, hy0, hb, hkp⟩; refine ⟨_, rfl, ?_⟩; have n0_ := Aside0.mk (Kd.R_mono (ok' := fun k_ => some k_ ≠ (v339 : Value).ownBlock ∧ some k_ ≠ (.slice Ao24 t344.length co24 : Value).ownBlock ∧ some k_ ≠ (v351 : Value).ownBlock ∧ some k_ ≠ (v353 : Value).ownBlock ∧ some k_ ≠ (.slice Ao59 t361.length co59 : Value).ownBlock) (Kd.R_keptB (HO_8.out) hkp (fun k_ hk_ hs_ => (hk_.2.1) hs_)) (fun k_ hk_ => ⟨hk_.1.1, hk_.1.2.1, hk_.1.2.2.1, hk_.1.2.2.2.1, hk_.1.2.2.2.2⟩)); have n1_ := Aside0.mk (Kd.R_mono (ok' := fun k_ => some k_ ≠ (v337 : Value).ownBlock ∧ some k_ ≠ (.slice Ao24 t344.length co24 : Value).ownBlock ∧ some k_ ≠ (v351 : Value).ownBlock ∧ some k_ ≠ (v353 : Value).ownBlock ∧ some k_ ≠ (.slice Ao59 t361.length co59 : Value).ownBlock) (Kd.R_keptB (HO_9.out) hkp (fun k_ hk_ hs_ => (hk_.2.1) hs_)) (fun k_ hk_ => ⟨hk_.1.1, hk_.1.2.1, hk_.1.2.2.1, hk_.1.2.2.2.1, hk_.1.2.2.2.2⟩)); have n2_ := Aside0.mk (Kd.R_reok rfl hy0 (fun k_ e_ => HO_13.out.1 k_ e_)); have n3_ := Aside0.mk (Kd.R_mono (ok' := fun k_ => some k_ ≠ (v337 : Value).ownBlock ∧ some k_ ≠ (v339 : Value).ownBlock ∧ some k_ ≠ (.slice Ao24 t344.length co24 : Value).ownBlock ∧ some k_ ≠ (v353 : Value).ownBlock ∧ some k_ ≠ (.slice Ao59 t361.length co59 : Value).ownBlock) (Kd.R_keptB (HO_14.out) hkp (fun k_ hk_ hs_ => (hk_.2.2.1) hs_)) (fun k_ hk_ => ⟨hk_.1.1, hk_.1.2.1, hk_.1.2.2.1, hk_.1.2.2.2.1, hk_.1.2.2.2.2⟩)); have n4_ := Aside0.mk (Kd.R_mono (ok' := fun k_ => some k_ ≠ (v337 : Value).ownBlock ∧ some k_ ≠ (v339 : Value).ownBlock ∧ some k_ ≠ (.slice Ao24 t344.length co24 : Value).ownBlock ∧ some k_ ≠ (v351 : Value).ownBlock ∧ some k_ ≠ (.slice Ao59 t361.length co59 : Value).ownBlock) (Kd.R_keptB (HO_15.out) hkp (fun k_ hk_ hs_ => (hk_.2.2.1) hs_)) (fun k_ hk_ => ⟨hk_.1.1, hk_.1.2.1, hk_.1.2.2.1, hk_.1.2.2.2.1, hk_.1.2.2.2.2⟩)); have n5_ := Aside0.mk (Kd.R_mono (ok' := fun k_ => some k_ ≠ (v337 : Value).ownBlock ∧ some k_ ≠ (v339 : Value).ownBlock ∧ some k_ ≠ (.slice Ao24 t344.length co24 : Value).ownBlock ∧ some k_ ≠ (v351 : Value).ownBlock ∧ some k_ ≠ (v353 : Value).ownBlock) (Kd.R_keptB (HO363.out) hkp (fun k_ hk_ hs_ => (hk_.2.2.1) hs_)) (fun k_ hk_ => ⟨hk_.1.1, hk_.1.2.1, hk_.1.2.2.1, hk_.1.2.2.2.1, hk_.1.2.2.2.2⟩)); have n6_ := Aside0.mk (hb); clear HO_8; clear HO_9; clear HO_13; clear HO_14; clear HO_15; clear HO363; clear HB; have HO_8 := n0_; have HO_9 := n1_; have HO_13 := n2_; have HO_14 := n3_; have HO_15 := n4_; have HO363 := n5_; have HB := n6_; clear n0_ n1_ n2_ n3_ n4_ n5_ n6_; (try clear hb); (try clear hkp); (try clear hy0)))
        (try simp only [Act.put, List.setIfInBounds_toArray, List.set_cons_zero, List.set_cons_succ])
        go_cut [116] (fun v116 wc => ∃ (kq : Nat) (x116_53 : Bool), v116 = .bool x116_53 ∧ Aside0 (laws_FnExactRunFlow.j1 kq l0 l1 a2 t333 t334 t335 t336 t347 t348 x116_53 = some true) ∧ Aside0 (kq ≤ kj13) ∧ Aside0 (Kd.R (Kd.int .i64) 3 wc w.heap.size (fun k_ => some k_ ≠ (v339 : Value).ownBlock ∧ some k_ ≠ (v351 : Value).ownBlock ∧ some k_ ≠ (v353 : Value).ownBlock) v337 t333) ∧ Aside0 (Kd.R (Kd.int .i64) 3 wc w.heap.size (fun k_ => some k_ ≠ (v337 : Value).ownBlock ∧ some k_ ≠ (v351 : Value).ownBlock ∧ some k_ ≠ (v353 : Value).ownBlock) v339 t334) ∧ Aside0 (Kd.R (Kd.int .i64) 3 wc w.heap.size (fun k_ => some k_ ≠ (v337 : Value).ownBlock ∧ some k_ ≠ (v339 : Value).ownBlock ∧ some k_ ≠ (v353 : Value).ownBlock) v351 t347) ∧ Aside0 (Kd.R (Kd.int .i64) 3 wc w.heap.size (fun k_ => some k_ ≠ (v337 : Value).ownBlock ∧ some k_ ≠ (v339 : Value).ownBlock ∧ some k_ ≠ (v351 : Value).ownBlock) v353 t348) ∧ Aside0 (Below w.heap.size w wc))
        case first =>
         have H := HC54.out
         clear HC54
         by_cases c62 : t366 < 0
         ·rw [if_pos c62] at H
          have c62b0 : decide (t366 < 0) = true := decide_eq_true c62
          clear c62
          (first | rw [c62b0] | (simp only [i64_w, i32_w]; rw [c62b0]) | skip)
          as_aux_lemma =>
           have H' := Aside0.mk H
           clear H
           go_wp2
           go_meet
           case rel => exact ⟨_, (true), (by first | rfl | (simp; done) | (simp [*]; done)), H', ⟨by have := HJ13.out; first | omega | exact Nat.le_refl _⟩, ⟨by (with_reducible repeat (first | apply Kd.R_alloc | apply Kd.R_drewN | apply Kd.R_drew)); exact Kd.R_mono HO_8.out (fun _ hk => ⟨hk.1, ⟨hk.2.2.1, hk.2.2.2.1⟩⟩)⟩, ⟨by (with_reducible repeat (first | apply Kd.R_alloc | apply Kd.R_drewN | apply Kd.R_drew)); exact Kd.R_mono HO_9.out (fun _ hk => ⟨hk.1, ⟨hk.2.2.1, hk.2.2.2.1⟩⟩)⟩, ⟨by (with_reducible repeat (first | apply Kd.R_alloc | apply Kd.R_drewN | apply Kd.R_drew)); exact Kd.R_mono HO_14.out (fun _ hk => ⟨hk.1, ⟨hk.2.1, hk.2.2.2.1⟩⟩)⟩, ⟨by (with_reducible repeat (first | apply Kd.R_alloc | apply Kd.R_drewN | apply Kd.R_drew)); exact Kd.R_mono HO_15.out (fun _ hk => ⟨hk.1, ⟨hk.2.1, hk.2.2.2.1⟩⟩)⟩, ⟨by repeat (first | (with_reducible first | exact HB.out | apply below_alloc | apply pw_below_drewN | apply below_drew1) | exact HB.out)⟩⟩
         ·rw [if_neg c62] at H
          have c62b0 : decide (t366 < 0) = false := decide_eq_false c62
          clear c62
          (first | rw [c62b0] | (simp only [i64_w, i32_w]; rw [c62b0]) | skip)
          replace H := Option.bind_eq_some_iff.mp H
          obtain ⟨t368, A630, H⟩ := H
          replace H : (if t368 = true then ((laws_eqIntS.f kj13 t348 t334).bind fun t369 => (if t369 = true then (if t349 = t335 then (laws_FnExactRunFlow.j1 kj13 l0 l1 a2 t333 t334 t335 t336 t347 t348 (t350 != t336)) else (laws_FnExactRunFlow.j1 kj13 l0 l1 a2 t333 t334 t335 t336 t347 t348 true)) else (laws_FnExactRunFlow.j1 kj13 l0 l1 a2 t333 t334 t335 t336 t347 t348 true))) else (laws_FnExactRunFlow.j1 kj13 l0 l1 a2 t333 t334 t335 t336 t347 t348 true)) = some true := H
          have A63 := Aside0.mk A630
          clear A630
          by_cases c64 : t368 = true
          ·subst c64
           have H1 : ((laws_eqIntS.f kj13 t348 t334).bind fun t369 => (if t369 = true then (if t349 = t335 then (laws_FnExactRunFlow.j1 kj13 l0 l1 a2 t333 t334 t335 t336 t347 t348 (t350 != t336)) else (laws_FnExactRunFlow.j1 kj13 l0 l1 a2 t333 t334 t335 t336 t347 t348 true)) else (laws_FnExactRunFlow.j1 kj13 l0 l1 a2 t333 t334 t335 t336 t347 t348 true))) = some true := by rw [if_pos rfl] at H; exact H
           clear H
           have H := H1
           clear H1
           replace H := Option.bind_eq_some_iff.mp H
           obtain ⟨t369, A650, H⟩ := H
           replace H : (if t369 = true then (if t349 = t335 then (laws_FnExactRunFlow.j1 kj13 l0 l1 a2 t333 t334 t335 t336 t347 t348 (t350 != t336)) else (laws_FnExactRunFlow.j1 kj13 l0 l1 a2 t333 t334 t335 t336 t347 t348 true)) else (laws_FnExactRunFlow.j1 kj13 l0 l1 a2 t333 t334 t335 t336 t347 t348 true)) = some true := H
           have A65 := Aside0.mk A650
           clear A650
           by_cases c66 : t369 = true
           ·subst c66
            have H1 : (if t349 = t335 then (laws_FnExactRunFlow.j1 kj13 l0 l1 a2 t333 t334 t335 t336 t347 t348 (t350 != t336)) else (laws_FnExactRunFlow.j1 kj13 l0 l1 a2 t333 t334 t335 t336 t347 t348 true)) = some true := by rw [if_pos rfl] at H; exact H
            clear H
            have H := H1
            clear H1
            by_cases c67 : t349 = t335
            ·rw [if_pos c67] at H
             have c67b0 : (t349 == t335) = true := beq_iff_eq.mpr c67
             have c67b1 : (t349 != t335) = false := bne_eq_false_iff_eq.mpr c67
             clear c67
             as_aux_lemma =>
              have H' := Aside0.mk H
              clear H
              obtain ⟨Ao68, co68, eo68⟩ := Kd.R_slice HO_14.out
              subst eo68
              obtain ⟨Ao69, co69, eo69⟩ := Kd.R_slice HO_8.out
              subst eo69
              go_wp2_with (first | (go_at_call 14; (with_reducible refine (laws_eqIntS.calls kj13 _ _ t347 _ _ t333 true _ ?side1 ?side2 ?side3 ?side4 A63.out).mono ?_); (case side1 => repeat (first | exact (Kd.R_reads' HO_14.out).2.2 | (with_reducible refine Kd.C_alloc ?_ _) | (with_reducible refine Kd.C_drewN ?_ _) | (with_reducible refine Kd.C_drew ?_))); (case side2 => exact (Kd.R_reads' HO_14.out).2.1); (case side3 => repeat (first | exact (Kd.R_reads' HO_8.out).2.2 | (with_reducible refine Kd.C_alloc ?_ _) | (with_reducible refine Kd.C_drewN ?_ _) | (with_reducible refine Kd.C_drew ?_))); (case side4 => exact (Kd.R_reads' HO_8.out).2.1); rintro e w' ⟨rfl, ⟨nd, rfl⟩⟩; obtain ⟨Ao70, co70, eo70⟩ := Kd.R_slice HO_15.out; subst eo70; obtain ⟨Ao71, co71, eo71⟩ := Kd.R_slice HO_9.out; subst eo71) | (go_at_call 14; (with_reducible refine (laws_eqIntS.calls kj13 _ _ t348 _ _ t334 true _ ?side1 ?side2 ?side3 ?side4 A65.out).mono ?_); (case side1 => repeat (first | exact (Kd.R_reads' HO_15.out).2.2 | (with_reducible refine Kd.C_alloc ?_ _) | (with_reducible refine Kd.C_drewN ?_ _) | (with_reducible refine Kd.C_drew ?_))); (case side2 => exact (Kd.R_reads' HO_15.out).2.1); (case side3 => repeat (first | exact (Kd.R_reads' HO_9.out).2.2 | (with_reducible refine Kd.C_alloc ?_ _) | (with_reducible refine Kd.C_drewN ?_ _) | (with_reducible refine Kd.C_drew ?_))); (case side4 => exact (Kd.R_reads' HO_9.out).2.1); rintro e w' ⟨rfl, ⟨nd, rfl⟩⟩))
              go_meet
              case rel => exact ⟨_, ((t350 != t336)), (by first | rfl | (simp; done) | (simp [*]; done)), H', ⟨by have := HJ13.out; first | omega | exact Nat.le_refl _⟩, ⟨by (with_reducible repeat (first | apply Kd.R_alloc | apply Kd.R_drewN | apply Kd.R_drew)); exact Kd.R_mono HO_8.out (fun _ hk => ⟨hk.1, ⟨hk.2.2.1, hk.2.2.2.1⟩⟩)⟩, ⟨by (with_reducible repeat (first | apply Kd.R_alloc | apply Kd.R_drewN | apply Kd.R_drew)); exact Kd.R_mono HO_9.out (fun _ hk => ⟨hk.1, ⟨hk.2.2.1, hk.2.2.2.1⟩⟩)⟩, ⟨by (with_reducible repeat (first | apply Kd.R_alloc | apply Kd.R_drewN | apply Kd.R_drew)); exact Kd.R_mono HO_14.out (fun _ hk => ⟨hk.1, ⟨hk.2.1, hk.2.2.2.1⟩⟩)⟩, ⟨by (with_reducible repeat (first | apply Kd.R_alloc | apply Kd.R_drewN | apply Kd.R_drew)); exact Kd.R_mono HO_15.out (fun _ hk => ⟨hk.1, ⟨hk.2.1, hk.2.2.2.1⟩⟩)⟩, ⟨by repeat (first | (with_reducible first | exact HB.out | apply below_alloc | apply pw_below_drewN | apply below_drew1) | exact HB.out)⟩⟩
            ·rw [if_neg c67] at H
             have c67b0 : (t349 == t335) = false := beq_eq_false_iff_ne.mpr c67
             have c67b1 : (t349 != t335) = true := bne_iff_ne.mpr c67
             as_aux_lemma =>
              have H' := Aside0.mk H
              clear H
              obtain ⟨Ao72, co72, eo72⟩ := Kd.R_slice HO_14.out
              subst eo72
              obtain ⟨Ao73, co73, eo73⟩ := Kd.R_slice HO_8.out
              subst eo73
              go_wp2_with (first | (go_at_call 14; (with_reducible refine (laws_eqIntS.calls kj13 _ _ t347 _ _ t333 true _ ?side1 ?side2 ?side3 ?side4 A63.out).mono ?_); (case side1 => repeat (first | exact (Kd.R_reads' HO_14.out).2.2 | (with_reducible refine Kd.C_alloc ?_ _) | (with_reducible refine Kd.C_drewN ?_ _) | (with_reducible refine Kd.C_drew ?_))); (case side2 => exact (Kd.R_reads' HO_14.out).2.1); (case side3 => repeat (first | exact (Kd.R_reads' HO_8.out).2.2 | (with_reducible refine Kd.C_alloc ?_ _) | (with_reducible refine Kd.C_drewN ?_ _) | (with_reducible refine Kd.C_drew ?_))); (case side4 => exact (Kd.R_reads' HO_8.out).2.1); rintro e w' ⟨rfl, ⟨nd, rfl⟩⟩; obtain ⟨Ao74, co74, eo74⟩ := Kd.R_slice HO_15.out; subst eo74; obtain ⟨Ao75, co75, eo75⟩ := Kd.R_slice HO_9.out; subst eo75) | (go_at_call 14; (with_reducible refine (laws_eqIntS.calls kj13 _ _ t348 _ _ t334 true _ ?side1 ?side2 ?side3 ?side4 A65.out).mono ?_); (case side1 => repeat (first | exact (Kd.R_reads' HO_15.out).2.2 | (with_reducible refine Kd.C_alloc ?_ _) | (with_reducible refine Kd.C_drewN ?_ _) | (with_reducible refine Kd.C_drew ?_))); (case side2 => exact (Kd.R_reads' HO_15.out).2.1); (case side3 => repeat (first | exact (Kd.R_reads' HO_9.out).2.2 | (with_reducible refine Kd.C_alloc ?_ _) | (with_reducible refine Kd.C_drewN ?_ _) | (with_reducible refine Kd.C_drew ?_))); (case side4 => exact (Kd.R_reads' HO_9.out).2.1); rintro e w' ⟨rfl, ⟨nd, rfl⟩⟩))
              go_meet
              case rel => exact ⟨_, (true), (by first | rfl | (simp; done) | (simp [*]; done)), H', ⟨by have := HJ13.out; first | omega | exact Nat.le_refl _⟩, ⟨by (with_reducible repeat (first | apply Kd.R_alloc | apply Kd.R_drewN | apply Kd.R_drew)); exact Kd.R_mono HO_8.out (fun _ hk => ⟨hk.1, ⟨hk.2.2.1, hk.2.2.2.1⟩⟩)⟩, ⟨by (with_reducible repeat (first | apply Kd.R_alloc | apply Kd.R_drewN | apply Kd.R_drew)); exact Kd.R_mono HO_9.out (fun _ hk => ⟨hk.1, ⟨hk.2.2.1, hk.2.2.2.1⟩⟩)⟩, ⟨by (with_reducible repeat (first | apply Kd.R_alloc | apply Kd.R_drewN | apply Kd.R_drew)); exact Kd.R_mono HO_14.out (fun _ hk => ⟨hk.1, ⟨hk.2.1, hk.2.2.2.1⟩⟩)⟩, ⟨by (with_reducible repeat (first | apply Kd.R_alloc | apply Kd.R_drewN | apply Kd.R_drew)); exact Kd.R_mono HO_15.out (fun _ hk => ⟨hk.1, ⟨hk.2.1, hk.2.2.2.1⟩⟩)⟩, ⟨by repeat (first | (with_reducible first | exact HB.out | apply below_alloc | apply pw_below_drewN | apply below_drew1) | exact HB.out)⟩⟩
           ·replace c66 := Bool.eq_false_iff.mpr c66
            subst c66
            have H1 : (laws_FnExactRunFlow.j1 kj13 l0 l1 a2 t333 t334 t335 t336 t347 t348 true) = some true := by rw [if_neg (show ¬ (false = true) by decide)] at H; exact H
            clear H
            have H := H1
            clear H1
            as_aux_lemma =>
             have H' := Aside0.mk H
             clear H
             obtain ⟨Ao76, co76, eo76⟩ := Kd.R_slice HO_14.out
             subst eo76
             obtain ⟨Ao77, co77, eo77⟩ := Kd.R_slice HO_8.out
             subst eo77
             go_wp2_with (first | (go_at_call 14; (with_reducible refine (laws_eqIntS.calls kj13 _ _ t347 _ _ t333 true _ ?side1 ?side2 ?side3 ?side4 A63.out).mono ?_); (case side1 => repeat (first | exact (Kd.R_reads' HO_14.out).2.2 | (with_reducible refine Kd.C_alloc ?_ _) | (with_reducible refine Kd.C_drewN ?_ _) | (with_reducible refine Kd.C_drew ?_))); (case side2 => exact (Kd.R_reads' HO_14.out).2.1); (case side3 => repeat (first | exact (Kd.R_reads' HO_8.out).2.2 | (with_reducible refine Kd.C_alloc ?_ _) | (with_reducible refine Kd.C_drewN ?_ _) | (with_reducible refine Kd.C_drew ?_))); (case side4 => exact (Kd.R_reads' HO_8.out).2.1); rintro e w' ⟨rfl, ⟨nd, rfl⟩⟩; obtain ⟨Ao78, co78, eo78⟩ := Kd.R_slice HO_15.out; subst eo78; obtain ⟨Ao79, co79, eo79⟩ := Kd.R_slice HO_9.out; subst eo79) | (go_at_call 14; (with_reducible refine (laws_eqIntS.calls kj13 _ _ t348 _ _ t334 false _ ?side1 ?side2 ?side3 ?side4 A65.out).mono ?_); (case side1 => repeat (first | exact (Kd.R_reads' HO_15.out).2.2 | (with_reducible refine Kd.C_alloc ?_ _) | (with_reducible refine Kd.C_drewN ?_ _) | (with_reducible refine Kd.C_drew ?_))); (case side2 => exact (Kd.R_reads' HO_15.out).2.1); (case side3 => repeat (first | exact (Kd.R_reads' HO_9.out).2.2 | (with_reducible refine Kd.C_alloc ?_ _) | (with_reducible refine Kd.C_drewN ?_ _) | (with_reducible refine Kd.C_drew ?_))); (case side4 => exact (Kd.R_reads' HO_9.out).2.1); rintro e w' ⟨rfl, ⟨nd, rfl⟩⟩))
             go_meet
             case rel => exact ⟨_, (true), (by first | rfl | (simp; done) | (simp [*]; done)), H', ⟨by have := HJ13.out; first | omega | exact Nat.le_refl _⟩, ⟨by (with_reducible repeat (first | apply Kd.R_alloc | apply Kd.R_drewN | apply Kd.R_drew)); exact Kd.R_mono HO_8.out (fun _ hk => ⟨hk.1, ⟨hk.2.2.1, hk.2.2.2.1⟩⟩)⟩, ⟨by (with_reducible repeat (first | apply Kd.R_alloc | apply Kd.R_drewN | apply Kd.R_drew)); exact Kd.R_mono HO_9.out (fun _ hk => ⟨hk.1, ⟨hk.2.2.1, hk.2.2.2.1⟩⟩)⟩, ⟨by (with_reducible repeat (first | apply Kd.R_alloc | apply Kd.R_drewN | apply Kd.R_drew)); exact Kd.R_mono HO_14.out (fun _ hk => ⟨hk.1, ⟨hk.2.1, hk.2.2.2.1⟩⟩)⟩, ⟨by (with_reducible repeat (first | apply Kd.R_alloc | apply Kd.R_drewN | apply Kd.R_drew)); exact Kd.R_mono HO_15.out (fun _ hk => ⟨hk.1, ⟨hk.2.1, hk.2.2.2.1⟩⟩)⟩, ⟨by repeat (first | (with_reducible first | exact HB.out | apply below_alloc | apply pw_below_drewN | apply below_drew1) | exact HB.out)⟩⟩
          ·replace c64 := Bool.eq_false_iff.mpr c64
           subst c64
           have H1 : (laws_FnExactRunFlow.j1 kj13 l0 l1 a2 t333 t334 t335 t336 t347 t348 true) = some true := by rw [if_neg (show ¬ (false = true) by decide)] at H; exact H
           clear H
           have H := H1
           clear H1
           as_aux_lemma =>
            have H' := Aside0.mk H
            clear H
            obtain ⟨Ao80, co80, eo80⟩ := Kd.R_slice HO_14.out
            subst eo80
            obtain ⟨Ao81, co81, eo81⟩ := Kd.R_slice HO_8.out
            subst eo81
            go_wp2_with (first | (go_at_call 14; (with_reducible refine (laws_eqIntS.calls kj13 _ _ t347 _ _ t333 false _ ?side1 ?side2 ?side3 ?side4 A63.out).mono ?_); (case side1 => repeat (first | exact (Kd.R_reads' HO_14.out).2.2 | (with_reducible refine Kd.C_alloc ?_ _) | (with_reducible refine Kd.C_drewN ?_ _) | (with_reducible refine Kd.C_drew ?_))); (case side2 => exact (Kd.R_reads' HO_14.out).2.1); (case side3 => repeat (first | exact (Kd.R_reads' HO_8.out).2.2 | (with_reducible refine Kd.C_alloc ?_ _) | (with_reducible refine Kd.C_drewN ?_ _) | (with_reducible refine Kd.C_drew ?_))); (case side4 => exact (Kd.R_reads' HO_8.out).2.1); rintro e w' ⟨rfl, ⟨nd, rfl⟩⟩))
            go_meet
            case rel => exact ⟨_, (true), (by first | rfl | (simp; done) | (simp [*]; done)), H', ⟨by have := HJ13.out; first | omega | exact Nat.le_refl _⟩, ⟨by (with_reducible repeat (first | apply Kd.R_alloc | apply Kd.R_drewN | apply Kd.R_drew)); exact Kd.R_mono HO_8.out (fun _ hk => ⟨hk.1, ⟨hk.2.2.1, hk.2.2.2.1⟩⟩)⟩, ⟨by (with_reducible repeat (first | apply Kd.R_alloc | apply Kd.R_drewN | apply Kd.R_drew)); exact Kd.R_mono HO_9.out (fun _ hk => ⟨hk.1, ⟨hk.2.2.1, hk.2.2.2.1⟩⟩)⟩, ⟨by (with_reducible repeat (first | apply Kd.R_alloc | apply Kd.R_drewN | apply Kd.R_drew)); exact Kd.R_mono HO_14.out (fun _ hk => ⟨hk.1, ⟨hk.2.1, hk.2.2.2.1⟩⟩)⟩, ⟨by (with_reducible repeat (first | apply Kd.R_alloc | apply Kd.R_drewN | apply Kd.R_drew)); exact Kd.R_mono HO_15.out (fun _ hk => ⟨hk.1, ⟨hk.2.1, hk.2.2.2.1⟩⟩)⟩, ⟨by repeat (first | (with_reducible first | exact HB.out | apply below_alloc | apply pw_below_drewN | apply below_drew1) | exact HB.out)⟩⟩
        case rest =>
         clear HC54
         try clear c1
         try clear c2
         try clear p2
         try clear c3
         try clear c4
         try clear c4b0
         try clear c4b1
         try clear c5
         try clear c6
         try clear c6b0
         try clear c12
         try clear c14
         try clear c17
         try clear c26
         try clear c27
         try clear c28
         try clear c29
         try clear c30
         try clear c30b0
         try clear c30b1
         try clear c31
         try clear c32
         try clear c33
         try clear c45
         try clear c48
         try clear c51
         try clear c62
         try clear c62b0
         try clear c64
         try clear c66
         try clear c67
         try clear c67b0
         try clear c67b1
         try clear p2
         obtain ⟨kq, x116_53, rfl, HA, HJ53, HO_8, HO_9, HO_14, HO_15, HB⟩ := hcut
         cases kq with
         | zero => exact absurd HA.out (by simp [laws_FnExactRunFlow.j1])
         | succ kj53 =>
          have H := HA.out
          clear HA
          simp only [laws_FnExactRunFlow.j1] at H
          by_cases c82 : x116_53 = true
          ·subst c82
           have H1 : (some false) = some true := by rw [if_pos rfl] at H; exact H
           clear H
           have H := H1
           clear H1
           as_aux_lemma =>
            exact absurd H (by simp)
          ·replace c82 := Bool.eq_false_iff.mpr c82
           subst c82
           have H1 : ((laws_markIntS.f kj53 t347 1).bind fun bt370 => ((laws_markIntS.f kj53 t348 bt370.1).bind fun bt372 => ((laws_heldIntS.f kj53 bt370.2 1).bind fun t374 => (if t374 < 0 then (some false) else ((laws_heldIntS.f kj53 bt372.2 t374).bind fun t375 => (if t375 < 0 then (some false) else (if t375 = bt372.1 then ((laws_toBlockS.f kj53 l0).bind fun t376 => ((laws_toIntS.f kj53 l1).bind fun t379 => ((impl_RunFlow.f kj53 t376 t379 a2).bind fun bt382 => ((laws_eqIntS.f kj53 bt382.1 t333).bind fun t390 => (if t390 = true then ((laws_eqIntS.f kj53 bt382.2.1 t334).bind fun t391 => (if t391 = true then (if bt382.2.2.1 = t335 then (laws_FnExactRunFlow.j2 kj53 bt370.2 bt372.2 bt372.1 (bt382.2.2.2 != t336)) else (laws_FnExactRunFlow.j2 kj53 bt370.2 bt372.2 bt372.1 true)) else (laws_FnExactRunFlow.j2 kj53 bt370.2 bt372.2 bt372.1 true))) else (laws_FnExactRunFlow.j2 kj53 bt370.2 bt372.2 bt372.1 true)))))) else (some false)))))))) = some true := by rw [if_neg (show ¬ (false = true) by decide)] at H; exact H
           clear H
           have H := H1
           clear H1
           replace H := Option.bind_eq_some_iff.mp H
           obtain ⟨⟨t370, t371⟩, A830, H⟩ := H
           replace H : ((laws_markIntS.f kj53 t348 t370).bind fun bt372 => ((laws_heldIntS.f kj53 t371 1).bind fun t374 => (if t374 < 0 then (some false) else ((laws_heldIntS.f kj53 bt372.2 t374).bind fun t375 => (if t375 < 0 then (some false) else (if t375 = bt372.1 then ((laws_toBlockS.f kj53 l0).bind fun t376 => ((laws_toIntS.f kj53 l1).bind fun t379 => ((impl_RunFlow.f kj53 t376 t379 a2).bind fun bt382 => ((laws_eqIntS.f kj53 bt382.1 t333).bind fun t390 => (if t390 = true then ((laws_eqIntS.f kj53 bt382.2.1 t334).bind fun t391 => (if t391 = true then (if bt382.2.2.1 = t335 then (laws_FnExactRunFlow.j2 kj53 t371 bt372.2 bt372.1 (bt382.2.2.2 != t336)) else (laws_FnExactRunFlow.j2 kj53 t371 bt372.2 bt372.1 true)) else (laws_FnExactRunFlow.j2 kj53 t371 bt372.2 bt372.1 true))) else (laws_FnExactRunFlow.j2 kj53 t371 bt372.2 bt372.1 true)))))) else (some false))))))) = some true := H
           have A83 := Aside0.mk A830
           clear A830
           replace H := Option.bind_eq_some_iff.mp H
           obtain ⟨⟨t372, t373⟩, A840, H⟩ := H
           replace H : ((laws_heldIntS.f kj53 t371 1).bind fun t374 => (if t374 < 0 then (some false) else ((laws_heldIntS.f kj53 t373 t374).bind fun t375 => (if t375 < 0 then (some false) else (if t375 = t372 then ((laws_toBlockS.f kj53 l0).bind fun t376 => ((laws_toIntS.f kj53 l1).bind fun t379 => ((impl_RunFlow.f kj53 t376 t379 a2).bind fun bt382 => ((laws_eqIntS.f kj53 bt382.1 t333).bind fun t390 => (if t390 = true then ((laws_eqIntS.f kj53 bt382.2.1 t334).bind fun t391 => (if t391 = true then (if bt382.2.2.1 = t335 then (laws_FnExactRunFlow.j2 kj53 t371 t373 t372 (bt382.2.2.2 != t336)) else (laws_FnExactRunFlow.j2 kj53 t371 t373 t372 true)) else (laws_FnExactRunFlow.j2 kj53 t371 t373 t372 true))) else (laws_FnExactRunFlow.j2 kj53 t371 t373 t372 true)))))) else (some false)))))) = some true := H
           have A84 := Aside0.mk A840
           clear A840
           replace H := Option.bind_eq_some_iff.mp H
           obtain ⟨t374, A850, H⟩ := H
           replace H : (if t374 < 0 then (some false) else ((laws_heldIntS.f kj53 t373 t374).bind fun t375 => (if t375 < 0 then (some false) else (if t375 = t372 then ((laws_toBlockS.f kj53 l0).bind fun t376 => ((laws_toIntS.f kj53 l1).bind fun t379 => ((impl_RunFlow.f kj53 t376 t379 a2).bind fun bt382 => ((laws_eqIntS.f kj53 bt382.1 t333).bind fun t390 => (if t390 = true then ((laws_eqIntS.f kj53 bt382.2.1 t334).bind fun t391 => (if t391 = true then (if bt382.2.2.1 = t335 then (laws_FnExactRunFlow.j2 kj53 t371 t373 t372 (bt382.2.2.2 != t336)) else (laws_FnExactRunFlow.j2 kj53 t371 t373 t372 true)) else (laws_FnExactRunFlow.j2 kj53 t371 t373 t372 true))) else (laws_FnExactRunFlow.j2 kj53 t371 t373 t372 true)))))) else (some false))))) = some true := H
           have A85 := Aside0.mk A850
           clear A850
           by_cases c86 : t374 < 0
           ·rw [if_pos c86] at H
            have c86b0 : decide (t374 < 0) = true := decide_eq_true c86
            clear c86
            as_aux_lemma =>
             exact absurd H (by simp)
           ·rw [if_neg c86] at H
            have c86b0 : decide (t374 < 0) = false := decide_eq_false c86
            clear c86
            replace H := Option.bind_eq_some_iff.mp H
            obtain ⟨t375, A870, H⟩ := H
            replace H : (if t375 < 0 then (some false) else (if t375 = t372 then ((laws_toBlockS.f kj53 l0).bind fun t376 => ((laws_toIntS.f kj53 l1).bind fun t379 => ((impl_RunFlow.f kj53 t376 t379 a2).bind fun bt382 => ((laws_eqIntS.f kj53 bt382.1 t333).bind fun t390 => (if t390 = true then ((laws_eqIntS.f kj53 bt382.2.1 t334).bind fun t391 => (if t391 = true then (if bt382.2.2.1 = t335 then (laws_FnExactRunFlow.j2 kj53 t371 t373 t372 (bt382.2.2.2 != t336)) else (laws_FnExactRunFlow.j2 kj53 t371 t373 t372 true)) else (laws_FnExactRunFlow.j2 kj53 t371 t373 t372 true))) else (laws_FnExactRunFlow.j2 kj53 t371 t373 t372 true)))))) else (some false))) = some true := H
            have A87 := Aside0.mk A870
            clear A870
            by_cases c88 : t375 < 0
            ·rw [if_pos c88] at H
             have c88b0 : decide (t375 < 0) = true := decide_eq_true c88
             clear c88
             as_aux_lemma =>
              exact absurd H (by simp)
            ·rw [if_neg c88] at H
             have c88b0 : decide (t375 < 0) = false := decide_eq_false c88
             clear c88
             by_cases c89 : t375 = t372
             ·rw [if_pos c89] at H
              have c89b0 : (t375 == t372) = true := beq_iff_eq.mpr c89
              have c89b1 : (t375 != t372) = false := bne_eq_false_iff_eq.mpr c89
              clear c89
              replace H := Option.bind_eq_some_iff.mp H
              obtain ⟨t376, A900, H⟩ := H
              replace H : ((laws_toIntS.f kj53 l1).bind fun t379 => ((impl_RunFlow.f kj53 t376 t379 a2).bind fun bt382 => ((laws_eqIntS.f kj53 bt382.1 t333).bind fun t390 => (if t390 = true then ((laws_eqIntS.f kj53 bt382.2.1 t334).bind fun t391 => (if t391 = true then (if bt382.2.2.1 = t335 then (laws_FnExactRunFlow.j2 kj53 t371 t373 t372 (bt382.2.2.2 != t336)) else (laws_FnExactRunFlow.j2 kj53 t371 t373 t372 true)) else (laws_FnExactRunFlow.j2 kj53 t371 t373 t372 true))) else (laws_FnExactRunFlow.j2 kj53 t371 t373 t372 true))))) = some true := H
              have A90 := Aside0.mk A900
              clear A900
              replace H := Option.bind_eq_some_iff.mp H
              obtain ⟨t379, A910, H⟩ := H
              replace H : ((impl_RunFlow.f kj53 t376 t379 a2).bind fun bt382 => ((laws_eqIntS.f kj53 bt382.1 t333).bind fun t390 => (if t390 = true then ((laws_eqIntS.f kj53 bt382.2.1 t334).bind fun t391 => (if t391 = true then (if bt382.2.2.1 = t335 then (laws_FnExactRunFlow.j2 kj53 t371 t373 t372 (bt382.2.2.2 != t336)) else (laws_FnExactRunFlow.j2 kj53 t371 t373 t372 true)) else (laws_FnExactRunFlow.j2 kj53 t371 t373 t372 true))) else (laws_FnExactRunFlow.j2 kj53 t371 t373 t372 true)))) = some true := H
              have A91 := Aside0.mk A910
              clear A910
              replace H := Option.bind_eq_some_iff.mp H
              obtain ⟨⟨t382, t383, t384, t385⟩, A920, H⟩ := H
              replace H : ((laws_eqIntS.f kj53 t382 t333).bind fun t390 => (if t390 = true then ((laws_eqIntS.f kj53 t383 t334).bind fun t391 => (if t391 = true then (if t384 = t335 then (laws_FnExactRunFlow.j2 kj53 t371 t373 t372 (t385 != t336)) else (laws_FnExactRunFlow.j2 kj53 t371 t373 t372 true)) else (laws_FnExactRunFlow.j2 kj53 t371 t373 t372 true))) else (laws_FnExactRunFlow.j2 kj53 t371 t373 t372 true))) = some true := H
              have A92 := Aside0.mk A920
              clear A920
              have HC93 := Aside0.mk H
              clear H
              obtain ⟨Ao94, co94, eo94⟩ := Kd.R_slice HO_14.out
              subst eo94
              go_upto_region 35 with (first | ((with_reducible refine gate_callee (f := 17) rfl ?_); refine goesL_ (some 119) rfl rfl Try.func17 (by kernel_rfl) rfl #[.slice Ao94 t347.length co94, .int .i64 1] rfl (by (try simp only [List.map_toArray, List.map_cons, List.map_nil]); first | done | rfl | (simp only [List.length_drop, List.length_take]; rfl)) ?_; (with_reducible refine (laws_markIntS.calls kj53 (fun k_ => some k_ = (.slice Ao94 t347.length co94 : Value).ownBlock) (.slice Ao94 t347.length co94) t347 1 t370 t371 w _ ?side1 ?side2 A83.out).mono ?_); (case side1 => repeat (first | (with_reducible first | exact HB.out | apply below_alloc | apply pw_below_drewN | apply below_drew1) | exact HB.out)); (case side2 => exact Kd.R_tight rfl HO_14.out); rintro e w95 ⟨rfl, hy0, hb, hkp⟩; refine ⟨_, rfl, ?_⟩; have n0_ := Aside0.mk (Kd.R_mono (ok' := fun k_ => some k_ ≠ (v339 : Value).ownBlock ∧ some k_ ≠ (.slice Ao94 t347.length co94 : Value).ownBlock ∧ some k_ ≠ (v353 : Value).ownBlock) (Kd.R_keptB (HO_8.out) hkp (fun k_ hk_ hs_ => (hk_.2.1) hs_)) (fun k_ hk_ => ⟨hk_.1.1, hk_.1.2.1, hk_.1.2.2⟩)); have n1_ := Aside0.mk (Kd.R_mono (ok' := fun k_ => some k_ ≠ (v337 : Value).ownBlock ∧ some k_ ≠ (.slice Ao94 t347.length co94 : Value).ownBlock ∧ some k_ ≠ (v353 : Value).ownBlock) (Kd.R_keptB (HO_9.out) hkp (fun k_ hk_ hs_ => (hk_.2.1) hs_)) (fun k_ hk_ => ⟨hk_.1.1, hk_.1.2.1, hk_.1.2.2⟩)); have n2_ := Aside0.mk (Kd.R_reok rfl hy0 (fun k_ e_ => HO_14.out.1 k_ e_)); have n3_ := Aside0.mk (Kd.R_mono (ok' := fun k_ => some k_ ≠ (v337 : Value).ownBlock ∧ some k_ ≠ (v339 : Value).ownBlock ∧ some k_ ≠ (.slice Ao94 t347.length co94 : Value).ownBlock) (Kd.R_keptB (HO_15.out) hkp (fun k_ hk_ hs_ => (hk_.2.2) hs_)) (fun k_ hk_ => ⟨hk_.1.1, hk_.1.2.1, hk_.1.2.2⟩)); have n4_ := Aside0.mk (hb); clear HO_8; clear HO_9; clear HO_14; clear HO_15; clear HB; have HO_8 := n0_; have HO_9 := n1_; have HO_14 := n2_; have HO_15 := n3_; have HB := n4_; clear n0_ n1_ n2_ n3_ n4_; (try clear hb); (try clear hkp); (try clear hy0); obtain ⟨Ao96, co96, eo96⟩ := Kd.R_slice HO_15.out; subst eo96) | ((with_reducible refine gate_callee (f := 17) rfl ?_); refine goesL_ (some 122) rfl rfl Try.func17 (by kernel_rfl) rfl #[.slice Ao96 t348.length co96, .int .i64 t370] rfl (by (try simp only [List.map_toArray, List.map_cons, List.map_nil]); first | done | rfl | (simp only [List.length_drop, List.length_take]; rfl)) ?_; (with_reducible refine (laws_markIntS.calls kj53 (fun k_ => some k_ = (.slice Ao96 t348.length co96 : Value).ownBlock) (.slice Ao96 t348.length co96) t348 t370 t372 t373 w _ ?side1 ?side2 A84.out).mono ?_); (case side1 => repeat (first | (with_reducible first | exact HB.out | apply below_alloc | apply pw_below_drewN | apply below_drew1) | exact HB.out)); (case side2 => exact Kd.R_tight rfl HO_15.out); rintro e w97 ⟨rfl, hy0, hb, hkp⟩; refine ⟨_, rfl, ?_⟩; have n0_ := Aside0.mk (Kd.R_mono (ok' := fun k_ => some k_ ≠ (v339 : Value).ownBlock ∧ some k_ ≠ (.slice Ao94 t347.length co94 : Value).ownBlock ∧ some k_ ≠ (.slice Ao96 t348.length co96 : Value).ownBlock) (Kd.R_keptB (HO_8.out) hkp (fun k_ hk_ hs_ => (hk_.2.2) hs_)) (fun k_ hk_ => ⟨hk_.1.1, hk_.1.2.1, hk_.1.2.2⟩)); have n1_ := Aside0.mk (Kd.R_mono (ok' := fun k_ => some k_ ≠ (v337 : Value).ownBlock ∧ some k_ ≠ (.slice Ao94 t347.length co94 : Value).ownBlock ∧ some k_ ≠ (.slice Ao96 t348.length co96 : Value).ownBlock) (Kd.R_keptB (HO_9.out) hkp (fun k_ hk_ hs_ => (hk_.2.2) hs_)) (fun k_ hk_ => ⟨hk_.1.1, hk_.1.2.1, hk_.1.2.2⟩)); have n2_ := Aside0.mk (Kd.R_mono (ok' := fun k_ => some k_ ≠ (v337 : Value).ownBlock ∧ some k_ ≠ (v339 : Value).ownBlock ∧ some k_ ≠ (.slice Ao96 t348.length co96 : Value).ownBlock) (Kd.R_keptB (HO_14.out) hkp (fun k_ hk_ hs_ => (hk_.2.2) hs_)) (fun k_ hk_ => ⟨hk_.1.1, hk_.1.2.1, hk_.1.2.2⟩)); have n3_ := Aside0.mk (Kd.R_reok rfl hy0 (fun k_ e_ => HO_15.out.1 k_ e_)); have n4_ := Aside0.mk (hb); clear HO_8; clear HO_9; clear HO_14; clear HO_15; clear HB; have HO_8 := n0_; have HO_9 := n1_; have HO_14 := n2_; have HO_15 := n3_; have HB := n4_; clear n0_ n1_ n2_ n3_ n4_; (try clear hb); (try clear hkp); (try clear hy0)) | ((with_reducible refine gate_callee (f := 18) rfl ?_); refine goesL_ (some 125) rfl rfl Try.func18 (by kernel_rfl) rfl #[.slice Ao94 t371.length co94, .int .i64 1] rfl (by (try simp only [List.map_toArray, List.map_cons, List.map_nil]); first | done | (rw [show t371.length = t347.length from (Kd.R_reads' HO_14.out).1.symm] <;> rfl) | rfl | (simp only [List.length_drop, List.length_take]; rfl)) ?_; (with_reducible refine (laws_heldIntS.calls kj53 _ _ t371 1 t374 _ ?side1 ?side2 A85.out).mono ?_); (case side1 => repeat (first | exact (Kd.R_reads' HO_14.out).2.2 | (with_reducible refine Kd.C_alloc ?_ _) | (with_reducible refine Kd.C_drewN ?_ _) | (with_reducible refine Kd.C_drew ?_))); (case side2 => rw [show t371.length = t347.length from (Kd.R_reads' HO_14.out).1.symm]; exact (Kd.R_reads' HO_14.out).2.1); rintro e w' ⟨rfl, ⟨nd, rfl⟩⟩; refine ⟨_, rfl, ?_⟩) | ((with_reducible refine gate_callee (f := 18) rfl ?_); refine goesL_ (some 130) rfl rfl Try.func18 (by kernel_rfl) rfl #[.slice Ao96 t373.length co96, .int .i64 t374] rfl (by (try simp only [List.map_toArray, List.map_cons, List.map_nil]); first | done | (rw [show t373.length = t348.length from (Kd.R_reads' HO_15.out).1.symm] <;> rfl) | rfl | (simp only [List.length_drop, List.length_take]; rfl)) ?_; (with_reducible refine (laws_heldIntS.calls kj53 _ _ t373 t374 t375 _ ?side1 ?side2 A87.out).mono ?_); (case side1 => repeat (first | exact (Kd.R_reads' HO_15.out).2.2 | (with_reducible refine Kd.C_alloc ?_ _) | (with_reducible refine Kd.C_drewN ?_ _) | (with_reducible refine Kd.C_drew ?_))); (case side2 => rw [show t373.length = t348.length from (Kd.R_reads' HO_15.out).1.symm]; exact (Kd.R_reads' HO_15.out).2.1); rintro e w' ⟨rfl, ⟨nd, rfl⟩⟩; refine ⟨_, rfl, ?_⟩) | ((with_reducible refine gate_callee (f := 28) rfl ?_); refine goesL_ (some 138) rfl rfl Try.func28 (by kernel_rfl) rfl #[.slice A0 l0.length c0] rfl (by (try simp only [List.map_toArray, List.map_cons, List.map_nil]); first | done | rfl | (simp only [List.length_drop, List.length_take]; rfl)) ?_; (with_reducible refine (laws_toBlockS.calls kj53 _ _ l0 t376 _ ?side1 ?side2 A90.out).mono ?_); (case side1 => repeat (first | exact (Kd.C_below HR0.out (by repeat (first | (with_reducible first | exact HB.out | apply below_alloc | apply pw_below_drewN | apply below_drew1) | exact HB.out))) | (with_reducible refine Kd.C_alloc ?_ _) | (with_reducible refine Kd.C_drewN ?_ _) | (with_reducible refine Kd.C_drew ?_))); (case side2 => exact HC0.out); rintro e w98 ⟨v377, rfl, ho0, hb⟩; refine ⟨_, rfl, ?_⟩; have n0_ := Aside0.mk (Kd.R_below (by (with_reducible repeat (first | apply Kd.R_alloc | apply Kd.R_drewN | apply Kd.R_drew)); exact HO_8.out) hb); have n1_ := Aside0.mk (Kd.R_below (by (with_reducible repeat (first | apply Kd.R_alloc | apply Kd.R_drewN | apply Kd.R_drew)); exact HO_9.out) hb); have n2_ := Aside0.mk (Kd.R_below (by (with_reducible repeat (first | apply Kd.R_alloc | apply Kd.R_drewN | apply Kd.R_drew)); exact HO_14.out) hb); have n3_ := Aside0.mk (Kd.R_below (by (with_reducible repeat (first | apply Kd.R_alloc | apply Kd.R_drewN | apply Kd.R_drew)); exact HO_15.out) hb); have n4_ := Aside0.mk (Kd.S_lower ho0 (below_size (by repeat (first | (with_reducible first | exact HB.out | apply below_alloc | apply pw_below_drewN | apply below_drew1) | exact HB.out)))); have n5_ := Aside0.mk (below_step (by repeat (first | (with_reducible first | exact HB.out | apply below_alloc | apply pw_below_drewN | apply below_drew1) | exact HB.out)) hb); clear HO_8; clear HO_9; clear HO_14; clear HO_15; clear HB; have HO_8 := n0_; have HO_9 := n1_; have HO_14 := n2_; have HO_15 := n3_; have HO378 := n4_; have HB := n5_; clear n0_ n1_ n2_ n3_ n4_ n5_; (try clear hb); (try clear hb2); (try clear hk); (try clear hi); (try clear ho0)) | ((with_reducible refine gate_callee (f := 12) rfl ?_); refine goesL_ (some 140) rfl rfl Try.func12 (by kernel_rfl) rfl #[.slice A1 l1.length c1] rfl (by (try simp only [List.map_toArray, List.map_cons, List.map_nil]); first | done | rfl | (simp only [List.length_drop, List.length_take]; rfl)) ?_; (with_reducible refine (laws_toIntS.calls kj53 _ _ l1 t379 _ ?side1 ?side2 A91.out).mono ?_); (case side1 => repeat (first | exact (Kd.C_below HR1.out HB.out) | (with_reducible refine Kd.C_alloc ?_ _) | (with_reducible refine Kd.C_drewN ?_ _) | (with_reducible refine Kd.C_drew ?_))); (case side2 => exact HC1.out); rintro e w99 ⟨v380, rfl, ho0, hb⟩; refine ⟨_, rfl, ?_⟩; have n0_ := Aside0.mk (Kd.R_elder' (by (with_reducible repeat (first | apply Kd.R_alloc | apply Kd.R_drewN | apply Kd.R_drew)); exact HO_8.out) (Kd.R_base ho0) hb); have n1_ := Aside0.mk (Kd.R_elder' (by (with_reducible repeat (first | apply Kd.R_alloc | apply Kd.R_drewN | apply Kd.R_drew)); exact HO_9.out) (Kd.R_base ho0) hb); have n2_ := Aside0.mk (Kd.R_elder' (by (with_reducible repeat (first | apply Kd.R_alloc | apply Kd.R_drewN | apply Kd.R_drew)); exact HO_14.out) (Kd.R_base ho0) hb); have n3_ := Aside0.mk (Kd.R_elder' (by (with_reducible repeat (first | apply Kd.R_alloc | apply Kd.R_drewN | apply Kd.R_drew)); exact HO_15.out) (Kd.R_base ho0) hb); have n4_ := Aside0.mk (Kd.S_below (by (with_reducible repeat (first | apply Kd.S_alloc | apply Kd.S_drewN | apply Kd.S_drew)); exact HO378.out) hb); have n5_ := Aside0.mk (Kd.R_lower (Kd.R_new' (Kd.R_new' (Kd.R_new' (Kd.R_new' ho0 (Kd.R_lt (by (with_reducible repeat (first | apply Kd.R_alloc | apply Kd.R_drewN | apply Kd.R_drew)); exact HO_8.out))) (Kd.R_lt (by (with_reducible repeat (first | apply Kd.R_alloc | apply Kd.R_drewN | apply Kd.R_drew)); exact HO_9.out))) (Kd.R_lt (by (with_reducible repeat (first | apply Kd.R_alloc | apply Kd.R_drewN | apply Kd.R_drew)); exact HO_14.out))) (Kd.R_lt (by (with_reducible repeat (first | apply Kd.R_alloc | apply Kd.R_drewN | apply Kd.R_drew)); exact HO_15.out))) (below_size (by repeat (first | (with_reducible first | exact HB.out | apply below_alloc | apply pw_below_drewN | apply below_drew1) | exact HB.out)))); have n6_ := Aside0.mk (below_step (by repeat (first | (with_reducible first | exact HB.out | apply below_alloc | apply pw_below_drewN | apply below_drew1) | exact HB.out)) hb); clear HO_8; clear HO_9; clear HO_14; clear HO_15; clear HO378; clear HB; have HO_8 := n0_; have HO_9 := n1_; have HO_14 := n2_; have HO_15 := n3_; have HO378 := n4_; have HO381 := n5_; have HB := n6_; clear n0_ n1_ n2_ n3_ n4_ n5_ n6_; (try clear hb); (try clear hb2); (try clear hk); (try clear hi); (try clear ho0); obtain ⟨Ao100, co100, eo100⟩ := Kd.S_slice HO378.out; subst eo100; obtain ⟨Ao101, co101, eo101⟩ := Kd.R_slice HO381.out; subst eo101) | ((with_reducible refine gate_callee (f := 33) rfl ?_); refine goesL_ (some 142) rfl rfl Try.func33 (by kernel_rfl) rfl #[.slice Ao100 t376.length co100, .slice Ao101 t379.length co101, .int .i64 a2] rfl (by (try simp only [List.map_toArray, List.map_cons, List.map_nil]); first | done | rfl | (simp only [List.length_drop, List.length_take]; rfl)) ?_; (with_reducible refine (impl_RunFlow.calls kj53 _ _ t376 _ _ t379 a2 t382 t383 t384 t385 _ ?side1 ?side2 ?side3 ?side4 A92.out).mono ?_); (case side1 => repeat (first | exact (Kd.S_reads' HO378.out).2.2 | (with_reducible refine Kd.C_alloc ?_ _) | (with_reducible refine Kd.C_drewN ?_ _) | (with_reducible refine Kd.C_drew ?_))); (case side2 => exact (Kd.S_reads' HO378.out).2.1); (case side3 => repeat (first | exact (Kd.R_reads' HO381.out).2.2 | (with_reducible refine Kd.C_alloc ?_ _) | (with_reducible refine Kd.C_drewN ?_ _) | (with_reducible refine Kd.C_drew ?_))); (case side4 => exact (Kd.R_reads' HO381.out).2.1); rintro e w102 ⟨v386, v388, rfl, ho0, ho1, hb⟩; refine ⟨_, rfl, ?_⟩; have n0_ := Aside0.mk (Kd.R_mono (Kd.R_told (Kd.R_told (Kd.R_old (by (with_reducible repeat (first | apply Kd.R_alloc | apply Kd.R_drewN | apply Kd.R_drew)); exact HO_8.out) hb) (Kd.R_base ho0)) (Kd.R_base ho1)) (fun _ h_ => h_.1)); have n1_ := Aside0.mk (Kd.R_mono (Kd.R_told (Kd.R_told (Kd.R_old (by (with_reducible repeat (first | apply Kd.R_alloc | apply Kd.R_drewN | apply Kd.R_drew)); exact HO_9.out) hb) (Kd.R_base ho0)) (Kd.R_base ho1)) (fun _ h_ => h_.1)); have n2_ := Aside0.mk (Kd.R_mono (Kd.R_told (Kd.R_told (Kd.R_old (by (with_reducible repeat (first | apply Kd.R_alloc | apply Kd.R_drewN | apply Kd.R_drew)); exact HO_14.out) hb) (Kd.R_base ho0)) (Kd.R_base ho1)) (fun _ h_ => h_.1)); have n3_ := Aside0.mk (Kd.R_mono (Kd.R_told (Kd.R_told (Kd.R_old (by (with_reducible repeat (first | apply Kd.R_alloc | apply Kd.R_drewN | apply Kd.R_drew)); exact HO_15.out) hb) (Kd.R_base ho0)) (Kd.R_base ho1)) (fun _ h_ => h_.1)); have n4_ := Aside0.mk (Kd.S_below (by (with_reducible repeat (first | apply Kd.S_alloc | apply Kd.S_drewN | apply Kd.S_drew)); exact HO378.out) hb); have n5_ := Aside0.mk (Kd.R_mono (Kd.R_told (Kd.R_told (Kd.R_old (by (with_reducible repeat (first | apply Kd.R_alloc | apply Kd.R_drewN | apply Kd.R_drew)); exact HO381.out) hb) (Kd.R_base ho0)) (Kd.R_base ho1)) (fun _ h_ => h_.1)); have n6_ := Aside0.mk (Kd.R_lower (Kd.R_new' (Kd.R_new' (Kd.R_new' (Kd.R_new' (Kd.R_new' ho0 (Kd.R_lt (by (with_reducible repeat (first | apply Kd.R_alloc | apply Kd.R_drewN | apply Kd.R_drew)); exact HO_8.out))) (Kd.R_lt (by (with_reducible repeat (first | apply Kd.R_alloc | apply Kd.R_drewN | apply Kd.R_drew)); exact HO_9.out))) (Kd.R_lt (by (with_reducible repeat (first | apply Kd.R_alloc | apply Kd.R_drewN | apply Kd.R_drew)); exact HO_14.out))) (Kd.R_lt (by (with_reducible repeat (first | apply Kd.R_alloc | apply Kd.R_drewN | apply Kd.R_drew)); exact HO_15.out))) (Kd.R_lt (by (with_reducible repeat (first | apply Kd.R_alloc | apply Kd.R_drewN | apply Kd.R_drew)); exact HO381.out))) (below_size (by repeat (first | (with_reducible first | exact HB.out | apply below_alloc | apply pw_below_drewN | apply below_drew1) | exact HB.out)))); have n7_ := Aside0.mk (Kd.R_lower (Kd.R_new' (Kd.R_new' (Kd.R_new' (Kd.R_new' (Kd.R_new' ho1 (Kd.R_lt (by (with_reducible repeat (first | apply Kd.R_alloc | apply Kd.R_drewN | apply Kd.R_drew)); exact HO_8.out))) (Kd.R_lt (by (with_reducible repeat (first | apply Kd.R_alloc | apply Kd.R_drewN | apply Kd.R_drew)); exact HO_9.out))) (Kd.R_lt (by (with_reducible repeat (first | apply Kd.R_alloc | apply Kd.R_drewN | apply Kd.R_drew)); exact HO_14.out))) (Kd.R_lt (by (with_reducible repeat (first | apply Kd.R_alloc | apply Kd.R_drewN | apply Kd.R_drew)); exact HO_15.out))) (Kd.R_lt (by (with_reducible repeat (first | apply Kd.R_alloc | apply Kd.R_drewN | apply Kd.R_drew)); exact HO381.out))) (below_size (by repeat (first | (with_reducible first | exact HB.out | apply below_alloc | apply pw_below_drewN | apply below_drew1) | exact HB.out)))); have n8_ := Aside0.mk (below_step (by repeat (first | (with_reducible first | exact HB.out | apply below_alloc | apply pw_below_drewN | apply below_drew1) | exact HB.out)) hb); clear HO_8; clear HO_9; clear HO_14; clear HO_15; clear HO378; clear HO381; clear HB; have HO_8 := n0_; have HO_9 := n1_; have HO_14 := n2_; have HO_15 := n3_; have HO378 := n4_; have HO381 := n5_; have HO387 := n6_; have HO389 := n7_; have HB := n8_; clear n0_ n1_ n2_ n3_ n4_ n5_ n6_ n7_ n8_; (try clear hb); (try clear hb2); (try clear hk); (try clear hi); (try clear ho0); (try clear ho1)))
              (try simp only [Act.put, List.setIfInBounds_toArray, List.set_cons_zero, List.set_cons_succ])
              go_cut [166] (fun v166 wc => ∃ (kq : Nat) (x166_92 : Bool), v166 = .bool x166_92 ∧ Aside0 (laws_FnExactRunFlow.j2 kq t371 t373 t372 x166_92 = some true) ∧ Aside0 (kq ≤ kj53) ∧ Aside0 (Kd.R (Kd.int .i64) 3 wc w.heap.size (fun k_ => some k_ ≠ ((.slice Ao96 t348.length co96) : Value).ownBlock) (.slice Ao94 t347.length co94) t371) ∧ Aside0 (Kd.R (Kd.int .i64) 3 wc w.heap.size (fun k_ => some k_ ≠ ((.slice Ao94 t347.length co94) : Value).ownBlock) (.slice Ao96 t348.length co96) t373) ∧ Aside0 (Below w.heap.size w wc))
              case first =>
               have H := HC93.out
               clear HC93
               replace H := Option.bind_eq_some_iff.mp H
               obtain ⟨t390, A1030, H⟩ := H
               replace H : (if t390 = true then ((laws_eqIntS.f kj53 t383 t334).bind fun t391 => (if t391 = true then (if t384 = t335 then (laws_FnExactRunFlow.j2 kj53 t371 t373 t372 (t385 != t336)) else (laws_FnExactRunFlow.j2 kj53 t371 t373 t372 true)) else (laws_FnExactRunFlow.j2 kj53 t371 t373 t372 true))) else (laws_FnExactRunFlow.j2 kj53 t371 t373 t372 true)) = some true := H
               have A103 := Aside0.mk A1030
               clear A1030
               by_cases c104 : t390 = true
               ·subst c104
                have H1 : ((laws_eqIntS.f kj53 t383 t334).bind fun t391 => (if t391 = true then (if t384 = t335 then (laws_FnExactRunFlow.j2 kj53 t371 t373 t372 (t385 != t336)) else (laws_FnExactRunFlow.j2 kj53 t371 t373 t372 true)) else (laws_FnExactRunFlow.j2 kj53 t371 t373 t372 true))) = some true := by rw [if_pos rfl] at H; exact H
                clear H
                have H := H1
                clear H1
                replace H := Option.bind_eq_some_iff.mp H
                obtain ⟨t391, A1050, H⟩ := H
                replace H : (if t391 = true then (if t384 = t335 then (laws_FnExactRunFlow.j2 kj53 t371 t373 t372 (t385 != t336)) else (laws_FnExactRunFlow.j2 kj53 t371 t373 t372 true)) else (laws_FnExactRunFlow.j2 kj53 t371 t373 t372 true)) = some true := H
                have A105 := Aside0.mk A1050
                clear A1050
                by_cases c106 : t391 = true
                ·subst c106
                 have H1 : (if t384 = t335 then (laws_FnExactRunFlow.j2 kj53 t371 t373 t372 (t385 != t336)) else (laws_FnExactRunFlow.j2 kj53 t371 t373 t372 true)) = some true := by rw [if_pos rfl] at H; exact H
                 clear H
                 have H := H1
                 clear H1
                 by_cases c107 : t384 = t335
                 ·rw [if_pos c107] at H
                  have c107b0 : (t384 == t335) = true := beq_iff_eq.mpr c107
                  have c107b1 : (t384 != t335) = false := bne_eq_false_iff_eq.mpr c107
                  clear c107
                  (first | rw [c107b0] | (simp only [i64_w, i32_w]; rw [c107b0]) | skip)
                  as_aux_lemma =>
                   have H' := Aside0.mk H
                   clear H
                   obtain ⟨Ao108, co108, eo108⟩ := Kd.R_slice HO387.out
                   subst eo108
                   obtain ⟨Ao109, co109, eo109⟩ := Kd.R_slice HO_8.out
                   subst eo109
                   go_wp2_with (first | ((with_reducible refine gate_callee (f := 14) rfl ?_); refine goesL_ (some 149) rfl rfl Try.func14 (by kernel_rfl) rfl #[.slice Ao108 t382.length co108, .slice Ao109 t333.length co109] rfl (by (try simp only [List.map_toArray, List.map_cons, List.map_nil]); first | done | rfl | (simp only [List.length_drop, List.length_take]; rfl)) ?_; (with_reducible refine (laws_eqIntS.calls kj53 _ _ t382 _ _ t333 true _ ?side1 ?side2 ?side3 ?side4 A103.out).mono ?_); (case side1 => repeat (first | exact (Kd.R_reads' HO387.out).2.2 | (with_reducible refine Kd.C_alloc ?_ _) | (with_reducible refine Kd.C_drewN ?_ _) | (with_reducible refine Kd.C_drew ?_))); (case side2 => exact (Kd.R_reads' HO387.out).2.1); (case side3 => repeat (first | exact (Kd.R_reads' HO_8.out).2.2 | (with_reducible refine Kd.C_alloc ?_ _) | (with_reducible refine Kd.C_drewN ?_ _) | (with_reducible refine Kd.C_drew ?_))); (case side4 => exact (Kd.R_reads' HO_8.out).2.1); rintro e w' ⟨rfl, ⟨nd, rfl⟩⟩; refine ⟨_, rfl, ?_⟩; obtain ⟨Ao110, co110, eo110⟩ := Kd.R_slice HO389.out; subst eo110; obtain ⟨Ao111, co111, eo111⟩ := Kd.R_slice HO_9.out; subst eo111) | (go_at_call 14; (with_reducible refine (laws_eqIntS.calls kj53 _ _ t383 _ _ t334 true _ ?side1 ?side2 ?side3 ?side4 A105.out).mono ?_); (case side1 => repeat (first | exact (Kd.R_reads' HO389.out).2.2 | (with_reducible refine Kd.C_alloc ?_ _) | (with_reducible refine Kd.C_drewN ?_ _) | (with_reducible refine Kd.C_drew ?_))); (case side2 => exact (Kd.R_reads' HO389.out).2.1); (case side3 => repeat (first | exact (Kd.R_reads' HO_9.out).2.2 | (with_reducible refine Kd.C_alloc ?_ _) | (with_reducible refine Kd.C_drewN ?_ _) | (with_reducible refine Kd.C_drew ?_))); (case side4 => exact (Kd.R_reads' HO_9.out).2.1); rintro e w' ⟨rfl, ⟨nd, rfl⟩⟩))
                   go_meet
                   case rel => exact ⟨_, ((t385 != t336)), (by first | rfl | (simp; done) | (simp [*]; done)), H', ⟨by have := HJ13.out; have := HJ53.out; first | omega | exact Nat.le_refl _⟩, ⟨by (with_reducible repeat (first | apply Kd.R_alloc | apply Kd.R_drewN | apply Kd.R_drew)); exact Kd.R_mono HO_14.out (fun _ hk => hk.1.1.1.2.2)⟩, ⟨by (with_reducible repeat (first | apply Kd.R_alloc | apply Kd.R_drewN | apply Kd.R_drew)); exact Kd.R_mono HO_15.out (fun _ hk => hk.1.1.1.2.2)⟩, ⟨by repeat (first | (with_reducible first | exact HB.out | apply below_alloc | apply pw_below_drewN | apply below_drew1) | exact HB.out)⟩⟩
                 ·rw [if_neg c107] at H
                  have c107b0 : (t384 == t335) = false := beq_eq_false_iff_ne.mpr c107
                  have c107b1 : (t384 != t335) = true := bne_iff_ne.mpr c107
                  (first | rw [c107b0] | (simp only [i64_w, i32_w]; rw [c107b0]) | skip)
                  as_aux_lemma =>
                   have H' := Aside0.mk H
                   clear H
                   obtain ⟨Ao112, co112, eo112⟩ := Kd.R_slice HO387.out
                   subst eo112
                   obtain ⟨Ao113, co113, eo113⟩ := Kd.R_slice HO_8.out
                   subst eo113
                   go_wp2_with (first | ((with_reducible refine gate_callee (f := 14) rfl ?_); refine goesL_ (some 149) rfl rfl Try.func14 (by kernel_rfl) rfl #[.slice Ao112 t382.length co112, .slice Ao113 t333.length co113] rfl (by (try simp only [List.map_toArray, List.map_cons, List.map_nil]); first | done | rfl | (simp only [List.length_drop, List.length_take]; rfl)) ?_; (with_reducible refine (laws_eqIntS.calls kj53 _ _ t382 _ _ t333 true _ ?side1 ?side2 ?side3 ?side4 A103.out).mono ?_); (case side1 => repeat (first | exact (Kd.R_reads' HO387.out).2.2 | (with_reducible refine Kd.C_alloc ?_ _) | (with_reducible refine Kd.C_drewN ?_ _) | (with_reducible refine Kd.C_drew ?_))); (case side2 => exact (Kd.R_reads' HO387.out).2.1); (case side3 => repeat (first | exact (Kd.R_reads' HO_8.out).2.2 | (with_reducible refine Kd.C_alloc ?_ _) | (with_reducible refine Kd.C_drewN ?_ _) | (with_reducible refine Kd.C_drew ?_))); (case side4 => exact (Kd.R_reads' HO_8.out).2.1); rintro e w' ⟨rfl, ⟨nd, rfl⟩⟩; refine ⟨_, rfl, ?_⟩; obtain ⟨Ao114, co114, eo114⟩ := Kd.R_slice HO389.out; subst eo114; obtain ⟨Ao115, co115, eo115⟩ := Kd.R_slice HO_9.out; subst eo115) | (go_at_call 14; (with_reducible refine (laws_eqIntS.calls kj53 _ _ t383 _ _ t334 true _ ?side1 ?side2 ?side3 ?side4 A105.out).mono ?_); (case side1 => repeat (first | exact (Kd.R_reads' HO389.out).2.2 | (with_reducible refine Kd.C_alloc ?_ _) | (with_reducible refine Kd.C_drewN ?_ _) | (with_reducible refine Kd.C_drew ?_))); (case side2 => exact (Kd.R_reads' HO389.out).2.1); (case side3 => repeat (first | exact (Kd.R_reads' HO_9.out).2.2 | (with_reducible refine Kd.C_alloc ?_ _) | (with_reducible refine Kd.C_drewN ?_ _) | (with_reducible refine Kd.C_drew ?_))); (case side4 => exact (Kd.R_reads' HO_9.out).2.1); rintro e w' ⟨rfl, ⟨nd, rfl⟩⟩))
                   go_meet
                   case rel => exact ⟨_, (true), (by first | rfl | (simp; done) | (simp [*]; done)), H', ⟨by have := HJ13.out; have := HJ53.out; first | omega | exact Nat.le_refl _⟩, ⟨by (with_reducible repeat (first | apply Kd.R_alloc | apply Kd.R_drewN | apply Kd.R_drew)); exact Kd.R_mono HO_14.out (fun _ hk => hk.1.1.1.2.2)⟩, ⟨by (with_reducible repeat (first | apply Kd.R_alloc | apply Kd.R_drewN | apply Kd.R_drew)); exact Kd.R_mono HO_15.out (fun _ hk => hk.1.1.1.2.2)⟩, ⟨by repeat (first | (with_reducible first | exact HB.out | apply below_alloc | apply pw_below_drewN | apply below_drew1) | exact HB.out)⟩⟩
                ·replace c106 := Bool.eq_false_iff.mpr c106
                 subst c106
                 have H1 : (laws_FnExactRunFlow.j2 kj53 t371 t373 t372 true) = some true := by rw [if_neg (show ¬ (false = true) by decide)] at H; exact H
                 clear H
                 have H := H1
                 clear H1
                 as_aux_lemma =>
                  have H' := Aside0.mk H
                  clear H
                  obtain ⟨Ao116, co116, eo116⟩ := Kd.R_slice HO387.out
                  subst eo116
                  obtain ⟨Ao117, co117, eo117⟩ := Kd.R_slice HO_8.out
                  subst eo117
                  go_wp2_with (first | ((with_reducible refine gate_callee (f := 14) rfl ?_); refine goesL_ (some 149) rfl rfl Try.func14 (by kernel_rfl) rfl #[.slice Ao116 t382.length co116, .slice Ao117 t333.length co117] rfl (by (try simp only [List.map_toArray, List.map_cons, List.map_nil]); first | done | rfl | (simp only [List.length_drop, List.length_take]; rfl)) ?_; (with_reducible refine (laws_eqIntS.calls kj53 _ _ t382 _ _ t333 true _ ?side1 ?side2 ?side3 ?side4 A103.out).mono ?_); (case side1 => repeat (first | exact (Kd.R_reads' HO387.out).2.2 | (with_reducible refine Kd.C_alloc ?_ _) | (with_reducible refine Kd.C_drewN ?_ _) | (with_reducible refine Kd.C_drew ?_))); (case side2 => exact (Kd.R_reads' HO387.out).2.1); (case side3 => repeat (first | exact (Kd.R_reads' HO_8.out).2.2 | (with_reducible refine Kd.C_alloc ?_ _) | (with_reducible refine Kd.C_drewN ?_ _) | (with_reducible refine Kd.C_drew ?_))); (case side4 => exact (Kd.R_reads' HO_8.out).2.1); rintro e w' ⟨rfl, ⟨nd, rfl⟩⟩; refine ⟨_, rfl, ?_⟩; obtain ⟨Ao118, co118, eo118⟩ := Kd.R_slice HO389.out; subst eo118; obtain ⟨Ao119, co119, eo119⟩ := Kd.R_slice HO_9.out; subst eo119) | (go_at_call 14; (with_reducible refine (laws_eqIntS.calls kj53 _ _ t383 _ _ t334 false _ ?side1 ?side2 ?side3 ?side4 A105.out).mono ?_); (case side1 => repeat (first | exact (Kd.R_reads' HO389.out).2.2 | (with_reducible refine Kd.C_alloc ?_ _) | (with_reducible refine Kd.C_drewN ?_ _) | (with_reducible refine Kd.C_drew ?_))); (case side2 => exact (Kd.R_reads' HO389.out).2.1); (case side3 => repeat (first | exact (Kd.R_reads' HO_9.out).2.2 | (with_reducible refine Kd.C_alloc ?_ _) | (with_reducible refine Kd.C_drewN ?_ _) | (with_reducible refine Kd.C_drew ?_))); (case side4 => exact (Kd.R_reads' HO_9.out).2.1); rintro e w' ⟨rfl, ⟨nd, rfl⟩⟩))
                  go_meet
                  case rel => exact ⟨_, (true), (by first | rfl | (simp; done) | (simp [*]; done)), H', ⟨by have := HJ13.out; have := HJ53.out; first | omega | exact Nat.le_refl _⟩, ⟨by (with_reducible repeat (first | apply Kd.R_alloc | apply Kd.R_drewN | apply Kd.R_drew)); exact Kd.R_mono HO_14.out (fun _ hk => hk.1.1.1.2.2)⟩, ⟨by (with_reducible repeat (first | apply Kd.R_alloc | apply Kd.R_drewN | apply Kd.R_drew)); exact Kd.R_mono HO_15.out (fun _ hk => hk.1.1.1.2.2)⟩, ⟨by repeat (first | (with_reducible first | exact HB.out | apply below_alloc | apply pw_below_drewN | apply below_drew1) | exact HB.out)⟩⟩
               ·replace c104 := Bool.eq_false_iff.mpr c104
                subst c104
                have H1 : (laws_FnExactRunFlow.j2 kj53 t371 t373 t372 true) = some true := by rw [if_neg (show ¬ (false = true) by decide)] at H; exact H
                clear H
                have H := H1
                clear H1
                as_aux_lemma =>
                 have H' := Aside0.mk H
                 clear H
                 obtain ⟨Ao120, co120, eo120⟩ := Kd.R_slice HO387.out
                 subst eo120
                 obtain ⟨Ao121, co121, eo121⟩ := Kd.R_slice HO_8.out
                 subst eo121
                 go_wp2_with (first | ((with_reducible refine gate_callee (f := 14) rfl ?_); refine goesL_ (some 149) rfl rfl Try.func14 (by kernel_rfl) rfl #[.slice Ao120 t382.length co120, .slice Ao121 t333.length co121] rfl (by (try simp only [List.map_toArray, List.map_cons, List.map_nil]); first | done | rfl | (simp only [List.length_drop, List.length_take]; rfl)) ?_; (with_reducible refine (laws_eqIntS.calls kj53 _ _ t382 _ _ t333 false _ ?side1 ?side2 ?side3 ?side4 A103.out).mono ?_); (case side1 => repeat (first | exact (Kd.R_reads' HO387.out).2.2 | (with_reducible refine Kd.C_alloc ?_ _) | (with_reducible refine Kd.C_drewN ?_ _) | (with_reducible refine Kd.C_drew ?_))); (case side2 => exact (Kd.R_reads' HO387.out).2.1); (case side3 => repeat (first | exact (Kd.R_reads' HO_8.out).2.2 | (with_reducible refine Kd.C_alloc ?_ _) | (with_reducible refine Kd.C_drewN ?_ _) | (with_reducible refine Kd.C_drew ?_))); (case side4 => exact (Kd.R_reads' HO_8.out).2.1); rintro e w' ⟨rfl, ⟨nd, rfl⟩⟩; refine ⟨_, rfl, ?_⟩))
                 go_meet
                 case rel => exact ⟨_, (true), (by first | rfl | (simp; done) | (simp [*]; done)), H', ⟨by have := HJ13.out; have := HJ53.out; first | omega | exact Nat.le_refl _⟩, ⟨by (with_reducible repeat (first | apply Kd.R_alloc | apply Kd.R_drewN | apply Kd.R_drew)); exact Kd.R_mono HO_14.out (fun _ hk => hk.1.1.1.2.2)⟩, ⟨by (with_reducible repeat (first | apply Kd.R_alloc | apply Kd.R_drewN | apply Kd.R_drew)); exact Kd.R_mono HO_15.out (fun _ hk => hk.1.1.1.2.2)⟩, ⟨by repeat (first | (with_reducible first | exact HB.out | apply below_alloc | apply pw_below_drewN | apply below_drew1) | exact HB.out)⟩⟩
              case rest =>
               clear HC93
               try clear c1
               try clear c2
               try clear p2
               try clear c3
               try clear c4
               try clear c4b0
               try clear c4b1
               try clear c5
               try clear c6
               try clear c6b0
               try clear c8
               try clear c10
               try clear c12
               try clear c14
               try clear c17
               try clear c18
               try clear c26
               try clear c27
               try clear c28
               try clear c29
               try clear c30
               try clear c30b0
               try clear c30b1
               try clear c31
               try clear c32
               try clear c33
               try clear c45
               try clear c48
               try clear c51
               try clear c62
               try clear c62b0
               try clear c64
               try clear c66
               try clear c67
               try clear c67b0
               try clear c67b1
               try clear c82
               try clear c86
               try clear c86b0
               try clear c88
               try clear c88b0
               try clear c89
               try clear c89b0
               try clear c89b1
               try clear c104
               try clear c106
               try clear c107
               try clear c107b0
               try clear c107b1
               try clear p2
               obtain ⟨kq, x166_92, rfl, HA, HJ92, HO_14, HO_15, HB⟩ := hcut
               have hl14_92 := (Kd.R_reads' HO_14.out).1
               rw [hl14_92] at HO_14
               (try simp only [hl14_92])
               (try simp only [hl14_92] at HO_15)
               have hl15_92 := (Kd.R_reads' HO_15.out).1
               rw [hl15_92] at HO_15
               (try simp only [hl15_92])
               (try simp only [hl15_92] at HO_14)
               cases kq with
               | zero => exact absurd HA.out (by simp [laws_FnExactRunFlow.j2])
               | succ kj92 =>
                have H := HA.out
                clear HA
                simp only [laws_FnExactRunFlow.j2] at H
                by_cases c122 : x166_92 = true
                ·subst c122
                 have H1 : (some false) = some true := by rw [if_pos rfl] at H; exact H
                 clear H
                 have H := H1
                 clear H1
                 as_aux_lemma =>
                  exact absurd H (by simp)
                ·replace c122 := Bool.eq_false_iff.mpr c122
                 subst c122
                 have H1 : ((laws_heldIntS.f kj92 t371 1).bind fun t392 => (if t392 < 0 then (some false) else ((laws_heldIntS.f kj92 t373 t392).bind fun t393 => (if t393 < 0 then (some false) else (if t393 = t372 then (some true) else (some false)))))) = some true := by rw [if_neg (show ¬ (false = true) by decide)] at H; exact H
                 clear H
                 have H := H1
                 clear H1
                 replace H := Option.bind_eq_some_iff.mp H
                 obtain ⟨t392, A1230, H⟩ := H
                 replace H : (if t392 < 0 then (some false) else ((laws_heldIntS.f kj92 t373 t392).bind fun t393 => (if t393 < 0 then (some false) else (if t393 = t372 then (some true) else (some false))))) = some true := H
                 have A123 := Aside0.mk A1230
                 clear A1230
                 by_cases c124 : t392 < 0
                 ·rw [if_pos c124] at H
                  have c124b0 : decide (t392 < 0) = true := decide_eq_true c124
                  clear c124
                  as_aux_lemma =>
                   exact absurd H (by simp)
                 ·rw [if_neg c124] at H
                  have c124b0 : decide (t392 < 0) = false := decide_eq_false c124
                  clear c124
                  replace H := Option.bind_eq_some_iff.mp H
                  obtain ⟨t393, A1250, H⟩ := H
                  replace H : (if t393 < 0 then (some false) else (if t393 = t372 then (some true) else (some false))) = some true := H
                  have A125 := Aside0.mk A1250
                  clear A1250
                  by_cases c126 : t393 < 0
                  ·rw [if_pos c126] at H
                   have c126b0 : decide (t393 < 0) = true := decide_eq_true c126
                   clear c126
                   as_aux_lemma =>
                    exact absurd H (by simp)
                  ·rw [if_neg c126] at H
                   have c126b0 : decide (t393 < 0) = false := decide_eq_false c126
                   clear c126
                   by_cases c127 : t393 = t372
                   ·rw [if_pos c127] at H
                    have c127b0 : (t393 == t372) = true := beq_iff_eq.mpr c127
                    have c127b1 : (t393 != t372) = false := bne_eq_false_iff_eq.mpr c127
                    clear c127
                    as_aux_lemma =>
                     go_wp2_with (first | ((with_reducible refine gate_callee (f := 18) rfl ?_); refine goesL_ (some 169) rfl rfl Try.func18 (by kernel_rfl) rfl #[.slice Ao94 t371.length co94, .int .i64 1] rfl (by (try simp only [List.map_toArray, List.map_cons, List.map_nil]); first | done | rfl | (simp only [List.length_drop, List.length_take]; rfl)) ?_; (with_reducible refine (laws_heldIntS.calls kj92 _ _ t371 1 t392 _ ?side1 ?side2 A123.out).mono ?_); (case side1 => repeat (first | exact (Kd.R_reads' HO_14.out).2.2 | (with_reducible refine Kd.C_alloc ?_ _) | (with_reducible refine Kd.C_drewN ?_ _) | (with_reducible refine Kd.C_drew ?_))); (case side2 => exact (Kd.R_reads' HO_14.out).2.1); rintro e w' ⟨rfl, ⟨nd, rfl⟩⟩; refine ⟨_, rfl, ?_⟩) | ((with_reducible refine gate_callee (f := 18) rfl ?_); refine goesL_ (some 174) rfl rfl Try.func18 (by kernel_rfl) rfl #[.slice Ao96 t373.length co96, .int .i64 t392] rfl (by (try simp only [List.map_toArray, List.map_cons, List.map_nil]); first | done | rfl | (simp only [List.length_drop, List.length_take]; rfl)) ?_; (with_reducible refine (laws_heldIntS.calls kj92 _ _ t373 t392 t393 _ ?side1 ?side2 A125.out).mono ?_); (case side1 => repeat (first | exact (Kd.R_reads' HO_15.out).2.2 | (with_reducible refine Kd.C_alloc ?_ _) | (with_reducible refine Kd.C_drewN ?_ _) | (with_reducible refine Kd.C_drew ?_))); (case side2 => exact (Kd.R_reads' HO_15.out).2.1); rintro e w' ⟨rfl, ⟨nd, rfl⟩⟩; refine ⟨_, rfl, ?_⟩))
                     go_ret
                     exact ⟨by first | rfl | (simp [errW_none, errW_some] <;> rfl) | (simp [*, errW_none, errW_some] <;> rfl), by repeat (first | (with_reducible first | exact HB.out | apply below_alloc | apply pw_below_drewN | apply below_drew1) | exact HB.out)⟩
                   ·rw [if_neg c127] at H
                    have c127b0 : (t393 == t372) = false := beq_eq_false_iff_ne.mpr c127
                    have c127b1 : (t393 != t372) = true := bne_iff_ne.mpr c127
                    as_aux_lemma =>
                     exact absurd H (by simp)
             ·rw [if_neg c89] at H
              have c89b0 : (t375 == t372) = false := beq_eq_false_iff_ne.mpr c89
              have c89b1 : (t375 != t372) = true := bne_iff_ne.mpr c89
              as_aux_lemma =>
               exact absurd H (by simp)
       ·replace c51 := Bool.eq_false_iff.mpr c51
        subst c51
        have H1 : (some false) = some true := by rw [if_neg (show ¬ (false = true) by decide)] at H; exact H
        clear H
        have H := H1
        clear H1
        as_aux_lemma =>
         exact absurd H (by simp)
      ·replace c48 := Bool.eq_false_iff.mpr c48
       subst c48
       have H1 : (some false) = some true := by rw [if_neg (show ¬ (false = true) by decide)] at H; exact H
       clear H
       have H := H1
       clear H1
       as_aux_lemma =>
        exact absurd H (by simp)

end Go.Proofs.Ytpanbicgnmjjiaa.XFnExactRunFlow

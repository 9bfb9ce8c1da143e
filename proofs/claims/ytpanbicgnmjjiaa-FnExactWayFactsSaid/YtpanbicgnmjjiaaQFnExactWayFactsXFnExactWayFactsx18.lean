-- Printed by a patched copy of the print, a program of this session. Lean checks it.
import Derived.Test.YtpanbicgnmjjiaaQFnExactWayFactsSq
import Derived.Test.YtpanbicgnmjjiaaQFnExactWayFactsXFnExactWayFactsx0
import Derived.Test.YtpanbicgnmjjiaaQFnExactWayFactsXFnExactWayFactsx12
import Derived.Test.YtpanbicgnmjjiaaQFnExactWayFactsXFnExactWayFactsx14
import Derived.Test.YtpanbicgnmjjiaaQFnExactWayFactsXFnExactWayFactsx17
namespace Go.Proofs.Ytpanbicgnmjjiaa.XFnExactWayFacts
open Go.RowKit Go.Proofs.YtpanbicgnmjjiaaW.PrintWords Go.Proofs.YtpanbicgnmjjiaaW.PrintLast Go.Proofs.YtpanbicgnmjjiaaW.PrintMore Go.Proofs.YtpanbicgnmjjiaaSq
attribute [local go_sem] max2_int min2_int max_two min_two max_three min_three max_four min_four   -- for this text's walks alone
set_option linter.unusedVariables false
set_option linter.unusedSimpArgs false

/-! ### impl_WayFacts: function 40 -/
def impl_WayFacts.f (k : Nat) (l0 : List (S87)) (l1 : List (S75)) : Option ((List (List (S75))) × Bool) := (impl_isFlow.f k l0).bind fun t392 => (if t392 = true then ((impl_areFacts.f k l1).bind fun t393 => (if t393 = true then ((impl_flowFacts.f k l0 l1 true).bind fun t394 => (some (t394, true))) else (some (([] : List (List (S75))), false)))) else (some (([] : List (List (S75))), false)))
theorem impl_WayFacts.mono : ∀ a0 a1 k, LeO (impl_WayFacts.f k a0 a1) (impl_WayFacts.f (k + 1) a0 a1) := by
  intro a0 a1 k
  unfold impl_WayFacts.f
  repeat' first
      | (with_reducible exact impl_areFacts.mono _ _)
      | (with_reducible exact impl_flowFacts.mono _ _ _ _)
      | (with_reducible exact impl_isFlow.mono _ _)
      | (with_reducible exact LeO.refl _)
      | (with_reducible exact LeO.none _)
      | (with_reducible refine LeO.ite ?_ ?_)
      | (with_reducible refine LeO.bind ?_ (fun _ => ?_))
      | exact impl_areFacts.mono _ _
      | exact impl_flowFacts.mono _ _ _ _
      | exact impl_isFlow.mono _ _
      | exact LeO.none _
      | refine LeO.ite ?_ ?_
      | refine LeO.bind ?_ (fun _ => ?_)
set_option maxHeartbeats 8000000 in
set_option maxRecDepth 100000 in
theorem impl_WayFacts.calls (k : Nat) (A0 : Option Addr) (c0 : Nat) (l0 : List (S87)) (A1 : Option Addr) (c1 : Nat) (l1 : List (S75)) (r1 : List (List (S75))) (r2 : Bool) (w : World) (hr0 : Kd.C k87 w A0 l0.length l0) (hc0 : l0.length ≤ c0) (hr1 : Kd.C k75 w A1 l1.length l1) (hc1 : l1.length ≤ c1) (h : impl_WayFacts.f k l0 l1 = some (r1, r2)) :
  Calls Try.prog 40 #[.slice A0 l0.length c0, .slice A1 l1.length c1] w fun e w' => ∃ v0_ : Value, e = .returned (.tuple #[v0_, .bool r2]) ∧ Kd.S (Kd.slice 75 k75) 37 w' w.heap.size (fun _ => True) v0_ r1 ∧ Below w.heap.size w w' := by
 have HR0 := a_ hr0; have HC0 := a_ hc0; clear hr0 hc0; have HR1 := a_ hr1; have HC1 := a_ hc1; clear hr1 hc1; have HB := a_ (Below.refl w.heap.size w); have H : ((impl_isFlow.f k l0).bind fun t392 => (if t392 = true then ((impl_areFacts.f k l1).bind fun t393 => (if t393 = true then ((impl_flowFacts.f k l0 l1 true).bind fun t394 => (some (t394, true))) else (some (([] : List (List (S75))), false)))) else (some (([] : List (List (S75))), false)))) = some (r1, r2) := h; clear h; replace H := Option.bind_eq_some_iff.mp H; obtain ⟨t392, A30, H⟩ := H; (try dsimp only at H); have A3 := a_ A30; clear A30
 by_cases c4 : t392 = true
 ·subst c4
  rw [if_pos rfl] at H; replace H := Option.bind_eq_some_iff.mp H; obtain ⟨t393, A50, H⟩ := H; (try dsimp only at H); have A5 := a_ A50; clear A50
  by_cases c6 : t393 = true
  ·subst c6
   rw [if_pos rfl] at H; replace H := Option.bind_eq_some_iff.mp H; obtain ⟨t394, A70, H⟩ := H; (try dsimp only at H); have A7 := a_ A70; clear A70; simp only [Option.some.injEq, Prod.mk.injEq] at H; obtain ⟨rfl, rfl⟩ := H; go_enter Try.func40, Try.ntmps40; go_wp2_with (first | ((with_reducible refine gate_callee (f := 62) rfl ?_); refine goesL_ (some 7) rfl rfl Try.func62 (by kernel_rfl) rfl #[.slice A0 l0.length c0] rfl (by (try simp only [List.map_toArray, List.map_cons, List.map_nil]); first | done | rfl | (simp only [List.length_drop, List.length_take]; rfl)) ?_; (with_reducible refine (impl_isFlow.calls k _ _ l0 true _ ?side1 ?side2 A3.out).mono ?_); (case side1 => exact Cb_ HR0.out); (case side2 => exact HC0.out); rintro e w8 ⟨rfl, hb⟩; refine ⟨_, rfl, ?_⟩; replace HB := bs_ hb HB; (try clear hb)) | (go_at_call 54; (with_reducible refine (impl_areFacts.calls k _ _ l1 true _ ?side1 ?side2 A5.out).mono ?_); (case side1 => exact Cb_ (Kd.C_below HR1.out HB.out)); (case side2 => exact HC1.out); rintro e w9 ⟨rfl, hb⟩; replace HB := bs_ hb HB; (try clear hb)) | ((with_reducible refine gate_callee (f := 68) rfl ?_); refine goesL_ (some 16) rfl rfl Try.func68 (by kernel_rfl) rfl #[.slice A0 l0.length c0, .slice A1 l1.length c1, .bool true] rfl (by (try simp only [List.map_toArray, List.map_cons, List.map_nil]); first | done | rfl | (simp only [List.length_drop, List.length_take]; rfl)) ?_; (with_reducible refine (impl_flowFacts.calls k _ _ l0 _ _ l1 true t394 _ ?side1 ?side2 ?side3 ?side4 A7.out).mono ?_); (case side1 => exact Cb_ (Kd.C_below HR0.out HB.out)); (case side2 => exact HC0.out); (case side3 => exact Cb_ (Kd.C_below HR1.out HB.out)); (case side4 => exact HC1.out); rintro e w10 ⟨v395, rfl, ho0, hb⟩; refine ⟨_, rfl, ?_⟩; have HO396 := a_ (Kd.S_lower ho0 (below_size (Bb_ HB.out))); replace HB := bs_ hb HB; (try clear hb); (try clear ho0))); go_ret2; exact ⟨_, by first | rfl | (simp [errW_none, errW_some] <;> rfl) | (simp [*, errW_none, errW_some] <;> rfl), by (with_reducible repeat (first | apply Kd.S_alloc | apply Kd.S_drewN | apply Kd.S_drew)); exact HO396.out, (Bb_ HB.out)⟩
  ·replace c6 := Bool.eq_false_iff.mpr c6
   subst c6; rw [if_neg (show ¬ (false = true) by decide)] at H; simp only [Option.some.injEq, Prod.mk.injEq] at H; obtain ⟨rfl, rfl⟩ := H; go_enter Try.func40, Try.ntmps40; go_wp2_with (first | ((with_reducible refine gate_callee (f := 62) rfl ?_); refine goesL_ (some 7) rfl rfl Try.func62 (by kernel_rfl) rfl #[.slice A0 l0.length c0] rfl (by (try simp only [List.map_toArray, List.map_cons, List.map_nil]); first | done | rfl | (simp only [List.length_drop, List.length_take]; rfl)) ?_; (with_reducible refine (impl_isFlow.calls k _ _ l0 true _ ?side1 ?side2 A3.out).mono ?_); (case side1 => exact Cb_ HR0.out); (case side2 => exact HC0.out); rintro e w11 ⟨rfl, hb⟩; refine ⟨_, rfl, ?_⟩; replace HB := bs_ hb HB; (try clear hb)) | (go_at_call 54; (with_reducible refine (impl_areFacts.calls k _ _ l1 false _ ?side1 ?side2 A5.out).mono ?_); (case side1 => exact Cb_ (Kd.C_below HR1.out HB.out)); (case side2 => exact HC1.out); rintro e w12 ⟨rfl, hb⟩; replace HB := bs_ hb HB; (try clear hb))); go_ret2; exact ⟨_, by first | rfl | (simp [errW_none, errW_some] <;> rfl) | (simp [*, errW_none, errW_some] <;> rfl), by first | exact Kd.S_nil _ _ _ _ _ | exact Kd.N_nil _ _ _ _ _ | exact Kd.V_nil _ _ _ _ _ | exact Kd.Q_nil _ _ _ _ _ | exact Kd.R_nil _ _ _ _ _, (Bb_ HB.out)⟩
 ·replace c4 := Bool.eq_false_iff.mpr c4
  subst c4; rw [if_neg (show ¬ (false = true) by decide)] at H; simp only [Option.some.injEq, Prod.mk.injEq] at H; obtain ⟨rfl, rfl⟩ := H; go_enter Try.func40, Try.ntmps40; go_wp2_with (first | ((with_reducible refine gate_callee (f := 62) rfl ?_); refine goesL_ (some 7) rfl rfl Try.func62 (by kernel_rfl) rfl #[.slice A0 l0.length c0] rfl (by (try simp only [List.map_toArray, List.map_cons, List.map_nil]); first | done | rfl | (simp only [List.length_drop, List.length_take]; rfl)) ?_; (with_reducible refine (impl_isFlow.calls k _ _ l0 false _ ?side1 ?side2 A3.out).mono ?_); (case side1 => exact Cb_ HR0.out); (case side2 => exact HC0.out); rintro e w13 ⟨rfl, hb⟩; refine ⟨_, rfl, ?_⟩; replace HB := bs_ hb HB; (try clear hb))); go_ret2; exact ⟨_, by first | rfl | (simp [errW_none, errW_some] <;> rfl) | (simp [*, errW_none, errW_some] <;> rfl), by first | exact Kd.S_nil _ _ _ _ _ | exact Kd.N_nil _ _ _ _ _ | exact Kd.V_nil _ _ _ _ _ | exact Kd.Q_nil _ _ _ _ _ | exact Kd.R_nil _ _ _ _ _, (Bb_ HB.out)⟩

-- NOT PRINTED: function 8 (laws_FnExactWayFacts)

end Go.Proofs.Ytpanbicgnmjjiaa.XFnExactWayFacts

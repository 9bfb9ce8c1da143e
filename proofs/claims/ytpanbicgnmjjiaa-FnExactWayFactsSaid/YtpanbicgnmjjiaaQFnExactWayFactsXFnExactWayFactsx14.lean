-- Printed by a patched copy of the print, a program of this session. Lean checks it.
import Derived.Test.YtpanbicgnmjjiaaQFnExactWayFactsSq
import Derived.Test.YtpanbicgnmjjiaaQFnExactWayFactsXFnExactWayFactsx0
import Derived.Test.YtpanbicgnmjjiaaQFnExactWayFactsXFnExactWayFactsx12
import Derived.Test.YtpanbicgnmjjiaaQFnExactWayFactsXFnExactWayFactsx13
namespace Go.Proofs.Ytpanbicgnmjjiaa.XFnExactWayFacts
open Go.RowKit Go.Proofs.YtpanbicgnmjjiaaW.PrintWords Go.Proofs.YtpanbicgnmjjiaaW.PrintLast Go.Proofs.YtpanbicgnmjjiaaW.PrintMore Go.Proofs.YtpanbicgnmjjiaaSq
attribute [local go_sem] max2_int min2_int max_two min_two max_three min_three max_four min_four   -- for this text's walks alone
set_option linter.unusedVariables false
set_option linter.unusedSimpArgs false

theorem Below.peek {w W : World} {a : Addr} {v : Value} (hb : Below w.heap.size w W) (h : w.cell? a = some v) : W.cell? a = some v := (hb.cell (World.block_lt_of_cell? w _ h)).trans h
/-! ### impl_isCode: function 45 -/
def impl_isCode.f (k : Nat) (l0 : List (S65)) : Option (Bool) := if (l0.length : Int) ≤ 30 then ((slices_ContainsFunc_at73.f k l0).bind fun t312 => (some (!t312))) else (some false)
theorem impl_isCode.mono : ∀ a0 k, LeO (impl_isCode.f k a0) (impl_isCode.f (k + 1) a0) := by
  intro a0 k
  unfold impl_isCode.f
  repeat' first
      | (with_reducible exact slices_ContainsFunc_at73.mono _ _)
      | (with_reducible exact LeO.refl _)
      | (with_reducible exact LeO.none _)
      | (with_reducible refine LeO.ite ?_ ?_)
      | (with_reducible refine LeO.bind ?_ (fun _ => ?_))
      | exact slices_ContainsFunc_at73.mono _ _
      | exact LeO.none _
      | refine LeO.ite ?_ ?_
      | refine LeO.bind ?_ (fun _ => ?_)
set_option maxHeartbeats 8000000 in
set_option maxRecDepth 100000 in
theorem impl_isCode.calls (k : Nat) (A0 : Option Addr) (c0 : Nat) (l0 : List (S65)) (r : Bool) (w : World) (hr0 : Kd.C k65 w A0 l0.length l0) (hc0 : l0.length ≤ c0) (h : impl_isCode.f k l0 = some r) :
  Calls Try.prog 45 #[.slice A0 l0.length c0] w fun e w' => e = .returned (.bool r) ∧ Below w.heap.size w w' := by
 have HR0 := a_ hr0; have HC0 := a_ hc0; clear hr0 hc0; have HB := a_ (Below.refl w.heap.size w); have H : (if (l0.length : Int) ≤ 30 then ((slices_ContainsFunc_at73.f k l0).bind fun t312 => (some (!t312))) else (some false)) = some r := h; clear h
 by_cases c2 : (l0.length : Int) ≤ 30
 ·rw [if_pos c2] at H
  have c2b0 : decide ((l0.length : Int) ≤ 30) = true := decide_eq_true c2; have c2b1 : decide (l0.length ≤ 30) = true := decide_eq_true (by omega); clear c2; replace H := Option.bind_eq_some_iff.mp H; obtain ⟨t312, A30, H⟩ := H; (try dsimp only at H); have A3 := a_ A30; clear A30; obtain rfl := Option.some.inj H; go_enter Try.func45, Try.ntmps45; go_wp2_with (first | (go_at_call 72; (with_reducible refine (slices_ContainsFunc_at73.calls k _ _ l0  t312 _ ?side1 ?side2 A3.out).mono ?_); (case side1 => exact Cb_ HR0.out); (case side2 => exact HC0.out); rintro e w4 ⟨rfl, hb⟩; replace HB := bs_ hb HB; (try clear hb))); go_ret; exact ⟨by first | rfl | (simp [errW_none, errW_some] <;> rfl) | (simp [*, errW_none, errW_some] <;> rfl), (Bb_ HB.out)⟩
 ·rw [if_neg c2] at H
  have c2b0 : decide ((l0.length : Int) ≤ 30) = false := decide_eq_false c2; have c2b1 : decide (l0.length ≤ 30) = false := decide_eq_false (by omega); clear c2; obtain rfl := Option.some.inj H; go_enter Try.func45, Try.ntmps45; go_wp2; go_ret; exact ⟨by first | rfl | (simp [errW_none, errW_some] <;> rfl) | (simp [*, errW_none, errW_some] <;> rfl), (Bb_ HB.out)⟩

/-! ### impl_isFlow_1: function 85 -/
def impl_isFlow_1.f (k : Nat) (l0_0 : List (S65)) (a0_1 : Int) (a0_2 : Int) (a0_3 : Int) (a1 : Int) : Option (Bool) := (impl_isCode.f k l0_0).bind fun t314 => (if t314 = true then ((impl_isName.f a0_1).bind fun t315 => (if t315 = true then ((impl_in.f a0_2 (-1) (wrap64 (a1 - 1))).bind fun t316 => (if t316 = true then ((impl_in.f a0_3 (-1) (wrap64 (a1 - 1))).bind fun t317 => (some (!t317))) else (some true))) else (some true))) else (some true))
theorem impl_isFlow_1.mono : ∀ a0 a1 a2 a3 a4 k, LeO (impl_isFlow_1.f k a0 a1 a2 a3 a4) (impl_isFlow_1.f (k + 1) a0 a1 a2 a3 a4) := by
 intro a0 a1 a2 a3 a4 k
 unfold impl_isFlow_1.f
 repeat' first
   | (with_reducible exact impl_isCode.mono _ _)
   | (with_reducible exact LeO.refl _)
   | (with_reducible exact LeO.none _)
   | (with_reducible refine LeO.ite ?_ ?_)
   | (with_reducible refine LeO.bind ?_ (fun _ => ?_))
   | exact impl_isCode.mono _ _
   | exact LeO.none _
   | refine LeO.ite ?_ ?_
   | refine LeO.bind ?_ (fun _ => ?_)
set_option maxHeartbeats 8000000 in
set_option maxRecDepth 100000 in
theorem impl_isFlow_1.calls (k : Nat) (A0_0 : Option Addr) (c0_0 : Nat) (l0_0 : List (S65)) (a0_1 : Int) (a0_2 : Int) (a0_3 : Int) (a1 : Int) (r : Bool) (w : World) (hr0_0 : Kd.C k65 w A0_0 l0_0.length l0_0) (hc0_0 : l0_0.length ≤ c0_0) (h : impl_isFlow_1.f k l0_0 a0_1 a0_2 a0_3 a1 = some r) (gp : Nat) (hN : w.cell? ⟨gp, 0, none⟩ = some (.int .i64 a1)) :
  Calls Try.prog 85 #[.agg #[.slice A0_0 l0_0.length c0_0, .int .i64 a0_1, .int .i64 a0_2, .int .i64 a0_3], .pointer (some ⟨gp, 0, none⟩)] w fun e w' => e = .returned (.bool r) ∧ Below w.heap.size w w' := by
 have hu87 := Try.underlying87; have HR0_0 := a_ hr0_0; have HC0_0 := a_ hc0_0; clear hr0_0 hc0_0; have HN := a_ hN; clear hN; have HB := a_ (Below.refl w.heap.size w); have H : ((impl_isCode.f k l0_0).bind fun t314 => (if t314 = true then ((impl_isName.f a0_1).bind fun t315 => (if t315 = true then ((impl_in.f a0_2 (-1) (wrap64 (a1 - 1))).bind fun t316 => (if t316 = true then ((impl_in.f a0_3 (-1) (wrap64 (a1 - 1))).bind fun t317 => (some (!t317))) else (some true))) else (some true))) else (some true))) = some r := h; clear h; replace H := Option.bind_eq_some_iff.mp H; obtain ⟨t314, A30, H⟩ := H; (try dsimp only at H); have A3 := a_ A30; clear A30
 by_cases c4 : t314 = true
 ·subst c4
  rw [if_pos rfl] at H; replace H := Option.bind_eq_some_iff.mp H; obtain ⟨t315, A50, H⟩ := H; (try dsimp only at H); have A5 := a_ A50; clear A50
  by_cases c6 : t315 = true
  ·subst c6
   rw [if_pos rfl] at H; replace H := Option.bind_eq_some_iff.mp H; obtain ⟨t316, A70, H⟩ := H; (try dsimp only at H); have A7 := a_ A70; clear A70
   by_cases c8 : t316 = true
   ·subst c8
    rw [if_pos rfl] at H; replace H := Option.bind_eq_some_iff.mp H; obtain ⟨t317, A90, H⟩ := H; (try dsimp only at H); have A9 := a_ A90; clear A90; obtain rfl := Option.some.inj H; go_enter Try.func85, Try.ntmps85; go_wp2_with (first | ((with_reducible refine gate_dst (N := 2) rfl ?_); refine be_ (N := 2) (cs := #[.slice A0_0 l0_0.length c0_0, .int .i64 a0_1, .int .i64 a0_2, .int .i64 a0_3]) (t := 87) ?_; intro gb313 hg w10 hbox hb; have BK313 := a_ hbox; have GW313 := gl_ hg (Bb_ HB.out); have GE313 := gl_ hg (Bb_ HB.out); replace HB := bs_ hb HB; clear hb hbox hg; have hcn11 : w10.cell? ⟨gp, 0, none⟩ = some (.int .i64 a1) := Below.peek (Bb_ HB.out) HN.out; obtain ⟨hcz11_0, hcz11_1, hcz11_2, hcz11_3, hfz11_0, hfz11_1, hfz11_2, hfz11_3⟩ := z4_ BK313.out) | ((with_reducible refine gate_callee (f := 45) rfl ?_); refine goesL_ (some 6) rfl rfl Try.func45 (by kernel_rfl) rfl #[.slice A0_0 l0_0.length c0_0] rfl (by (try simp only [List.map_toArray, List.map_cons, List.map_nil]); first | done | rfl | (simp only [List.length_drop, List.length_take]; rfl)) ?_; (with_reducible refine (impl_isCode.calls k _ _ l0_0 true _ ?side1 ?side2 A3.out).mono ?_); (case side1 => exact Cb_ (Kd.C_below HR0_0.out HB.out)); (case side2 => exact HC0_0.out); rintro e w12 ⟨rfl, hb⟩; refine ⟨_, rfl, ?_⟩; replace BK313 := kc_ hb BK313; replace HB := a_ (below_step (Bg_) hb); (try clear hb); have hcn13 : w12.cell? ⟨gp, 0, none⟩ = some (.int .i64 a1) := Below.peek (Bb_ HB.out) HN.out; obtain ⟨hcz13_0, hcz13_1, hcz13_2, hcz13_3, hfz13_0, hfz13_1, hfz13_2, hfz13_3⟩ := z4_ BK313.out) | (go_at_call 86; (with_reducible refine (impl_isName.calls a0_1 true _ A5.out).mono ?_); rintro e w' ⟨rfl, ⟨nd, rfl⟩⟩) | (go_at_call 64; (with_reducible refine (impl_in.calls a0_2 (-1) (wrap64 (a1 - 1)) true _ A7.out).mono ?_); rintro e w' ⟨rfl, ⟨nd, rfl⟩⟩) | (go_at_call 64; (with_reducible refine (impl_in.calls a0_3 (-1) (wrap64 (a1 - 1)) t317 _ A9.out).mono ?_); rintro e w' ⟨rfl, ⟨nd, rfl⟩⟩)); go_ret; exact ⟨by first | rfl | (simp [errW_none, errW_some] <;> rfl) | (simp [*, errW_none, errW_some] <;> rfl), Bg_⟩
   ·replace c8 := Bool.eq_false_iff.mpr c8
    subst c8; rw [if_neg (show ¬ (false = true) by decide)] at H; obtain rfl := Option.some.inj H; go_enter Try.func85, Try.ntmps85; go_wp2_with (first | ((with_reducible refine gate_dst (N := 2) rfl ?_); refine be_ (N := 2) (cs := #[.slice A0_0 l0_0.length c0_0, .int .i64 a0_1, .int .i64 a0_2, .int .i64 a0_3]) (t := 87) ?_; intro gb313 hg w14 hbox hb; have BK313 := a_ hbox; have GW313 := gl_ hg (Bb_ HB.out); have GE313 := gl_ hg (Bb_ HB.out); replace HB := bs_ hb HB; clear hb hbox hg; have hcn15 : w14.cell? ⟨gp, 0, none⟩ = some (.int .i64 a1) := Below.peek (Bb_ HB.out) HN.out; obtain ⟨hcz15_0, hcz15_1, hcz15_2, hcz15_3, hfz15_0, hfz15_1, hfz15_2, hfz15_3⟩ := z4_ BK313.out) | ((with_reducible refine gate_callee (f := 45) rfl ?_); refine goesL_ (some 6) rfl rfl Try.func45 (by kernel_rfl) rfl #[.slice A0_0 l0_0.length c0_0] rfl (by (try simp only [List.map_toArray, List.map_cons, List.map_nil]); first | done | rfl | (simp only [List.length_drop, List.length_take]; rfl)) ?_; (with_reducible refine (impl_isCode.calls k _ _ l0_0 true _ ?side1 ?side2 A3.out).mono ?_); (case side1 => exact Cb_ (Kd.C_below HR0_0.out HB.out)); (case side2 => exact HC0_0.out); rintro e w16 ⟨rfl, hb⟩; refine ⟨_, rfl, ?_⟩; replace BK313 := kc_ hb BK313; replace HB := a_ (below_step (Bg_) hb); (try clear hb); have hcn17 : w16.cell? ⟨gp, 0, none⟩ = some (.int .i64 a1) := Below.peek (Bb_ HB.out) HN.out; obtain ⟨hcz17_0, hcz17_1, hcz17_2, hcz17_3, hfz17_0, hfz17_1, hfz17_2, hfz17_3⟩ := z4_ BK313.out) | (go_at_call 86; (with_reducible refine (impl_isName.calls a0_1 true _ A5.out).mono ?_); rintro e w' ⟨rfl, ⟨nd, rfl⟩⟩) | (go_at_call 64; (with_reducible refine (impl_in.calls a0_2 (-1) (wrap64 (a1 - 1)) false _ A7.out).mono ?_); rintro e w' ⟨rfl, ⟨nd, rfl⟩⟩)); go_ret; exact ⟨by first | rfl | (simp [errW_none, errW_some] <;> rfl) | (simp [*, errW_none, errW_some] <;> rfl), Bg_⟩
  ·replace c6 := Bool.eq_false_iff.mpr c6
   subst c6; rw [if_neg (show ¬ (false = true) by decide)] at H; obtain rfl := Option.some.inj H; go_enter Try.func85, Try.ntmps85; go_wp2_with (first | ((with_reducible refine gate_dst (N := 2) rfl ?_); refine be_ (N := 2) (cs := #[.slice A0_0 l0_0.length c0_0, .int .i64 a0_1, .int .i64 a0_2, .int .i64 a0_3]) (t := 87) ?_; intro gb313 hg w18 hbox hb; have BK313 := a_ hbox; have GW313 := gl_ hg (Bb_ HB.out); have GE313 := gl_ hg (Bb_ HB.out); replace HB := bs_ hb HB; clear hb hbox hg; have hcn19 : w18.cell? ⟨gp, 0, none⟩ = some (.int .i64 a1) := Below.peek (Bb_ HB.out) HN.out; obtain ⟨hcz19_0, hcz19_1, hcz19_2, hcz19_3, hfz19_0, hfz19_1, hfz19_2, hfz19_3⟩ := z4_ BK313.out) | ((with_reducible refine gate_callee (f := 45) rfl ?_); refine goesL_ (some 6) rfl rfl Try.func45 (by kernel_rfl) rfl #[.slice A0_0 l0_0.length c0_0] rfl (by (try simp only [List.map_toArray, List.map_cons, List.map_nil]); first | done | rfl | (simp only [List.length_drop, List.length_take]; rfl)) ?_; (with_reducible refine (impl_isCode.calls k _ _ l0_0 true _ ?side1 ?side2 A3.out).mono ?_); (case side1 => exact Cb_ (Kd.C_below HR0_0.out HB.out)); (case side2 => exact HC0_0.out); rintro e w20 ⟨rfl, hb⟩; refine ⟨_, rfl, ?_⟩; replace BK313 := kc_ hb BK313; replace HB := a_ (below_step (Bg_) hb); (try clear hb); have hcn21 : w20.cell? ⟨gp, 0, none⟩ = some (.int .i64 a1) := Below.peek (Bb_ HB.out) HN.out; obtain ⟨hcz21_0, hcz21_1, hcz21_2, hcz21_3, hfz21_0, hfz21_1, hfz21_2, hfz21_3⟩ := z4_ BK313.out) | (go_at_call 86; (with_reducible refine (impl_isName.calls a0_1 false _ A5.out).mono ?_); rintro e w' ⟨rfl, ⟨nd, rfl⟩⟩)); go_ret; exact ⟨by first | rfl | (simp [errW_none, errW_some] <;> rfl) | (simp [*, errW_none, errW_some] <;> rfl), Bg_⟩
 ·replace c4 := Bool.eq_false_iff.mpr c4
  subst c4; rw [if_neg (show ¬ (false = true) by decide)] at H; obtain rfl := Option.some.inj H; go_enter Try.func85, Try.ntmps85; go_wp2_with (first | ((with_reducible refine gate_dst (N := 2) rfl ?_); refine be_ (N := 2) (cs := #[.slice A0_0 l0_0.length c0_0, .int .i64 a0_1, .int .i64 a0_2, .int .i64 a0_3]) (t := 87) ?_; intro gb313 hg w22 hbox hb; have BK313 := a_ hbox; have GW313 := gl_ hg (Bb_ HB.out); have GE313 := gl_ hg (Bb_ HB.out); replace HB := bs_ hb HB; clear hb hbox hg; have hcn23 : w22.cell? ⟨gp, 0, none⟩ = some (.int .i64 a1) := Below.peek (Bb_ HB.out) HN.out; obtain ⟨hcz23_0, hcz23_1, hcz23_2, hcz23_3, hfz23_0, hfz23_1, hfz23_2, hfz23_3⟩ := z4_ BK313.out) | ((with_reducible refine gate_callee (f := 45) rfl ?_); refine goesL_ (some 6) rfl rfl Try.func45 (by kernel_rfl) rfl #[.slice A0_0 l0_0.length c0_0] rfl (by (try simp only [List.map_toArray, List.map_cons, List.map_nil]); first | done | rfl | (simp only [List.length_drop, List.length_take]; rfl)) ?_; (with_reducible refine (impl_isCode.calls k _ _ l0_0 false _ ?side1 ?side2 A3.out).mono ?_); (case side1 => exact Cb_ (Kd.C_below HR0_0.out HB.out)); (case side2 => exact HC0_0.out); rintro e w24 ⟨rfl, hb⟩; refine ⟨_, rfl, ?_⟩; replace BK313 := kc_ hb BK313; replace HB := a_ (below_step (Bg_) hb); (try clear hb))); go_ret; exact ⟨by first | rfl | (simp [errW_none, errW_some] <;> rfl) | (simp [*, errW_none, errW_some] <;> rfl), Bg_⟩

/-! ### slices_IndexFunc_at85: function 94 -/
def slices_IndexFunc_at85.l0 : Nat → List (S87) → Int → Int → Int → Option (Int)
 | 0, _, _, _, _ => none
 | k + 1, x0, x7, x8, x777 => if x8 < x7 then (if 0 ≤ x8 then (if x8 < (x0.length : Int) then ((impl_isFlow_1.f k ((rd_T87 x0 x8).f0) ((rd_T87 x0 x8).f1) ((rd_T87 x0 x8).f2) ((rd_T87 x0 x8).f3) x777).bind fun t319 => (if t319 = true then (some x8) else (slices_IndexFunc_at85.l0 k x0 x7 (wrap64 (x8 + 1)) x777))) else (none)) else (none)) else (some (-1))
def slices_IndexFunc_at85.f (k : Nat) (l0 : List (S87))  (a2 : Int) : Option (Int) := slices_IndexFunc_at85.l0 k l0 (l0.length : Int) 0 a2
theorem slices_IndexFunc_at85.mono_l : ∀ k, (∀ y0 y1 y2 y3, LeO (slices_IndexFunc_at85.l0 k y0 y1 y2 y3) (slices_IndexFunc_at85.l0 (k + 1) y0 y1 y2 y3))
 | 0 => fun _ _ _ _ r h => by simp [slices_IndexFunc_at85.l0] at h
 | k + 1 => by
  have ih0 := slices_IndexFunc_at85.mono_l k
  ·intro y0 y1 y2 y3
   unfold slices_IndexFunc_at85.l0
   repeat' first
   | (with_reducible exact ih0 _ _ _ _)
   | (with_reducible exact impl_isFlow_1.mono _ _ _ _ _ _)
   | (with_reducible exact LeO.refl _)
   | (with_reducible exact LeO.none _)
   | (with_reducible refine LeO.ite ?_ ?_)
   | (with_reducible refine LeO.bind ?_ (fun _ => ?_))
   | exact ih0 _ _ _ _
   | exact impl_isFlow_1.mono _ _ _ _ _ _
   | exact LeO.none _
   | refine LeO.ite ?_ ?_
   | refine LeO.bind ?_ (fun _ => ?_)
theorem slices_IndexFunc_at85.mono : ∀ a0 a1 k, LeO (slices_IndexFunc_at85.f k a0 a1) (slices_IndexFunc_at85.f (k + 1) a0 a1) := by
 intro a0 a1 k
 have ih0 := slices_IndexFunc_at85.mono_l k
 unfold slices_IndexFunc_at85.f
 repeat' first
   | (with_reducible exact ih0 _ _ _ _)
   | (with_reducible exact impl_isFlow_1.mono _ _ _ _ _ _)
   | (with_reducible exact LeO.refl _)
   | (with_reducible exact LeO.none _)
   | (with_reducible refine LeO.ite ?_ ?_)
   | (with_reducible refine LeO.bind ?_ (fun _ => ?_))
   | exact ih0 _ _ _ _
   | exact impl_isFlow_1.mono _ _ _ _ _ _
   | exact LeO.none _
   | refine LeO.ite ?_ ?_
   | refine LeO.bind ?_ (fun _ => ?_)
set_option maxHeartbeats 8000000 in
set_option maxRecDepth 100000 in
theorem slices_IndexFunc_at85.calls (k : Nat) (A0 : Option Addr) (c0 : Nat) (l0 : List (S87))  (a2 : Int) (r : Int) (w : World) (hr0 : Kd.C k87 w A0 l0.length l0) (hc0 : l0.length ≤ c0) (h : slices_IndexFunc_at85.f k l0 a2 = some r) (gp : Nat) (hN : w.cell? ⟨gp, 0, none⟩ = some (.int .i64 a2)) :
  Calls Try.prog 94 #[.slice A0 l0.length c0, .func (.func 85) #[] #[.pointer (some ⟨gp, 0, none⟩)]] w fun e w' => e = .returned (.int .i64 r) ∧ Below w.heap.size w w' := by
 have hu87 := Try.underlying87; have HR0 := a_ hr0; have HC0 := a_ hc0; clear hr0 hc0; have HN := a_ hN; clear hN; have HB := a_ (Below.refl w.heap.size w); have H : (slices_IndexFunc_at85.l0 k l0 (l0.length : Int) 0 a2) = some r := h; clear h; have H' := a_ H; clear H; go_enter Try.func94, Try.ntmps94; go_wp2
 go_loopg [8] k (fun kq v8 w' => ∃ (x8_1 : Int), v8 = .int .i64 x8_1 ∧ Aside0 (slices_IndexFunc_at85.l0 kq l0 (l0.length : Int) x8_1 a2 = some r) ∧ Aside0 (kq ≤ k) ∧ Aside0 (Below w.heap.size w w'))
 case atStart => exact ⟨(0), (by first | rfl | (simp; done) | (simp [*]; done)), H', ⟨Nat.le_refl _⟩, ⟨(Bb_ HB.out)⟩⟩
 case round =>
  clear H'; (try clear p2); obtain ⟨x8_1, rfl, HA, HK1, HB⟩ := hrel
  cases gk with
  | zero => exact absurd HA.out (by simp [slices_IndexFunc_at85.l0])
  | succ k1 =>
   have H := HA.out; clear HA; simp only [slices_IndexFunc_at85.l0] at H
   by_cases c4 : x8_1 < (l0.length : Int)
   ·rw [if_pos c4] at H
    have c4b0 : decide (x8_1 < (l0.length : Int)) = true := decide_eq_true c4; clear c4
    by_cases c5 : 0 ≤ x8_1
    ·rw [if_pos c5] at H
     have c5b0 : decide (0 ≤ x8_1) = true := decide_eq_true c5; clear c5
     by_cases c6 : x8_1 < (l0.length : Int)
     ·rw [if_pos c6] at H
      have c6b0 : decide (x8_1 < (l0.length : Int)) = true := decide_eq_true c6; clear c6; replace H := Option.bind_eq_some_iff.mp H; obtain ⟨t319, A70, H⟩ := H; (try dsimp only at H); have A7 := a_ A70; clear A70
      by_cases c8 : t319 = true
      ·subst c8
       rw [if_pos rfl] at H; obtain rfl := Option.some.inj H; have p318 : 0 ≤ (x8_1 : Int) := of_decide_eq_true Am_; have q318 : x8_1 < (l0.length : Int) := of_decide_eq_true Am_; obtain ⟨ad318, A318_0, c318_0, e318, hx318_0, hx318_1, hx318_2, hx318_3, hl318_0, hi318_0⟩ := at_T87 HR0.out x8_1 p318 q318; cases e318; replace hx318_0 := hc_ HB hx318_0; replace hx318_1 := hc_ HB hx318_1; replace hx318_2 := hc_ HB hx318_2; replace hx318_3 := hc_ HB hx318_3; have HR318_0 := a_ hi318_0; have HC318_0 := a_ hl318_0; clear hi318_0 hl318_0; replace p318 := eq_true p318; replace q318 := eq_true q318; go_wp2_with (first | (go_at_call 85; (with_reducible refine (impl_isFlow_1.calls k1 _ _ ((rd_T87 l0 x8_1).f0) ((rd_T87 l0 x8_1).f1) ((rd_T87 l0 x8_1).f2) ((rd_T87 l0 x8_1).f3) a2 true _ ?side1 ?side2 A7.out gp ?sideN).mono ?_); (case sideN => exact Below.peek (Bb_ HB.out) HN.out); (case side1 => exact Cb_ (Kd.C_below HR318_0.out HB.out)); (case side2 => exact HC318_0.out); rintro e w9 ⟨rfl, hb⟩; replace HB := bs_ hb HB; (try clear hb))); go_ret; exact ⟨by first | rfl | (simp [errW_none, errW_some] <;> rfl) | (simp [*, errW_none, errW_some] <;> rfl), (Bb_ HB.out)⟩
      ·replace c8 := Bool.eq_false_iff.mpr c8
       subst c8; rw [if_neg (show ¬ (false = true) by decide)] at H; have H' := a_ H; clear H; have p318 : 0 ≤ (x8_1 : Int) := of_decide_eq_true Am_; have q318 : x8_1 < (l0.length : Int) := of_decide_eq_true Am_; obtain ⟨ad318, A318_0, c318_0, e318, hx318_0, hx318_1, hx318_2, hx318_3, hl318_0, hi318_0⟩ := at_T87 HR0.out x8_1 p318 q318; cases e318; replace hx318_0 := hc_ HB hx318_0; replace hx318_1 := hc_ HB hx318_1; replace hx318_2 := hc_ HB hx318_2; replace hx318_3 := hc_ HB hx318_3; have HR318_0 := a_ hi318_0; have HC318_0 := a_ hl318_0; clear hi318_0 hl318_0; replace p318 := eq_true p318; replace q318 := eq_true q318; go_wp2_with (first | (go_at_call 85; (with_reducible refine (impl_isFlow_1.calls k1 _ _ ((rd_T87 l0 x8_1).f0) ((rd_T87 l0 x8_1).f1) ((rd_T87 l0 x8_1).f2) ((rd_T87 l0 x8_1).f3) a2 false _ ?side1 ?side2 A7.out gp ?sideN).mono ?_); (case sideN => exact Below.peek (Bb_ HB.out) HN.out); (case side1 => exact Cb_ (Kd.C_below HR318_0.out HB.out)); (case side2 => exact HC318_0.out); rintro e w10 ⟨rfl, hb⟩; replace HB := bs_ hb HB; (try clear hb)))
       go_roundg k1
       case measure => have := HK1.out; omega
       case rel => exact ⟨(wrap64 (x8_1 + 1)), (by first | rfl | (simp; done) | (simp [*]; done)), H', ⟨by have := HK1.out; omega⟩, ⟨(Bb_ HB.out)⟩⟩
     ·rw [if_neg c6] at H
      exact absurd H (by simp)
    ·rw [if_neg c5] at H
     exact absurd H (by simp)
   ·rw [if_neg c4] at H
    have c4b0 : decide (x8_1 < (l0.length : Int)) = false := decide_eq_false c4; clear c4; obtain rfl := Option.some.inj H; go_wp2; go_ret; exact ⟨by first | rfl | (simp [errW_none, errW_some] <;> rfl) | (simp [*, errW_none, errW_some] <;> rfl), (Bb_ HB.out)⟩

/-! ### slices_ContainsFunc_at85: function 84 -/
def slices_ContainsFunc_at85.f (k : Nat) (l0 : List (S87))  (a2 : Int) : Option (Bool) := (slices_IndexFunc_at85.f k l0 a2).bind fun t320 => (some (decide (t320 ≥ 0)))
theorem slices_ContainsFunc_at85.mono : ∀ a0 a1 k, LeO (slices_ContainsFunc_at85.f k a0 a1) (slices_ContainsFunc_at85.f (k + 1) a0 a1) := by
 intro a0 a1 k
 unfold slices_ContainsFunc_at85.f
 repeat' first
   | (with_reducible exact slices_IndexFunc_at85.mono _ _ _)
   | (with_reducible exact LeO.refl _)
   | (with_reducible exact LeO.none _)
   | (with_reducible refine LeO.ite ?_ ?_)
   | (with_reducible refine LeO.bind ?_ (fun _ => ?_))
   | exact slices_IndexFunc_at85.mono _ _ _
   | exact LeO.none _
   | refine LeO.ite ?_ ?_
   | refine LeO.bind ?_ (fun _ => ?_)
set_option maxHeartbeats 8000000 in
set_option maxRecDepth 100000 in
theorem slices_ContainsFunc_at85.calls (k : Nat) (A0 : Option Addr) (c0 : Nat) (l0 : List (S87))  (a2 : Int) (r : Bool) (w : World) (hr0 : Kd.C k87 w A0 l0.length l0) (hc0 : l0.length ≤ c0) (h : slices_ContainsFunc_at85.f k l0 a2 = some r) (gp : Nat) (hN : w.cell? ⟨gp, 0, none⟩ = some (.int .i64 a2)) :
  Calls Try.prog 84 #[.slice A0 l0.length c0, .func (.func 85) #[] #[.pointer (some ⟨gp, 0, none⟩)]] w fun e w' => e = .returned (.bool r) ∧ Below w.heap.size w w' := by
 have HR0 := a_ hr0; have HC0 := a_ hc0; clear hr0 hc0; have HN := a_ hN; clear hN; have HB := a_ (Below.refl w.heap.size w); have H : ((slices_IndexFunc_at85.f k l0 a2).bind fun t320 => (some (decide (t320 ≥ 0)))) = some r := h; clear h; replace H := Option.bind_eq_some_iff.mp H; obtain ⟨t320, A40, H⟩ := H; (try dsimp only at H); have A4 := a_ A40; clear A40; obtain rfl := Option.some.inj H; go_enter Try.func84, Try.ntmps84; go_wp2_with (first | ((with_reducible refine gate_callee (f := 94) rfl ?_); refine goesL_ (some 7) rfl rfl Try.func94 (by kernel_rfl) rfl #[.slice A0 l0.length c0, .func (.func 85) #[] #[.pointer (some ⟨gp, 0, none⟩)]] rfl (by (try simp only [List.map_toArray, List.map_cons, List.map_nil]); first | done | rfl | (simp only [List.length_drop, List.length_take]; rfl)) ?_; (with_reducible refine (slices_IndexFunc_at85.calls k _ _ l0  a2 t320 _ ?side1 ?side2 A4.out gp ?sideN).mono ?_); (case sideN => exact Below.peek (Bb_ HB.out) HN.out); (case side1 => exact Cb_ HR0.out); (case side2 => exact HC0.out); rintro e w5 ⟨rfl, hb⟩; refine ⟨_, rfl, ?_⟩; replace HB := bs_ hb HB; (try clear hb))); go_ret; exact ⟨by first | rfl | (simp [errW_none, errW_some] <;> rfl) | (simp [*, errW_none, errW_some] <;> rfl), (Bb_ HB.out)⟩

/-! ### impl_isFlow: function 62 -/
def impl_isFlow.f (k : Nat) (l0 : List (S87)) : Option (Bool) := (impl_in.f (l0.length : Int) 1 8).bind fun t321 => (if t321 = true then ((slices_ContainsFunc_at85.f k l0 (l0.length : Int)).bind fun t322 => (some (!t322))) else (some false))
theorem impl_isFlow.mono : ∀ a0 k, LeO (impl_isFlow.f k a0) (impl_isFlow.f (k + 1) a0) := by
 intro a0 k
 unfold impl_isFlow.f
 repeat' first
   | (with_reducible exact slices_ContainsFunc_at85.mono _ _ _)
   | (with_reducible exact LeO.refl _)
   | (with_reducible exact LeO.none _)
   | (with_reducible refine LeO.ite ?_ ?_)
   | (with_reducible refine LeO.bind ?_ (fun _ => ?_))
   | exact slices_ContainsFunc_at85.mono _ _ _
   | exact LeO.none _
   | refine LeO.ite ?_ ?_
   | refine LeO.bind ?_ (fun _ => ?_)
set_option maxHeartbeats 8000000 in
set_option maxRecDepth 100000 in
theorem impl_isFlow.calls (k : Nat) (A0 : Option Addr) (c0 : Nat) (l0 : List (S87)) (r : Bool) (w : World) (hr0 : Kd.C k87 w A0 l0.length l0) (hc0 : l0.length ≤ c0) (h : impl_isFlow.f k l0 = some r) :
  Calls Try.prog 62 #[.slice A0 l0.length c0] w fun e w' => e = .returned (.bool r) ∧ Below w.heap.size w w' := by
 have HR0 := a_ hr0; have HC0 := a_ hc0; clear hr0 hc0; have HB := a_ (Below.refl w.heap.size w); have H : ((impl_in.f (l0.length : Int) 1 8).bind fun t321 => (if t321 = true then ((slices_ContainsFunc_at85.f k l0 (l0.length : Int)).bind fun t322 => (some (!t322))) else (some false))) = some r := h; clear h; replace H := Option.bind_eq_some_iff.mp H; obtain ⟨t321, A20, H⟩ := H; (try dsimp only at H); have A2 := a_ A20; clear A20
 by_cases c3 : t321 = true
 ·subst c3
  rw [if_pos rfl] at H; replace H := Option.bind_eq_some_iff.mp H; obtain ⟨t322, A40, H⟩ := H; (try dsimp only at H); have A4 := a_ A40; clear A40; obtain rfl := Option.some.inj H; go_enter Try.func62, Try.ntmps62; go_wp2_with (first | ((with_reducible refine gate_dst (N := 3) rfl ?_); refine be_ (N := 3) (cs := #[.int .i64 0]) (t := 3) ?_; intro gp hg wp hbox hb; have n0_ := bs_ hb HB; have GE := a_ ((by rw [hg]; exact (below_size (Bb_ HB.out))) : w.heap.size ≤ gp); clear HB; have HB := n0_; have BK := a_ hbox; clear n0_; clear hb hbox hg; have hczp := bc_ BK 0; have hfzp := blk_frozen BK.out 0; have hcnp := blk_cell (blk_put (cs := #[.int .i64 0]) BK.out 0 (.int .i64 (l0.length : Int)) rfl) 0) | ((with_reducible refine gate_callee (f := 64) rfl ?_); refine goesL_ (some 7) rfl rfl Try.func64 (by kernel_rfl) rfl #[.int .i64 (l0.length : Int), .int .i64 1, .int .i64 8] rfl (by (try simp only [List.map_toArray, List.map_cons, List.map_nil]); first | done | rfl | (simp only [List.length_drop, List.length_take]; rfl)) ?_; (with_reducible refine (impl_in.calls (l0.length : Int) 1 8 true _ A2.out).mono ?_); rintro e w' ⟨rfl, ⟨nd, rfl⟩⟩; refine ⟨_, rfl, ?_⟩) | (go_at_call 84; (with_reducible refine (slices_ContainsFunc_at85.calls k _ _ l0  (l0.length : Int) t322 _ ?side1 ?side2 A4.out gp ?sideN).mono ?_); (case sideN => exact (blk_cell (cs := #[.int .i64 (l0.length : Int)]) (t := 3) (by (with_reducible repeat (first | refine blk_drewN ?_ _ | refine blk_drew ?_ | refine blk_alloc ?_ _)); refine blk_put (cs := #[.int .i64 0]) ?_ 0 _ rfl; (with_reducible repeat (first | refine blk_drewN ?_ _ | refine blk_drew ?_ | refine blk_alloc ?_ _)); exact BK.out) 0).trans rfl); (case side1 => exact Kd.C_below HR0.out (Bg_)); (case side2 => exact HC0.out); rintro e w5 ⟨rfl, hb⟩; replace HB := a_ (below_step (Bg_) hb); (try clear hb))); go_ret; exact ⟨by first | rfl | (simp [errW_none, errW_some] <;> rfl) | (simp [*, errW_none, errW_some] <;> rfl), Bg_⟩
 ·replace c3 := Bool.eq_false_iff.mpr c3
  subst c3; rw [if_neg (show ¬ (false = true) by decide)] at H; obtain rfl := Option.some.inj H; go_enter Try.func62, Try.ntmps62; go_wp2_with (first | ((with_reducible refine gate_dst (N := 3) rfl ?_); refine be_ (N := 3) (cs := #[.int .i64 0]) (t := 3) ?_; intro gp hg wp hbox hb; have n0_ := bs_ hb HB; have GE := a_ ((by rw [hg]; exact (below_size (Bb_ HB.out))) : w.heap.size ≤ gp); clear HB; have HB := n0_; have BK := a_ hbox; clear n0_; clear hb hbox hg; have hczp := bc_ BK 0; have hfzp := blk_frozen BK.out 0; have hcnp := blk_cell (blk_put (cs := #[.int .i64 0]) BK.out 0 (.int .i64 (l0.length : Int)) rfl) 0) | ((with_reducible refine gate_callee (f := 64) rfl ?_); refine goesL_ (some 7) rfl rfl Try.func64 (by kernel_rfl) rfl #[.int .i64 (l0.length : Int), .int .i64 1, .int .i64 8] rfl (by (try simp only [List.map_toArray, List.map_cons, List.map_nil]); first | done | rfl | (simp only [List.length_drop, List.length_take]; rfl)) ?_; (with_reducible refine (impl_in.calls (l0.length : Int) 1 8 false _ A2.out).mono ?_); rintro e w' ⟨rfl, ⟨nd, rfl⟩⟩; refine ⟨_, rfl, ?_⟩)); go_ret; exact ⟨by first | rfl | (simp [errW_none, errW_some] <;> rfl) | (simp [*, errW_none, errW_some] <;> rfl), Bg_⟩

/-! ### impl_reckon: function 49 -/
def impl_reckon.f (a0 : Int) (a1 : Int) (a2 : Int) : Option (Int) := if a0 = 3 then (some (Go.bits .and .i64 (wrap64 (a1 + a2)) 65535)) else (if a0 = 4 then (some (Go.bits .and .i64 (wrap64 (a1 - a2)) 65535)) else (if a0 = 5 then (some (Go.bits .and .i64 (wrap64 (a1 * a2)) 65535)) else (if a0 = 6 then (if a1 < a2 then (some 1) else (some 0)) else (if a0 = 7 then (if a1 = a2 then (some 1) else (some 0)) else (some 0)))))
set_option maxHeartbeats 8000000 in
set_option maxRecDepth 100000 in
theorem impl_reckon.calls (a0 : Int) (a1 : Int) (a2 : Int) (r : Int) (w : World) (h : impl_reckon.f a0 a1 a2 = some r) :
  Calls Try.prog 49 #[.int .i64 a0, .int .i64 a1, .int .i64 a2] w fun e w' => e = .returned (.int .i64 r) ∧ Drawn0 w w' := by
 have H : (if a0 = 3 then (some (Go.bits .and .i64 (wrap64 (a1 + a2)) 65535)) else (if a0 = 4 then (some (Go.bits .and .i64 (wrap64 (a1 - a2)) 65535)) else (if a0 = 5 then (some (Go.bits .and .i64 (wrap64 (a1 * a2)) 65535)) else (if a0 = 6 then (if a1 < a2 then (some 1) else (some 0)) else (if a0 = 7 then (if a1 = a2 then (some 1) else (some 0)) else (some 0)))))) = some r := h; clear h
 by_cases c4 : a0 = 3
 ·rw [if_pos c4] at H
  have c4b0 : (a0 == 3) = true := beq_iff_eq.mpr c4; have c4b1 : (a0 != 3) = false := bne_eq_false_iff_eq.mpr c4; clear c4; obtain rfl := Option.some.inj H; go_enter Try.func49, Try.ntmps49; go_wp2; go_ret; exact ⟨by first | rfl | (simp; done) | (simp [*]; done), by repeat (first | exact Drawn0.refl _ | apply Drawn0.step)⟩
 ·rw [if_neg c4] at H
  have c4b0 : (a0 == 3) = false := beq_eq_false_iff_ne.mpr c4; have c4b1 : (a0 != 3) = true := bne_iff_ne.mpr c4
  by_cases c5 : a0 = 4
  ·rw [if_pos c5] at H
   have c5b0 : (a0 == 4) = true := beq_iff_eq.mpr c5; have c5b1 : (a0 != 4) = false := bne_eq_false_iff_eq.mpr c5; clear c5; obtain rfl := Option.some.inj H; go_enter Try.func49, Try.ntmps49; go_wp2; go_ret; exact ⟨by first | rfl | (simp; done) | (simp [*]; done), by repeat (first | exact Drawn0.refl _ | apply Drawn0.step)⟩
  ·rw [if_neg c5] at H
   have c5b0 : (a0 == 4) = false := beq_eq_false_iff_ne.mpr c5; have c5b1 : (a0 != 4) = true := bne_iff_ne.mpr c5
   by_cases c6 : a0 = 5
   ·rw [if_pos c6] at H
    have c6b0 : (a0 == 5) = true := beq_iff_eq.mpr c6; have c6b1 : (a0 != 5) = false := bne_eq_false_iff_eq.mpr c6; clear c6; obtain rfl := Option.some.inj H; go_enter Try.func49, Try.ntmps49; go_wp2; go_ret; exact ⟨by first | rfl | (simp; done) | (simp [*]; done), by repeat (first | exact Drawn0.refl _ | apply Drawn0.step)⟩
   ·rw [if_neg c6] at H
    have c6b0 : (a0 == 5) = false := beq_eq_false_iff_ne.mpr c6; have c6b1 : (a0 != 5) = true := bne_iff_ne.mpr c6
    by_cases c7 : a0 = 6
    ·rw [if_pos c7] at H
     have c7b0 : (a0 == 6) = true := beq_iff_eq.mpr c7; have c7b1 : (a0 != 6) = false := bne_eq_false_iff_eq.mpr c7; clear c7
     by_cases c8 : a1 < a2
     ·rw [if_pos c8] at H
      have c8b0 : decide (a1 < a2) = true := decide_eq_true c8; clear c8; obtain rfl := Option.some.inj H; go_enter Try.func49, Try.ntmps49; go_wp2; go_ret; exact ⟨by first | rfl | (simp; done) | (simp [*]; done), by repeat (first | exact Drawn0.refl _ | apply Drawn0.step)⟩
     ·rw [if_neg c8] at H
      have c8b0 : decide (a1 < a2) = false := decide_eq_false c8; clear c8; obtain rfl := Option.some.inj H; go_enter Try.func49, Try.ntmps49; go_wp2; go_ret; exact ⟨by first | rfl | (simp; done) | (simp [*]; done), by repeat (first | exact Drawn0.refl _ | apply Drawn0.step)⟩
    ·rw [if_neg c7] at H
     have c7b0 : (a0 == 6) = false := beq_eq_false_iff_ne.mpr c7; have c7b1 : (a0 != 6) = true := bne_iff_ne.mpr c7
     by_cases c9 : a0 = 7
     ·rw [if_pos c9] at H
      have c9b0 : (a0 == 7) = true := beq_iff_eq.mpr c9; have c9b1 : (a0 != 7) = false := bne_eq_false_iff_eq.mpr c9; clear c9
      by_cases c10 : a1 = a2
      ·rw [if_pos c10] at H
       have c10b0 : (a1 == a2) = true := beq_iff_eq.mpr c10; have c10b1 : (a1 != a2) = false := bne_eq_false_iff_eq.mpr c10; clear c10; obtain rfl := Option.some.inj H; go_enter Try.func49, Try.ntmps49; go_wp2; go_ret; exact ⟨by first | rfl | (simp; done) | (simp [*]; done), by repeat (first | exact Drawn0.refl _ | apply Drawn0.step)⟩
      ·rw [if_neg c10] at H
       have c10b0 : (a1 == a2) = false := beq_eq_false_iff_ne.mpr c10; have c10b1 : (a1 != a2) = true := bne_iff_ne.mpr c10; obtain rfl := Option.some.inj H; go_enter Try.func49, Try.ntmps49; go_wp2; go_ret; exact ⟨by first | rfl | (simp; done) | (simp [*]; done), by repeat (first | exact Drawn0.refl _ | apply Drawn0.step)⟩
     ·rw [if_neg c9] at H
      have c9b0 : (a0 == 7) = false := beq_eq_false_iff_ne.mpr c9; have c9b1 : (a0 != 7) = true := bne_iff_ne.mpr c9; obtain rfl := Option.some.inj H; go_enter Try.func49, Try.ntmps49; go_wp2; go_ret; exact ⟨by first | rfl | (simp; done) | (simp [*]; done), by repeat (first | exact Drawn0.refl _ | apply Drawn0.step)⟩

end Go.Proofs.Ytpanbicgnmjjiaa.XFnExactWayFacts

-- Printed by a patched copy of the print, a program of this session. Lean checks it.
import Derived.Test.YtncagigpflfkbaaXFnSumsx0
import Derived.Test.YtncagigpflfkbaaXFnSumsx1
import Derived.Test.YtncagigpflfkbaaXFnSumsx2
namespace Go.Proofs.Ytncagigpflfkbaa.XFnSums
open Go.RowKit Go.Proofs.YtncagigpflfkbaaW.PrintWords Go.Proofs.YtncagigpflfkbaaW.PrintLast Go.Proofs.YtncagigpflfkbaaW.PrintMore
attribute [local go_sem] max2_int min2_int max_two min_two max_three min_three max_four min_four   -- for this text's walks alone
set_option linter.unusedVariables false
set_option linter.unusedSimpArgs false

/-! ### laws_FnSums: function 9 -/
mutual
def laws_FnSums.j0 : Nat → Int → Int → Int → Bool → Bool → Int → Bool → Bool → Int → Bool → Bool → Bool → Bool → Bool → Option (Bool)
  | 0, _, _, _, _, _, _, _, _, _, _, _, _, _, _ => none
  | k + 1, x3, x4, x5, x6, x7, x11, x12, x13, x17, x18, x19, x23, x24, x147 => if x147 = true then (some false) else (if x7 = true then ((impl_UntagSmall.f x3).bind fun bt243 => ((impl_UntagSmall.f x4).bind fun bt245 => (if (x23 != (decide (bt243.1 < bt245.1))) = true then (laws_FnSums.j1 k x3 x4 x5 x6 x11 x12 x17 x18 bt243.1 bt245.1 true) else (if (wrap64 (bt243.1 + bt245.1)) ≥ (-16384) then (laws_FnSums.j1 k x3 x4 x5 x6 x11 x12 x17 x18 bt243.1 bt245.1 (x6 != (decide ((wrap64 (bt243.1 + bt245.1)) ≤ 16383)))) else (laws_FnSums.j1 k x3 x4 x5 x6 x11 x12 x17 x18 bt243.1 bt245.1 (x6 != false)))))) else (if x13 = true then (some false) else (if x19 = true then (some false) else (some (!x24)))))
def laws_FnSums.j1 : Nat → Int → Int → Int → Bool → Int → Bool → Int → Bool → Int → Int → Bool → Option (Bool)
  | 0, _, _, _, _, _, _, _, _, _, _, _ => none
  | k + 1, x3, x4, x5, x6, x11, x12, x17, x18, x27, x29, x188 => if x188 = true then (some false) else (if x6 = true then (if x5 = (Go.bits .and .i64 (wrap64 ((wrap64 (x3 + x4)) - 1)) 65535) then (if x12 = true then (laws_FnSums.j2 k x17 x18 x27 x29 (x11 != (Go.bits .and .i64 (wrap64 ((wrap64 (x3 - x4)) + 1)) 65535))) else (laws_FnSums.j2 k x17 x18 x27 x29 false)) else (laws_FnSums.j2 k x17 x18 x27 x29 true)) else (if x12 = true then (laws_FnSums.j2 k x17 x18 x27 x29 (x11 != (Go.bits .and .i64 (wrap64 ((wrap64 (x3 - x4)) + 1)) 65535))) else (laws_FnSums.j2 k x17 x18 x27 x29 false)))
def laws_FnSums.j2 : Nat → Int → Bool → Int → Int → Bool → Option (Bool)
  | 0, _, _, _, _, _ => none
  | k + 1, x17, x18, x27, x29, x210 => if x210 = true then (some false) else (if x18 = true then ((impl_UntagSmall.f x17).bind fun bt247 => (if bt247.2 = true then (some (bt247.1 == (wrap64 (x27 * x29)))) else (some false))) else (some true))
end
def laws_FnSums.f (k : Nat) (l0 : List Int) : Option (Bool) := if (l0.length : Int) > 1048576 then (some true) else ((spec_DrawAddTagged.f l0).bind fun bt219 => ((impl_AddTagged.f k bt219.1 bt219.2).bind fun bt221 => ((spec_AddTagged.f bt219.1 bt219.2).bind fun bt224 => ((impl_SubTagged.f k bt219.1 bt219.2).bind fun bt227 => ((spec_SubTagged.f bt219.1 bt219.2).bind fun bt230 => ((impl_MulTagged.f k bt219.1 bt219.2).bind fun bt233 => ((spec_MulTagged.f bt219.1 bt219.2).bind fun bt236 => ((impl_LessTagged.f k bt219.1 bt219.2).bind fun bt239 => ((spec_LessTagged.f bt219.1 bt219.2).bind fun bt241 => (if (bt221.2.2 != bt224.2.2) = true then (laws_FnSums.j0 k bt219.1 bt219.2 bt221.1 bt221.2.1 bt221.2.2 bt227.1 bt227.2.1 bt227.2.2 bt233.1 bt233.2.1 bt233.2.2 bt239.1 bt239.2 true) else (if (bt221.2.1 != bt224.2.1) = true then (laws_FnSums.j0 k bt219.1 bt219.2 bt221.1 bt221.2.1 bt221.2.2 bt227.1 bt227.2.1 bt227.2.2 bt233.1 bt233.2.1 bt233.2.2 bt239.1 bt239.2 true) else (if bt221.1 = bt224.1 then (if (bt227.2.2 != bt230.2.2) = true then (laws_FnSums.j0 k bt219.1 bt219.2 bt221.1 bt221.2.1 bt221.2.2 bt227.1 bt227.2.1 bt227.2.2 bt233.1 bt233.2.1 bt233.2.2 bt239.1 bt239.2 true) else (if (bt227.2.1 != bt230.2.1) = true then (laws_FnSums.j0 k bt219.1 bt219.2 bt221.1 bt221.2.1 bt221.2.2 bt227.1 bt227.2.1 bt227.2.2 bt233.1 bt233.2.1 bt233.2.2 bt239.1 bt239.2 true) else (if bt227.1 = bt230.1 then (if (bt233.2.2 != bt236.2.2) = true then (laws_FnSums.j0 k bt219.1 bt219.2 bt221.1 bt221.2.1 bt221.2.2 bt227.1 bt227.2.1 bt227.2.2 bt233.1 bt233.2.1 bt233.2.2 bt239.1 bt239.2 true) else (if (bt233.2.1 != bt236.2.1) = true then (laws_FnSums.j0 k bt219.1 bt219.2 bt221.1 bt221.2.1 bt221.2.2 bt227.1 bt227.2.1 bt227.2.2 bt233.1 bt233.2.1 bt233.2.2 bt239.1 bt239.2 true) else (if bt233.1 = bt236.1 then (if (bt239.2 != bt241.2) = true then (laws_FnSums.j0 k bt219.1 bt219.2 bt221.1 bt221.2.1 bt221.2.2 bt227.1 bt227.2.1 bt227.2.2 bt233.1 bt233.2.1 bt233.2.2 bt239.1 bt239.2 true) else (laws_FnSums.j0 k bt219.1 bt219.2 bt221.1 bt221.2.1 bt221.2.2 bt227.1 bt227.2.1 bt227.2.2 bt233.1 bt233.2.1 bt233.2.2 bt239.1 bt239.2 (bt239.1 != bt241.1))) else (laws_FnSums.j0 k bt219.1 bt219.2 bt221.1 bt221.2.1 bt221.2.2 bt227.1 bt227.2.1 bt227.2.2 bt233.1 bt233.2.1 bt233.2.2 bt239.1 bt239.2 true)))) else (laws_FnSums.j0 k bt219.1 bt219.2 bt221.1 bt221.2.1 bt221.2.2 bt227.1 bt227.2.1 bt227.2.2 bt233.1 bt233.2.1 bt233.2.2 bt239.1 bt239.2 true)))) else (laws_FnSums.j0 k bt219.1 bt219.2 bt221.1 bt221.2.1 bt221.2.2 bt227.1 bt227.2.1 bt227.2.2 bt233.1 bt233.2.1 bt233.2.2 bt239.1 bt239.2 true)))))))))))))
theorem laws_FnSums.mono_l : ∀ k, (∀ y0 y1 y2 y3 y4 y5 y6 y7 y8 y9 y10 y11 y12 y13, LeO (laws_FnSums.j0 k y0 y1 y2 y3 y4 y5 y6 y7 y8 y9 y10 y11 y12 y13) (laws_FnSums.j0 (k + 1) y0 y1 y2 y3 y4 y5 y6 y7 y8 y9 y10 y11 y12 y13)) ∧ (∀ y0 y1 y2 y3 y4 y5 y6 y7 y8 y9 y10, LeO (laws_FnSums.j1 k y0 y1 y2 y3 y4 y5 y6 y7 y8 y9 y10) (laws_FnSums.j1 (k + 1) y0 y1 y2 y3 y4 y5 y6 y7 y8 y9 y10)) ∧ (∀ y0 y1 y2 y3 y4, LeO (laws_FnSums.j2 k y0 y1 y2 y3 y4) (laws_FnSums.j2 (k + 1) y0 y1 y2 y3 y4))
  | 0 => ⟨fun _ _ _ _ _ _ _ _ _ _ _ _ _ _ r h => by simp [laws_FnSums.j0] at h, fun _ _ _ _ _ _ _ _ _ _ _ r h => by simp [laws_FnSums.j1] at h, fun _ _ _ _ _ r h => by simp [laws_FnSums.j2] at h⟩
  | k + 1 => by
    obtain ⟨ih0, ih1, ih2⟩ := laws_FnSums.mono_l k
    refine ⟨?_, ?_, ?_⟩
    · intro y0 y1 y2 y3 y4 y5 y6 y7 y8 y9 y10 y11 y12 y13
      unfold laws_FnSums.j0
      repeat' first
      | (with_reducible exact ih0 _ _ _ _ _ _ _ _ _ _ _ _ _ _)
      | (with_reducible exact ih1 _ _ _ _ _ _ _ _ _ _ _)
      | (with_reducible exact ih2 _ _ _ _ _)
      | (with_reducible exact impl_AddTagged.mono _ _ _)
      | (with_reducible exact impl_LessTagged.mono _ _ _)
      | (with_reducible exact impl_MulTagged.mono _ _ _)
      | (with_reducible exact impl_SubTagged.mono _ _ _)
      | (with_reducible exact LeO.refl _)
      | (with_reducible exact LeO.none _)
      | (with_reducible refine LeO.ite ?_ ?_)
      | (with_reducible refine LeO.bind ?_ (fun _ => ?_))
      | exact ih0 _ _ _ _ _ _ _ _ _ _ _ _ _ _
      | exact ih1 _ _ _ _ _ _ _ _ _ _ _
      | exact ih2 _ _ _ _ _
      | exact impl_AddTagged.mono _ _ _
      | exact impl_LessTagged.mono _ _ _
      | exact impl_MulTagged.mono _ _ _
      | exact impl_SubTagged.mono _ _ _
      | exact LeO.none _
      | refine LeO.ite ?_ ?_
      | refine LeO.bind ?_ (fun _ => ?_)
    · intro y0 y1 y2 y3 y4 y5 y6 y7 y8 y9 y10
      unfold laws_FnSums.j1
      repeat' first
      | (with_reducible exact ih0 _ _ _ _ _ _ _ _ _ _ _ _ _ _)
      | (with_reducible exact ih1 _ _ _ _ _ _ _ _ _ _ _)
      | (with_reducible exact ih2 _ _ _ _ _)
      | (with_reducible exact impl_AddTagged.mono _ _ _)
      | (with_reducible exact impl_LessTagged.mono _ _ _)
      | (with_reducible exact impl_MulTagged.mono _ _ _)
      | (with_reducible exact impl_SubTagged.mono _ _ _)
      | (with_reducible exact LeO.refl _)
      | (with_reducible exact LeO.none _)
      | (with_reducible refine LeO.ite ?_ ?_)
      | (with_reducible refine LeO.bind ?_ (fun _ => ?_))
      | exact ih0 _ _ _ _ _ _ _ _ _ _ _ _ _ _
      | exact ih1 _ _ _ _ _ _ _ _ _ _ _
      | exact ih2 _ _ _ _ _
      | exact impl_AddTagged.mono _ _ _
      | exact impl_LessTagged.mono _ _ _
      | exact impl_MulTagged.mono _ _ _
      | exact impl_SubTagged.mono _ _ _
      | exact LeO.none _
      | refine LeO.ite ?_ ?_
      | refine LeO.bind ?_ (fun _ => ?_)
    · intro y0 y1 y2 y3 y4
      unfold laws_FnSums.j2
      repeat' first
      | (with_reducible exact ih0 _ _ _ _ _ _ _ _ _ _ _ _ _ _)
      | (with_reducible exact ih1 _ _ _ _ _ _ _ _ _ _ _)
      | (with_reducible exact ih2 _ _ _ _ _)
      | (with_reducible exact impl_AddTagged.mono _ _ _)
      | (with_reducible exact impl_LessTagged.mono _ _ _)
      | (with_reducible exact impl_MulTagged.mono _ _ _)
      | (with_reducible exact impl_SubTagged.mono _ _ _)
      | (with_reducible exact LeO.refl _)
      | (with_reducible exact LeO.none _)
      | (with_reducible refine LeO.ite ?_ ?_)
      | (with_reducible refine LeO.bind ?_ (fun _ => ?_))
      | exact ih0 _ _ _ _ _ _ _ _ _ _ _ _ _ _
      | exact ih1 _ _ _ _ _ _ _ _ _ _ _
      | exact ih2 _ _ _ _ _
      | exact impl_AddTagged.mono _ _ _
      | exact impl_LessTagged.mono _ _ _
      | exact impl_MulTagged.mono _ _ _
      | exact impl_SubTagged.mono _ _ _
      | exact LeO.none _
      | refine LeO.ite ?_ ?_
      | refine LeO.bind ?_ (fun _ => ?_)
theorem laws_FnSums.mono : ∀ a0 k, LeO (laws_FnSums.f k a0) (laws_FnSums.f (k + 1) a0) := by
  intro a0 k
  obtain ⟨ih0, ih1, ih2⟩ := laws_FnSums.mono_l k
  unfold laws_FnSums.f
  repeat' first
      | (with_reducible exact ih0 _ _ _ _ _ _ _ _ _ _ _ _ _ _)
      | (with_reducible exact ih1 _ _ _ _ _ _ _ _ _ _ _)
      | (with_reducible exact ih2 _ _ _ _ _)
      | (with_reducible exact impl_AddTagged.mono _ _ _)
      | (with_reducible exact impl_LessTagged.mono _ _ _)
      | (with_reducible exact impl_MulTagged.mono _ _ _)
      | (with_reducible exact impl_SubTagged.mono _ _ _)
      | (with_reducible exact LeO.refl _)
      | (with_reducible exact LeO.none _)
      | (with_reducible refine LeO.ite ?_ ?_)
      | (with_reducible refine LeO.bind ?_ (fun _ => ?_))
      | exact ih0 _ _ _ _ _ _ _ _ _ _ _ _ _ _
      | exact ih1 _ _ _ _ _ _ _ _ _ _ _
      | exact ih2 _ _ _ _ _
      | exact impl_AddTagged.mono _ _ _
      | exact impl_LessTagged.mono _ _ _
      | exact impl_MulTagged.mono _ _ _
      | exact impl_SubTagged.mono _ _ _
      | exact LeO.none _
      | refine LeO.ite ?_ ?_
      | refine LeO.bind ?_ (fun _ => ?_)
set_option maxHeartbeats 8000000 in
set_option maxRecDepth 100000 in
theorem laws_FnSums.calls (k : Nat) (A0 : Option Addr) (c0 : Nat) (l0 : List Int) (w : World) (hr0 : Kd.C (Kd.int .u8) w A0 l0.length l0) (hc0 : l0.length ≤ c0) (h : laws_FnSums.f k l0 = some true) :
    Calls Try.prog 9 #[.slice A0 l0.length c0] w fun e w' => e = .returned (.bool true) ∧ Below w.heap.size w w' := by
  have HR0 := Aside0.mk hr0
  have HC0 := Aside0.mk hc0
  clear hr0 hc0
  have HB := Aside0.mk (Below.refl w.heap.size w)
  have H : (if (l0.length : Int) > 1048576 then (some true) else ((spec_DrawAddTagged.f l0).bind fun bt219 => ((impl_AddTagged.f k bt219.1 bt219.2).bind fun bt221 => ((spec_AddTagged.f bt219.1 bt219.2).bind fun bt224 => ((impl_SubTagged.f k bt219.1 bt219.2).bind fun bt227 => ((spec_SubTagged.f bt219.1 bt219.2).bind fun bt230 => ((impl_MulTagged.f k bt219.1 bt219.2).bind fun bt233 => ((spec_MulTagged.f bt219.1 bt219.2).bind fun bt236 => ((impl_LessTagged.f k bt219.1 bt219.2).bind fun bt239 => ((spec_LessTagged.f bt219.1 bt219.2).bind fun bt241 => (if (bt221.2.2 != bt224.2.2) = true then (laws_FnSums.j0 k bt219.1 bt219.2 bt221.1 bt221.2.1 bt221.2.2 bt227.1 bt227.2.1 bt227.2.2 bt233.1 bt233.2.1 bt233.2.2 bt239.1 bt239.2 true) else (if (bt221.2.1 != bt224.2.1) = true then (laws_FnSums.j0 k bt219.1 bt219.2 bt221.1 bt221.2.1 bt221.2.2 bt227.1 bt227.2.1 bt227.2.2 bt233.1 bt233.2.1 bt233.2.2 bt239.1 bt239.2 true) else (if bt221.1 = bt224.1 then (if (bt227.2.2 != bt230.2.2) = true then (laws_FnSums.j0 k bt219.1 bt219.2 bt221.1 bt221.2.1 bt221.2.2 bt227.1 bt227.2.1 bt227.2.2 bt233.1 bt233.2.1 bt233.2.2 bt239.1 bt239.2 true) else (if (bt227.2.1 != bt230.2.1) = true then (laws_FnSums.j0 k bt219.1 bt219.2 bt221.1 bt221.2.1 bt221.2.2 bt227.1 bt227.2.1 bt227.2.2 bt233.1 bt233.2.1 bt233.2.2 bt239.1 bt239.2 true) else (if bt227.1 = bt230.1 then (if (bt233.2.2 != bt236.2.2) = true then (laws_FnSums.j0 k bt219.1 bt219.2 bt221.1 bt221.2.1 bt221.2.2 bt227.1 bt227.2.1 bt227.2.2 bt233.1 bt233.2.1 bt233.2.2 bt239.1 bt239.2 true) else (if (bt233.2.1 != bt236.2.1) = true then (laws_FnSums.j0 k bt219.1 bt219.2 bt221.1 bt221.2.1 bt221.2.2 bt227.1 bt227.2.1 bt227.2.2 bt233.1 bt233.2.1 bt233.2.2 bt239.1 bt239.2 true) else (if bt233.1 = bt236.1 then (if (bt239.2 != bt241.2) = true then (laws_FnSums.j0 k bt219.1 bt219.2 bt221.1 bt221.2.1 bt221.2.2 bt227.1 bt227.2.1 bt227.2.2 bt233.1 bt233.2.1 bt233.2.2 bt239.1 bt239.2 true) else (laws_FnSums.j0 k bt219.1 bt219.2 bt221.1 bt221.2.1 bt221.2.2 bt227.1 bt227.2.1 bt227.2.2 bt233.1 bt233.2.1 bt233.2.2 bt239.1 bt239.2 (bt239.1 != bt241.1))) else (laws_FnSums.j0 k bt219.1 bt219.2 bt221.1 bt221.2.1 bt221.2.2 bt227.1 bt227.2.1 bt227.2.2 bt233.1 bt233.2.1 bt233.2.2 bt239.1 bt239.2 true)))) else (laws_FnSums.j0 k bt219.1 bt219.2 bt221.1 bt221.2.1 bt221.2.2 bt227.1 bt227.2.1 bt227.2.2 bt233.1 bt233.2.1 bt233.2.2 bt239.1 bt239.2 true)))) else (laws_FnSums.j0 k bt219.1 bt219.2 bt221.1 bt221.2.1 bt221.2.2 bt227.1 bt227.2.1 bt227.2.2 bt233.1 bt233.2.1 bt233.2.2 bt239.1 bt239.2 true)))))))))))))) = some true := h
  clear h
  by_cases c2 : (l0.length : Int) > 1048576
  · rw [if_pos c2] at H
    have c2b0 : decide (1048576 < (l0.length : Int)) = true := decide_eq_true c2
    have c2b1 : decide (1048576 < l0.length) = true := decide_eq_true (by omega)
    clear c2
    as_aux_lemma =>
      go_enter Try.func9, Try.ntmps9
      go_wp2
      go_ret
      exact ⟨by first | rfl | (simp [errW_none, errW_some] <;> rfl) | (simp [*, errW_none, errW_some] <;> rfl), by repeat (first | (with_reducible first | exact HB.out | apply below_alloc | apply pw_below_drewN | apply below_drew1) | exact HB.out)⟩
  · rw [if_neg c2] at H
    have c2b0 : decide (1048576 < (l0.length : Int)) = false := decide_eq_false c2
    have c2b1 : decide (1048576 < l0.length) = false := decide_eq_false (by omega)
    clear c2
    replace H := Option.bind_eq_some_iff.mp H
    obtain ⟨⟨t219, t220⟩, A30, H⟩ := H
    replace H : ((impl_AddTagged.f k t219 t220).bind fun bt221 => ((spec_AddTagged.f t219 t220).bind fun bt224 => ((impl_SubTagged.f k t219 t220).bind fun bt227 => ((spec_SubTagged.f t219 t220).bind fun bt230 => ((impl_MulTagged.f k t219 t220).bind fun bt233 => ((spec_MulTagged.f t219 t220).bind fun bt236 => ((impl_LessTagged.f k t219 t220).bind fun bt239 => ((spec_LessTagged.f t219 t220).bind fun bt241 => (if (bt221.2.2 != bt224.2.2) = true then (laws_FnSums.j0 k t219 t220 bt221.1 bt221.2.1 bt221.2.2 bt227.1 bt227.2.1 bt227.2.2 bt233.1 bt233.2.1 bt233.2.2 bt239.1 bt239.2 true) else (if (bt221.2.1 != bt224.2.1) = true then (laws_FnSums.j0 k t219 t220 bt221.1 bt221.2.1 bt221.2.2 bt227.1 bt227.2.1 bt227.2.2 bt233.1 bt233.2.1 bt233.2.2 bt239.1 bt239.2 true) else (if bt221.1 = bt224.1 then (if (bt227.2.2 != bt230.2.2) = true then (laws_FnSums.j0 k t219 t220 bt221.1 bt221.2.1 bt221.2.2 bt227.1 bt227.2.1 bt227.2.2 bt233.1 bt233.2.1 bt233.2.2 bt239.1 bt239.2 true) else (if (bt227.2.1 != bt230.2.1) = true then (laws_FnSums.j0 k t219 t220 bt221.1 bt221.2.1 bt221.2.2 bt227.1 bt227.2.1 bt227.2.2 bt233.1 bt233.2.1 bt233.2.2 bt239.1 bt239.2 true) else (if bt227.1 = bt230.1 then (if (bt233.2.2 != bt236.2.2) = true then (laws_FnSums.j0 k t219 t220 bt221.1 bt221.2.1 bt221.2.2 bt227.1 bt227.2.1 bt227.2.2 bt233.1 bt233.2.1 bt233.2.2 bt239.1 bt239.2 true) else (if (bt233.2.1 != bt236.2.1) = true then (laws_FnSums.j0 k t219 t220 bt221.1 bt221.2.1 bt221.2.2 bt227.1 bt227.2.1 bt227.2.2 bt233.1 bt233.2.1 bt233.2.2 bt239.1 bt239.2 true) else (if bt233.1 = bt236.1 then (if (bt239.2 != bt241.2) = true then (laws_FnSums.j0 k t219 t220 bt221.1 bt221.2.1 bt221.2.2 bt227.1 bt227.2.1 bt227.2.2 bt233.1 bt233.2.1 bt233.2.2 bt239.1 bt239.2 true) else (laws_FnSums.j0 k t219 t220 bt221.1 bt221.2.1 bt221.2.2 bt227.1 bt227.2.1 bt227.2.2 bt233.1 bt233.2.1 bt233.2.2 bt239.1 bt239.2 (bt239.1 != bt241.1))) else (laws_FnSums.j0 k t219 t220 bt221.1 bt221.2.1 bt221.2.2 bt227.1 bt227.2.1 bt227.2.2 bt233.1 bt233.2.1 bt233.2.2 bt239.1 bt239.2 true)))) else (laws_FnSums.j0 k t219 t220 bt221.1 bt221.2.1 bt221.2.2 bt227.1 bt227.2.1 bt227.2.2 bt233.1 bt233.2.1 bt233.2.2 bt239.1 bt239.2 true)))) else (laws_FnSums.j0 k t219 t220 bt221.1 bt221.2.1 bt221.2.2 bt227.1 bt227.2.1 bt227.2.2 bt233.1 bt233.2.1 bt233.2.2 bt239.1 bt239.2 true)))))))))))) = some true := H
    have A3 := Aside0.mk A30
    clear A30
    replace H := Option.bind_eq_some_iff.mp H
    obtain ⟨⟨t221, t222, t223⟩, A40, H⟩ := H
    replace H : ((spec_AddTagged.f t219 t220).bind fun bt224 => ((impl_SubTagged.f k t219 t220).bind fun bt227 => ((spec_SubTagged.f t219 t220).bind fun bt230 => ((impl_MulTagged.f k t219 t220).bind fun bt233 => ((spec_MulTagged.f t219 t220).bind fun bt236 => ((impl_LessTagged.f k t219 t220).bind fun bt239 => ((spec_LessTagged.f t219 t220).bind fun bt241 => (if (t223 != bt224.2.2) = true then (laws_FnSums.j0 k t219 t220 t221 t222 t223 bt227.1 bt227.2.1 bt227.2.2 bt233.1 bt233.2.1 bt233.2.2 bt239.1 bt239.2 true) else (if (t222 != bt224.2.1) = true then (laws_FnSums.j0 k t219 t220 t221 t222 t223 bt227.1 bt227.2.1 bt227.2.2 bt233.1 bt233.2.1 bt233.2.2 bt239.1 bt239.2 true) else (if t221 = bt224.1 then (if (bt227.2.2 != bt230.2.2) = true then (laws_FnSums.j0 k t219 t220 t221 t222 t223 bt227.1 bt227.2.1 bt227.2.2 bt233.1 bt233.2.1 bt233.2.2 bt239.1 bt239.2 true) else (if (bt227.2.1 != bt230.2.1) = true then (laws_FnSums.j0 k t219 t220 t221 t222 t223 bt227.1 bt227.2.1 bt227.2.2 bt233.1 bt233.2.1 bt233.2.2 bt239.1 bt239.2 true) else (if bt227.1 = bt230.1 then (if (bt233.2.2 != bt236.2.2) = true then (laws_FnSums.j0 k t219 t220 t221 t222 t223 bt227.1 bt227.2.1 bt227.2.2 bt233.1 bt233.2.1 bt233.2.2 bt239.1 bt239.2 true) else (if (bt233.2.1 != bt236.2.1) = true then (laws_FnSums.j0 k t219 t220 t221 t222 t223 bt227.1 bt227.2.1 bt227.2.2 bt233.1 bt233.2.1 bt233.2.2 bt239.1 bt239.2 true) else (if bt233.1 = bt236.1 then (if (bt239.2 != bt241.2) = true then (laws_FnSums.j0 k t219 t220 t221 t222 t223 bt227.1 bt227.2.1 bt227.2.2 bt233.1 bt233.2.1 bt233.2.2 bt239.1 bt239.2 true) else (laws_FnSums.j0 k t219 t220 t221 t222 t223 bt227.1 bt227.2.1 bt227.2.2 bt233.1 bt233.2.1 bt233.2.2 bt239.1 bt239.2 (bt239.1 != bt241.1))) else (laws_FnSums.j0 k t219 t220 t221 t222 t223 bt227.1 bt227.2.1 bt227.2.2 bt233.1 bt233.2.1 bt233.2.2 bt239.1 bt239.2 true)))) else (laws_FnSums.j0 k t219 t220 t221 t222 t223 bt227.1 bt227.2.1 bt227.2.2 bt233.1 bt233.2.1 bt233.2.2 bt239.1 bt239.2 true)))) else (laws_FnSums.j0 k t219 t220 t221 t222 t223 bt227.1 bt227.2.1 bt227.2.2 bt233.1 bt233.2.1 bt233.2.2 bt239.1 bt239.2 true))))))))))) = some true := H
    have A4 := Aside0.mk A40
    clear A40
    replace H := Option.bind_eq_some_iff.mp H
    obtain ⟨⟨t224, t225, t226⟩, A50, H⟩ := H
    replace H : ((impl_SubTagged.f k t219 t220).bind fun bt227 => ((spec_SubTagged.f t219 t220).bind fun bt230 => ((impl_MulTagged.f k t219 t220).bind fun bt233 => ((spec_MulTagged.f t219 t220).bind fun bt236 => ((impl_LessTagged.f k t219 t220).bind fun bt239 => ((spec_LessTagged.f t219 t220).bind fun bt241 => (if (t223 != t226) = true then (laws_FnSums.j0 k t219 t220 t221 t222 t223 bt227.1 bt227.2.1 bt227.2.2 bt233.1 bt233.2.1 bt233.2.2 bt239.1 bt239.2 true) else (if (t222 != t225) = true then (laws_FnSums.j0 k t219 t220 t221 t222 t223 bt227.1 bt227.2.1 bt227.2.2 bt233.1 bt233.2.1 bt233.2.2 bt239.1 bt239.2 true) else (if t221 = t224 then (if (bt227.2.2 != bt230.2.2) = true then (laws_FnSums.j0 k t219 t220 t221 t222 t223 bt227.1 bt227.2.1 bt227.2.2 bt233.1 bt233.2.1 bt233.2.2 bt239.1 bt239.2 true) else (if (bt227.2.1 != bt230.2.1) = true then (laws_FnSums.j0 k t219 t220 t221 t222 t223 bt227.1 bt227.2.1 bt227.2.2 bt233.1 bt233.2.1 bt233.2.2 bt239.1 bt239.2 true) else (if bt227.1 = bt230.1 then (if (bt233.2.2 != bt236.2.2) = true then (laws_FnSums.j0 k t219 t220 t221 t222 t223 bt227.1 bt227.2.1 bt227.2.2 bt233.1 bt233.2.1 bt233.2.2 bt239.1 bt239.2 true) else (if (bt233.2.1 != bt236.2.1) = true then (laws_FnSums.j0 k t219 t220 t221 t222 t223 bt227.1 bt227.2.1 bt227.2.2 bt233.1 bt233.2.1 bt233.2.2 bt239.1 bt239.2 true) else (if bt233.1 = bt236.1 then (if (bt239.2 != bt241.2) = true then (laws_FnSums.j0 k t219 t220 t221 t222 t223 bt227.1 bt227.2.1 bt227.2.2 bt233.1 bt233.2.1 bt233.2.2 bt239.1 bt239.2 true) else (laws_FnSums.j0 k t219 t220 t221 t222 t223 bt227.1 bt227.2.1 bt227.2.2 bt233.1 bt233.2.1 bt233.2.2 bt239.1 bt239.2 (bt239.1 != bt241.1))) else (laws_FnSums.j0 k t219 t220 t221 t222 t223 bt227.1 bt227.2.1 bt227.2.2 bt233.1 bt233.2.1 bt233.2.2 bt239.1 bt239.2 true)))) else (laws_FnSums.j0 k t219 t220 t221 t222 t223 bt227.1 bt227.2.1 bt227.2.2 bt233.1 bt233.2.1 bt233.2.2 bt239.1 bt239.2 true)))) else (laws_FnSums.j0 k t219 t220 t221 t222 t223 bt227.1 bt227.2.1 bt227.2.2 bt233.1 bt233.2.1 bt233.2.2 bt239.1 bt239.2 true)))))))))) = some true := H
    have A5 := Aside0.mk A50
    clear A50
    replace H := Option.bind_eq_some_iff.mp H
    obtain ⟨⟨t227, t228, t229⟩, A60, H⟩ := H
    replace H : ((spec_SubTagged.f t219 t220).bind fun bt230 => ((impl_MulTagged.f k t219 t220).bind fun bt233 => ((spec_MulTagged.f t219 t220).bind fun bt236 => ((impl_LessTagged.f k t219 t220).bind fun bt239 => ((spec_LessTagged.f t219 t220).bind fun bt241 => (if (t223 != t226) = true then (laws_FnSums.j0 k t219 t220 t221 t222 t223 t227 t228 t229 bt233.1 bt233.2.1 bt233.2.2 bt239.1 bt239.2 true) else (if (t222 != t225) = true then (laws_FnSums.j0 k t219 t220 t221 t222 t223 t227 t228 t229 bt233.1 bt233.2.1 bt233.2.2 bt239.1 bt239.2 true) else (if t221 = t224 then (if (t229 != bt230.2.2) = true then (laws_FnSums.j0 k t219 t220 t221 t222 t223 t227 t228 t229 bt233.1 bt233.2.1 bt233.2.2 bt239.1 bt239.2 true) else (if (t228 != bt230.2.1) = true then (laws_FnSums.j0 k t219 t220 t221 t222 t223 t227 t228 t229 bt233.1 bt233.2.1 bt233.2.2 bt239.1 bt239.2 true) else (if t227 = bt230.1 then (if (bt233.2.2 != bt236.2.2) = true then (laws_FnSums.j0 k t219 t220 t221 t222 t223 t227 t228 t229 bt233.1 bt233.2.1 bt233.2.2 bt239.1 bt239.2 true) else (if (bt233.2.1 != bt236.2.1) = true then (laws_FnSums.j0 k t219 t220 t221 t222 t223 t227 t228 t229 bt233.1 bt233.2.1 bt233.2.2 bt239.1 bt239.2 true) else (if bt233.1 = bt236.1 then (if (bt239.2 != bt241.2) = true then (laws_FnSums.j0 k t219 t220 t221 t222 t223 t227 t228 t229 bt233.1 bt233.2.1 bt233.2.2 bt239.1 bt239.2 true) else (laws_FnSums.j0 k t219 t220 t221 t222 t223 t227 t228 t229 bt233.1 bt233.2.1 bt233.2.2 bt239.1 bt239.2 (bt239.1 != bt241.1))) else (laws_FnSums.j0 k t219 t220 t221 t222 t223 t227 t228 t229 bt233.1 bt233.2.1 bt233.2.2 bt239.1 bt239.2 true)))) else (laws_FnSums.j0 k t219 t220 t221 t222 t223 t227 t228 t229 bt233.1 bt233.2.1 bt233.2.2 bt239.1 bt239.2 true)))) else (laws_FnSums.j0 k t219 t220 t221 t222 t223 t227 t228 t229 bt233.1 bt233.2.1 bt233.2.2 bt239.1 bt239.2 true))))))))) = some true := H
    have A6 := Aside0.mk A60
    clear A60
    replace H := Option.bind_eq_some_iff.mp H
    obtain ⟨⟨t230, t231, t232⟩, A70, H⟩ := H
    replace H : ((impl_MulTagged.f k t219 t220).bind fun bt233 => ((spec_MulTagged.f t219 t220).bind fun bt236 => ((impl_LessTagged.f k t219 t220).bind fun bt239 => ((spec_LessTagged.f t219 t220).bind fun bt241 => (if (t223 != t226) = true then (laws_FnSums.j0 k t219 t220 t221 t222 t223 t227 t228 t229 bt233.1 bt233.2.1 bt233.2.2 bt239.1 bt239.2 true) else (if (t222 != t225) = true then (laws_FnSums.j0 k t219 t220 t221 t222 t223 t227 t228 t229 bt233.1 bt233.2.1 bt233.2.2 bt239.1 bt239.2 true) else (if t221 = t224 then (if (t229 != t232) = true then (laws_FnSums.j0 k t219 t220 t221 t222 t223 t227 t228 t229 bt233.1 bt233.2.1 bt233.2.2 bt239.1 bt239.2 true) else (if (t228 != t231) = true then (laws_FnSums.j0 k t219 t220 t221 t222 t223 t227 t228 t229 bt233.1 bt233.2.1 bt233.2.2 bt239.1 bt239.2 true) else (if t227 = t230 then (if (bt233.2.2 != bt236.2.2) = true then (laws_FnSums.j0 k t219 t220 t221 t222 t223 t227 t228 t229 bt233.1 bt233.2.1 bt233.2.2 bt239.1 bt239.2 true) else (if (bt233.2.1 != bt236.2.1) = true then (laws_FnSums.j0 k t219 t220 t221 t222 t223 t227 t228 t229 bt233.1 bt233.2.1 bt233.2.2 bt239.1 bt239.2 true) else (if bt233.1 = bt236.1 then (if (bt239.2 != bt241.2) = true then (laws_FnSums.j0 k t219 t220 t221 t222 t223 t227 t228 t229 bt233.1 bt233.2.1 bt233.2.2 bt239.1 bt239.2 true) else (laws_FnSums.j0 k t219 t220 t221 t222 t223 t227 t228 t229 bt233.1 bt233.2.1 bt233.2.2 bt239.1 bt239.2 (bt239.1 != bt241.1))) else (laws_FnSums.j0 k t219 t220 t221 t222 t223 t227 t228 t229 bt233.1 bt233.2.1 bt233.2.2 bt239.1 bt239.2 true)))) else (laws_FnSums.j0 k t219 t220 t221 t222 t223 t227 t228 t229 bt233.1 bt233.2.1 bt233.2.2 bt239.1 bt239.2 true)))) else (laws_FnSums.j0 k t219 t220 t221 t222 t223 t227 t228 t229 bt233.1 bt233.2.1 bt233.2.2 bt239.1 bt239.2 true)))))))) = some true := H
    have A7 := Aside0.mk A70
    clear A70
    replace H := Option.bind_eq_some_iff.mp H
    obtain ⟨⟨t233, t234, t235⟩, A80, H⟩ := H
    replace H : ((spec_MulTagged.f t219 t220).bind fun bt236 => ((impl_LessTagged.f k t219 t220).bind fun bt239 => ((spec_LessTagged.f t219 t220).bind fun bt241 => (if (t223 != t226) = true then (laws_FnSums.j0 k t219 t220 t221 t222 t223 t227 t228 t229 t233 t234 t235 bt239.1 bt239.2 true) else (if (t222 != t225) = true then (laws_FnSums.j0 k t219 t220 t221 t222 t223 t227 t228 t229 t233 t234 t235 bt239.1 bt239.2 true) else (if t221 = t224 then (if (t229 != t232) = true then (laws_FnSums.j0 k t219 t220 t221 t222 t223 t227 t228 t229 t233 t234 t235 bt239.1 bt239.2 true) else (if (t228 != t231) = true then (laws_FnSums.j0 k t219 t220 t221 t222 t223 t227 t228 t229 t233 t234 t235 bt239.1 bt239.2 true) else (if t227 = t230 then (if (t235 != bt236.2.2) = true then (laws_FnSums.j0 k t219 t220 t221 t222 t223 t227 t228 t229 t233 t234 t235 bt239.1 bt239.2 true) else (if (t234 != bt236.2.1) = true then (laws_FnSums.j0 k t219 t220 t221 t222 t223 t227 t228 t229 t233 t234 t235 bt239.1 bt239.2 true) else (if t233 = bt236.1 then (if (bt239.2 != bt241.2) = true then (laws_FnSums.j0 k t219 t220 t221 t222 t223 t227 t228 t229 t233 t234 t235 bt239.1 bt239.2 true) else (laws_FnSums.j0 k t219 t220 t221 t222 t223 t227 t228 t229 t233 t234 t235 bt239.1 bt239.2 (bt239.1 != bt241.1))) else (laws_FnSums.j0 k t219 t220 t221 t222 t223 t227 t228 t229 t233 t234 t235 bt239.1 bt239.2 true)))) else (laws_FnSums.j0 k t219 t220 t221 t222 t223 t227 t228 t229 t233 t234 t235 bt239.1 bt239.2 true)))) else (laws_FnSums.j0 k t219 t220 t221 t222 t223 t227 t228 t229 t233 t234 t235 bt239.1 bt239.2 true))))))) = some true := H
    have A8 := Aside0.mk A80
    clear A80
    replace H := Option.bind_eq_some_iff.mp H
    obtain ⟨⟨t236, t237, t238⟩, A90, H⟩ := H
    replace H : ((impl_LessTagged.f k t219 t220).bind fun bt239 => ((spec_LessTagged.f t219 t220).bind fun bt241 => (if (t223 != t226) = true then (laws_FnSums.j0 k t219 t220 t221 t222 t223 t227 t228 t229 t233 t234 t235 bt239.1 bt239.2 true) else (if (t222 != t225) = true then (laws_FnSums.j0 k t219 t220 t221 t222 t223 t227 t228 t229 t233 t234 t235 bt239.1 bt239.2 true) else (if t221 = t224 then (if (t229 != t232) = true then (laws_FnSums.j0 k t219 t220 t221 t222 t223 t227 t228 t229 t233 t234 t235 bt239.1 bt239.2 true) else (if (t228 != t231) = true then (laws_FnSums.j0 k t219 t220 t221 t222 t223 t227 t228 t229 t233 t234 t235 bt239.1 bt239.2 true) else (if t227 = t230 then (if (t235 != t238) = true then (laws_FnSums.j0 k t219 t220 t221 t222 t223 t227 t228 t229 t233 t234 t235 bt239.1 bt239.2 true) else (if (t234 != t237) = true then (laws_FnSums.j0 k t219 t220 t221 t222 t223 t227 t228 t229 t233 t234 t235 bt239.1 bt239.2 true) else (if t233 = t236 then (if (bt239.2 != bt241.2) = true then (laws_FnSums.j0 k t219 t220 t221 t222 t223 t227 t228 t229 t233 t234 t235 bt239.1 bt239.2 true) else (laws_FnSums.j0 k t219 t220 t221 t222 t223 t227 t228 t229 t233 t234 t235 bt239.1 bt239.2 (bt239.1 != bt241.1))) else (laws_FnSums.j0 k t219 t220 t221 t222 t223 t227 t228 t229 t233 t234 t235 bt239.1 bt239.2 true)))) else (laws_FnSums.j0 k t219 t220 t221 t222 t223 t227 t228 t229 t233 t234 t235 bt239.1 bt239.2 true)))) else (laws_FnSums.j0 k t219 t220 t221 t222 t223 t227 t228 t229 t233 t234 t235 bt239.1 bt239.2 true)))))) = some true := H
    have A9 := Aside0.mk A90
    clear A90
    replace H := Option.bind_eq_some_iff.mp H
    obtain ⟨⟨t239, t240⟩, A100, H⟩ := H
    replace H : ((spec_LessTagged.f t219 t220).bind fun bt241 => (if (t223 != t226) = true then (laws_FnSums.j0 k t219 t220 t221 t222 t223 t227 t228 t229 t233 t234 t235 t239 t240 true) else (if (t222 != t225) = true then (laws_FnSums.j0 k t219 t220 t221 t222 t223 t227 t228 t229 t233 t234 t235 t239 t240 true) else (if t221 = t224 then (if (t229 != t232) = true then (laws_FnSums.j0 k t219 t220 t221 t222 t223 t227 t228 t229 t233 t234 t235 t239 t240 true) else (if (t228 != t231) = true then (laws_FnSums.j0 k t219 t220 t221 t222 t223 t227 t228 t229 t233 t234 t235 t239 t240 true) else (if t227 = t230 then (if (t235 != t238) = true then (laws_FnSums.j0 k t219 t220 t221 t222 t223 t227 t228 t229 t233 t234 t235 t239 t240 true) else (if (t234 != t237) = true then (laws_FnSums.j0 k t219 t220 t221 t222 t223 t227 t228 t229 t233 t234 t235 t239 t240 true) else (if t233 = t236 then (if (t240 != bt241.2) = true then (laws_FnSums.j0 k t219 t220 t221 t222 t223 t227 t228 t229 t233 t234 t235 t239 t240 true) else (laws_FnSums.j0 k t219 t220 t221 t222 t223 t227 t228 t229 t233 t234 t235 t239 t240 (t239 != bt241.1))) else (laws_FnSums.j0 k t219 t220 t221 t222 t223 t227 t228 t229 t233 t234 t235 t239 t240 true)))) else (laws_FnSums.j0 k t219 t220 t221 t222 t223 t227 t228 t229 t233 t234 t235 t239 t240 true)))) else (laws_FnSums.j0 k t219 t220 t221 t222 t223 t227 t228 t229 t233 t234 t235 t239 t240 true))))) = some true := H
    have A10 := Aside0.mk A100
    clear A100
    replace H := Option.bind_eq_some_iff.mp H
    obtain ⟨⟨t241, t242⟩, A110, H⟩ := H
    replace H : (if (t223 != t226) = true then (laws_FnSums.j0 k t219 t220 t221 t222 t223 t227 t228 t229 t233 t234 t235 t239 t240 true) else (if (t222 != t225) = true then (laws_FnSums.j0 k t219 t220 t221 t222 t223 t227 t228 t229 t233 t234 t235 t239 t240 true) else (if t221 = t224 then (if (t229 != t232) = true then (laws_FnSums.j0 k t219 t220 t221 t222 t223 t227 t228 t229 t233 t234 t235 t239 t240 true) else (if (t228 != t231) = true then (laws_FnSums.j0 k t219 t220 t221 t222 t223 t227 t228 t229 t233 t234 t235 t239 t240 true) else (if t227 = t230 then (if (t235 != t238) = true then (laws_FnSums.j0 k t219 t220 t221 t222 t223 t227 t228 t229 t233 t234 t235 t239 t240 true) else (if (t234 != t237) = true then (laws_FnSums.j0 k t219 t220 t221 t222 t223 t227 t228 t229 t233 t234 t235 t239 t240 true) else (if t233 = t236 then (if (t240 != t242) = true then (laws_FnSums.j0 k t219 t220 t221 t222 t223 t227 t228 t229 t233 t234 t235 t239 t240 true) else (laws_FnSums.j0 k t219 t220 t221 t222 t223 t227 t228 t229 t233 t234 t235 t239 t240 (t239 != t241))) else (laws_FnSums.j0 k t219 t220 t221 t222 t223 t227 t228 t229 t233 t234 t235 t239 t240 true)))) else (laws_FnSums.j0 k t219 t220 t221 t222 t223 t227 t228 t229 t233 t234 t235 t239 t240 true)))) else (laws_FnSums.j0 k t219 t220 t221 t222 t223 t227 t228 t229 t233 t234 t235 t239 t240 true)))) = some true := H
    have A11 := Aside0.mk A110
    clear A110
    have HC12 := Aside0.mk H
    clear H
    go_enter Try.func9, Try.ntmps9
    go_upto_region 12 with (first | ((with_reducible refine gate_callee (f := 37) rfl ?_); refine goesL_ (some 38) rfl rfl Try.func37 (by kernel_rfl) rfl #[.slice A0 l0.length c0] rfl (by (try simp only [List.map_toArray, List.map_cons, List.map_nil]); first | done | rfl | (simp only [List.length_drop, List.length_take]; rfl)) ?_; (with_reducible refine (spec_DrawAddTagged.calls _ _ l0 t219 t220 _ ?side1 ?side2 A3.out).mono ?_); (case side1 => repeat (first | exact HR0.out | (with_reducible refine Kd.C_alloc ?_ _) | (with_reducible refine Kd.C_drewN ?_ _) | (with_reducible refine Kd.C_drew ?_))); (case side2 => exact HC0.out); rintro e w13 ⟨rfl, hb⟩; refine ⟨_, rfl, ?_⟩; have n0_ := Aside0.mk (below_step (by repeat (first | (with_reducible first | exact HB.out | apply below_alloc | apply pw_below_drewN | apply below_drew1) | exact HB.out)) hb); clear HB; have HB := n0_; clear n0_; (try clear hb); (try clear hb2); (try clear hk); (try clear hi)) | ((with_reducible refine gate_callee (f := 38) rfl ?_); refine goesL_ (some 44) rfl rfl Try.func38 (by kernel_rfl) rfl #[.int .i64 t219, .int .i64 t220] rfl (by (try simp only [List.map_toArray, List.map_cons, List.map_nil]); first | done | rfl | (simp only [List.length_drop, List.length_take]; rfl)) ?_; (with_reducible refine (impl_AddTagged.calls k t219 t220 t221 t222 t223 _ A4.out).mono ?_); rintro e w' ⟨rfl, ⟨nd, rfl⟩⟩; refine ⟨_, rfl, ?_⟩) | ((with_reducible refine gate_callee (f := 39) rfl ?_); refine goesL_ (some 51) rfl rfl Try.func39 (by kernel_rfl) rfl #[.int .i64 t219, .int .i64 t220] rfl (by (try simp only [List.map_toArray, List.map_cons, List.map_nil]); first | done | rfl | (simp only [List.length_drop, List.length_take]; rfl)) ?_; (with_reducible refine (spec_AddTagged.calls t219 t220 t224 t225 t226 _ A5.out).mono ?_); rintro e w' ⟨rfl, ⟨nd, rfl⟩⟩; refine ⟨_, rfl, ?_⟩) | ((with_reducible refine gate_callee (f := 40) rfl ?_); refine goesL_ (some 58) rfl rfl Try.func40 (by kernel_rfl) rfl #[.int .i64 t219, .int .i64 t220] rfl (by (try simp only [List.map_toArray, List.map_cons, List.map_nil]); first | done | rfl | (simp only [List.length_drop, List.length_take]; rfl)) ?_; (with_reducible refine (impl_SubTagged.calls k t219 t220 t227 t228 t229 _ A6.out).mono ?_); rintro e w' ⟨rfl, ⟨nd, rfl⟩⟩; refine ⟨_, rfl, ?_⟩) | ((with_reducible refine gate_callee (f := 41) rfl ?_); refine goesL_ (some 65) rfl rfl Try.func41 (by kernel_rfl) rfl #[.int .i64 t219, .int .i64 t220] rfl (by (try simp only [List.map_toArray, List.map_cons, List.map_nil]); first | done | rfl | (simp only [List.length_drop, List.length_take]; rfl)) ?_; (with_reducible refine (spec_SubTagged.calls t219 t220 t230 t231 t232 _ A7.out).mono ?_); rintro e w' ⟨rfl, ⟨nd, rfl⟩⟩; refine ⟨_, rfl, ?_⟩) | ((with_reducible refine gate_callee (f := 42) rfl ?_); refine goesL_ (some 72) rfl rfl Try.func42 (by kernel_rfl) rfl #[.int .i64 t219, .int .i64 t220] rfl (by (try simp only [List.map_toArray, List.map_cons, List.map_nil]); first | done | rfl | (simp only [List.length_drop, List.length_take]; rfl)) ?_; (with_reducible refine (impl_MulTagged.calls k t219 t220 t233 t234 t235 _ A8.out).mono ?_); rintro e w' ⟨rfl, ⟨nd, rfl⟩⟩; refine ⟨_, rfl, ?_⟩) | ((with_reducible refine gate_callee (f := 43) rfl ?_); refine goesL_ (some 79) rfl rfl Try.func43 (by kernel_rfl) rfl #[.int .i64 t219, .int .i64 t220] rfl (by (try simp only [List.map_toArray, List.map_cons, List.map_nil]); first | done | rfl | (simp only [List.length_drop, List.length_take]; rfl)) ?_; (with_reducible refine (spec_MulTagged.calls t219 t220 t236 t237 t238 _ A9.out).mono ?_); rintro e w' ⟨rfl, ⟨nd, rfl⟩⟩; refine ⟨_, rfl, ?_⟩) | ((with_reducible refine gate_callee (f := 44) rfl ?_); refine goesL_ (some 86) rfl rfl Try.func44 (by kernel_rfl) rfl #[.int .i64 t219, .int .i64 t220] rfl (by (try simp only [List.map_toArray, List.map_cons, List.map_nil]); first | done | rfl | (simp only [List.length_drop, List.length_take]; rfl)) ?_; (with_reducible refine (impl_LessTagged.calls k t219 t220 t239 t240 _ A10.out).mono ?_); rintro e w' ⟨rfl, ⟨nd, rfl⟩⟩; refine ⟨_, rfl, ?_⟩) | ((with_reducible refine gate_callee (f := 45) rfl ?_); refine goesL_ (some 92) rfl rfl Try.func45 (by kernel_rfl) rfl #[.int .i64 t219, .int .i64 t220] rfl (by (try simp only [List.map_toArray, List.map_cons, List.map_nil]); first | done | rfl | (simp only [List.length_drop, List.length_take]; rfl)) ?_; (with_reducible refine (spec_LessTagged.calls t219 t220 t241 t242 _ A11.out).mono ?_); rintro e w' ⟨rfl, ⟨nd, rfl⟩⟩; refine ⟨_, rfl, ?_⟩))
    (try simp only [Act.put, List.setIfInBounds_toArray, List.set_cons_zero, List.set_cons_succ])
    go_cut [147] (fun v147 wc => ∃ (kq : Nat) (x147_11 : Bool), v147 = .bool x147_11 ∧ Aside0 (laws_FnSums.j0 kq t219 t220 t221 t222 t223 t227 t228 t229 t233 t234 t235 t239 t240 x147_11 = some true) ∧ Aside0 (kq ≤ k) ∧ Aside0 (Below w.heap.size w wc))
    case first =>
      have H := HC12.out
      clear HC12
      by_cases c14 : (t223 != t226) = true
      · rw [if_pos c14] at H
        have c14b0 : (t223 != t226) = true := c14
        (try (have c14b1 : decide (t223 = t226) = false := by simpa using c14))
        (try (have c14b2 : (t223 == t226) = false := by simpa using c14))
        (try (have c14b3 : ¬ (t223 = t226) := by simpa using c14))
        clear c14
        (first | rw [c14b0] | (simp only [i64_w, i32_w]; rw [c14b0]) | skip)
        as_aux_lemma =>
          have H' := Aside0.mk H
          clear H
          go_wp2
          go_meet
          case rel => exact ⟨_, (true), (by first | rfl | (simp; done) | (simp [*]; done)), H', ⟨by first | omega | exact Nat.le_refl _⟩, ⟨by repeat (first | (with_reducible first | exact HB.out | apply below_alloc | apply pw_below_drewN | apply below_drew1) | exact HB.out)⟩⟩
      · rw [if_neg c14] at H
        have c14b0 : (t223 != t226) = false := by simpa using c14
        (try (have c14b1 : decide (t223 = t226) = true := by simpa using c14))
        (try (have c14b2 : (t223 == t226) = true := by simpa using c14))
        clear c14
        (first | rw [c14b0] | (simp only [i64_w, i32_w]; rw [c14b0]) | skip)
        by_cases c15 : (t222 != t225) = true
        · rw [if_pos c15] at H
          have c15b0 : (t222 != t225) = true := c15
          (try (have c15b1 : decide (t222 = t225) = false := by simpa using c15))
          (try (have c15b2 : (t222 == t225) = false := by simpa using c15))
          (try (have c15b3 : ¬ (t222 = t225) := by simpa using c15))
          clear c15
          as_aux_lemma =>
            have H' := Aside0.mk H
            clear H
            go_wp2
            go_meet
            case rel => exact ⟨_, (true), (by first | rfl | (simp; done) | (simp [*]; done)), H', ⟨by first | omega | exact Nat.le_refl _⟩, ⟨by repeat (first | (with_reducible first | exact HB.out | apply below_alloc | apply pw_below_drewN | apply below_drew1) | exact HB.out)⟩⟩
        · rw [if_neg c15] at H
          have c15b0 : (t222 != t225) = false := by simpa using c15
          (try (have c15b1 : decide (t222 = t225) = true := by simpa using c15))
          (try (have c15b2 : (t222 == t225) = true := by simpa using c15))
          clear c15
          by_cases c16 : t221 = t224
          · rw [if_pos c16] at H
            have c16b0 : (t221 == t224) = true := beq_iff_eq.mpr c16
            have c16b1 : (t221 != t224) = false := bne_eq_false_iff_eq.mpr c16
            clear c16
            by_cases c17 : (t229 != t232) = true
            · rw [if_pos c17] at H
              have c17b0 : (t229 != t232) = true := c17
              (try (have c17b1 : decide (t229 = t232) = false := by simpa using c17))
              (try (have c17b2 : (t229 == t232) = false := by simpa using c17))
              (try (have c17b3 : ¬ (t229 = t232) := by simpa using c17))
              clear c17
              as_aux_lemma =>
                have H' := Aside0.mk H
                clear H
                go_wp2
                go_meet
                case rel => exact ⟨_, (true), (by first | rfl | (simp; done) | (simp [*]; done)), H', ⟨by first | omega | exact Nat.le_refl _⟩, ⟨by repeat (first | (with_reducible first | exact HB.out | apply below_alloc | apply pw_below_drewN | apply below_drew1) | exact HB.out)⟩⟩
            · rw [if_neg c17] at H
              have c17b0 : (t229 != t232) = false := by simpa using c17
              (try (have c17b1 : decide (t229 = t232) = true := by simpa using c17))
              (try (have c17b2 : (t229 == t232) = true := by simpa using c17))
              clear c17
              by_cases c18 : (t228 != t231) = true
              · rw [if_pos c18] at H
                have c18b0 : (t228 != t231) = true := c18
                (try (have c18b1 : decide (t228 = t231) = false := by simpa using c18))
                (try (have c18b2 : (t228 == t231) = false := by simpa using c18))
                (try (have c18b3 : ¬ (t228 = t231) := by simpa using c18))
                clear c18
                as_aux_lemma =>
                  have H' := Aside0.mk H
                  clear H
                  go_wp2
                  go_meet
                  case rel => exact ⟨_, (true), (by first | rfl | (simp; done) | (simp [*]; done)), H', ⟨by first | omega | exact Nat.le_refl _⟩, ⟨by repeat (first | (with_reducible first | exact HB.out | apply below_alloc | apply pw_below_drewN | apply below_drew1) | exact HB.out)⟩⟩
              · rw [if_neg c18] at H
                have c18b0 : (t228 != t231) = false := by simpa using c18
                (try (have c18b1 : decide (t228 = t231) = true := by simpa using c18))
                (try (have c18b2 : (t228 == t231) = true := by simpa using c18))
                clear c18
                by_cases c19 : t227 = t230
                · rw [if_pos c19] at H
                  have c19b0 : (t227 == t230) = true := beq_iff_eq.mpr c19
                  have c19b1 : (t227 != t230) = false := bne_eq_false_iff_eq.mpr c19
                  clear c19
                  by_cases c20 : (t235 != t238) = true
                  · rw [if_pos c20] at H
                    have c20b0 : (t235 != t238) = true := c20
                    (try (have c20b1 : decide (t235 = t238) = false := by simpa using c20))
                    (try (have c20b2 : (t235 == t238) = false := by simpa using c20))
                    (try (have c20b3 : ¬ (t235 = t238) := by simpa using c20))
                    clear c20
                    as_aux_lemma =>
                      have H' := Aside0.mk H
                      clear H
                      go_wp2
                      go_meet
                      case rel => exact ⟨_, (true), (by first | rfl | (simp; done) | (simp [*]; done)), H', ⟨by first | omega | exact Nat.le_refl _⟩, ⟨by repeat (first | (with_reducible first | exact HB.out | apply below_alloc | apply pw_below_drewN | apply below_drew1) | exact HB.out)⟩⟩
                  · rw [if_neg c20] at H
                    have c20b0 : (t235 != t238) = false := by simpa using c20
                    (try (have c20b1 : decide (t235 = t238) = true := by simpa using c20))
                    (try (have c20b2 : (t235 == t238) = true := by simpa using c20))
                    clear c20
                    by_cases c21 : (t234 != t237) = true
                    · rw [if_pos c21] at H
                      have c21b0 : (t234 != t237) = true := c21
                      (try (have c21b1 : decide (t234 = t237) = false := by simpa using c21))
                      (try (have c21b2 : (t234 == t237) = false := by simpa using c21))
                      (try (have c21b3 : ¬ (t234 = t237) := by simpa using c21))
                      clear c21
                      as_aux_lemma =>
                        have H' := Aside0.mk H
                        clear H
                        go_wp2
                        go_meet
                        case rel => exact ⟨_, (true), (by first | rfl | (simp; done) | (simp [*]; done)), H', ⟨by first | omega | exact Nat.le_refl _⟩, ⟨by repeat (first | (with_reducible first | exact HB.out | apply below_alloc | apply pw_below_drewN | apply below_drew1) | exact HB.out)⟩⟩
                    · rw [if_neg c21] at H
                      have c21b0 : (t234 != t237) = false := by simpa using c21
                      (try (have c21b1 : decide (t234 = t237) = true := by simpa using c21))
                      (try (have c21b2 : (t234 == t237) = true := by simpa using c21))
                      clear c21
                      by_cases c22 : t233 = t236
                      · rw [if_pos c22] at H
                        have c22b0 : (t233 == t236) = true := beq_iff_eq.mpr c22
                        have c22b1 : (t233 != t236) = false := bne_eq_false_iff_eq.mpr c22
                        clear c22
                        by_cases c23 : (t240 != t242) = true
                        · rw [if_pos c23] at H
                          have c23b0 : (t240 != t242) = true := c23
                          (try (have c23b1 : decide (t240 = t242) = false := by simpa using c23))
                          (try (have c23b2 : (t240 == t242) = false := by simpa using c23))
                          (try (have c23b3 : ¬ (t240 = t242) := by simpa using c23))
                          clear c23
                          as_aux_lemma =>
                            have H' := Aside0.mk H
                            clear H
                            go_wp2
                            go_meet
                            case rel => exact ⟨_, (true), (by first | rfl | (simp; done) | (simp [*]; done)), H', ⟨by first | omega | exact Nat.le_refl _⟩, ⟨by repeat (first | (with_reducible first | exact HB.out | apply below_alloc | apply pw_below_drewN | apply below_drew1) | exact HB.out)⟩⟩
                        · rw [if_neg c23] at H
                          have c23b0 : (t240 != t242) = false := by simpa using c23
                          (try (have c23b1 : decide (t240 = t242) = true := by simpa using c23))
                          (try (have c23b2 : (t240 == t242) = true := by simpa using c23))
                          clear c23
                          as_aux_lemma =>
                            have H' := Aside0.mk H
                            clear H
                            go_wp2
                            go_meet
                            case rel => exact ⟨_, ((t239 != t241)), (by first | rfl | (simp; done) | (simp [*]; done)), H', ⟨by first | omega | exact Nat.le_refl _⟩, ⟨by repeat (first | (with_reducible first | exact HB.out | apply below_alloc | apply pw_below_drewN | apply below_drew1) | exact HB.out)⟩⟩
                      · rw [if_neg c22] at H
                        have c22b0 : (t233 == t236) = false := beq_eq_false_iff_ne.mpr c22
                        have c22b1 : (t233 != t236) = true := bne_iff_ne.mpr c22
                        as_aux_lemma =>
                          have H' := Aside0.mk H
                          clear H
                          go_wp2
                          go_meet
                          case rel => exact ⟨_, (true), (by first | rfl | (simp; done) | (simp [*]; done)), H', ⟨by first | omega | exact Nat.le_refl _⟩, ⟨by repeat (first | (with_reducible first | exact HB.out | apply below_alloc | apply pw_below_drewN | apply below_drew1) | exact HB.out)⟩⟩
                · rw [if_neg c19] at H
                  have c19b0 : (t227 == t230) = false := beq_eq_false_iff_ne.mpr c19
                  have c19b1 : (t227 != t230) = true := bne_iff_ne.mpr c19
                  as_aux_lemma =>
                    have H' := Aside0.mk H
                    clear H
                    go_wp2
                    go_meet
                    case rel => exact ⟨_, (true), (by first | rfl | (simp; done) | (simp [*]; done)), H', ⟨by first | omega | exact Nat.le_refl _⟩, ⟨by repeat (first | (with_reducible first | exact HB.out | apply below_alloc | apply pw_below_drewN | apply below_drew1) | exact HB.out)⟩⟩
          · rw [if_neg c16] at H
            have c16b0 : (t221 == t224) = false := beq_eq_false_iff_ne.mpr c16
            have c16b1 : (t221 != t224) = true := bne_iff_ne.mpr c16
            as_aux_lemma =>
              have H' := Aside0.mk H
              clear H
              go_wp2
              go_meet
              case rel => exact ⟨_, (true), (by first | rfl | (simp; done) | (simp [*]; done)), H', ⟨by first | omega | exact Nat.le_refl _⟩, ⟨by repeat (first | (with_reducible first | exact HB.out | apply below_alloc | apply pw_below_drewN | apply below_drew1) | exact HB.out)⟩⟩
    case rest =>
      clear HC12
      try clear c1
      try clear c2
      try clear c2b0
      try clear c2b1
      try clear p2
      try clear c3
      try clear c4
      try clear c9
      try clear c14
      try clear c14b0
      try clear c14b1
      try clear c14b2
      try clear c15
      try clear c15b0
      try clear c15b1
      try clear c15b2
      try clear c16
      try clear c16b0
      try clear c16b1
      try clear c17
      try clear c17b0
      try clear c17b1
      try clear c17b2
      try clear c18
      try clear c18b0
      try clear c18b1
      try clear c18b2
      try clear c19
      try clear c19b0
      try clear c19b1
      try clear c20
      try clear c20b0
      try clear c20b1
      try clear c20b2
      try clear c21
      try clear c21b0
      try clear c21b1
      try clear c21b2
      try clear c22
      try clear c22b0
      try clear c22b1
      try clear c23
      try clear c23b0
      try clear c23b1
      try clear c23b2
      obtain ⟨kq, x147_11, rfl, HA, HJ11, HB⟩ := hcut
      cases kq with
      | zero => exact absurd HA.out (by simp [laws_FnSums.j0])
      | succ kj11 =>
        have H := HA.out
        clear HA
        simp only [laws_FnSums.j0] at H
        by_cases c24 : x147_11 = true
        · subst c24
          have H1 : (some false) = some true := by rw [if_pos rfl] at H; exact H
          clear H
          have H := H1
          clear H1
          as_aux_lemma =>
            exact absurd H (by simp)
        · replace c24 := Bool.eq_false_iff.mpr c24
          subst c24
          have H1 : (if t223 = true then ((impl_UntagSmall.f t219).bind fun bt243 => ((impl_UntagSmall.f t220).bind fun bt245 => (if (t239 != (decide (bt243.1 < bt245.1))) = true then (laws_FnSums.j1 kj11 t219 t220 t221 t222 t227 t228 t233 t234 bt243.1 bt245.1 true) else (if (wrap64 (bt243.1 + bt245.1)) ≥ (-16384) then (laws_FnSums.j1 kj11 t219 t220 t221 t222 t227 t228 t233 t234 bt243.1 bt245.1 (t222 != (decide ((wrap64 (bt243.1 + bt245.1)) ≤ 16383)))) else (laws_FnSums.j1 kj11 t219 t220 t221 t222 t227 t228 t233 t234 bt243.1 bt245.1 (t222 != false)))))) else (if t229 = true then (some false) else (if t235 = true then (some false) else (some (!t240))))) = some true := by rw [if_neg (show ¬ (false = true) by decide)] at H; exact H
          clear H
          have H := H1
          clear H1
          by_cases c25 : t223 = true
          · subst c25
            have H1 : ((impl_UntagSmall.f t219).bind fun bt243 => ((impl_UntagSmall.f t220).bind fun bt245 => (if (t239 != (decide (bt243.1 < bt245.1))) = true then (laws_FnSums.j1 kj11 t219 t220 t221 t222 t227 t228 t233 t234 bt243.1 bt245.1 true) else (if (wrap64 (bt243.1 + bt245.1)) ≥ (-16384) then (laws_FnSums.j1 kj11 t219 t220 t221 t222 t227 t228 t233 t234 bt243.1 bt245.1 (t222 != (decide ((wrap64 (bt243.1 + bt245.1)) ≤ 16383)))) else (laws_FnSums.j1 kj11 t219 t220 t221 t222 t227 t228 t233 t234 bt243.1 bt245.1 (t222 != false)))))) = some true := by rw [if_pos rfl] at H; exact H
            clear H
            have H := H1
            clear H1
            replace H := Option.bind_eq_some_iff.mp H
            obtain ⟨⟨t243, t244⟩, A260, H⟩ := H
            replace H : ((impl_UntagSmall.f t220).bind fun bt245 => (if (t239 != (decide (t243 < bt245.1))) = true then (laws_FnSums.j1 kj11 t219 t220 t221 t222 t227 t228 t233 t234 t243 bt245.1 true) else (if (wrap64 (t243 + bt245.1)) ≥ (-16384) then (laws_FnSums.j1 kj11 t219 t220 t221 t222 t227 t228 t233 t234 t243 bt245.1 (t222 != (decide ((wrap64 (t243 + bt245.1)) ≤ 16383)))) else (laws_FnSums.j1 kj11 t219 t220 t221 t222 t227 t228 t233 t234 t243 bt245.1 (t222 != false))))) = some true := H
            have A26 := Aside0.mk A260
            clear A260
            replace H := Option.bind_eq_some_iff.mp H
            obtain ⟨⟨t245, t246⟩, A270, H⟩ := H
            replace H : (if (t239 != (decide (t243 < t245))) = true then (laws_FnSums.j1 kj11 t219 t220 t221 t222 t227 t228 t233 t234 t243 t245 true) else (if (wrap64 (t243 + t245)) ≥ (-16384) then (laws_FnSums.j1 kj11 t219 t220 t221 t222 t227 t228 t233 t234 t243 t245 (t222 != (decide ((wrap64 (t243 + t245)) ≤ 16383)))) else (laws_FnSums.j1 kj11 t219 t220 t221 t222 t227 t228 t233 t234 t243 t245 (t222 != false)))) = some true := H
            have A27 := Aside0.mk A270
            clear A270
            have HC28 := Aside0.mk H
            clear H
            go_upto_region 18 with (first | ((with_reducible refine gate_callee (f := 46) rfl ?_); refine goesL_ (some 162) rfl rfl Try.func46 (by kernel_rfl) rfl #[.int .i64 t219] rfl (by (try simp only [List.map_toArray, List.map_cons, List.map_nil]); first | done | rfl | (simp only [List.length_drop, List.length_take]; rfl)) ?_; (with_reducible refine (impl_UntagSmall.calls t219 t243 t244 _ A26.out).mono ?_); rintro e w' ⟨rfl, ⟨nd, rfl⟩⟩; refine ⟨_, rfl, ?_⟩) | ((with_reducible refine gate_callee (f := 46) rfl ?_); refine goesL_ (some 167) rfl rfl Try.func46 (by kernel_rfl) rfl #[.int .i64 t220] rfl (by (try simp only [List.map_toArray, List.map_cons, List.map_nil]); first | done | rfl | (simp only [List.length_drop, List.length_take]; rfl)) ?_; (with_reducible refine (impl_UntagSmall.calls t220 t245 t246 _ A27.out).mono ?_); rintro e w' ⟨rfl, ⟨nd, rfl⟩⟩; refine ⟨_, rfl, ?_⟩))
            (try simp only [Act.put, List.setIfInBounds_toArray, List.set_cons_zero, List.set_cons_succ])
            go_cut [188] (fun v188 wc => ∃ (kq : Nat) (x188_27 : Bool), v188 = .bool x188_27 ∧ Aside0 (laws_FnSums.j1 kq t219 t220 t221 t222 t227 t228 t233 t234 t243 t245 x188_27 = some true) ∧ Aside0 (kq ≤ kj11) ∧ Aside0 (Below w.heap.size w wc))
            case first =>
              have H := HC28.out
              clear HC28
              by_cases c29 : (t239 != (decide (t243 < t245))) = true
              · rw [if_pos c29] at H
                have c29b0 : (t239 != (decide (t243 < t245))) = true := c29
                (try (have c29b1 : decide (t239 = (decide (t243 < t245))) = false := by simpa using c29))
                (try (have c29b2 : (t239 == (decide (t243 < t245))) = false := by simpa using c29))
                (try (have c29b3 : ¬ (t239 = (decide (t243 < t245))) := by simpa using c29))
                clear c29
                (first | rw [c29b0] | (simp only [i64_w, i32_w]; rw [c29b0]) | skip)
                as_aux_lemma =>
                  have H' := Aside0.mk H
                  clear H
                  go_wp2
                  go_meet
                  case rel => exact ⟨_, (true), (by first | rfl | (simp; done) | (simp [*]; done)), H', ⟨by have := HJ11.out; first | omega | exact Nat.le_refl _⟩, ⟨by repeat (first | (with_reducible first | exact HB.out | apply below_alloc | apply pw_below_drewN | apply below_drew1) | exact HB.out)⟩⟩
              · rw [if_neg c29] at H
                have c29b0 : (t239 != (decide (t243 < t245))) = false := by simpa using c29
                (try (have c29b1 : decide (t239 = (decide (t243 < t245))) = true := by simpa using c29))
                (try (have c29b2 : (t239 == (decide (t243 < t245))) = true := by simpa using c29))
                clear c29
                (first | rw [c29b0] | (simp only [i64_w, i32_w]; rw [c29b0]) | skip)
                by_cases c30 : (wrap64 (t243 + t245)) ≥ (-16384)
                · rw [if_pos c30] at H
                  have c30b0 : decide ((-16384) ≤ (wrap64 (t243 + t245))) = true := decide_eq_true c30
                  clear c30
                  as_aux_lemma =>
                    have H' := Aside0.mk H
                    clear H
                    go_wp2
                    go_meet
                    case rel => exact ⟨_, ((t222 != (decide ((wrap64 (t243 + t245)) ≤ 16383)))), (by first | rfl | (simp; done) | (simp [*]; done)), H', ⟨by have := HJ11.out; first | omega | exact Nat.le_refl _⟩, ⟨by repeat (first | (with_reducible first | exact HB.out | apply below_alloc | apply pw_below_drewN | apply below_drew1) | exact HB.out)⟩⟩
                · rw [if_neg c30] at H
                  have c30b0 : decide ((-16384) ≤ (wrap64 (t243 + t245))) = false := decide_eq_false c30
                  clear c30
                  as_aux_lemma =>
                    have H' := Aside0.mk H
                    clear H
                    go_wp2
                    go_meet
                    case rel => exact ⟨_, ((t222 != false)), (by first | rfl | (simp; done) | (simp [*]; done)), H', ⟨by have := HJ11.out; first | omega | exact Nat.le_refl _⟩, ⟨by repeat (first | (with_reducible first | exact HB.out | apply below_alloc | apply pw_below_drewN | apply below_drew1) | exact HB.out)⟩⟩
            case rest =>
              clear HC28
              try clear c1
              try clear c2
              try clear c2b0
              try clear c2b1
              try clear p2
              try clear c3
              try clear c4
              try clear p6
              try clear c9
              try clear c14
              try clear c14b0
              try clear c14b1
              try clear c14b2
              try clear c15
              try clear c15b0
              try clear c15b1
              try clear c15b2
              try clear c16
              try clear c16b0
              try clear c16b1
              try clear c17
              try clear c17b0
              try clear c17b1
              try clear c17b2
              try clear c18
              try clear c18b0
              try clear c18b1
              try clear c18b2
              try clear c19
              try clear c19b0
              try clear c19b1
              try clear c20
              try clear c20b0
              try clear c20b1
              try clear c20b2
              try clear c21
              try clear c21b0
              try clear c21b1
              try clear c21b2
              try clear c22
              try clear c22b0
              try clear c22b1
              try clear c23
              try clear c23b0
              try clear c23b1
              try clear c23b2
              try clear c24
              try clear c25
              try clear c29
              try clear c29b0
              try clear c29b1
              try clear c29b2
              try clear c30
              try clear c30b0
              try clear p2
              obtain ⟨kq, x188_27, rfl, HA, HJ27, HB⟩ := hcut
              cases kq with
              | zero => exact absurd HA.out (by simp [laws_FnSums.j1])
              | succ kj27 =>
                have H := HA.out
                clear HA
                simp only [laws_FnSums.j1] at H
                by_cases c31 : x188_27 = true
                · subst c31
                  have H1 : (some false) = some true := by rw [if_pos rfl] at H; exact H
                  clear H
                  have H := H1
                  clear H1
                  as_aux_lemma =>
                    exact absurd H (by simp)
                · replace c31 := Bool.eq_false_iff.mpr c31
                  subst c31
                  have H1 : (if t222 = true then (if t221 = (Go.bits .and .i64 (wrap64 ((wrap64 (t219 + t220)) - 1)) 65535) then (if t228 = true then (laws_FnSums.j2 kj27 t233 t234 t243 t245 (t227 != (Go.bits .and .i64 (wrap64 ((wrap64 (t219 - t220)) + 1)) 65535))) else (laws_FnSums.j2 kj27 t233 t234 t243 t245 false)) else (laws_FnSums.j2 kj27 t233 t234 t243 t245 true)) else (if t228 = true then (laws_FnSums.j2 kj27 t233 t234 t243 t245 (t227 != (Go.bits .and .i64 (wrap64 ((wrap64 (t219 - t220)) + 1)) 65535))) else (laws_FnSums.j2 kj27 t233 t234 t243 t245 false))) = some true := by rw [if_neg (show ¬ (false = true) by decide)] at H; exact H
                  clear H
                  have H := H1
                  clear H1
                  have HC32 := Aside0.mk H
                  clear H
                  go_upto_region 20 with (fail)
                  go_cut [210] (fun v210 wc => ∃ (kq : Nat) (x210_31 : Bool), v210 = .bool x210_31 ∧ Aside0 (laws_FnSums.j2 kq t233 t234 t243 t245 x210_31 = some true) ∧ Aside0 (kq ≤ kj27) ∧ Aside0 (Below w.heap.size w wc))
                  case first =>
                    have H := HC32.out
                    clear HC32
                    by_cases c33 : t222 = true
                    · subst c33
                      have H1 : (if t221 = (Go.bits .and .i64 (wrap64 ((wrap64 (t219 + t220)) - 1)) 65535) then (if t228 = true then (laws_FnSums.j2 kj27 t233 t234 t243 t245 (t227 != (Go.bits .and .i64 (wrap64 ((wrap64 (t219 - t220)) + 1)) 65535))) else (laws_FnSums.j2 kj27 t233 t234 t243 t245 false)) else (laws_FnSums.j2 kj27 t233 t234 t243 t245 true)) = some true := by rw [if_pos rfl] at H; exact H
                      clear H
                      have H := H1
                      clear H1
                      by_cases c34 : t221 = (Go.bits .and .i64 (wrap64 ((wrap64 (t219 + t220)) - 1)) 65535)
                      · rw [if_pos c34] at H
                        have c34b0 : (t221 == (Go.bits .and .i64 (wrap64 ((wrap64 (t219 + t220)) - 1)) 65535)) = true := beq_iff_eq.mpr c34
                        have c34b1 : (t221 != (Go.bits .and .i64 (wrap64 ((wrap64 (t219 + t220)) - 1)) 65535)) = false := bne_eq_false_iff_eq.mpr c34
                        clear c34
                        (first | rw [c34b0] | (simp only [i64_w, i32_w]; rw [c34b0]) | skip)
                        by_cases c35 : t228 = true
                        · subst c35
                          have H1 : (laws_FnSums.j2 kj27 t233 t234 t243 t245 (t227 != (Go.bits .and .i64 (wrap64 ((wrap64 (t219 - t220)) + 1)) 65535))) = some true := by rw [if_pos rfl] at H; exact H
                          clear H
                          have H := H1
                          clear H1
                          as_aux_lemma =>
                            have H' := Aside0.mk H
                            clear H
                            go_wp2
                            go_meet
                            case rel => exact ⟨_, ((t227 != (Go.bits .and .i64 (wrap64 ((wrap64 (t219 - t220)) + 1)) 65535))), (by first | rfl | (simp; done) | (simp [*]; done)), H', ⟨by have := HJ11.out; have := HJ27.out; first | omega | exact Nat.le_refl _⟩, ⟨by repeat (first | (with_reducible first | exact HB.out | apply below_alloc | apply pw_below_drewN | apply below_drew1) | exact HB.out)⟩⟩
                        · replace c35 := Bool.eq_false_iff.mpr c35
                          subst c35
                          have H1 : (laws_FnSums.j2 kj27 t233 t234 t243 t245 false) = some true := by rw [if_neg (show ¬ (false = true) by decide)] at H; exact H
                          clear H
                          have H := H1
                          clear H1
                          as_aux_lemma =>
                            have H' := Aside0.mk H
                            clear H
                            go_wp2
                            go_meet
                            case rel => exact ⟨_, (false), (by first | rfl | (simp; done) | (simp [*]; done)), H', ⟨by have := HJ11.out; have := HJ27.out; first | omega | exact Nat.le_refl _⟩, ⟨by repeat (first | (with_reducible first | exact HB.out | apply below_alloc | apply pw_below_drewN | apply below_drew1) | exact HB.out)⟩⟩
                      · rw [if_neg c34] at H
                        have c34b0 : (t221 == (Go.bits .and .i64 (wrap64 ((wrap64 (t219 + t220)) - 1)) 65535)) = false := beq_eq_false_iff_ne.mpr c34
                        have c34b1 : (t221 != (Go.bits .and .i64 (wrap64 ((wrap64 (t219 + t220)) - 1)) 65535)) = true := bne_iff_ne.mpr c34
                        (first | rw [c34b0] | (simp only [i64_w, i32_w]; rw [c34b0]) | skip)
                        as_aux_lemma =>
                          have H' := Aside0.mk H
                          clear H
                          go_wp2
                          go_meet
                          case rel => exact ⟨_, (true), (by first | rfl | (simp; done) | (simp [*]; done)), H', ⟨by have := HJ11.out; have := HJ27.out; first | omega | exact Nat.le_refl _⟩, ⟨by repeat (first | (with_reducible first | exact HB.out | apply below_alloc | apply pw_below_drewN | apply below_drew1) | exact HB.out)⟩⟩
                    · replace c33 := Bool.eq_false_iff.mpr c33
                      subst c33
                      have H1 : (if t228 = true then (laws_FnSums.j2 kj27 t233 t234 t243 t245 (t227 != (Go.bits .and .i64 (wrap64 ((wrap64 (t219 - t220)) + 1)) 65535))) else (laws_FnSums.j2 kj27 t233 t234 t243 t245 false)) = some true := by rw [if_neg (show ¬ (false = true) by decide)] at H; exact H
                      clear H
                      have H := H1
                      clear H1
                      by_cases c36 : t228 = true
                      · subst c36
                        have H1 : (laws_FnSums.j2 kj27 t233 t234 t243 t245 (t227 != (Go.bits .and .i64 (wrap64 ((wrap64 (t219 - t220)) + 1)) 65535))) = some true := by rw [if_pos rfl] at H; exact H
                        clear H
                        have H := H1
                        clear H1
                        as_aux_lemma =>
                          have H' := Aside0.mk H
                          clear H
                          go_wp2
                          go_meet
                          case rel => exact ⟨_, ((t227 != (Go.bits .and .i64 (wrap64 ((wrap64 (t219 - t220)) + 1)) 65535))), (by first | rfl | (simp; done) | (simp [*]; done)), H', ⟨by have := HJ11.out; have := HJ27.out; first | omega | exact Nat.le_refl _⟩, ⟨by repeat (first | (with_reducible first | exact HB.out | apply below_alloc | apply pw_below_drewN | apply below_drew1) | exact HB.out)⟩⟩
                      · replace c36 := Bool.eq_false_iff.mpr c36
                        subst c36
                        have H1 : (laws_FnSums.j2 kj27 t233 t234 t243 t245 false) = some true := by rw [if_neg (show ¬ (false = true) by decide)] at H; exact H
                        clear H
                        have H := H1
                        clear H1
                        as_aux_lemma =>
                          have H' := Aside0.mk H
                          clear H
                          go_wp2
                          go_meet
                          case rel => exact ⟨_, (false), (by first | rfl | (simp; done) | (simp [*]; done)), H', ⟨by have := HJ11.out; have := HJ27.out; first | omega | exact Nat.le_refl _⟩, ⟨by repeat (first | (with_reducible first | exact HB.out | apply below_alloc | apply pw_below_drewN | apply below_drew1) | exact HB.out)⟩⟩
                  case rest =>
                    clear HC32
                    try clear c1
                    try clear c2
                    try clear c2b0
                    try clear c2b1
                    try clear p2
                    try clear c3
                    try clear c4
                    try clear p6
                    try clear c9
                    try clear c14
                    try clear c14b0
                    try clear c14b1
                    try clear c14b2
                    try clear c15
                    try clear c15b0
                    try clear c15b1
                    try clear c15b2
                    try clear c16
                    try clear c16b0
                    try clear c16b1
                    try clear c17
                    try clear c17b0
                    try clear c17b1
                    try clear c17b2
                    try clear c18
                    try clear c18b0
                    try clear c18b1
                    try clear c18b2
                    try clear c19
                    try clear c19b0
                    try clear c19b1
                    try clear c20
                    try clear c20b0
                    try clear c20b1
                    try clear c20b2
                    try clear c21
                    try clear c21b0
                    try clear c21b1
                    try clear c21b2
                    try clear c22
                    try clear c22b0
                    try clear c22b1
                    try clear c23
                    try clear c23b0
                    try clear c23b1
                    try clear c23b2
                    try clear c24
                    try clear c25
                    try clear c29
                    try clear c29b0
                    try clear c29b1
                    try clear c29b2
                    try clear c30
                    try clear c30b0
                    try clear c31
                    try clear c33
                    try clear c34
                    try clear c34b0
                    try clear c34b1
                    try clear c35
                    try clear c36
                    try clear p2
                    try clear p6
                    obtain ⟨kq, x210_31, rfl, HA, HJ31, HB⟩ := hcut
                    cases kq with
                    | zero => exact absurd HA.out (by simp [laws_FnSums.j2])
                    | succ kj31 =>
                      have H := HA.out
                      clear HA
                      simp only [laws_FnSums.j2] at H
                      by_cases c37 : x210_31 = true
                      · subst c37
                        have H1 : (some false) = some true := by rw [if_pos rfl] at H; exact H
                        clear H
                        have H := H1
                        clear H1
                        as_aux_lemma =>
                          exact absurd H (by simp)
                      · replace c37 := Bool.eq_false_iff.mpr c37
                        subst c37
                        have H1 : (if t234 = true then ((impl_UntagSmall.f t233).bind fun bt247 => (if bt247.2 = true then (some (bt247.1 == (wrap64 (t243 * t245)))) else (some false))) else (some true)) = some true := by rw [if_neg (show ¬ (false = true) by decide)] at H; exact H
                        clear H
                        have H := H1
                        clear H1
                        by_cases c38 : t234 = true
                        · subst c38
                          have H1 : ((impl_UntagSmall.f t233).bind fun bt247 => (if bt247.2 = true then (some (bt247.1 == (wrap64 (t243 * t245)))) else (some false))) = some true := by rw [if_pos rfl] at H; exact H
                          clear H
                          have H := H1
                          clear H1
                          replace H := Option.bind_eq_some_iff.mp H
                          obtain ⟨⟨t247, t248⟩, A390, H⟩ := H
                          replace H : (if t248 = true then (some (t247 == (wrap64 (t243 * t245)))) else (some false)) = some true := H
                          have A39 := Aside0.mk A390
                          clear A390
                          by_cases c40 : t248 = true
                          · subst c40
                            have H1 : (some (t247 == (wrap64 (t243 * t245)))) = some true := by rw [if_pos rfl] at H; exact H
                            clear H
                            have H := H1
                            clear H1
                            as_aux_lemma =>
                              have hrv_ := Option.some.inj H
                              go_wp2_with (first | ((with_reducible refine gate_callee (f := 46) rfl ?_); refine goesL_ (some 214) rfl rfl Try.func46 (by kernel_rfl) rfl #[.int .i64 t233] rfl (by (try simp only [List.map_toArray, List.map_cons, List.map_nil]); first | done | rfl | (simp only [List.length_drop, List.length_take]; rfl)) ?_; (with_reducible refine (impl_UntagSmall.calls t233 t247 true _ A39.out).mono ?_); rintro e w' ⟨rfl, ⟨nd, rfl⟩⟩; refine ⟨_, rfl, ?_⟩))
                              go_ret
                              exact ⟨by first | rfl | (simp [errW_none, errW_some] <;> rfl) | (simp [*, errW_none, errW_some] <;> rfl), by repeat (first | (with_reducible first | exact HB.out | apply below_alloc | apply pw_below_drewN | apply below_drew1) | exact HB.out)⟩
                          · replace c40 := Bool.eq_false_iff.mpr c40
                            subst c40
                            have H1 : (some false) = some true := by rw [if_neg (show ¬ (false = true) by decide)] at H; exact H
                            clear H
                            have H := H1
                            clear H1
                            as_aux_lemma =>
                              exact absurd H (by simp)
                        · replace c38 := Bool.eq_false_iff.mpr c38
                          subst c38
                          have H1 : (some true) = some true := rfl
                          clear H
                          have H := H1
                          clear H1
                          as_aux_lemma =>
                            go_wp2
                            go_ret
                            exact ⟨by first | rfl | (simp [errW_none, errW_some] <;> rfl) | (simp [*, errW_none, errW_some] <;> rfl), by repeat (first | (with_reducible first | exact HB.out | apply below_alloc | apply pw_below_drewN | apply below_drew1) | exact HB.out)⟩
          · replace c25 := Bool.eq_false_iff.mpr c25
            subst c25
            have H1 : (if t229 = true then (some false) else (if t235 = true then (some false) else (some (!t240)))) = some true := by rw [if_neg (show ¬ (false = true) by decide)] at H; exact H
            clear H
            have H := H1
            clear H1
            by_cases c41 : t229 = true
            · subst c41
              have H1 : (some false) = some true := by rw [if_pos rfl] at H; exact H
              clear H
              have H := H1
              clear H1
              as_aux_lemma =>
                exact absurd H (by simp)
            · replace c41 := Bool.eq_false_iff.mpr c41
              subst c41
              have H1 : (if t235 = true then (some false) else (some (!t240))) = some true := by rw [if_neg (show ¬ (false = true) by decide)] at H; exact H
              clear H
              have H := H1
              clear H1
              by_cases c42 : t235 = true
              · subst c42
                have H1 : (some false) = some true := by rw [if_pos rfl] at H; exact H
                clear H
                have H := H1
                clear H1
                as_aux_lemma =>
                  exact absurd H (by simp)
              · replace c42 := Bool.eq_false_iff.mpr c42
                subst c42
                have H1 : (some (!t240)) = some true := by rw [if_neg (show ¬ (false = true) by decide)] at H; exact H
                clear H
                have H := H1
                clear H1
                as_aux_lemma =>
                  have hrv_ := Option.some.inj H
                  go_wp2
                  go_ret
                  exact ⟨by first | rfl | (simp [errW_none, errW_some] <;> rfl) | (simp [*, errW_none, errW_some] <;> rfl), by repeat (first | (with_reducible first | exact HB.out | apply below_alloc | apply pw_below_drewN | apply below_drew1) | exact HB.out)⟩

end Go.Proofs.Ytncagigpflfkbaa.XFnSums

/- The row of FnExactNamesNeeded: for every input the law returns true and the arguments read as they did. Out of the printed walk and the pure statement. No condition. -/
import Derived.Test.YtoggmpihojkbfaaRows
import Derived.Test.YtoggmpihojkbfaaXFnExactNamesNeededx6
import Derived.Test.YtoggmpihojkbfaaPureFnExactNamesNeeded
import Derived.Test.YtoggmpihojkbfaaTrod
import Derived.WalkKit
import Derived.ProofKit
import Derived.OpenShut
import Derived.ShutString
import Derived.ChangeOld
import Derived.Below
import Derived.SizedLaws
import Derived.Carry
namespace Go.Proofs.Ytoggmpihojkbfaa.fnExactNamesNeeded
open Go.ChangeShapes Go.WideShapes Go.ChangeAt Go.RowKit Go.Proofs.YtoggmpihojkbfaaW.PrintWords Go.Proofs.YtoggmpihojkbfaaTrod Go.Proofs.Ytoggmpihojkbfaa.XFnExactNamesNeeded
open Go.ChangeMaps (open_string shut_string)
set_option linter.unusedVariables false
theorem own : ownKnob Try.prog.godebug = none := by kernel_rfl
theorem laidOut : laidOutB Try.prog = true := by kernel_rfl
def kd3 : Kd Int := (Kd.int .i64)
def ok3 : Int → Prop := (fun n => (Lit.int .i64 n).wf = true)
theorem rd3 : Rd Try.prog 3 kd3 ok3 := Rd.int Try.underlying3 (by kernel_rfl)
def kd48 : Kd S48 := k48
def ok48 : S48 → Prop := (fun x => ok3 ((x.f0, x.f1, x.f2, x.f3, x.f4)).1 ∧ ok3 ((x.f0, x.f1, x.f2, x.f3, x.f4)).2.1 ∧ ok3 ((x.f0, x.f1, x.f2, x.f3, x.f4)).2.2.1 ∧ ok3 ((x.f0, x.f1, x.f2, x.f3, x.f4)).2.2.2.1 ∧ ok3 ((x.f0, x.f1, x.f2, x.f3, x.f4)).2.2.2.2)
theorem rd48 : Rd Try.prog 48 kd48 ok48 := Rd.struct (d := (Kd.pair kd3 (Kd.pair kd3 (Kd.pair kd3 (Kd.pair kd3 kd3))))) (ok := fun x => ok3 x.1 ∧ ok3 x.2.1 ∧ ok3 x.2.2.1 ∧ ok3 x.2.2.2.1 ∧ ok3 x.2.2.2.2) Try.underlying48 (by kernel_rfl) (RdF.cons rfl rd3 (RdF.cons rfl rd3 (RdF.cons rfl rd3 (RdF.cons rfl rd3 (RdF.last rfl rd3))))) (fun x : S48 => (x.f0, x.f1, x.f2, x.f3, x.f4)) (fun p => ⟨p.1, p.2.1, p.2.2.1, p.2.2.2.1, p.2.2.2.2⟩) (fun _ => rfl)
def kd22 : Kd (List S48) := (Kd.slice 48 kd48)
def ok22 : (List S48) → Prop := (fun l => ∀ a, a ∈ l → ok48 a)
theorem rd22 : Rd Try.prog 22 kd22 ok22 := Rd.slice Try.underlying22 (by kernel_rfl) rd48
set_option maxRecDepth 100000 in
theorem lifted (os : Os) (started : os.Started) (H : Type) (enc : TypeId × Value → H) :
    ReturnsInHanded {} Try.checked os 4 .any (Rows.fnExactNamesNeededSpec.pre6 enc Try.prog Try.f4 Rows.fnExactNamesNeededRow.domain false) (Rows.fnExactNamesNeededSpec.post enc Try.prog Try.f4 false true false false) := by
  refine returnsInHanded_of_change_sized (C := Try.checked) own started (by kernel_rfl) Try.func4
    (ChangeSpec.witness6 (enc := enc) (C := Try.checked) false ⟨#[], #[.slice none 0 0], []⟩ 8 (by kernel_rfl) (by kernel_rfl) (by kernel_rfl) (by kernel_rfl)) ?_
  intro W base args ds gs before hval0 hW hcnd hsz0 _
  have hsz : (DataW.weightsEach Try.prog (Try.f4.params.toList ++ Rows.fnExactNamesNeededSpec.plain.varTypes Try.prog) (ds ++ gs)).all (· ≤ reachBytes) = true := hsz0
  have hval : ∀ (j : Nat) t v, Try.f4.params[j]? = some t → args[j]? = some v → Value.okWide Try.prog W .any base t v := hval0
  have hW' := hW
  obtain ⟨p, q, hA0, hV, rfl, hfz, hnd⟩ := hW
  have hA : DataW.TrodAll enc Try.prog W 0 (fun _ => true) true Try.f4.params.toList args.toList ds p := hA0
  rw [Try.params4] at hA hval hsz
  obtain ⟨v0, vs0, d0, ds0, p0, q0, hargs, rfl, rfl, h0, r0⟩ := trodAll_cons hA
  obtain ⟨rfl, rfl, rfl⟩ := trodAll_nil r0
  obtain rfl : args = #[v0] := by cases args; simp_all
  obtain ⟨rfl, rfl⟩ := trodVars_none hV
  have k0 := h0
  have lt0 : ∀ x ∈ p0, x.block < W.heap.size := by obtain ⟨m, hm⟩ := k0; exact DataW.trod_lt m _ _ _ hm
  obtain ⟨A0, n0, c0, rfl⟩ := okWide_slice Try.underlying22 (hval 0 22 v0 rfl rfl)
  obtain ⟨fuel0, hf0⟩ := h0
  obtain ⟨l0, ⟨A0', c0', he0, hl0, hC0⟩, w0⟩ := rd22.one hf0
  obtain ⟨rfl, rfl, rfl⟩ : A0 = A0' ∧ n0 = l0.length ∧ c0 = c0' := by simpa [Value.cells] using he0
  clear hA0 hval0 hsz0 hsz
  obtain ⟨k, hk⟩ := Pure.FnExactNamesNeeded l0 hC0.2.1 w0
  refine (laws_FnExactNamesNeeded.calls k A0 c0 l0 W hC0 hl0 hk).mono fun e W' ⟨he, bel0⟩ => ?_
  have bel : Below W.heap.size W W' := bel0
  subst he
  exact ⟨_, rfl, _, _, _, [], _, [], hW', trodAll_mk1 (shut_bool Try.underlying4 _), (trodAll_cons_mk (Below.trod laidOut (by kernel_rfl) (of_decide_eq_true (by kernel_rfl)) k0 bel lt0) trodAll_mk0), rfl, bel.frame _, fun h => by cases h⟩
theorem over : Rows.fnExactNamesNeededRow.holds Try.pinned (OpenSpec.ofChange Rows.fnExactNamesNeededSpec) :=
  OpenClaim.holds_of_wide 4 Try.f4 rfl rfl rfl rfl rfl rfl rfl ⟨rfl, rfl, rfl, rfl, rfl⟩ rfl rfl rfl rfl rfl (by kernel_rfl) Try.func4 (by kernel_rfl)
    (of_decide_eq_true (by kernel_rfl)) (by unfold Func.isWrapper; first | (rw [if_pos (by decide +kernel)]; kernel_rfl) | (rw [if_neg (by decide +kernel)]; exact ⟨rfl, rfl⟩))
    (fun os started H enc _ => lifted os started H enc)
theorem proved : Rows.FnExactNamesNeededSaid := over
#print axioms proved
end Go.Proofs.Ytoggmpihojkbfaa.fnExactNamesNeeded
namespace Go.Proofs.Ytoggmpihojkbfaa
/-- The row, under a short name, for the claim. -/
theorem fnExactNamesNeeded_holds : Rows.FnExactNamesNeededSaid := fnExactNamesNeeded.proved
end Go.Proofs.Ytoggmpihojkbfaa

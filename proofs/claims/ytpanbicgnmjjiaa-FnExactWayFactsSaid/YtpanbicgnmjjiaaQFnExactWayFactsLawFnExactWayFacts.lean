/- The row of FnExactWayFacts: for every input the law returns true and the arguments read as they did. Out of the printed walk and the pure statement. No condition. -/
import Derived.Test.YtpanbicgnmjjiaaRows
import Derived.Test.YtpanbicgnmjjiaaQFnExactWayFactsXFnExactWayFactsx19
import Derived.Test.YtpanbicgnmjjiaaQFnExactWayFactsPureFnExactWayFacts
import Derived.Test.YtpanbicgnmjjiaaQFnExactWayFactsTrod
import Derived.WalkKit
import Derived.ProofKit
import Derived.OpenShut
import Derived.ShutString
import Derived.ChangeOld
import Derived.Below
import Derived.SizedLaws
import Derived.Carry
namespace Go.Proofs.Ytpanbicgnmjjiaa.fnExactWayFacts
open Go.ChangeShapes Go.WideShapes Go.ChangeAt Go.RowKit Go.Proofs.YtpanbicgnmjjiaaW.PrintWords Go.Proofs.YtpanbicgnmjjiaaTrod Go.Proofs.Ytpanbicgnmjjiaa.XFnExactWayFacts
open Go.ChangeMaps (open_string shut_string)
set_option linter.unusedVariables false
theorem own : ownKnob Try.prog.godebug = none := by kernel_rfl
theorem laidOut : laidOutB Try.prog = true := by kernel_rfl
def kd3 : Kd Int := (Kd.int .i64)
def ok3 : Int → Prop := (fun n => (Lit.int .i64 n).wf = true)
theorem rd3 : Rd Try.prog 3 kd3 ok3 := Rd.int Try.underlying3 (by kernel_rfl)
def kd67 : Kd S67 := k67
def ok67 : S67 → Prop := (fun x => ok3 ((x.f0, x.f1, x.f2, x.f3, x.f4)).1 ∧ ok3 ((x.f0, x.f1, x.f2, x.f3, x.f4)).2.1 ∧ ok3 ((x.f0, x.f1, x.f2, x.f3, x.f4)).2.2.1 ∧ ok3 ((x.f0, x.f1, x.f2, x.f3, x.f4)).2.2.2.1 ∧ ok3 ((x.f0, x.f1, x.f2, x.f3, x.f4)).2.2.2.2)
theorem rd67 : Rd Try.prog 67 kd67 ok67 := Rd.struct (d := (Kd.pair kd3 (Kd.pair kd3 (Kd.pair kd3 (Kd.pair kd3 kd3))))) (ok := fun x => ok3 x.1 ∧ ok3 x.2.1 ∧ ok3 x.2.2.1 ∧ ok3 x.2.2.2.1 ∧ ok3 x.2.2.2.2) Try.underlying67 (by kernel_rfl) (RdF.cons rfl rd3 (RdF.cons rfl rd3 (RdF.cons rfl rd3 (RdF.cons rfl rd3 (RdF.last rfl rd3))))) (fun x : S67 => (x.f0, x.f1, x.f2, x.f3, x.f4)) (fun p => ⟨p.1, p.2.1, p.2.2.1, p.2.2.2.1, p.2.2.2.2⟩) (fun _ => rfl)
def kd22 : Kd (List S67) := (Kd.slice 67 kd67)
def ok22 : (List S67) → Prop := (fun l => ∀ a, a ∈ l → ok67 a)
theorem rd22 : Rd Try.prog 22 kd22 ok22 := Rd.slice Try.underlying22 (by kernel_rfl) rd67
def kd81 : Kd S81 := k81
def ok81 : S81 → Prop := (fun x => ok22 ((x.f0, x.f1, x.f2, x.f3)).1 ∧ ok3 ((x.f0, x.f1, x.f2, x.f3)).2.1 ∧ ok3 ((x.f0, x.f1, x.f2, x.f3)).2.2.1 ∧ ok3 ((x.f0, x.f1, x.f2, x.f3)).2.2.2)
theorem rd81 : Rd Try.prog 81 kd81 ok81 := Rd.struct (d := (Kd.pair kd22 (Kd.pair kd3 (Kd.pair kd3 kd3)))) (ok := fun x => ok22 x.1 ∧ ok3 x.2.1 ∧ ok3 x.2.2.1 ∧ ok3 x.2.2.2) Try.underlying81 (by kernel_rfl) (RdF.cons rfl rd22 (RdF.cons rfl rd3 (RdF.cons rfl rd3 (RdF.last rfl rd3)))) (fun x : S81 => (x.f0, x.f1, x.f2, x.f3)) (fun p => ⟨p.1, p.2.1, p.2.2.1, p.2.2.2⟩) (fun _ => rfl)
def kd44 : Kd (List S81) := (Kd.slice 81 kd81)
def ok44 : (List S81) → Prop := (fun l => ∀ a, a ∈ l → ok81 a)
theorem rd44 : Rd Try.prog 44 kd44 ok44 := Rd.slice Try.underlying44 (by kernel_rfl) rd81
def kd4 : Kd Bool := Kd.bool
def ok4 : Bool → Prop := (fun _ => True)
theorem rd4 : Rd Try.prog 4 kd4 ok4 := Rd.bool Try.underlying4 (by kernel_rfl)
def kd77 : Kd S77 := k77
def ok77 : S77 → Prop := (fun x => ok4 ((x.f0, x.f1, x.f2)).1 ∧ ok4 ((x.f0, x.f1, x.f2)).2.1 ∧ ok3 ((x.f0, x.f1, x.f2)).2.2)
theorem rd77 : Rd Try.prog 77 kd77 ok77 := Rd.struct (d := (Kd.pair kd4 (Kd.pair kd4 kd3))) (ok := fun x => ok4 x.1 ∧ ok4 x.2.1 ∧ ok3 x.2.2) Try.underlying77 (by kernel_rfl) (RdF.cons rfl rd4 (RdF.cons rfl rd4 (RdF.last rfl rd3))) (fun x : S77 => (x.f0, x.f1, x.f2)) (fun p => ⟨p.1, p.2.1, p.2.2⟩) (fun _ => rfl)
def kd35 : Kd (List S77) := (Kd.slice 77 kd77)
def ok35 : (List S77) → Prop := (fun l => ∀ a, a ∈ l → ok77 a)
theorem rd35 : Rd Try.prog 35 kd35 ok35 := Rd.slice Try.underlying35 (by kernel_rfl) rd77
set_option maxRecDepth 100000 in
theorem lifted (os : Os) (started : os.Started) (H : Type) (enc : TypeId × Value → H) :
    ReturnsInHanded {} Try.checked os 8 .any (Rows.fnExactWayFactsSpec.pre6 enc Try.prog Try.f8 Rows.fnExactWayFactsRow.domain false) (Rows.fnExactWayFactsSpec.post enc Try.prog Try.f8 false true false false) := by
  refine returnsInHanded_of_change_sized (C := Try.checked) own started (by kernel_rfl) Try.func8
    (ChangeSpec.witness6 (enc := enc) (C := Try.checked) false ⟨#[], #[.slice none 0 0, .slice none 0 0], []⟩ 8 (by kernel_rfl) (by kernel_rfl) (by kernel_rfl) (by kernel_rfl)) ?_
  intro W base args ds gs before hval0 hW hcnd hsz0 _
  have hsz : (DataW.weightsEach Try.prog (Try.f8.params.toList ++ Rows.fnExactWayFactsSpec.plain.varTypes Try.prog) (ds ++ gs)).all (· ≤ reachBytes) = true := hsz0
  have hval : ∀ (j : Nat) t v, Try.f8.params[j]? = some t → args[j]? = some v → Value.okWide Try.prog W .any base t v := hval0
  have hW' := hW
  obtain ⟨p, q, hA0, hV, rfl, hfz, hnd⟩ := hW
  have hA : DataW.TrodAll enc Try.prog W 0 (fun _ => true) true Try.f8.params.toList args.toList ds p := hA0
  rw [Try.params8] at hA hval hsz
  obtain ⟨v0, vs0, d0, ds0, p0, q0, hargs, rfl, rfl, h0, r0⟩ := trodAll_cons hA
  obtain ⟨v1, vs1, d1, ds1, p1, q1, rfl, rfl, rfl, h1, r1⟩ := trodAll_cons r0
  obtain ⟨rfl, rfl, rfl⟩ := trodAll_nil r1
  obtain rfl : args = #[v0, v1] := by cases args; simp_all
  obtain ⟨rfl, rfl⟩ := trodVars_none hV
  have k0 := h0
  have lt0 : ∀ x ∈ p0, x.block < W.heap.size := by obtain ⟨m, hm⟩ := k0; exact DataW.trod_lt m _ _ _ hm
  obtain ⟨A0, n0, c0, rfl⟩ := okWide_slice Try.underlying44 (hval 0 44 v0 rfl rfl)
  obtain ⟨fuel0, hf0⟩ := h0
  obtain ⟨l0, ⟨A0', c0', he0, hl0, hC0⟩, w0⟩ := rd44.one hf0
  obtain ⟨rfl, rfl, rfl⟩ : A0 = A0' ∧ n0 = l0.length ∧ c0 = c0' := by simpa [Value.cells] using he0
  have k1 := h1
  have lt1 : ∀ x ∈ p1, x.block < W.heap.size := by obtain ⟨m, hm⟩ := k1; exact DataW.trod_lt m _ _ _ hm
  obtain ⟨A1, n1, c1, rfl⟩ := okWide_slice Try.underlying35 (hval 1 35 v1 rfl rfl)
  obtain ⟨fuel1, hf1⟩ := h1
  obtain ⟨l1, ⟨A1', c1', he1, hl1, hC1⟩, w1⟩ := rd35.one hf1
  obtain ⟨rfl, rfl, rfl⟩ : A1 = A1' ∧ n1 = l1.length ∧ c1 = c1' := by simpa [Value.cells] using he1
  clear hA0 hval0 hsz0 hsz
  obtain ⟨k, hk⟩ := Pure.FnExactWayFacts l0 l1 hC0.2.1 (fun i hi => by obtain ⟨_, _, _, _, _, _, _, _, _, hI⟩ := at_T81 hC0 i (by omega) (by omega); exact hI.2.1) hC1.2.1 w1
  refine (laws_FnExactWayFacts.calls k A0 c0 l0 A1 c1 l1 W hC0 hl0 hC1 hl1 hk).mono fun e W' ⟨he, bel0⟩ => ?_
  have bel : Below W.heap.size W W' := bel0
  subst he
  exact ⟨_, rfl, _, _, _, [], _, [], hW', trodAll_mk1 (shut_bool Try.underlying4 _), (trodAll_cons_mk (Below.trod laidOut (by kernel_rfl) (of_decide_eq_true (by kernel_rfl)) k0 bel lt0) (trodAll_cons_mk (Below.trod laidOut (by kernel_rfl) (of_decide_eq_true (by kernel_rfl)) k1 bel lt1) trodAll_mk0)), rfl, bel.frame _, fun h => by cases h⟩
theorem over : Rows.fnExactWayFactsRow.holds Try.pinned (OpenSpec.ofChange Rows.fnExactWayFactsSpec) :=
  OpenClaim.holds_of_wide 8 Try.f8 rfl rfl rfl rfl rfl rfl rfl ⟨rfl, rfl, rfl, rfl, rfl⟩ rfl rfl rfl rfl rfl (by kernel_rfl) Try.func8 (by kernel_rfl)
    (of_decide_eq_true (by kernel_rfl)) (by unfold Func.isWrapper; first | (rw [if_pos (by decide +kernel)]; kernel_rfl) | (rw [if_neg (by decide +kernel)]; exact ⟨rfl, rfl⟩))
    (fun os started H enc _ => lifted os started H enc)
theorem proved : Rows.FnExactWayFactsSaid := over
#print axioms proved
end Go.Proofs.Ytpanbicgnmjjiaa.fnExactWayFacts
namespace Go.Proofs.Ytpanbicgnmjjiaa
/-- The row, under a short name, for the claim. -/
theorem fnExactWayFacts_holds : Rows.FnExactWayFactsSaid := fnExactWayFacts.proved
end Go.Proofs.Ytpanbicgnmjjiaa

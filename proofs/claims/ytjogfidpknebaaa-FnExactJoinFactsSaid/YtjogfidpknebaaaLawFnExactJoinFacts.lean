/- The row of FnExactJoinFacts: for every input the law returns true and the arguments read as they did. Out of the printed walk and the pure statement. No condition. -/
import Derived.Test.YtjogfidpknebaaaRows
import Derived.Test.YtjogfidpknebaaaXFnExactJoinFactsx3
import Derived.Test.YtjogfidpknebaaaPureFnExactJoinFacts
import Derived.Test.YtjogfidpknebaaaTrod
import Derived.WalkKit
import Derived.ProofKit
import Derived.OpenShut
import Derived.ShutString
import Derived.ChangeOld
import Derived.Below
import Derived.SizedLaws
import Derived.Carry
namespace Go.Proofs.Ytjogfidpknebaaa.fnExactJoinFacts
open Go.ChangeShapes Go.WideShapes Go.ChangeAt Go.RowKit Go.Proofs.YtjogfidpknebaaaW.PrintWords Go.Proofs.YtjogfidpknebaaaTrod Go.Proofs.Ytjogfidpknebaaa.XFnExactJoinFacts
open Go.ChangeMaps (open_string shut_string)
set_option linter.unusedVariables false
theorem own : ownKnob Try.prog.godebug = none := by kernel_rfl
theorem laidOut : laidOutB Try.prog = true := by kernel_rfl
def kd4 : Kd Bool := Kd.bool
def ok4 : Bool → Prop := (fun _ => True)
theorem rd4 : Rd Try.prog 4 kd4 ok4 := Rd.bool Try.underlying4 (by kernel_rfl)
def kd3 : Kd Int := (Kd.int .i64)
def ok3 : Int → Prop := (fun n => (Lit.int .i64 n).wf = true)
theorem rd3 : Rd Try.prog 3 kd3 ok3 := Rd.int Try.underlying3 (by kernel_rfl)
def kd54 : Kd (Bool × Bool × Int) := (Kd.iso (Kd.pair kd4 (Kd.pair kd4 kd3)) id)
def ok54 : (Bool × Bool × Int) → Prop := (fun x => ok4 x.1 ∧ ok4 x.2.1 ∧ ok3 x.2.2)
theorem rd54 : Rd Try.prog 54 kd54 ok54 := Rd.struct (d := (Kd.pair kd4 (Kd.pair kd4 kd3))) (ok := fun x => ok4 x.1 ∧ ok4 x.2.1 ∧ ok3 x.2.2) Try.underlying54 (by kernel_rfl) (RdF.cons rfl rd4 (RdF.cons rfl rd4 (RdF.last rfl rd3))) id id (fun _ => rfl)
set_option maxRecDepth 100000 in
theorem lifted (os : Os) (started : os.Started) (H : Type) (enc : TypeId × Value → H) :
    ReturnsInHanded {} Try.checked os 13 .any (Rows.fnExactJoinFactsSpec.pre6 enc Try.prog Try.f13 Rows.fnExactJoinFactsRow.domain false) (Rows.fnExactJoinFactsSpec.post enc Try.prog Try.f13 false true false false) := by
  refine returnsInHanded_of_change_sized (C := Try.checked) own started (by kernel_rfl) Try.func13
    (ChangeSpec.witness6 (enc := enc) (C := Try.checked) false ⟨#[], #[.agg #[.bool false, .bool false, .int .i64 0], .agg #[.bool false, .bool false, .int .i64 0]], []⟩ 8 (by kernel_rfl) (by kernel_rfl) (by kernel_rfl) (by kernel_rfl)) ?_
  intro W base args ds gs before hval0 hW hcnd hsz0 _
  have hsz : (DataW.weightsEach Try.prog (Try.f13.params.toList ++ Rows.fnExactJoinFactsSpec.plain.varTypes Try.prog) (ds ++ gs)).all (· ≤ reachBytes) = true := hsz0
  have hval : ∀ (j : Nat) t v, Try.f13.params[j]? = some t → args[j]? = some v → Value.okWide Try.prog W .any base t v := hval0
  have hW' := hW
  obtain ⟨p, q, hA0, hV, rfl, hfz, hnd⟩ := hW
  have hA : DataW.TrodAll enc Try.prog W 0 (fun _ => true) true Try.f13.params.toList args.toList ds p := hA0
  rw [Try.params13] at hA hval hsz
  obtain ⟨v0, vs0, d0, ds0, p0, q0, hargs, rfl, rfl, h0, r0⟩ := trodAll_cons hA
  obtain ⟨v1, vs1, d1, ds1, p1, q1, rfl, rfl, rfl, h1, r1⟩ := trodAll_cons r0
  obtain ⟨rfl, rfl, rfl⟩ := trodAll_nil r1
  obtain rfl : args = #[v0, v1] := by cases args; simp_all
  obtain ⟨rfl, rfl⟩ := trodVars_none hV
  have k0 := h0
  have lt0 : ∀ x ∈ p0, x.block < W.heap.size := by obtain ⟨m, hm⟩ := k0; exact DataW.trod_lt m _ _ _ hm
  obtain ⟨cs0, rfl, _⟩ := okWide_struct Try.underlying54 (hval 0 54 v0 rfl rfl)
  obtain ⟨fuel0, hf0⟩ := h0
  obtain ⟨⟨a0_0, a0_1, a0_2⟩, ⟨_, _, hc0, rfl, ⟨_, _, rfl, rfl, rfl⟩⟩, w0⟩ := rd54.one hf0
  obtain rfl : cs0 = #[.bool a0_0, .bool a0_1, .int .i64 a0_2] := Array.toList_inj.1 hc0
  have k1 := h1
  have lt1 : ∀ x ∈ p1, x.block < W.heap.size := by obtain ⟨m, hm⟩ := k1; exact DataW.trod_lt m _ _ _ hm
  obtain ⟨cs1, rfl, _⟩ := okWide_struct Try.underlying54 (hval 1 54 v1 rfl rfl)
  obtain ⟨fuel1, hf1⟩ := h1
  obtain ⟨⟨a1_0, a1_1, a1_2⟩, ⟨_, _, hc1, rfl, ⟨_, _, rfl, rfl, rfl⟩⟩, w1⟩ := rd54.one hf1
  obtain rfl : cs1 = #[.bool a1_0, .bool a1_1, .int .i64 a1_2] := Array.toList_inj.1 hc1
  clear hA0 hval0 hsz0 hsz
  have hk := Pure.FnExactJoinFacts a0_0 a0_1 a0_2 a1_0 a1_1 a1_2 w0 w1
  refine (laws_FnExactJoinFacts.calls a0_0 a0_1 a0_2 a1_0 a1_1 a1_2 W hk).mono fun e W' ⟨he, bel0⟩ => ?_
  have bel : Below W.heap.size W W' := bel0
  subst he
  exact ⟨_, rfl, _, _, _, [], _, [], hW', trodAll_mk1 (shut_bool Try.underlying4 _), (trodAll_cons_mk (Below.trod laidOut (by kernel_rfl) (of_decide_eq_true (by kernel_rfl)) k0 bel lt0) (trodAll_cons_mk (Below.trod laidOut (by kernel_rfl) (of_decide_eq_true (by kernel_rfl)) k1 bel lt1) trodAll_mk0)), rfl, bel.frame _, fun h => by cases h⟩
theorem over : Rows.fnExactJoinFactsRow.holds Try.pinned (OpenSpec.ofChange Rows.fnExactJoinFactsSpec) :=
  OpenClaim.holds_of_wide 13 Try.f13 rfl rfl rfl rfl rfl rfl rfl ⟨rfl, rfl, rfl, rfl, rfl⟩ rfl rfl rfl rfl rfl (by kernel_rfl) Try.func13 (by kernel_rfl)
    (of_decide_eq_true (by kernel_rfl)) (by unfold Func.isWrapper; first | (rw [if_pos (by decide +kernel)]; kernel_rfl) | (rw [if_neg (by decide +kernel)]; exact ⟨rfl, rfl⟩))
    (fun os started H enc _ => lifted os started H enc)
theorem proved : Rows.FnExactJoinFactsSaid := over
#print axioms proved
end Go.Proofs.Ytjogfidpknebaaa.fnExactJoinFacts
namespace Go.Proofs.Ytjogfidpknebaaa
/-- The row, under a short name, for the claim. -/
theorem fnExactJoinFacts_holds : Rows.FnExactJoinFactsSaid := fnExactJoinFacts.proved
end Go.Proofs.Ytjogfidpknebaaa

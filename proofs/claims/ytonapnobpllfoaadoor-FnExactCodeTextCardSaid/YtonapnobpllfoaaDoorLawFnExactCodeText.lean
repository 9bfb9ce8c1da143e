/- The row of FnExactCodeText: for every input the law returns true and the arguments read as they did. Out of the printed walk and the pure statement. No condition. -/
import Derived.Test.YtonapnobpllfoaaDoorRows
import Derived.Test.YtonapnobpllfoaaDoorXFnExactCodeTextx6
import Derived.Test.YtonapnobpllfoaaDoorPureFnExactCodeText
import Derived.Test.YtonapnobpllfoaaDoorTrod
import Derived.Test.YtonapnobpllfoaaDoorTz
import Derived.Test.YtonapnobpllfoaaDoorCards
import Derived.Test.YtonapnobpllfoaaDoorTie
import Derived.WalkKit
import Derived.ProofKit
import Derived.OpenShut
import Derived.ShutString
import Derived.ChangeOld
import Derived.Below
import Derived.SizedLaws
import Derived.Carry
import Derived.SevenTiedAt
import Derived.LaidMore
import Derived.Stop.Joined
namespace Go.Proofs.YtonapnobpllfoaaDoor.fnExactCodeText
open Go.ChangeShapes Go.WideShapes Go.ChangeAt Go.RowKit Go.Proofs.YtonapnobpllfoaaDoorW.PrintWords Go.Proofs.YtonapnobpllfoaaDoorTrod Go.Proofs.YtonapnobpllfoaaDoor.XFnExactCodeText
open Go.ChangeMaps (open_string shut_string)
set_option linter.unusedVariables false
theorem own : ownKnob Tryd.prog.godebug = none := by kernel_rfl
theorem laidOut : laidOutB Tryd.prog = true := by kernel_rfl
def kd3 : Kd Int := (Kd.int .i64)
def ok3 : Int → Prop := (fun n => (Lit.int .i64 n).wf = true)
theorem rd3 : Rd Tryd.prog 3 kd3 ok3 := Rd.int Tryd.underlying3 (by kernel_rfl)
def kd50 : Kd S50 := k50
def ok50 : S50 → Prop := (fun x => ok3 ((x.f0, x.f1, x.f2, x.f3, x.f4)).1 ∧ ok3 ((x.f0, x.f1, x.f2, x.f3, x.f4)).2.1 ∧ ok3 ((x.f0, x.f1, x.f2, x.f3, x.f4)).2.2.1 ∧ ok3 ((x.f0, x.f1, x.f2, x.f3, x.f4)).2.2.2.1 ∧ ok3 ((x.f0, x.f1, x.f2, x.f3, x.f4)).2.2.2.2)
theorem rd50 : Rd Tryd.prog 50 kd50 ok50 := Rd.struct (d := (Kd.pair kd3 (Kd.pair kd3 (Kd.pair kd3 (Kd.pair kd3 kd3))))) (ok := fun x => ok3 x.1 ∧ ok3 x.2.1 ∧ ok3 x.2.2.1 ∧ ok3 x.2.2.2.1 ∧ ok3 x.2.2.2.2) Tryd.underlying50 (by kernel_rfl) (RdF.cons rfl rd3 (RdF.cons rfl rd3 (RdF.cons rfl rd3 (RdF.cons rfl rd3 (RdF.last rfl rd3))))) (fun x : S50 => (x.f0, x.f1, x.f2, x.f3, x.f4)) (fun p => ⟨p.1, p.2.1, p.2.2.1, p.2.2.2.1, p.2.2.2.2⟩) (fun _ => rfl)
def kd28 : Kd (List S50) := (Kd.slice 50 kd50)
def ok28 : (List S50) → Prop := (fun l => ∀ a, a ∈ l → ok50 a)
theorem rd28 : Rd Tryd.prog 28 kd28 ok28 := Rd.slice Tryd.underlying28 (by kernel_rfl) rd50
set_option maxRecDepth 100000 in
theorem lifted (os : Os) (started : os.Started) (H : Type) (enc : TypeId × Value → H) :
    ReturnsInHanded {} Tryd.checked os 4 .any (fun w args => (Rows.fnExactCodeTextSpec.pre enc Tryd.prog Tryd.f4 [] false w args ∧ laidMetH Tryd.prog Tz.listed w) ∧ sizedMet enc Tryd.prog Tryd.f4 (OpenSpec.ofChange Rows.fnExactCodeTextSpec) false w args) (Rows.fnExactCodeTextSpec.post enc Tryd.prog Tryd.f4 false true false false) := by
  refine returnsInHanded_of_change_and (C := Tryd.checked) (X := fun w _ => laidMetH Tryd.prog Tz.listed w) (fun _ _ _ hh h => h.of_heap hh) own started (by kernel_rfl) Tryd.func4
    (ChangeSpec.witness_shaped (enc := enc) (C := Tryd.checked) (os := os) (X := fun w _ => laidMetH Tryd.prog Tz.listed w) false (World.doorLaid Tryd.prog 400 os) #[.slice none 0 0] 8 rfl (World.shaped_of_RefB (by kernel_rfl) (by kernel_rfl)) (by kernel_rfl) (by kernel_rfl) (by kernel_rfl) (Tz.door_met os _)) ?_
  intro W base args ds gs before hval0 hW hcnd hsz0 hLaid _
  have hsz : (DataW.weightsEach Tryd.prog (Tryd.f4.params.toList ++ Rows.fnExactCodeTextSpec.plain.varTypes Tryd.prog) (ds ++ gs)).all (· ≤ reachBytes) = true := hsz0
  have hval : ∀ (j : Nat) t v, Tryd.f4.params[j]? = some t → args[j]? = some v → Value.okWide Tryd.prog W .any base t v := hval0
  have hW' := hW
  obtain ⟨p, q, hA0, hV, rfl, hfz, hnd⟩ := hW
  have hA : DataW.TrodAll enc Tryd.prog W 0 (fun _ => true) true Tryd.f4.params.toList args.toList ds p := hA0
  rw [Tryd.params4] at hA hval hsz
  obtain ⟨v0, vs0, d0, ds0, p0, q0, hargs, rfl, rfl, h0, r0⟩ := trodAll_cons hA
  obtain ⟨rfl, rfl, rfl⟩ := trodAll_nil r0
  obtain rfl : args = #[v0] := by cases args; simp_all
  obtain ⟨rfl, rfl⟩ := trodVars_none hV
  have k0 := h0
  have lt0 : ∀ x ∈ p0, x.block < W.heap.size := by obtain ⟨m, hm⟩ := k0; exact DataW.trod_lt m _ _ _ hm
  obtain ⟨A0, n0, c0, rfl⟩ := okWide_slice Tryd.underlying28 (hval 0 28 v0 rfl rfl)
  obtain ⟨fuel0, hf0⟩ := h0
  obtain ⟨l0, ⟨A0', c0', he0, hl0, hC0⟩, w0⟩ := rd28.one hf0
  obtain ⟨rfl, rfl, rfl⟩ : A0 = A0' ∧ n0 = l0.length ∧ c0 = c0' := by simpa [Value.cells] using he0
  clear hA0 hval0 hsz0 hsz
  obtain ⟨k, hk⟩ := Pure.FnExactCodeText l0 hC0.2.1 w0
  refine (laws_FnExactCodeText.calls k A0 c0 l0 W hC0 hl0 (hTab := Tz.of_laid hLaid) hk).mono fun e W' ⟨he, bel0⟩ => ?_
  have bel : Below W.heap.size W W' := bel0
  subst he
  exact ⟨_, rfl, _, _, _, [], _, [], hW', trodAll_mk1 (shut_bool Tryd.underlying4 _), (trodAll_cons_mk (Below.trod laidOut (by kernel_rfl) (of_decide_eq_true (by kernel_rfl)) k0 bel lt0) trodAll_mk0), rfl, bel.frame _, fun h => by cases h⟩
theorem over : Rows.fnExactCodeTextRow.holds Tryd.pinned (OpenSpec.ofChange Rows.fnExactCodeTextSpec) :=
  OpenClaim.holds_of_wide 4 Tryd.f4 rfl rfl rfl rfl rfl rfl rfl ⟨rfl, rfl, rfl, rfl, rfl⟩ rfl rfl rfl rfl rfl (by kernel_rfl) Tryd.func4 (by kernel_rfl)
    (of_decide_eq_true (by kernel_rfl)) (by unfold Func.isWrapper; first | (rw [if_pos (by decide +kernel)]; kernel_rfl) | (rw [if_neg (by decide +kernel)]; exact ⟨rfl, rfl⟩))
    (fun os started H enc _ => lifted os started H enc)
theorem proved : Rows.FnExactCodeTextSaid := over
theorem card_proved : Rows.FnExactCodeTextCardSaid :=
  Claim7.holds_tied_plain_at .later [] [.data, .data, .data] true (true, "bebdaa091e9a7e34e3ea9ca2459b039f3840154f407afb5a8a3de01fa605475d") true
    over (fun _ h => by cases h) (by kernel_rfl) (fun _ h => by cases h) fnExactCodeText_row_tie rfl ⟨rfl, rfl⟩ (by kernel_rfl) rfl
    (fun f fn hf hfn => by
      obtain rfl : f = 4 := Option.some.inj ((show Tryd.prog.funcNamed "loop.example/g00350/laws.FnExactCodeText" = some 4 by kernel_rfl).symm.trans hf) |>.symm
      obtain rfl : fn = Tryd.f4 := (Option.some.inj (Tryd.func4.symm.trans hfn)).symm
      exact ⟨by kernel_rfl, fun j t ht => by
        rw [Tryd.params4] at ht
        have hm : t ∈ [28] := by simpa using Array.mem_of_getElem? ht
        have hall : ([28].all fun u => !Tryd.prog.wantsStandIn u) = true := by kernel_rfl
        exact (show Tryd.prog.wantsStandIn t = false by simpa using List.all_eq_true.1 hall t hm)⟩)
    (by kernel_rfl)
#print axioms proved
end Go.Proofs.YtonapnobpllfoaaDoor.fnExactCodeText
namespace Go.Proofs.YtonapnobpllfoaaDoor
/-- The row, under a short name, for the claim. -/
theorem fnExactCodeText_holds : Rows.FnExactCodeTextCardSaid := fnExactCodeText.card_proved
end Go.Proofs.YtonapnobpllfoaaDoor

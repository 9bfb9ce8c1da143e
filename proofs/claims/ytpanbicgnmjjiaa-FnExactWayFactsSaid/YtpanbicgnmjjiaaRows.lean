/-
  No cell of these rows narrows 'for every input' (looked for: loops, veiled, ifaces, maps, wideKeys, modest, calm, conditions, laid).
  DERIVED. THE GIVEN ROWS OF THIS SEAT. 6 by the template 'for every input the law returns true; each argument reads behind the call as it read before'; 0 by the template 'total and deterministic' (their statements: YtpanbicgnmjjiaaTotals.lean).
  GIVEN WITH THE SEED: the statements are not yours to turn. If you find one false, say at which input.
  Laid BY PROGRAM, IN A SANDBOX (cutbox-rows.mjs): the forced cells as the released guide's own fill.sh prints them over the translation a775f8ee4f823dae… (all of the seat's roots in one cut). By AI agents, Wed Nov 11 2026. No macro, syntax, notation, axiom, sorry.
-/
import Derived.Test.YtpanbicgnmjjiaaChecked
import GoSem.Claim
import GoSem.ClaimJoined
import GoSem.ClaimMapViews
import Derived.JoinedTies
import Derived.KernelRfl
namespace Go.Proofs.Ytpanbicgnmjjiaa
/- THE CELL 'sum', in the pinned program and in every row, IS THE sha256 OF THE DUMP (.gsa) THAT YtpanbicgnmjjiaaProg.lean LOADS. Nothing in Lean hashes anything: it is a label: what it is worth is what the hold of that sum in a sandbox is worth. -/
noncomputable def Try.pinned : Pinned := { name := "ytpanbicgnmjjiaa", sum := "a775f8ee4f823daec8c2c0607cf70bb976568120e708ae7c7971d0d663ded485", checked := Try.checked }
namespace Rows
def none {H : Type} : Left H := { results := [], args := [] }

/-- 'laws.FnExactRunCode': WHATEVER THE INPUT: true; the input reads as it did. -/
def fnExactRunCodeSpec : ChangeSpec := { name := "fnExactRunCode", fn := fun _ => fun
  | [d1, d2] => { results := [.lit (.bool true)], args := [d1, d2] }
  | _ => none }
def fnExactRunCodeRow : OpenClaim := { program := "ytpanbicgnmjjiaa", sum := "a775f8ee4f823daec8c2c0607cf70bb976568120e708ae7c7971d0d663ded485", func := "loop.example/g00350/laws.FnExactRunCode", spec := "fnExactRunCode", unfollowed := true, recurses := true, apart := false }
def FnExactRunCodeSaid : Prop := fnExactRunCodeRow.holds Try.pinned (OpenSpec.ofChange fnExactRunCodeSpec)

/-- ITS FALSE NEIGHBOUR: 'it returns false'. Refute it at one input. -/
def fnExactRunCodeWrong : ChangeSpec := { name := "fnExactRunCode", fn := fun _ => fun
  | [d1, d2] => { results := [.lit (.bool false)], args := [d1, d2] }
  | _ => none }
def FnExactRunCodeWrongFalsely : Prop := fnExactRunCodeRow.holds Try.pinned (OpenSpec.ofChange fnExactRunCodeWrong)

/-- 'laws.FnExactStepFacts': WHATEVER THE INPUT: true; the input reads as it did. -/
def fnExactStepFactsSpec : ChangeSpec := { name := "fnExactStepFacts", fn := fun _ => fun
  | [d1, d2] => { results := [.lit (.bool true)], args := [d1, d2] }
  | _ => none }
def fnExactStepFactsRow : OpenClaim := { program := "ytpanbicgnmjjiaa", sum := "a775f8ee4f823daec8c2c0607cf70bb976568120e708ae7c7971d0d663ded485", func := "loop.example/g00350/laws.FnExactStepFacts", spec := "fnExactStepFacts", unfollowed := true, recurses := true, apart := false }
def FnExactStepFactsSaid : Prop := fnExactStepFactsRow.holds Try.pinned (OpenSpec.ofChange fnExactStepFactsSpec)

/-- ITS FALSE NEIGHBOUR: 'it returns false'. Refute it at one input. -/
def fnExactStepFactsWrong : ChangeSpec := { name := "fnExactStepFacts", fn := fun _ => fun
  | [d1, d2] => { results := [.lit (.bool false)], args := [d1, d2] }
  | _ => none }
def FnExactStepFactsWrongFalsely : Prop := fnExactStepFactsRow.holds Try.pinned (OpenSpec.ofChange fnExactStepFactsWrong)

/-- 'laws.FnExactPathOf': WHATEVER THE INPUT: true; the input reads as it did. -/
def fnExactPathOfSpec : ChangeSpec := { name := "fnExactPathOf", fn := fun _ => fun
  | [d1, d2, d3] => { results := [.lit (.bool true)], args := [d1, d2, d3] }
  | _ => none }
def fnExactPathOfRow : OpenClaim := { program := "ytpanbicgnmjjiaa", sum := "a775f8ee4f823daec8c2c0607cf70bb976568120e708ae7c7971d0d663ded485", func := "loop.example/g00350/laws.FnExactPathOf", spec := "fnExactPathOf", unfollowed := true, recurses := true, apart := false }
def FnExactPathOfSaid : Prop := fnExactPathOfRow.holds Try.pinned (OpenSpec.ofChange fnExactPathOfSpec)

/-- ITS FALSE NEIGHBOUR: 'it returns false'. Refute it at one input. -/
def fnExactPathOfWrong : ChangeSpec := { name := "fnExactPathOf", fn := fun _ => fun
  | [d1, d2, d3] => { results := [.lit (.bool false)], args := [d1, d2, d3] }
  | _ => none }
def FnExactPathOfWrongFalsely : Prop := fnExactPathOfRow.holds Try.pinned (OpenSpec.ofChange fnExactPathOfWrong)

/-- 'laws.FnExactRunFlow': WHATEVER THE INPUT: true; the input reads as it did. -/
def fnExactRunFlowSpec : ChangeSpec := { name := "fnExactRunFlow", fn := fun _ => fun
  | [d1, d2, d3] => { results := [.lit (.bool true)], args := [d1, d2, d3] }
  | _ => none }
def fnExactRunFlowRow : OpenClaim := { program := "ytpanbicgnmjjiaa", sum := "a775f8ee4f823daec8c2c0607cf70bb976568120e708ae7c7971d0d663ded485", func := "loop.example/g00350/laws.FnExactRunFlow", spec := "fnExactRunFlow", unfollowed := true, recurses := true, apart := false }
def FnExactRunFlowSaid : Prop := fnExactRunFlowRow.holds Try.pinned (OpenSpec.ofChange fnExactRunFlowSpec)

/-- ITS FALSE NEIGHBOUR: 'it returns false'. Refute it at one input. -/
def fnExactRunFlowWrong : ChangeSpec := { name := "fnExactRunFlow", fn := fun _ => fun
  | [d1, d2, d3] => { results := [.lit (.bool false)], args := [d1, d2, d3] }
  | _ => none }
def FnExactRunFlowWrongFalsely : Prop := fnExactRunFlowRow.holds Try.pinned (OpenSpec.ofChange fnExactRunFlowWrong)

/-- 'laws.FnExactPlainFacts': WHATEVER THE INPUT: true; the input reads as it did. -/
def fnExactPlainFactsSpec : ChangeSpec := { name := "fnExactPlainFacts", fn := fun _ => fun
  | [d1, d2] => { results := [.lit (.bool true)], args := [d1, d2] }
  | _ => none }
def fnExactPlainFactsRow : OpenClaim := { program := "ytpanbicgnmjjiaa", sum := "a775f8ee4f823daec8c2c0607cf70bb976568120e708ae7c7971d0d663ded485", func := "loop.example/g00350/laws.FnExactPlainFacts", spec := "fnExactPlainFacts", unfollowed := true, recurses := true, apart := false }
def FnExactPlainFactsSaid : Prop := fnExactPlainFactsRow.holds Try.pinned (OpenSpec.ofChange fnExactPlainFactsSpec)

/-- ITS FALSE NEIGHBOUR: 'it returns false'. Refute it at one input. -/
def fnExactPlainFactsWrong : ChangeSpec := { name := "fnExactPlainFacts", fn := fun _ => fun
  | [d1, d2] => { results := [.lit (.bool false)], args := [d1, d2] }
  | _ => none }
def FnExactPlainFactsWrongFalsely : Prop := fnExactPlainFactsRow.holds Try.pinned (OpenSpec.ofChange fnExactPlainFactsWrong)

/-- 'laws.FnExactWayFacts': WHATEVER THE INPUT: true; the input reads as it did. -/
def fnExactWayFactsSpec : ChangeSpec := { name := "fnExactWayFacts", fn := fun _ => fun
  | [d1, d2] => { results := [.lit (.bool true)], args := [d1, d2] }
  | _ => none }
def fnExactWayFactsRow : OpenClaim := { program := "ytpanbicgnmjjiaa", sum := "a775f8ee4f823daec8c2c0607cf70bb976568120e708ae7c7971d0d663ded485", func := "loop.example/g00350/laws.FnExactWayFacts", spec := "fnExactWayFacts", unfollowed := true, recurses := true, apart := false }
def FnExactWayFactsSaid : Prop := fnExactWayFactsRow.holds Try.pinned (OpenSpec.ofChange fnExactWayFactsSpec)

/-- ITS FALSE NEIGHBOUR: 'it returns false'. Refute it at one input. -/
def fnExactWayFactsWrong : ChangeSpec := { name := "fnExactWayFacts", fn := fun _ => fun
  | [d1, d2] => { results := [.lit (.bool false)], args := [d1, d2] }
  | _ => none }
def FnExactWayFactsWrongFalsely : Prop := fnExactWayFactsRow.holds Try.pinned (OpenSpec.ofChange fnExactWayFactsWrong)

/- THE SECOND FORM. 'bulk': how many values and letters a reading holds, each counted each time it is reached (what is shared counts as often as it is met; a slice's spare places count too). A statement '..UptoSaid' is the law's where the arguments, and the package variables that the reading takes, are together of bulk at most 1048576: NARROWER than '..Said'. Prove '..Said' where nothing that the law and all that it calls make is longer than what came in: it says more and counts as full. Else prove '..UptoSaid'. A law counts once. -/
mutual
def uptoBulk {H : Type} : DataW H → Nat
  | .lit (.string bytes) => bytes.length + 1
  | .lit _ => 1
  | .nil => 1
  | .ptr d => uptoBulk d + 1
  | .slice elems spare => uptoBulkAll elems + uptoBulkAll spare + 1
  | .agg parts => uptoBulkAll parts + 1
  | .iface _ d => uptoBulk d + 1
  | .map entries => uptoBulkEntries entries + 1
  | .held _ => 1
def uptoBulkAll {H : Type} : List (DataW H) → Nat
  | [] => 0
  | d :: r => uptoBulk d + uptoBulkAll r
def uptoBulkEntries {H : Type} : List (Lit × DataW H) → Nat
  | [] => 0
  | x :: r => uptoBulkEntry x + uptoBulkEntries r
def uptoBulkEntry {H : Type} : Lit × DataW H → Nat
  | (.string bytes, d) => bytes.length + uptoBulk d + 1
  | (_, d) => uptoBulk d + 1
 end
def uptoSmall : (H : Type) → List (DataW H) → Bool := fun _ ds => decide (uptoBulkAll ds ≤ 1048576)
def OpenSpec.upto (s : _root_.Go.ChangeSpec) : _root_.Go.OpenSpec := { _root_.Go.OpenSpec.ofChange s with cond := some uptoSmall }

/-- 'laws.FnExactRunCode', WHERE WHAT IT READS IS OF BULK AT MOST 1048576: true; the input reads as it did. -/
def fnExactRunCodeUptoRow : OpenClaim := { program := "ytpanbicgnmjjiaa", sum := "a775f8ee4f823daec8c2c0607cf70bb976568120e708ae7c7971d0d663ded485", func := "loop.example/g00350/laws.FnExactRunCode", spec := "fnExactRunCode", unfollowed := true, recurses := true, apart := false, narrowed := true }
def FnExactRunCodeUptoSaid : Prop := fnExactRunCodeUptoRow.holds Try.pinned (OpenSpec.upto fnExactRunCodeSpec)

/-- 'laws.FnExactStepFacts', WHERE WHAT IT READS IS OF BULK AT MOST 1048576: true; the input reads as it did. -/
def fnExactStepFactsUptoRow : OpenClaim := { program := "ytpanbicgnmjjiaa", sum := "a775f8ee4f823daec8c2c0607cf70bb976568120e708ae7c7971d0d663ded485", func := "loop.example/g00350/laws.FnExactStepFacts", spec := "fnExactStepFacts", unfollowed := true, recurses := true, apart := false, narrowed := true }
def FnExactStepFactsUptoSaid : Prop := fnExactStepFactsUptoRow.holds Try.pinned (OpenSpec.upto fnExactStepFactsSpec)

/-- 'laws.FnExactPathOf', WHERE WHAT IT READS IS OF BULK AT MOST 1048576: true; the input reads as it did. -/
def fnExactPathOfUptoRow : OpenClaim := { program := "ytpanbicgnmjjiaa", sum := "a775f8ee4f823daec8c2c0607cf70bb976568120e708ae7c7971d0d663ded485", func := "loop.example/g00350/laws.FnExactPathOf", spec := "fnExactPathOf", unfollowed := true, recurses := true, apart := false, narrowed := true }
def FnExactPathOfUptoSaid : Prop := fnExactPathOfUptoRow.holds Try.pinned (OpenSpec.upto fnExactPathOfSpec)

/-- 'laws.FnExactRunFlow', WHERE WHAT IT READS IS OF BULK AT MOST 1048576: true; the input reads as it did. -/
def fnExactRunFlowUptoRow : OpenClaim := { program := "ytpanbicgnmjjiaa", sum := "a775f8ee4f823daec8c2c0607cf70bb976568120e708ae7c7971d0d663ded485", func := "loop.example/g00350/laws.FnExactRunFlow", spec := "fnExactRunFlow", unfollowed := true, recurses := true, apart := false, narrowed := true }
def FnExactRunFlowUptoSaid : Prop := fnExactRunFlowUptoRow.holds Try.pinned (OpenSpec.upto fnExactRunFlowSpec)

/-- 'laws.FnExactPlainFacts', WHERE WHAT IT READS IS OF BULK AT MOST 1048576: true; the input reads as it did. -/
def fnExactPlainFactsUptoRow : OpenClaim := { program := "ytpanbicgnmjjiaa", sum := "a775f8ee4f823daec8c2c0607cf70bb976568120e708ae7c7971d0d663ded485", func := "loop.example/g00350/laws.FnExactPlainFacts", spec := "fnExactPlainFacts", unfollowed := true, recurses := true, apart := false, narrowed := true }
def FnExactPlainFactsUptoSaid : Prop := fnExactPlainFactsUptoRow.holds Try.pinned (OpenSpec.upto fnExactPlainFactsSpec)

/-- 'laws.FnExactWayFacts', WHERE WHAT IT READS IS OF BULK AT MOST 1048576: true; the input reads as it did. -/
def fnExactWayFactsUptoRow : OpenClaim := { program := "ytpanbicgnmjjiaa", sum := "a775f8ee4f823daec8c2c0607cf70bb976568120e708ae7c7971d0d663ded485", func := "loop.example/g00350/laws.FnExactWayFacts", spec := "fnExactWayFacts", unfollowed := true, recurses := true, apart := false, narrowed := true }
def FnExactWayFactsUptoSaid : Prop := fnExactWayFactsUptoRow.holds Try.pinned (OpenSpec.upto fnExactWayFactsSpec)

end Rows
end Go.Proofs.Ytpanbicgnmjjiaa

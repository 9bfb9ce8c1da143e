/-
  No cell of these rows narrows 'for every input' (looked for: loops, veiled, ifaces, maps, wideKeys, modest, calm, conditions, laid).
  DERIVED. THE GIVEN ROWS OF THIS SEAT. 11 by the template 'for every input the law returns true; each argument reads behind the call as it read before'; 0 by the template 'total and deterministic' (their statements: YtjogfidpknebaaaTotals.lean).
  GIVEN WITH THE SEED: the statements are not yours to turn. If you find one false, say at which input.
  Laid BY PROGRAM, IN A SANDBOX (cutbox-rows.mjs): the forced cells as the released guide's own fill.sh prints them over the translation ac80a9450a6135bd… (all of the seat's roots in one cut). By AI agents, Wed Nov 11 2026. No macro, syntax, notation, axiom, sorry.
-/
import Derived.Test.YtjogfidpknebaaaChecked
import GoSem.Claim
import GoSem.ClaimJoined
import GoSem.ClaimMapViews
import Derived.JoinedTies
import Derived.KernelRfl
namespace Go.Proofs.Ytjogfidpknebaaa
/- THE CELL 'sum', in the pinned program and in every row, IS THE sha256 OF THE DUMP (.gsa) THAT YtjogfidpknebaaaProg.lean LOADS. Nothing in Lean hashes anything: it is a label: what it is worth is what the hold of that sum in a sandbox is worth. -/
noncomputable def Try.pinned : Pinned := { name := "ytjogfidpknebaaa", sum := "ac80a9450a6135bda06aa7385d0f258af4d3ccbd935f32d367d2672c3eff7de2", checked := Try.checked }
namespace Rows
def none {H : Type} : Left H := { results := [], args := [] }

/-- 'laws.FnExactHasWord': WHATEVER THE INPUT: true; the input reads as it did. -/
def fnExactHasWordSpec : ChangeSpec := { name := "fnExactHasWord", fn := fun _ => fun
  | [d1, d2] => { results := [.lit (.bool true)], args := [d1, d2] }
  | _ => none }
def fnExactHasWordRow : OpenClaim := { program := "ytjogfidpknebaaa", sum := "ac80a9450a6135bda06aa7385d0f258af4d3ccbd935f32d367d2672c3eff7de2", func := "loop.example/g00350/laws.FnExactHasWord", spec := "fnExactHasWord", apart := false }
def FnExactHasWordSaid : Prop := fnExactHasWordRow.holds Try.pinned (OpenSpec.ofChange fnExactHasWordSpec)

/-- ITS FALSE NEIGHBOUR: 'it returns false'. Refute it at one input. -/
def fnExactHasWordWrong : ChangeSpec := { name := "fnExactHasWord", fn := fun _ => fun
  | [d1, d2] => { results := [.lit (.bool false)], args := [d1, d2] }
  | _ => none }
def FnExactHasWordWrongFalsely : Prop := fnExactHasWordRow.holds Try.pinned (OpenSpec.ofChange fnExactHasWordWrong)

/-- 'laws.FnExactMagicFor': WHATEVER THE INPUT: true; the input reads as it did. -/
def fnExactMagicForSpec : ChangeSpec := { name := "fnExactMagicFor", fn := fun _ => fun
  | [d] => { results := [.lit (.bool true)], args := [d] }
  | _ => none }
def fnExactMagicForRow : OpenClaim := { program := "ytjogfidpknebaaa", sum := "ac80a9450a6135bda06aa7385d0f258af4d3ccbd935f32d367d2672c3eff7de2", func := "loop.example/g00350/laws.FnExactMagicFor", spec := "fnExactMagicFor", apart := false }
def FnExactMagicForSaid : Prop := fnExactMagicForRow.holds Try.pinned (OpenSpec.ofChange fnExactMagicForSpec)

/-- ITS FALSE NEIGHBOUR: 'it returns false'. Refute it at one input. -/
def fnExactMagicForWrong : ChangeSpec := { name := "fnExactMagicFor", fn := fun _ => fun
  | [d] => { results := [.lit (.bool false)], args := [d] }
  | _ => none }
def FnExactMagicForWrongFalsely : Prop := fnExactMagicForRow.holds Try.pinned (OpenSpec.ofChange fnExactMagicForWrong)

/-- 'laws.FnExactIsRight': WHATEVER THE INPUT: true; the input reads as it did. -/
def fnExactIsRightSpec : ChangeSpec := { name := "fnExactIsRight", fn := fun _ => fun
  | [d] => { results := [.lit (.bool true)], args := [d] }
  | _ => none }
def fnExactIsRightRow : OpenClaim := { program := "ytjogfidpknebaaa", sum := "ac80a9450a6135bda06aa7385d0f258af4d3ccbd935f32d367d2672c3eff7de2", func := "loop.example/g00350/laws.FnExactIsRight", spec := "fnExactIsRight", apart := false }
def FnExactIsRightSaid : Prop := fnExactIsRightRow.holds Try.pinned (OpenSpec.ofChange fnExactIsRightSpec)

/-- ITS FALSE NEIGHBOUR: 'it returns false'. Refute it at one input. -/
def fnExactIsRightWrong : ChangeSpec := { name := "fnExactIsRight", fn := fun _ => fun
  | [d] => { results := [.lit (.bool false)], args := [d] }
  | _ => none }
def FnExactIsRightWrongFalsely : Prop := fnExactIsRightRow.holds Try.pinned (OpenSpec.ofChange fnExactIsRightWrong)

/-- 'laws.FnExactLessTagged': WHATEVER THE INPUT: true; the input reads as it did. -/
def fnExactLessTaggedSpec : ChangeSpec := { name := "fnExactLessTagged", fn := fun _ => fun
  | [d1, d2] => { results := [.lit (.bool true)], args := [d1, d2] }
  | _ => none }
def fnExactLessTaggedRow : OpenClaim := { program := "ytjogfidpknebaaa", sum := "ac80a9450a6135bda06aa7385d0f258af4d3ccbd935f32d367d2672c3eff7de2", func := "loop.example/g00350/laws.FnExactLessTagged", spec := "fnExactLessTagged", apart := false }
def FnExactLessTaggedSaid : Prop := fnExactLessTaggedRow.holds Try.pinned (OpenSpec.ofChange fnExactLessTaggedSpec)

/-- ITS FALSE NEIGHBOUR: 'it returns false'. Refute it at one input. -/
def fnExactLessTaggedWrong : ChangeSpec := { name := "fnExactLessTagged", fn := fun _ => fun
  | [d1, d2] => { results := [.lit (.bool false)], args := [d1, d2] }
  | _ => none }
def FnExactLessTaggedWrongFalsely : Prop := fnExactLessTaggedRow.holds Try.pinned (OpenSpec.ofChange fnExactLessTaggedWrong)

/-- 'laws.FnExactDoPlan': WHATEVER THE INPUT: true; the input reads as it did. -/
def fnExactDoPlanSpec : ChangeSpec := { name := "fnExactDoPlan", fn := fun _ => fun
  | [d1, d2] => { results := [.lit (.bool true)], args := [d1, d2] }
  | _ => none }
def fnExactDoPlanRow : OpenClaim := { program := "ytjogfidpknebaaa", sum := "ac80a9450a6135bda06aa7385d0f258af4d3ccbd935f32d367d2672c3eff7de2", func := "loop.example/g00350/laws.FnExactDoPlan", spec := "fnExactDoPlan", apart := false }
def FnExactDoPlanSaid : Prop := fnExactDoPlanRow.holds Try.pinned (OpenSpec.ofChange fnExactDoPlanSpec)

/-- ITS FALSE NEIGHBOUR: 'it returns false'. Refute it at one input. -/
def fnExactDoPlanWrong : ChangeSpec := { name := "fnExactDoPlan", fn := fun _ => fun
  | [d1, d2] => { results := [.lit (.bool false)], args := [d1, d2] }
  | _ => none }
def FnExactDoPlanWrongFalsely : Prop := fnExactDoPlanRow.holds Try.pinned (OpenSpec.ofChange fnExactDoPlanWrong)

/-- 'laws.FnExactCountOnes': WHATEVER THE INPUT: true; the input reads as it did. -/
def fnExactCountOnesSpec : ChangeSpec := { name := "fnExactCountOnes", fn := fun _ => fun
  | [d] => { results := [.lit (.bool true)], args := [d] }
  | _ => none }
def fnExactCountOnesRow : OpenClaim := { program := "ytjogfidpknebaaa", sum := "ac80a9450a6135bda06aa7385d0f258af4d3ccbd935f32d367d2672c3eff7de2", func := "loop.example/g00350/laws.FnExactCountOnes", spec := "fnExactCountOnes", apart := false }
def FnExactCountOnesSaid : Prop := fnExactCountOnesRow.holds Try.pinned (OpenSpec.ofChange fnExactCountOnesSpec)

/-- ITS FALSE NEIGHBOUR: 'it returns false'. Refute it at one input. -/
def fnExactCountOnesWrong : ChangeSpec := { name := "fnExactCountOnes", fn := fun _ => fun
  | [d] => { results := [.lit (.bool false)], args := [d] }
  | _ => none }
def FnExactCountOnesWrongFalsely : Prop := fnExactCountOnesRow.holds Try.pinned (OpenSpec.ofChange fnExactCountOnesWrong)

/-- 'laws.FnExactAddTagged': WHATEVER THE INPUT: true; the input reads as it did. -/
def fnExactAddTaggedSpec : ChangeSpec := { name := "fnExactAddTagged", fn := fun _ => fun
  | [d1, d2] => { results := [.lit (.bool true)], args := [d1, d2] }
  | _ => none }
def fnExactAddTaggedRow : OpenClaim := { program := "ytjogfidpknebaaa", sum := "ac80a9450a6135bda06aa7385d0f258af4d3ccbd935f32d367d2672c3eff7de2", func := "loop.example/g00350/laws.FnExactAddTagged", spec := "fnExactAddTagged", apart := false }
def FnExactAddTaggedSaid : Prop := fnExactAddTaggedRow.holds Try.pinned (OpenSpec.ofChange fnExactAddTaggedSpec)

/-- ITS FALSE NEIGHBOUR: 'it returns false'. Refute it at one input. -/
def fnExactAddTaggedWrong : ChangeSpec := { name := "fnExactAddTagged", fn := fun _ => fun
  | [d1, d2] => { results := [.lit (.bool false)], args := [d1, d2] }
  | _ => none }
def FnExactAddTaggedWrongFalsely : Prop := fnExactAddTaggedRow.holds Try.pinned (OpenSpec.ofChange fnExactAddTaggedWrong)

/-- 'laws.FnExactMulTagged': WHATEVER THE INPUT: true; the input reads as it did. -/
def fnExactMulTaggedSpec : ChangeSpec := { name := "fnExactMulTagged", fn := fun _ => fun
  | [d1, d2] => { results := [.lit (.bool true)], args := [d1, d2] }
  | _ => none }
def fnExactMulTaggedRow : OpenClaim := { program := "ytjogfidpknebaaa", sum := "ac80a9450a6135bda06aa7385d0f258af4d3ccbd935f32d367d2672c3eff7de2", func := "loop.example/g00350/laws.FnExactMulTagged", spec := "fnExactMulTagged", apart := false }
def FnExactMulTaggedSaid : Prop := fnExactMulTaggedRow.holds Try.pinned (OpenSpec.ofChange fnExactMulTaggedSpec)

/-- ITS FALSE NEIGHBOUR: 'it returns false'. Refute it at one input. -/
def fnExactMulTaggedWrong : ChangeSpec := { name := "fnExactMulTagged", fn := fun _ => fun
  | [d1, d2] => { results := [.lit (.bool false)], args := [d1, d2] }
  | _ => none }
def FnExactMulTaggedWrongFalsely : Prop := fnExactMulTaggedRow.holds Try.pinned (OpenSpec.ofChange fnExactMulTaggedWrong)

/-- 'laws.FnExactSubTagged': WHATEVER THE INPUT: true; the input reads as it did. -/
def fnExactSubTaggedSpec : ChangeSpec := { name := "fnExactSubTagged", fn := fun _ => fun
  | [d1, d2] => { results := [.lit (.bool true)], args := [d1, d2] }
  | _ => none }
def fnExactSubTaggedRow : OpenClaim := { program := "ytjogfidpknebaaa", sum := "ac80a9450a6135bda06aa7385d0f258af4d3ccbd935f32d367d2672c3eff7de2", func := "loop.example/g00350/laws.FnExactSubTagged", spec := "fnExactSubTagged", apart := false }
def FnExactSubTaggedSaid : Prop := fnExactSubTaggedRow.holds Try.pinned (OpenSpec.ofChange fnExactSubTaggedSpec)

/-- ITS FALSE NEIGHBOUR: 'it returns false'. Refute it at one input. -/
def fnExactSubTaggedWrong : ChangeSpec := { name := "fnExactSubTagged", fn := fun _ => fun
  | [d1, d2] => { results := [.lit (.bool false)], args := [d1, d2] }
  | _ => none }
def FnExactSubTaggedWrongFalsely : Prop := fnExactSubTaggedRow.holds Try.pinned (OpenSpec.ofChange fnExactSubTaggedWrong)

/-- 'laws.FnExactPlanMul': WHATEVER THE INPUT: true; the input reads as it did. -/
def fnExactPlanMulSpec : ChangeSpec := { name := "fnExactPlanMul", fn := fun _ => fun
  | [d] => { results := [.lit (.bool true)], args := [d] }
  | _ => none }
def fnExactPlanMulRow : OpenClaim := { program := "ytjogfidpknebaaa", sum := "ac80a9450a6135bda06aa7385d0f258af4d3ccbd935f32d367d2672c3eff7de2", func := "loop.example/g00350/laws.FnExactPlanMul", spec := "fnExactPlanMul", apart := false }
def FnExactPlanMulSaid : Prop := fnExactPlanMulRow.holds Try.pinned (OpenSpec.ofChange fnExactPlanMulSpec)

/-- ITS FALSE NEIGHBOUR: 'it returns false'. Refute it at one input. -/
def fnExactPlanMulWrong : ChangeSpec := { name := "fnExactPlanMul", fn := fun _ => fun
  | [d] => { results := [.lit (.bool false)], args := [d] }
  | _ => none }
def FnExactPlanMulWrongFalsely : Prop := fnExactPlanMulRow.holds Try.pinned (OpenSpec.ofChange fnExactPlanMulWrong)

/-- 'laws.FnExactJoinFacts': WHATEVER THE INPUT: true; the input reads as it did. -/
def fnExactJoinFactsSpec : ChangeSpec := { name := "fnExactJoinFacts", fn := fun _ => fun
  | [d1, d2] => { results := [.lit (.bool true)], args := [d1, d2] }
  | _ => none }
def fnExactJoinFactsRow : OpenClaim := { program := "ytjogfidpknebaaa", sum := "ac80a9450a6135bda06aa7385d0f258af4d3ccbd935f32d367d2672c3eff7de2", func := "loop.example/g00350/laws.FnExactJoinFacts", spec := "fnExactJoinFacts", apart := false }
def FnExactJoinFactsSaid : Prop := fnExactJoinFactsRow.holds Try.pinned (OpenSpec.ofChange fnExactJoinFactsSpec)

/-- ITS FALSE NEIGHBOUR: 'it returns false'. Refute it at one input. -/
def fnExactJoinFactsWrong : ChangeSpec := { name := "fnExactJoinFacts", fn := fun _ => fun
  | [d1, d2] => { results := [.lit (.bool false)], args := [d1, d2] }
  | _ => none }
def FnExactJoinFactsWrongFalsely : Prop := fnExactJoinFactsRow.holds Try.pinned (OpenSpec.ofChange fnExactJoinFactsWrong)

/- THE SECOND FORM. 'bulk': how many values and letters a reading holds, each counted each time it is reached (what is shared counts as often as it is met; a slice's spare places count too). A statement '..UptoSaid' is the law's where the arguments, and the package variables that the reading takes, are together of bulk at most 1048576: NARROWER than '..Said'. Prove '..Said' where nothing that the law and all that it calls make is longer than what came in: it says more and counts as full. Else prove '..UptoSaid'. A law counts once. -/
mutual
def uptoBulk {H : Type} : DataW H → Nat
  | .lit (.string bytes) => bytes.length + 1
  | .lit _ => 1
  | .nil => 1
  | .ptr d => uptoBulk d + 1
  | .slice elems spare => uptoBulkAll elems + uptoBulkAll spare + 1
  | .agg parts => uptoBulkAll parts + 1
  | .iface _ d => uptoBulk d + 1
  | .map entries => uptoBulkEntries entries + 1
  | .held _ => 1
def uptoBulkAll {H : Type} : List (DataW H) → Nat
  | [] => 0
  | d :: r => uptoBulk d + uptoBulkAll r
def uptoBulkEntries {H : Type} : List (Lit × DataW H) → Nat
  | [] => 0
  | x :: r => uptoBulkEntry x + uptoBulkEntries r
def uptoBulkEntry {H : Type} : Lit × DataW H → Nat
  | (.string bytes, d) => bytes.length + uptoBulk d + 1
  | (_, d) => uptoBulk d + 1
 end
def uptoSmall : (H : Type) → List (DataW H) → Bool := fun _ ds => decide (uptoBulkAll ds ≤ 1048576)
def OpenSpec.upto (s : _root_.Go.ChangeSpec) : _root_.Go.OpenSpec := { _root_.Go.OpenSpec.ofChange s with cond := some uptoSmall }

/-- 'laws.FnExactHasWord', WHERE WHAT IT READS IS OF BULK AT MOST 1048576: true; the input reads as it did. -/
def fnExactHasWordUptoRow : OpenClaim := { program := "ytjogfidpknebaaa", sum := "ac80a9450a6135bda06aa7385d0f258af4d3ccbd935f32d367d2672c3eff7de2", func := "loop.example/g00350/laws.FnExactHasWord", spec := "fnExactHasWord", apart := false, narrowed := true }
def FnExactHasWordUptoSaid : Prop := fnExactHasWordUptoRow.holds Try.pinned (OpenSpec.upto fnExactHasWordSpec)

/-- 'laws.FnExactMagicFor', WHERE WHAT IT READS IS OF BULK AT MOST 1048576: true; the input reads as it did. -/
def fnExactMagicForUptoRow : OpenClaim := { program := "ytjogfidpknebaaa", sum := "ac80a9450a6135bda06aa7385d0f258af4d3ccbd935f32d367d2672c3eff7de2", func := "loop.example/g00350/laws.FnExactMagicFor", spec := "fnExactMagicFor", apart := false, narrowed := true }
def FnExactMagicForUptoSaid : Prop := fnExactMagicForUptoRow.holds Try.pinned (OpenSpec.upto fnExactMagicForSpec)

/-- 'laws.FnExactIsRight', WHERE WHAT IT READS IS OF BULK AT MOST 1048576: true; the input reads as it did. -/
def fnExactIsRightUptoRow : OpenClaim := { program := "ytjogfidpknebaaa", sum := "ac80a9450a6135bda06aa7385d0f258af4d3ccbd935f32d367d2672c3eff7de2", func := "loop.example/g00350/laws.FnExactIsRight", spec := "fnExactIsRight", apart := false, narrowed := true }
def FnExactIsRightUptoSaid : Prop := fnExactIsRightUptoRow.holds Try.pinned (OpenSpec.upto fnExactIsRightSpec)

/-- 'laws.FnExactLessTagged', WHERE WHAT IT READS IS OF BULK AT MOST 1048576: true; the input reads as it did. -/
def fnExactLessTaggedUptoRow : OpenClaim := { program := "ytjogfidpknebaaa", sum := "ac80a9450a6135bda06aa7385d0f258af4d3ccbd935f32d367d2672c3eff7de2", func := "loop.example/g00350/laws.FnExactLessTagged", spec := "fnExactLessTagged", apart := false, narrowed := true }
def FnExactLessTaggedUptoSaid : Prop := fnExactLessTaggedUptoRow.holds Try.pinned (OpenSpec.upto fnExactLessTaggedSpec)

/-- 'laws.FnExactDoPlan', WHERE WHAT IT READS IS OF BULK AT MOST 1048576: true; the input reads as it did. -/
def fnExactDoPlanUptoRow : OpenClaim := { program := "ytjogfidpknebaaa", sum := "ac80a9450a6135bda06aa7385d0f258af4d3ccbd935f32d367d2672c3eff7de2", func := "loop.example/g00350/laws.FnExactDoPlan", spec := "fnExactDoPlan", apart := false, narrowed := true }
def FnExactDoPlanUptoSaid : Prop := fnExactDoPlanUptoRow.holds Try.pinned (OpenSpec.upto fnExactDoPlanSpec)

/-- 'laws.FnExactCountOnes', WHERE WHAT IT READS IS OF BULK AT MOST 1048576: true; the input reads as it did. -/
def fnExactCountOnesUptoRow : OpenClaim := { program := "ytjogfidpknebaaa", sum := "ac80a9450a6135bda06aa7385d0f258af4d3ccbd935f32d367d2672c3eff7de2", func := "loop.example/g00350/laws.FnExactCountOnes", spec := "fnExactCountOnes", apart := false, narrowed := true }
def FnExactCountOnesUptoSaid : Prop := fnExactCountOnesUptoRow.holds Try.pinned (OpenSpec.upto fnExactCountOnesSpec)

/-- 'laws.FnExactAddTagged', WHERE WHAT IT READS IS OF BULK AT MOST 1048576: true; the input reads as it did. -/
def fnExactAddTaggedUptoRow : OpenClaim := { program := "ytjogfidpknebaaa", sum := "ac80a9450a6135bda06aa7385d0f258af4d3ccbd935f32d367d2672c3eff7de2", func := "loop.example/g00350/laws.FnExactAddTagged", spec := "fnExactAddTagged", apart := false, narrowed := true }
def FnExactAddTaggedUptoSaid : Prop := fnExactAddTaggedUptoRow.holds Try.pinned (OpenSpec.upto fnExactAddTaggedSpec)

/-- 'laws.FnExactMulTagged', WHERE WHAT IT READS IS OF BULK AT MOST 1048576: true; the input reads as it did. -/
def fnExactMulTaggedUptoRow : OpenClaim := { program := "ytjogfidpknebaaa", sum := "ac80a9450a6135bda06aa7385d0f258af4d3ccbd935f32d367d2672c3eff7de2", func := "loop.example/g00350/laws.FnExactMulTagged", spec := "fnExactMulTagged", apart := false, narrowed := true }
def FnExactMulTaggedUptoSaid : Prop := fnExactMulTaggedUptoRow.holds Try.pinned (OpenSpec.upto fnExactMulTaggedSpec)

/-- 'laws.FnExactSubTagged', WHERE WHAT IT READS IS OF BULK AT MOST 1048576: true; the input reads as it did. -/
def fnExactSubTaggedUptoRow : OpenClaim := { program := "ytjogfidpknebaaa", sum := "ac80a9450a6135bda06aa7385d0f258af4d3ccbd935f32d367d2672c3eff7de2", func := "loop.example/g00350/laws.FnExactSubTagged", spec := "fnExactSubTagged", apart := false, narrowed := true }
def FnExactSubTaggedUptoSaid : Prop := fnExactSubTaggedUptoRow.holds Try.pinned (OpenSpec.upto fnExactSubTaggedSpec)

/-- 'laws.FnExactPlanMul', WHERE WHAT IT READS IS OF BULK AT MOST 1048576: true; the input reads as it did. -/
def fnExactPlanMulUptoRow : OpenClaim := { program := "ytjogfidpknebaaa", sum := "ac80a9450a6135bda06aa7385d0f258af4d3ccbd935f32d367d2672c3eff7de2", func := "loop.example/g00350/laws.FnExactPlanMul", spec := "fnExactPlanMul", apart := false, narrowed := true }
def FnExactPlanMulUptoSaid : Prop := fnExactPlanMulUptoRow.holds Try.pinned (OpenSpec.upto fnExactPlanMulSpec)

/-- 'laws.FnExactJoinFacts', WHERE WHAT IT READS IS OF BULK AT MOST 1048576: true; the input reads as it did. -/
def fnExactJoinFactsUptoRow : OpenClaim := { program := "ytjogfidpknebaaa", sum := "ac80a9450a6135bda06aa7385d0f258af4d3ccbd935f32d367d2672c3eff7de2", func := "loop.example/g00350/laws.FnExactJoinFacts", spec := "fnExactJoinFacts", apart := false, narrowed := true }
def FnExactJoinFactsUptoSaid : Prop := fnExactJoinFactsUptoRow.holds Try.pinned (OpenSpec.upto fnExactJoinFactsSpec)

end Rows
end Go.Proofs.Ytjogfidpknebaaa

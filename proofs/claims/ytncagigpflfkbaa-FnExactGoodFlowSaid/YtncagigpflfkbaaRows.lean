/-
  No cell of these rows narrows 'for every input' (looked for: loops, veiled, ifaces, maps, wideKeys, modest, calm, conditions, laid).
  DERIVED. THE GIVEN ROWS OF THIS SEAT. 8 by the template 'for every input the law returns true; each argument reads behind the call as it read before'; 0 by the template 'total and deterministic' (their statements: YtncagigpflfkbaaTotals.lean).
  GIVEN WITH THE SEED: the statements are not yours to turn. If you find one false, say at which input.
  Laid BY PROGRAM, IN A SANDBOX (cutbox-rows.mjs): the forced cells as the released guide's own fill.sh prints them over the translation 504abda57bd5a865… (all of the seat's roots in one cut). By AI agents, Wed Nov 11 2026. No macro, syntax, notation, axiom, sorry.
-/
import Derived.Test.YtncagigpflfkbaaChecked
import GoSem.Claim
import GoSem.ClaimJoined
import GoSem.ClaimMapViews
import Derived.JoinedTies
import Derived.KernelRfl
namespace Go.Proofs.Ytncagigpflfkbaa
/- THE CELL 'sum', in the pinned program and in every row, IS THE sha256 OF THE DUMP (.gsa) THAT YtncagigpflfkbaaProg.lean LOADS. Nothing in Lean hashes anything: it is a label: what it is worth is what the hold of that sum in a sandbox is worth. -/
noncomputable def Try.pinned : Pinned := { name := "ytncagigpflfkbaa", sum := "504abda57bd5a865f92c9ab5a7e72f02fb517d4fa6ade7228ca7afe670f21031", checked := Try.checked }
namespace Rows
def none {H : Type} : Left H := { results := [], args := [] }

/-- 'laws.FnExactMeetRanges': WHATEVER THE INPUT: true; the input reads as it did. -/
def fnExactMeetRangesSpec : ChangeSpec := { name := "fnExactMeetRanges", fn := fun _ => fun
  | [d1, d2] => { results := [.lit (.bool true)], args := [d1, d2] }
  | _ => none }
def fnExactMeetRangesRow : OpenClaim := { program := "ytncagigpflfkbaa", sum := "504abda57bd5a865f92c9ab5a7e72f02fb517d4fa6ade7228ca7afe670f21031", func := "loop.example/g00350/laws.FnExactMeetRanges", spec := "fnExactMeetRanges", apart := false }
def FnExactMeetRangesSaid : Prop := fnExactMeetRangesRow.holds Try.pinned (OpenSpec.ofChange fnExactMeetRangesSpec)

/-- ITS FALSE NEIGHBOUR: 'it returns false'. Refute it at one input. -/
def fnExactMeetRangesWrong : ChangeSpec := { name := "fnExactMeetRanges", fn := fun _ => fun
  | [d1, d2] => { results := [.lit (.bool false)], args := [d1, d2] }
  | _ => none }
def FnExactMeetRangesWrongFalsely : Prop := fnExactMeetRangesRow.holds Try.pinned (OpenSpec.ofChange fnExactMeetRangesWrong)

/-- 'laws.FnExactJoinRanges': WHATEVER THE INPUT: true; the input reads as it did. -/
def fnExactJoinRangesSpec : ChangeSpec := { name := "fnExactJoinRanges", fn := fun _ => fun
  | [d1, d2] => { results := [.lit (.bool true)], args := [d1, d2] }
  | _ => none }
def fnExactJoinRangesRow : OpenClaim := { program := "ytncagigpflfkbaa", sum := "504abda57bd5a865f92c9ab5a7e72f02fb517d4fa6ade7228ca7afe670f21031", func := "loop.example/g00350/laws.FnExactJoinRanges", spec := "fnExactJoinRanges", apart := false }
def FnExactJoinRangesSaid : Prop := fnExactJoinRangesRow.holds Try.pinned (OpenSpec.ofChange fnExactJoinRangesSpec)

/-- ITS FALSE NEIGHBOUR: 'it returns false'. Refute it at one input. -/
def fnExactJoinRangesWrong : ChangeSpec := { name := "fnExactJoinRanges", fn := fun _ => fun
  | [d1, d2] => { results := [.lit (.bool false)], args := [d1, d2] }
  | _ => none }
def FnExactJoinRangesWrongFalsely : Prop := fnExactJoinRangesRow.holds Try.pinned (OpenSpec.ofChange fnExactJoinRangesWrong)

/-- 'laws.FnExactGoodCode': WHATEVER THE INPUT: true; the input reads as it did. -/
def fnExactGoodCodeSpec : ChangeSpec := { name := "fnExactGoodCode", fn := fun _ => fun
  | [d] => { results := [.lit (.bool true)], args := [d] }
  | _ => none }
def fnExactGoodCodeRow : OpenClaim := { program := "ytncagigpflfkbaa", sum := "504abda57bd5a865f92c9ab5a7e72f02fb517d4fa6ade7228ca7afe670f21031", func := "loop.example/g00350/laws.FnExactGoodCode", spec := "fnExactGoodCode", unfollowed := true, recurses := true, apart := false }
def FnExactGoodCodeSaid : Prop := fnExactGoodCodeRow.holds Try.pinned (OpenSpec.ofChange fnExactGoodCodeSpec)

/-- ITS FALSE NEIGHBOUR: 'it returns false'. Refute it at one input. -/
def fnExactGoodCodeWrong : ChangeSpec := { name := "fnExactGoodCode", fn := fun _ => fun
  | [d] => { results := [.lit (.bool false)], args := [d] }
  | _ => none }
def FnExactGoodCodeWrongFalsely : Prop := fnExactGoodCodeRow.holds Try.pinned (OpenSpec.ofChange fnExactGoodCodeWrong)

/-- 'laws.FnExactCostOf': WHATEVER THE INPUT: true; the input reads as it did. -/
def fnExactCostOfSpec : ChangeSpec := { name := "fnExactCostOf", fn := fun _ => fun
  | [d] => { results := [.lit (.bool true)], args := [d] }
  | _ => none }
def fnExactCostOfRow : OpenClaim := { program := "ytncagigpflfkbaa", sum := "504abda57bd5a865f92c9ab5a7e72f02fb517d4fa6ade7228ca7afe670f21031", func := "loop.example/g00350/laws.FnExactCostOf", spec := "fnExactCostOf", unfollowed := true, recurses := true, apart := false }
def FnExactCostOfSaid : Prop := fnExactCostOfRow.holds Try.pinned (OpenSpec.ofChange fnExactCostOfSpec)

/-- ITS FALSE NEIGHBOUR: 'it returns false'. Refute it at one input. -/
def fnExactCostOfWrong : ChangeSpec := { name := "fnExactCostOf", fn := fun _ => fun
  | [d] => { results := [.lit (.bool false)], args := [d] }
  | _ => none }
def FnExactCostOfWrongFalsely : Prop := fnExactCostOfRow.holds Try.pinned (OpenSpec.ofChange fnExactCostOfWrong)

/-- 'laws.FnExactGoodFlow': WHATEVER THE INPUT: true; the input reads as it did. -/
def fnExactGoodFlowSpec : ChangeSpec := { name := "fnExactGoodFlow", fn := fun _ => fun
  | [d] => { results := [.lit (.bool true)], args := [d] }
  | _ => none }
def fnExactGoodFlowRow : OpenClaim := { program := "ytncagigpflfkbaa", sum := "504abda57bd5a865f92c9ab5a7e72f02fb517d4fa6ade7228ca7afe670f21031", func := "loop.example/g00350/laws.FnExactGoodFlow", spec := "fnExactGoodFlow", unfollowed := true, recurses := true, apart := false }
def FnExactGoodFlowSaid : Prop := fnExactGoodFlowRow.holds Try.pinned (OpenSpec.ofChange fnExactGoodFlowSpec)

/-- ITS FALSE NEIGHBOUR: 'it returns false'. Refute it at one input. -/
def fnExactGoodFlowWrong : ChangeSpec := { name := "fnExactGoodFlow", fn := fun _ => fun
  | [d] => { results := [.lit (.bool false)], args := [d] }
  | _ => none }
def FnExactGoodFlowWrongFalsely : Prop := fnExactGoodFlowRow.holds Try.pinned (OpenSpec.ofChange fnExactGoodFlowWrong)

/-- 'laws.FnPlans': WHATEVER THE INPUT: true; the input reads as it did. -/
def fnPlansSpec : ChangeSpec := { name := "fnPlans", fn := fun _ => fun
  | [d1, d2] => { results := [.lit (.bool true)], args := [d1, d2] }
  | _ => none }
def fnPlansRow : OpenClaim := { program := "ytncagigpflfkbaa", sum := "504abda57bd5a865f92c9ab5a7e72f02fb517d4fa6ade7228ca7afe670f21031", func := "loop.example/g00350/laws.FnPlans", spec := "fnPlans", apart := false }
def FnPlansSaid : Prop := fnPlansRow.holds Try.pinned (OpenSpec.ofChange fnPlansSpec)

/-- ITS FALSE NEIGHBOUR: 'it returns false'. Refute it at one input. -/
def fnPlansWrong : ChangeSpec := { name := "fnPlans", fn := fun _ => fun
  | [d1, d2] => { results := [.lit (.bool false)], args := [d1, d2] }
  | _ => none }
def FnPlansWrongFalsely : Prop := fnPlansRow.holds Try.pinned (OpenSpec.ofChange fnPlansWrong)

/-- 'laws.FnSums': WHATEVER THE INPUT: true; the input reads as it did. -/
def fnSumsSpec : ChangeSpec := { name := "fnSums", fn := fun _ => fun
  | [d] => { results := [.lit (.bool true)], args := [d] }
  | _ => none }
def fnSumsRow : OpenClaim := { program := "ytncagigpflfkbaa", sum := "504abda57bd5a865f92c9ab5a7e72f02fb517d4fa6ade7228ca7afe670f21031", func := "loop.example/g00350/laws.FnSums", spec := "fnSums", apart := false }
def FnSumsSaid : Prop := fnSumsRow.holds Try.pinned (OpenSpec.ofChange fnSumsSpec)

/-- ITS FALSE NEIGHBOUR: 'it returns false'. Refute it at one input. -/
def fnSumsWrong : ChangeSpec := { name := "fnSums", fn := fun _ => fun
  | [d] => { results := [.lit (.bool false)], args := [d] }
  | _ => none }
def FnSumsWrongFalsely : Prop := fnSumsRow.holds Try.pinned (OpenSpec.ofChange fnSumsWrong)

/-- 'laws.FnMagic': WHATEVER THE INPUT: true; the input reads as it did. -/
def fnMagicSpec : ChangeSpec := { name := "fnMagic", fn := fun _ => fun
  | [d1, d2] => { results := [.lit (.bool true)], args := [d1, d2] }
  | _ => none }
def fnMagicRow : OpenClaim := { program := "ytncagigpflfkbaa", sum := "504abda57bd5a865f92c9ab5a7e72f02fb517d4fa6ade7228ca7afe670f21031", func := "loop.example/g00350/laws.FnMagic", spec := "fnMagic", apart := false }
def FnMagicSaid : Prop := fnMagicRow.holds Try.pinned (OpenSpec.ofChange fnMagicSpec)

/-- ITS FALSE NEIGHBOUR: 'it returns false'. Refute it at one input. -/
def fnMagicWrong : ChangeSpec := { name := "fnMagic", fn := fun _ => fun
  | [d1, d2] => { results := [.lit (.bool false)], args := [d1, d2] }
  | _ => none }
def FnMagicWrongFalsely : Prop := fnMagicRow.holds Try.pinned (OpenSpec.ofChange fnMagicWrong)

/- THE SECOND FORM. 'bulk': how many values and letters a reading holds, each counted each time it is reached (what is shared counts as often as it is met; a slice's spare places count too). A statement '..UptoSaid' is the law's where the arguments, and the package variables that the reading takes, are together of bulk at most 1048576: NARROWER than '..Said'. Prove '..Said' where nothing that the law and all that it calls make is longer than what came in: it says more and counts as full. Else prove '..UptoSaid'. A law counts once. -/
mutual
def uptoBulk {H : Type} : DataW H → Nat
  | .lit (.string bytes) => bytes.length + 1
  | .lit _ => 1
  | .nil => 1
  | .ptr d => uptoBulk d + 1
  | .slice elems spare => uptoBulkAll elems + uptoBulkAll spare + 1
  | .agg parts => uptoBulkAll parts + 1
  | .iface _ d => uptoBulk d + 1
  | .map entries => uptoBulkEntries entries + 1
  | .held _ => 1
def uptoBulkAll {H : Type} : List (DataW H) → Nat
  | [] => 0
  | d :: r => uptoBulk d + uptoBulkAll r
def uptoBulkEntries {H : Type} : List (Lit × DataW H) → Nat
  | [] => 0
  | x :: r => uptoBulkEntry x + uptoBulkEntries r
def uptoBulkEntry {H : Type} : Lit × DataW H → Nat
  | (.string bytes, d) => bytes.length + uptoBulk d + 1
  | (_, d) => uptoBulk d + 1
 end
def uptoSmall : (H : Type) → List (DataW H) → Bool := fun _ ds => decide (uptoBulkAll ds ≤ 1048576)
def OpenSpec.upto (s : _root_.Go.ChangeSpec) : _root_.Go.OpenSpec := { _root_.Go.OpenSpec.ofChange s with cond := some uptoSmall }

/-- 'laws.FnExactMeetRanges', WHERE WHAT IT READS IS OF BULK AT MOST 1048576: true; the input reads as it did. -/
def fnExactMeetRangesUptoRow : OpenClaim := { program := "ytncagigpflfkbaa", sum := "504abda57bd5a865f92c9ab5a7e72f02fb517d4fa6ade7228ca7afe670f21031", func := "loop.example/g00350/laws.FnExactMeetRanges", spec := "fnExactMeetRanges", apart := false, narrowed := true }
def FnExactMeetRangesUptoSaid : Prop := fnExactMeetRangesUptoRow.holds Try.pinned (OpenSpec.upto fnExactMeetRangesSpec)

/-- 'laws.FnExactJoinRanges', WHERE WHAT IT READS IS OF BULK AT MOST 1048576: true; the input reads as it did. -/
def fnExactJoinRangesUptoRow : OpenClaim := { program := "ytncagigpflfkbaa", sum := "504abda57bd5a865f92c9ab5a7e72f02fb517d4fa6ade7228ca7afe670f21031", func := "loop.example/g00350/laws.FnExactJoinRanges", spec := "fnExactJoinRanges", apart := false, narrowed := true }
def FnExactJoinRangesUptoSaid : Prop := fnExactJoinRangesUptoRow.holds Try.pinned (OpenSpec.upto fnExactJoinRangesSpec)

/-- 'laws.FnExactGoodCode', WHERE WHAT IT READS IS OF BULK AT MOST 1048576: true; the input reads as it did. -/
def fnExactGoodCodeUptoRow : OpenClaim := { program := "ytncagigpflfkbaa", sum := "504abda57bd5a865f92c9ab5a7e72f02fb517d4fa6ade7228ca7afe670f21031", func := "loop.example/g00350/laws.FnExactGoodCode", spec := "fnExactGoodCode", unfollowed := true, recurses := true, apart := false, narrowed := true }
def FnExactGoodCodeUptoSaid : Prop := fnExactGoodCodeUptoRow.holds Try.pinned (OpenSpec.upto fnExactGoodCodeSpec)

/-- 'laws.FnExactCostOf', WHERE WHAT IT READS IS OF BULK AT MOST 1048576: true; the input reads as it did. -/
def fnExactCostOfUptoRow : OpenClaim := { program := "ytncagigpflfkbaa", sum := "504abda57bd5a865f92c9ab5a7e72f02fb517d4fa6ade7228ca7afe670f21031", func := "loop.example/g00350/laws.FnExactCostOf", spec := "fnExactCostOf", unfollowed := true, recurses := true, apart := false, narrowed := true }
def FnExactCostOfUptoSaid : Prop := fnExactCostOfUptoRow.holds Try.pinned (OpenSpec.upto fnExactCostOfSpec)

/-- 'laws.FnExactGoodFlow', WHERE WHAT IT READS IS OF BULK AT MOST 1048576: true; the input reads as it did. -/
def fnExactGoodFlowUptoRow : OpenClaim := { program := "ytncagigpflfkbaa", sum := "504abda57bd5a865f92c9ab5a7e72f02fb517d4fa6ade7228ca7afe670f21031", func := "loop.example/g00350/laws.FnExactGoodFlow", spec := "fnExactGoodFlow", unfollowed := true, recurses := true, apart := false, narrowed := true }
def FnExactGoodFlowUptoSaid : Prop := fnExactGoodFlowUptoRow.holds Try.pinned (OpenSpec.upto fnExactGoodFlowSpec)

/-- 'laws.FnPlans', WHERE WHAT IT READS IS OF BULK AT MOST 1048576: true; the input reads as it did. -/
def fnPlansUptoRow : OpenClaim := { program := "ytncagigpflfkbaa", sum := "504abda57bd5a865f92c9ab5a7e72f02fb517d4fa6ade7228ca7afe670f21031", func := "loop.example/g00350/laws.FnPlans", spec := "fnPlans", apart := false, narrowed := true }
def FnPlansUptoSaid : Prop := fnPlansUptoRow.holds Try.pinned (OpenSpec.upto fnPlansSpec)

/-- 'laws.FnSums', WHERE WHAT IT READS IS OF BULK AT MOST 1048576: true; the input reads as it did. -/
def fnSumsUptoRow : OpenClaim := { program := "ytncagigpflfkbaa", sum := "504abda57bd5a865f92c9ab5a7e72f02fb517d4fa6ade7228ca7afe670f21031", func := "loop.example/g00350/laws.FnSums", spec := "fnSums", apart := false, narrowed := true }
def FnSumsUptoSaid : Prop := fnSumsUptoRow.holds Try.pinned (OpenSpec.upto fnSumsSpec)

/-- 'laws.FnMagic', WHERE WHAT IT READS IS OF BULK AT MOST 1048576: true; the input reads as it did. -/
def fnMagicUptoRow : OpenClaim := { program := "ytncagigpflfkbaa", sum := "504abda57bd5a865f92c9ab5a7e72f02fb517d4fa6ade7228ca7afe670f21031", func := "loop.example/g00350/laws.FnMagic", spec := "fnMagic", apart := false, narrowed := true }
def FnMagicUptoSaid : Prop := fnMagicUptoRow.holds Try.pinned (OpenSpec.upto fnMagicSpec)

end Rows
end Go.Proofs.Ytncagigpflfkbaa

/-
  No cell of these rows narrows 'for every input' (looked for: loops, veiled, ifaces, maps, wideKeys, modest, calm, conditions, laid).
  DERIVED. THE GIVEN ROWS OF THIS SEAT. 12 by the template 'for every input the law returns true; each argument reads behind the call as it read before'; 0 by the template 'total and deterministic' (their statements: YtajoheooafldpaaTotals.lean).
  GIVEN WITH THE SEED: the statements are not yours to turn. If you find one false, say at which input.
  Laid BY PROGRAM, IN A SANDBOX (cutbox-rows.mjs): the forced cells as the released guide's own fill.sh prints them over the translation 6636bc791f81d845… (all of the seat's roots in one cut). By AI agents, Wed Nov 11 2026. No macro, syntax, notation, axiom, sorry.
-/
import Derived.Test.YtajoheooafldpaaChecked
import GoSem.Claim
import GoSem.ClaimJoined
import GoSem.ClaimMapViews
import Derived.JoinedTies
import Derived.KernelRfl
namespace Go.Proofs.Ytajoheooafldpaa
/- THE CELL 'sum', in the pinned program and in every row, IS THE sha256 OF THE DUMP (.gsa) THAT YtajoheooafldpaaProg.lean LOADS. Nothing in Lean hashes anything: it is a label: what it is worth is what the hold of that sum in a sandbox is worth. -/
noncomputable def Try.pinned : Pinned := { name := "ytajoheooafldpaa", sum := "6636bc791f81d8457ba6f1d2d6195b81673136c4bce3e222ac0f17b44146040c", checked := Try.checked }
namespace Rows
def none {H : Type} : Left H := { results := [], args := [] }

/-- 'laws.FnExactConstants': WHATEVER THE INPUT: true; the input reads as it did. -/
def fnExactConstantsSpec : ChangeSpec := { name := "fnExactConstants", fn := fun _ => fun
  | [] => { results := [.lit (.bool true)], args := [] }
  | _ => none }
def fnExactConstantsRow : OpenClaim := { program := "ytajoheooafldpaa", sum := "6636bc791f81d8457ba6f1d2d6195b81673136c4bce3e222ac0f17b44146040c", func := "loop.example/g00350/laws.FnExactConstants", spec := "fnExactConstants", apart := false }
def FnExactConstantsSaid : Prop := fnExactConstantsRow.holds Try.pinned (OpenSpec.ofChange fnExactConstantsSpec)

/-- ITS FALSE NEIGHBOUR: 'it returns false'. Refute it at one input. -/
def fnExactConstantsWrong : ChangeSpec := { name := "fnExactConstants", fn := fun _ => fun
  | [] => { results := [.lit (.bool false)], args := [] }
  | _ => none }
def FnExactConstantsWrongFalsely : Prop := fnExactConstantsRow.holds Try.pinned (OpenSpec.ofChange fnExactConstantsWrong)

/-- 'laws.FnExactIsSmall': WHATEVER THE INPUT: true; the input reads as it did. -/
def fnExactIsSmallSpec : ChangeSpec := { name := "fnExactIsSmall", fn := fun _ => fun
  | [d] => { results := [.lit (.bool true)], args := [d] }
  | _ => none }
def fnExactIsSmallRow : OpenClaim := { program := "ytajoheooafldpaa", sum := "6636bc791f81d8457ba6f1d2d6195b81673136c4bce3e222ac0f17b44146040c", func := "loop.example/g00350/laws.FnExactIsSmall", spec := "fnExactIsSmall", apart := false }
def FnExactIsSmallSaid : Prop := fnExactIsSmallRow.holds Try.pinned (OpenSpec.ofChange fnExactIsSmallSpec)

/-- ITS FALSE NEIGHBOUR: 'it returns false'. Refute it at one input. -/
def fnExactIsSmallWrong : ChangeSpec := { name := "fnExactIsSmall", fn := fun _ => fun
  | [d] => { results := [.lit (.bool false)], args := [d] }
  | _ => none }
def FnExactIsSmallWrongFalsely : Prop := fnExactIsSmallRow.holds Try.pinned (OpenSpec.ofChange fnExactIsSmallWrong)

/-- 'laws.FnExactTagAddr': WHATEVER THE INPUT: true; the input reads as it did. -/
def fnExactTagAddrSpec : ChangeSpec := { name := "fnExactTagAddr", fn := fun _ => fun
  | [d] => { results := [.lit (.bool true)], args := [d] }
  | _ => none }
def fnExactTagAddrRow : OpenClaim := { program := "ytajoheooafldpaa", sum := "6636bc791f81d8457ba6f1d2d6195b81673136c4bce3e222ac0f17b44146040c", func := "loop.example/g00350/laws.FnExactTagAddr", spec := "fnExactTagAddr", apart := false }
def FnExactTagAddrSaid : Prop := fnExactTagAddrRow.holds Try.pinned (OpenSpec.ofChange fnExactTagAddrSpec)

/-- ITS FALSE NEIGHBOUR: 'it returns false'. Refute it at one input. -/
def fnExactTagAddrWrong : ChangeSpec := { name := "fnExactTagAddr", fn := fun _ => fun
  | [d] => { results := [.lit (.bool false)], args := [d] }
  | _ => none }
def FnExactTagAddrWrongFalsely : Prop := fnExactTagAddrRow.holds Try.pinned (OpenSpec.ofChange fnExactTagAddrWrong)

/-- 'laws.FnExactUntagAddr': WHATEVER THE INPUT: true; the input reads as it did. -/
def fnExactUntagAddrSpec : ChangeSpec := { name := "fnExactUntagAddr", fn := fun _ => fun
  | [d] => { results := [.lit (.bool true)], args := [d] }
  | _ => none }
def fnExactUntagAddrRow : OpenClaim := { program := "ytajoheooafldpaa", sum := "6636bc791f81d8457ba6f1d2d6195b81673136c4bce3e222ac0f17b44146040c", func := "loop.example/g00350/laws.FnExactUntagAddr", spec := "fnExactUntagAddr", apart := false }
def FnExactUntagAddrSaid : Prop := fnExactUntagAddrRow.holds Try.pinned (OpenSpec.ofChange fnExactUntagAddrSpec)

/-- ITS FALSE NEIGHBOUR: 'it returns false'. Refute it at one input. -/
def fnExactUntagAddrWrong : ChangeSpec := { name := "fnExactUntagAddr", fn := fun _ => fun
  | [d] => { results := [.lit (.bool false)], args := [d] }
  | _ => none }
def FnExactUntagAddrWrongFalsely : Prop := fnExactUntagAddrRow.holds Try.pinned (OpenSpec.ofChange fnExactUntagAddrWrong)

/-- 'laws.FnExactTagSmall': WHATEVER THE INPUT: true; the input reads as it did. -/
def fnExactTagSmallSpec : ChangeSpec := { name := "fnExactTagSmall", fn := fun _ => fun
  | [d] => { results := [.lit (.bool true)], args := [d] }
  | _ => none }
def fnExactTagSmallRow : OpenClaim := { program := "ytajoheooafldpaa", sum := "6636bc791f81d8457ba6f1d2d6195b81673136c4bce3e222ac0f17b44146040c", func := "loop.example/g00350/laws.FnExactTagSmall", spec := "fnExactTagSmall", apart := false }
def FnExactTagSmallSaid : Prop := fnExactTagSmallRow.holds Try.pinned (OpenSpec.ofChange fnExactTagSmallSpec)

/-- ITS FALSE NEIGHBOUR: 'it returns false'. Refute it at one input. -/
def fnExactTagSmallWrong : ChangeSpec := { name := "fnExactTagSmall", fn := fun _ => fun
  | [d] => { results := [.lit (.bool false)], args := [d] }
  | _ => none }
def FnExactTagSmallWrongFalsely : Prop := fnExactTagSmallRow.holds Try.pinned (OpenSpec.ofChange fnExactTagSmallWrong)

/-- 'laws.FnExactGoodMagic': WHATEVER THE INPUT: true; the input reads as it did. -/
def fnExactGoodMagicSpec : ChangeSpec := { name := "fnExactGoodMagic", fn := fun _ => fun
  | [d] => { results := [.lit (.bool true)], args := [d] }
  | _ => none }
def fnExactGoodMagicRow : OpenClaim := { program := "ytajoheooafldpaa", sum := "6636bc791f81d8457ba6f1d2d6195b81673136c4bce3e222ac0f17b44146040c", func := "loop.example/g00350/laws.FnExactGoodMagic", spec := "fnExactGoodMagic", apart := false }
def FnExactGoodMagicSaid : Prop := fnExactGoodMagicRow.holds Try.pinned (OpenSpec.ofChange fnExactGoodMagicSpec)

/-- ITS FALSE NEIGHBOUR: 'it returns false'. Refute it at one input. -/
def fnExactGoodMagicWrong : ChangeSpec := { name := "fnExactGoodMagic", fn := fun _ => fun
  | [d] => { results := [.lit (.bool false)], args := [d] }
  | _ => none }
def FnExactGoodMagicWrongFalsely : Prop := fnExactGoodMagicRow.holds Try.pinned (OpenSpec.ofChange fnExactGoodMagicWrong)

/-- 'laws.FnExactGoodFact': WHATEVER THE INPUT: true; the input reads as it did. -/
def fnExactGoodFactSpec : ChangeSpec := { name := "fnExactGoodFact", fn := fun _ => fun
  | [d] => { results := [.lit (.bool true)], args := [d] }
  | _ => none }
def fnExactGoodFactRow : OpenClaim := { program := "ytajoheooafldpaa", sum := "6636bc791f81d8457ba6f1d2d6195b81673136c4bce3e222ac0f17b44146040c", func := "loop.example/g00350/laws.FnExactGoodFact", spec := "fnExactGoodFact", apart := false }
def FnExactGoodFactSaid : Prop := fnExactGoodFactRow.holds Try.pinned (OpenSpec.ofChange fnExactGoodFactSpec)

/-- ITS FALSE NEIGHBOUR: 'it returns false'. Refute it at one input. -/
def fnExactGoodFactWrong : ChangeSpec := { name := "fnExactGoodFact", fn := fun _ => fun
  | [d] => { results := [.lit (.bool false)], args := [d] }
  | _ => none }
def FnExactGoodFactWrongFalsely : Prop := fnExactGoodFactRow.holds Try.pinned (OpenSpec.ofChange fnExactGoodFactWrong)

/-- 'laws.FnExactGoodRange': WHATEVER THE INPUT: true; the input reads as it did. -/
def fnExactGoodRangeSpec : ChangeSpec := { name := "fnExactGoodRange", fn := fun _ => fun
  | [d] => { results := [.lit (.bool true)], args := [d] }
  | _ => none }
def fnExactGoodRangeRow : OpenClaim := { program := "ytajoheooafldpaa", sum := "6636bc791f81d8457ba6f1d2d6195b81673136c4bce3e222ac0f17b44146040c", func := "loop.example/g00350/laws.FnExactGoodRange", spec := "fnExactGoodRange", apart := false }
def FnExactGoodRangeSaid : Prop := fnExactGoodRangeRow.holds Try.pinned (OpenSpec.ofChange fnExactGoodRangeSpec)

/-- ITS FALSE NEIGHBOUR: 'it returns false'. Refute it at one input. -/
def fnExactGoodRangeWrong : ChangeSpec := { name := "fnExactGoodRange", fn := fun _ => fun
  | [d] => { results := [.lit (.bool false)], args := [d] }
  | _ => none }
def FnExactGoodRangeWrongFalsely : Prop := fnExactGoodRangeRow.holds Try.pinned (OpenSpec.ofChange fnExactGoodRangeWrong)

/-- 'laws.FnExactDivBy': WHATEVER THE INPUT: true; the input reads as it did. -/
def fnExactDivBySpec : ChangeSpec := { name := "fnExactDivBy", fn := fun _ => fun
  | [d1, d2] => { results := [.lit (.bool true)], args := [d1, d2] }
  | _ => none }
def fnExactDivByRow : OpenClaim := { program := "ytajoheooafldpaa", sum := "6636bc791f81d8457ba6f1d2d6195b81673136c4bce3e222ac0f17b44146040c", func := "loop.example/g00350/laws.FnExactDivBy", spec := "fnExactDivBy", apart := false }
def FnExactDivBySaid : Prop := fnExactDivByRow.holds Try.pinned (OpenSpec.ofChange fnExactDivBySpec)

/-- ITS FALSE NEIGHBOUR: 'it returns false'. Refute it at one input. -/
def fnExactDivByWrong : ChangeSpec := { name := "fnExactDivBy", fn := fun _ => fun
  | [d1, d2] => { results := [.lit (.bool false)], args := [d1, d2] }
  | _ => none }
def FnExactDivByWrongFalsely : Prop := fnExactDivByRow.holds Try.pinned (OpenSpec.ofChange fnExactDivByWrong)

/-- 'laws.FnExactModBy': WHATEVER THE INPUT: true; the input reads as it did. -/
def fnExactModBySpec : ChangeSpec := { name := "fnExactModBy", fn := fun _ => fun
  | [d1, d2] => { results := [.lit (.bool true)], args := [d1, d2] }
  | _ => none }
def fnExactModByRow : OpenClaim := { program := "ytajoheooafldpaa", sum := "6636bc791f81d8457ba6f1d2d6195b81673136c4bce3e222ac0f17b44146040c", func := "loop.example/g00350/laws.FnExactModBy", spec := "fnExactModBy", apart := false }
def FnExactModBySaid : Prop := fnExactModByRow.holds Try.pinned (OpenSpec.ofChange fnExactModBySpec)

/-- ITS FALSE NEIGHBOUR: 'it returns false'. Refute it at one input. -/
def fnExactModByWrong : ChangeSpec := { name := "fnExactModBy", fn := fun _ => fun
  | [d1, d2] => { results := [.lit (.bool false)], args := [d1, d2] }
  | _ => none }
def FnExactModByWrongFalsely : Prop := fnExactModByRow.holds Try.pinned (OpenSpec.ofChange fnExactModByWrong)

/-- 'laws.FnExactUntagSmall': WHATEVER THE INPUT: true; the input reads as it did. -/
def fnExactUntagSmallSpec : ChangeSpec := { name := "fnExactUntagSmall", fn := fun _ => fun
  | [d] => { results := [.lit (.bool true)], args := [d] }
  | _ => none }
def fnExactUntagSmallRow : OpenClaim := { program := "ytajoheooafldpaa", sum := "6636bc791f81d8457ba6f1d2d6195b81673136c4bce3e222ac0f17b44146040c", func := "loop.example/g00350/laws.FnExactUntagSmall", spec := "fnExactUntagSmall", apart := false }
def FnExactUntagSmallSaid : Prop := fnExactUntagSmallRow.holds Try.pinned (OpenSpec.ofChange fnExactUntagSmallSpec)

/-- ITS FALSE NEIGHBOUR: 'it returns false'. Refute it at one input. -/
def fnExactUntagSmallWrong : ChangeSpec := { name := "fnExactUntagSmall", fn := fun _ => fun
  | [d] => { results := [.lit (.bool false)], args := [d] }
  | _ => none }
def FnExactUntagSmallWrongFalsely : Prop := fnExactUntagSmallRow.holds Try.pinned (OpenSpec.ofChange fnExactUntagSmallWrong)

/-- 'laws.FnExactDivSigned': WHATEVER THE INPUT: true; the input reads as it did. -/
def fnExactDivSignedSpec : ChangeSpec := { name := "fnExactDivSigned", fn := fun _ => fun
  | [d1, d2] => { results := [.lit (.bool true)], args := [d1, d2] }
  | _ => none }
def fnExactDivSignedRow : OpenClaim := { program := "ytajoheooafldpaa", sum := "6636bc791f81d8457ba6f1d2d6195b81673136c4bce3e222ac0f17b44146040c", func := "loop.example/g00350/laws.FnExactDivSigned", spec := "fnExactDivSigned", apart := false }
def FnExactDivSignedSaid : Prop := fnExactDivSignedRow.holds Try.pinned (OpenSpec.ofChange fnExactDivSignedSpec)

/-- ITS FALSE NEIGHBOUR: 'it returns false'. Refute it at one input. -/
def fnExactDivSignedWrong : ChangeSpec := { name := "fnExactDivSigned", fn := fun _ => fun
  | [d1, d2] => { results := [.lit (.bool false)], args := [d1, d2] }
  | _ => none }
def FnExactDivSignedWrongFalsely : Prop := fnExactDivSignedRow.holds Try.pinned (OpenSpec.ofChange fnExactDivSignedWrong)

/- THE SECOND FORM. 'bulk': how many values and letters a reading holds, each counted each time it is reached (what is shared counts as often as it is met; a slice's spare places count too). A statement '..UptoSaid' is the law's where the arguments, and the package variables that the reading takes, are together of bulk at most 1048576: NARROWER than '..Said'. Prove '..Said' where nothing that the law and all that it calls make is longer than what came in: it says more and counts as full. Else prove '..UptoSaid'. A law counts once. -/
mutual
def uptoBulk {H : Type} : DataW H → Nat
  | .lit (.string bytes) => bytes.length + 1
  | .lit _ => 1
  | .nil => 1
  | .ptr d => uptoBulk d + 1
  | .slice elems spare => uptoBulkAll elems + uptoBulkAll spare + 1
  | .agg parts => uptoBulkAll parts + 1
  | .iface _ d => uptoBulk d + 1
  | .map entries => uptoBulkEntries entries + 1
  | .held _ => 1
def uptoBulkAll {H : Type} : List (DataW H) → Nat
  | [] => 0
  | d :: r => uptoBulk d + uptoBulkAll r
def uptoBulkEntries {H : Type} : List (Lit × DataW H) → Nat
  | [] => 0
  | x :: r => uptoBulkEntry x + uptoBulkEntries r
def uptoBulkEntry {H : Type} : Lit × DataW H → Nat
  | (.string bytes, d) => bytes.length + uptoBulk d + 1
  | (_, d) => uptoBulk d + 1
 end
def uptoSmall : (H : Type) → List (DataW H) → Bool := fun _ ds => decide (uptoBulkAll ds ≤ 1048576)
def OpenSpec.upto (s : _root_.Go.ChangeSpec) : _root_.Go.OpenSpec := { _root_.Go.OpenSpec.ofChange s with cond := some uptoSmall }

/-- 'laws.FnExactConstants', WHERE WHAT IT READS IS OF BULK AT MOST 1048576: true; the input reads as it did. -/
def fnExactConstantsUptoRow : OpenClaim := { program := "ytajoheooafldpaa", sum := "6636bc791f81d8457ba6f1d2d6195b81673136c4bce3e222ac0f17b44146040c", func := "loop.example/g00350/laws.FnExactConstants", spec := "fnExactConstants", apart := false, narrowed := true }
def FnExactConstantsUptoSaid : Prop := fnExactConstantsUptoRow.holds Try.pinned (OpenSpec.upto fnExactConstantsSpec)

/-- 'laws.FnExactIsSmall', WHERE WHAT IT READS IS OF BULK AT MOST 1048576: true; the input reads as it did. -/
def fnExactIsSmallUptoRow : OpenClaim := { program := "ytajoheooafldpaa", sum := "6636bc791f81d8457ba6f1d2d6195b81673136c4bce3e222ac0f17b44146040c", func := "loop.example/g00350/laws.FnExactIsSmall", spec := "fnExactIsSmall", apart := false, narrowed := true }
def FnExactIsSmallUptoSaid : Prop := fnExactIsSmallUptoRow.holds Try.pinned (OpenSpec.upto fnExactIsSmallSpec)

/-- 'laws.FnExactTagAddr', WHERE WHAT IT READS IS OF BULK AT MOST 1048576: true; the input reads as it did. -/
def fnExactTagAddrUptoRow : OpenClaim := { program := "ytajoheooafldpaa", sum := "6636bc791f81d8457ba6f1d2d6195b81673136c4bce3e222ac0f17b44146040c", func := "loop.example/g00350/laws.FnExactTagAddr", spec := "fnExactTagAddr", apart := false, narrowed := true }
def FnExactTagAddrUptoSaid : Prop := fnExactTagAddrUptoRow.holds Try.pinned (OpenSpec.upto fnExactTagAddrSpec)

/-- 'laws.FnExactUntagAddr', WHERE WHAT IT READS IS OF BULK AT MOST 1048576: true; the input reads as it did. -/
def fnExactUntagAddrUptoRow : OpenClaim := { program := "ytajoheooafldpaa", sum := "6636bc791f81d8457ba6f1d2d6195b81673136c4bce3e222ac0f17b44146040c", func := "loop.example/g00350/laws.FnExactUntagAddr", spec := "fnExactUntagAddr", apart := false, narrowed := true }
def FnExactUntagAddrUptoSaid : Prop := fnExactUntagAddrUptoRow.holds Try.pinned (OpenSpec.upto fnExactUntagAddrSpec)

/-- 'laws.FnExactTagSmall', WHERE WHAT IT READS IS OF BULK AT MOST 1048576: true; the input reads as it did. -/
def fnExactTagSmallUptoRow : OpenClaim := { program := "ytajoheooafldpaa", sum := "6636bc791f81d8457ba6f1d2d6195b81673136c4bce3e222ac0f17b44146040c", func := "loop.example/g00350/laws.FnExactTagSmall", spec := "fnExactTagSmall", apart := false, narrowed := true }
def FnExactTagSmallUptoSaid : Prop := fnExactTagSmallUptoRow.holds Try.pinned (OpenSpec.upto fnExactTagSmallSpec)

/-- 'laws.FnExactGoodMagic', WHERE WHAT IT READS IS OF BULK AT MOST 1048576: true; the input reads as it did. -/
def fnExactGoodMagicUptoRow : OpenClaim := { program := "ytajoheooafldpaa", sum := "6636bc791f81d8457ba6f1d2d6195b81673136c4bce3e222ac0f17b44146040c", func := "loop.example/g00350/laws.FnExactGoodMagic", spec := "fnExactGoodMagic", apart := false, narrowed := true }
def FnExactGoodMagicUptoSaid : Prop := fnExactGoodMagicUptoRow.holds Try.pinned (OpenSpec.upto fnExactGoodMagicSpec)

/-- 'laws.FnExactGoodFact', WHERE WHAT IT READS IS OF BULK AT MOST 1048576: true; the input reads as it did. -/
def fnExactGoodFactUptoRow : OpenClaim := { program := "ytajoheooafldpaa", sum := "6636bc791f81d8457ba6f1d2d6195b81673136c4bce3e222ac0f17b44146040c", func := "loop.example/g00350/laws.FnExactGoodFact", spec := "fnExactGoodFact", apart := false, narrowed := true }
def FnExactGoodFactUptoSaid : Prop := fnExactGoodFactUptoRow.holds Try.pinned (OpenSpec.upto fnExactGoodFactSpec)

/-- 'laws.FnExactGoodRange', WHERE WHAT IT READS IS OF BULK AT MOST 1048576: true; the input reads as it did. -/
def fnExactGoodRangeUptoRow : OpenClaim := { program := "ytajoheooafldpaa", sum := "6636bc791f81d8457ba6f1d2d6195b81673136c4bce3e222ac0f17b44146040c", func := "loop.example/g00350/laws.FnExactGoodRange", spec := "fnExactGoodRange", apart := false, narrowed := true }
def FnExactGoodRangeUptoSaid : Prop := fnExactGoodRangeUptoRow.holds Try.pinned (OpenSpec.upto fnExactGoodRangeSpec)

/-- 'laws.FnExactDivBy', WHERE WHAT IT READS IS OF BULK AT MOST 1048576: true; the input reads as it did. -/
def fnExactDivByUptoRow : OpenClaim := { program := "ytajoheooafldpaa", sum := "6636bc791f81d8457ba6f1d2d6195b81673136c4bce3e222ac0f17b44146040c", func := "loop.example/g00350/laws.FnExactDivBy", spec := "fnExactDivBy", apart := false, narrowed := true }
def FnExactDivByUptoSaid : Prop := fnExactDivByUptoRow.holds Try.pinned (OpenSpec.upto fnExactDivBySpec)

/-- 'laws.FnExactModBy', WHERE WHAT IT READS IS OF BULK AT MOST 1048576: true; the input reads as it did. -/
def fnExactModByUptoRow : OpenClaim := { program := "ytajoheooafldpaa", sum := "6636bc791f81d8457ba6f1d2d6195b81673136c4bce3e222ac0f17b44146040c", func := "loop.example/g00350/laws.FnExactModBy", spec := "fnExactModBy", apart := false, narrowed := true }
def FnExactModByUptoSaid : Prop := fnExactModByUptoRow.holds Try.pinned (OpenSpec.upto fnExactModBySpec)

/-- 'laws.FnExactUntagSmall', WHERE WHAT IT READS IS OF BULK AT MOST 1048576: true; the input reads as it did. -/
def fnExactUntagSmallUptoRow : OpenClaim := { program := "ytajoheooafldpaa", sum := "6636bc791f81d8457ba6f1d2d6195b81673136c4bce3e222ac0f17b44146040c", func := "loop.example/g00350/laws.FnExactUntagSmall", spec := "fnExactUntagSmall", apart := false, narrowed := true }
def FnExactUntagSmallUptoSaid : Prop := fnExactUntagSmallUptoRow.holds Try.pinned (OpenSpec.upto fnExactUntagSmallSpec)

/-- 'laws.FnExactDivSigned', WHERE WHAT IT READS IS OF BULK AT MOST 1048576: true; the input reads as it did. -/
def fnExactDivSignedUptoRow : OpenClaim := { program := "ytajoheooafldpaa", sum := "6636bc791f81d8457ba6f1d2d6195b81673136c4bce3e222ac0f17b44146040c", func := "loop.example/g00350/laws.FnExactDivSigned", spec := "fnExactDivSigned", apart := false, narrowed := true }
def FnExactDivSignedUptoSaid : Prop := fnExactDivSignedUptoRow.holds Try.pinned (OpenSpec.upto fnExactDivSignedSpec)

end Rows
end Go.Proofs.Ytajoheooafldpaa

/-
  DERIVED. GIVEN WITH THE SEED: THE CARDS: each row of YtjogfidpknebaaaDoorRows.lean that lists a variable, with what it lists TIED to the program's text (the seventh form; the later family's looks); each row that meets fmt, with fmt's text TOLD by the authors' own Lean function (tested against real Go, not proved from fmt's source: count such statements apart). THE CARD IS WHAT COUNTS. Prove the row's statement (the work); the ties are given (YtjogfidpknebaaaDoorTie.lean); close each card by the builder's one call (the guide's Derived/Test/ToyasCard.lean, 'card_holds'). Laid BY PROGRAM, IN A SANDBOX (cutbox-door.mjs). By AI agents, Wed Nov 11 2026. No macro, syntax, notation, axiom, sorry.
-/
import Derived.Test.YtjogfidpknebaaaDoorRows
import GoSem.ClaimSeven
namespace Go.Proofs.YtjogfidpknebaaaDoor
namespace Rows

/-- THE TIED CARD OF 'laws.FnExactLowestOne'. -/
def fnExactLowestOneCard : Claim7 := { stood := { row := fnExactLowestOneRow, standIns := [], harness := (true, "96ab2800a0cb8fae02046eba61bc3e40d17d42094669f10d10364663e7b54699"), looks := false }, kinds := [], alts := [], laidByText := true, laidKinds := [.data, .data], laidTests := true, laidLooks := .later }
def FnExactLowestOneCardSaid : Prop := Claim7.holds Tryd.pinned (.plain (OpenSpec.ofChange fnExactLowestOneSpec)) fnExactLowestOneCard

/-- THE SECOND FORM's CARD OF 'laws.FnExactLowestOne'. -/
def fnExactLowestOneUptoCard : Claim7 := { stood := { row := fnExactLowestOneUptoRow, standIns := [], harness := (true, "96ab2800a0cb8fae02046eba61bc3e40d17d42094669f10d10364663e7b54699"), looks := false }, kinds := [], alts := [], laidByText := true, laidKinds := [.data, .data], laidTests := true, laidLooks := .later }
def FnExactLowestOneUptoCardSaid : Prop := Claim7.holds Tryd.pinned (.plain (OpenSpec.upto fnExactLowestOneSpec)) fnExactLowestOneUptoCard
end Rows
end Go.Proofs.YtjogfidpknebaaaDoor

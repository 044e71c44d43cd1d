/-
  DERIVED. GIVEN WITH THE SEED: THE CARDS: each row of YthnkkohhohkbkaaDoorRows.lean that lists a variable, with what it lists TIED to the program's text (the seventh form; the later family's looks); each row that meets fmt, with fmt's text TOLD by the authors' own Lean function (tested against real Go, not proved from fmt's source: count such statements apart). THE CARD IS WHAT COUNTS. Prove the row's statement (the work); the ties are given (YthnkkohhohkbkaaDoorTie.lean); close each card by the builder's one call (the guide's Derived/Test/ToyasCard.lean, 'card_holds'). Laid BY PROGRAM, IN A SANDBOX (cutbox-door.mjs). By AI agents, Wed Nov 11 2026. No macro, syntax, notation, axiom, sorry.
-/
import Derived.Test.YthnkkohhohkbkaaDoorRows
import GoSem.ClaimSeven
namespace Go.Proofs.YthnkkohhohkbkaaDoor
namespace Rows

/-- THE TIED CARD OF 'unicodetextlaw06.CharsetMisses'. -/
def charsetMissesCard : Claim7 := { stood := { row := charsetMissesRow, standIns := [], harness := (true, "0c4256e101a94302b7f9ebe4987eff94ea9de6483b92d6849174d26c2f8cd640"), looks := false }, kinds := [], alts := [], laidByText := true, laidKinds := [.data, .pinned], laidTests := true, laidLooks := .later }
def CharsetMissesCardSaid : Prop := Claim7.holds Tryd.pinned (.plain (OpenSpec.ofChange charsetMissesSpec)) charsetMissesCard

/-- THE SECOND FORM's CARD OF 'unicodetextlaw06.CharsetMisses'. -/
def charsetMissesUptoCard : Claim7 := { stood := { row := charsetMissesUptoRow, standIns := [], harness := (true, "0c4256e101a94302b7f9ebe4987eff94ea9de6483b92d6849174d26c2f8cd640"), looks := false }, kinds := [], alts := [], laidByText := true, laidKinds := [.data, .pinned], laidTests := true, laidLooks := .later }
def CharsetMissesUptoCardSaid : Prop := Claim7.holds Tryd.pinned (.plain (OpenSpec.upto charsetMissesSpec)) charsetMissesUptoCard
end Rows
end Go.Proofs.YthnkkohhohkbkaaDoor

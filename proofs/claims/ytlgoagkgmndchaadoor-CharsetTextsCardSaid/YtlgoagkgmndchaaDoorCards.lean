/-
  DERIVED. GIVEN WITH THE SEED: THE CARDS: each row of YtlgoagkgmndchaaDoorRows.lean that lists a variable, with what it lists TIED to the program's text (the seventh form; the later family's looks); each row that meets fmt, with fmt's text TOLD by the authors' own Lean function (tested against real Go, not proved from fmt's source: count such statements apart). THE CARD IS WHAT COUNTS. Prove the row's statement (the work); the ties are given (YtlgoagkgmndchaaDoorTie.lean); close each card by the builder's one call (the guide's Derived/Test/ToyasCard.lean, 'card_holds'). Laid BY PROGRAM, IN A SANDBOX (cutbox-door.mjs). By AI agents, Wed Nov 11 2026. No macro, syntax, notation, axiom, sorry.
-/
import Derived.Test.YtlgoagkgmndchaaDoorRows
import GoSem.ClaimSeven
namespace Go.Proofs.YtlgoagkgmndchaaDoor
namespace Rows

/-- THE TIED CARD OF 'unicodetextlaw06.CharsetChecks'. -/
def charsetChecksCard : Claim7 := { stood := { row := charsetChecksRow, standIns := [], harness := (true, "ebb9d0df5495fdc23f498177aff1c57f312eea7e308c2733529726a1539ffbad"), looks := false }, kinds := [], alts := [], laidByText := true, laidKinds := [.data, .pinned], laidTests := true, laidLooks := .later }
def CharsetChecksCardSaid : Prop := Claim7.holds Tryd.pinned (.plain (OpenSpec.ofChange charsetChecksSpec)) charsetChecksCard

/-- THE TIED CARD OF 'unicodetextlaw06.CharsetEncodes'. -/
def charsetEncodesCard : Claim7 := { stood := { row := charsetEncodesRow, standIns := [], harness := (true, "ebb9d0df5495fdc23f498177aff1c57f312eea7e308c2733529726a1539ffbad"), looks := false }, kinds := [], alts := [], laidByText := true, laidKinds := [.data, .pinned], laidTests := true, laidLooks := .later }
def CharsetEncodesCardSaid : Prop := Claim7.holds Tryd.pinned (.plain (OpenSpec.ofChange charsetEncodesSpec)) charsetEncodesCard

/-- THE TIED CARD OF 'unicodetextlaw06.CharsetParses'. -/
def charsetParsesCard : Claim7 := { stood := { row := charsetParsesRow, standIns := [], harness := (true, "ebb9d0df5495fdc23f498177aff1c57f312eea7e308c2733529726a1539ffbad"), looks := false }, kinds := [], alts := [], laidByText := true, laidKinds := [.data, .pinned], laidTests := true, laidLooks := .later }
def CharsetParsesCardSaid : Prop := Claim7.holds Tryd.pinned (.plain (OpenSpec.ofChange charsetParsesSpec)) charsetParsesCard

/-- THE TIED CARD OF 'unicodetextlaw06.CharsetTexts'. -/
def charsetTextsCard : Claim7 := { stood := { row := charsetTextsRow, standIns := [], harness := (true, "ebb9d0df5495fdc23f498177aff1c57f312eea7e308c2733529726a1539ffbad"), looks := false }, kinds := [], alts := [], laidByText := true, laidKinds := [.data, .pinned], laidTests := true, laidLooks := .later }
def CharsetTextsCardSaid : Prop := Claim7.holds Tryd.pinned (.plain (OpenSpec.ofChange charsetTextsSpec)) charsetTextsCard

/-- THE TIED CARD OF 'unicodetextlaw06.CharsetRestores'. -/
def charsetRestoresCard : Claim7 := { stood := { row := charsetRestoresRow, standIns := [], harness := (true, "ebb9d0df5495fdc23f498177aff1c57f312eea7e308c2733529726a1539ffbad"), looks := false }, kinds := [], alts := [], laidByText := true, laidKinds := [.data, .pinned], laidTests := true, laidLooks := .later }
def CharsetRestoresCardSaid : Prop := Claim7.holds Tryd.pinned (.plain (OpenSpec.ofChange charsetRestoresSpec)) charsetRestoresCard

/-- THE SECOND FORM's CARD OF 'unicodetextlaw06.CharsetChecks'. -/
def charsetChecksUptoCard : Claim7 := { stood := { row := charsetChecksUptoRow, standIns := [], harness := (true, "ebb9d0df5495fdc23f498177aff1c57f312eea7e308c2733529726a1539ffbad"), looks := false }, kinds := [], alts := [], laidByText := true, laidKinds := [.data, .pinned], laidTests := true, laidLooks := .later }
def CharsetChecksUptoCardSaid : Prop := Claim7.holds Tryd.pinned (.plain (OpenSpec.upto charsetChecksSpec)) charsetChecksUptoCard

/-- THE SECOND FORM's CARD OF 'unicodetextlaw06.CharsetEncodes'. -/
def charsetEncodesUptoCard : Claim7 := { stood := { row := charsetEncodesUptoRow, standIns := [], harness := (true, "ebb9d0df5495fdc23f498177aff1c57f312eea7e308c2733529726a1539ffbad"), looks := false }, kinds := [], alts := [], laidByText := true, laidKinds := [.data, .pinned], laidTests := true, laidLooks := .later }
def CharsetEncodesUptoCardSaid : Prop := Claim7.holds Tryd.pinned (.plain (OpenSpec.upto charsetEncodesSpec)) charsetEncodesUptoCard

/-- THE SECOND FORM's CARD OF 'unicodetextlaw06.CharsetParses'. -/
def charsetParsesUptoCard : Claim7 := { stood := { row := charsetParsesUptoRow, standIns := [], harness := (true, "ebb9d0df5495fdc23f498177aff1c57f312eea7e308c2733529726a1539ffbad"), looks := false }, kinds := [], alts := [], laidByText := true, laidKinds := [.data, .pinned], laidTests := true, laidLooks := .later }
def CharsetParsesUptoCardSaid : Prop := Claim7.holds Tryd.pinned (.plain (OpenSpec.upto charsetParsesSpec)) charsetParsesUptoCard

/-- THE SECOND FORM's CARD OF 'unicodetextlaw06.CharsetTexts'. -/
def charsetTextsUptoCard : Claim7 := { stood := { row := charsetTextsUptoRow, standIns := [], harness := (true, "ebb9d0df5495fdc23f498177aff1c57f312eea7e308c2733529726a1539ffbad"), looks := false }, kinds := [], alts := [], laidByText := true, laidKinds := [.data, .pinned], laidTests := true, laidLooks := .later }
def CharsetTextsUptoCardSaid : Prop := Claim7.holds Tryd.pinned (.plain (OpenSpec.upto charsetTextsSpec)) charsetTextsUptoCard

/-- THE SECOND FORM's CARD OF 'unicodetextlaw06.CharsetRestores'. -/
def charsetRestoresUptoCard : Claim7 := { stood := { row := charsetRestoresUptoRow, standIns := [], harness := (true, "ebb9d0df5495fdc23f498177aff1c57f312eea7e308c2733529726a1539ffbad"), looks := false }, kinds := [], alts := [], laidByText := true, laidKinds := [.data, .pinned], laidTests := true, laidLooks := .later }
def CharsetRestoresUptoCardSaid : Prop := Claim7.holds Tryd.pinned (.plain (OpenSpec.upto charsetRestoresSpec)) charsetRestoresUptoCard
end Rows
end Go.Proofs.YtlgoagkgmndchaaDoor

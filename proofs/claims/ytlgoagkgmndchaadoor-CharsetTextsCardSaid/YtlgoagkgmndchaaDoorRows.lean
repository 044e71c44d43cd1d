/-
  NARROWER THAN 'FOR EVERY INPUT', by the rows' own cells (each row's printed sentence says how): CharsetChecks: laid · CharsetEncodes: laid · CharsetParses: laid · CharsetTexts: laid · CharsetRestores: laid.
  DERIVED. THE GIVEN ROWS OF THIS SEAT. 5 by the template 'for every input the law returns true; each argument reads behind the call as it read before'; 0 by the template 'total and deterministic' (their statements: YtlgoagkgmndchaaDoorTotals.lean).
  GIVEN WITH THE SEED: the statements are not yours to turn. If you find one false, say at which input.
  Laid BY PROGRAM, IN A SANDBOX (cutbox-rows.mjs): the forced cells as the released guide's own fill.sh prints them over the translation 3f794be2474fc0fc… (all of the seat's roots in one cut). By AI agents, Wed Nov 11 2026. No macro, syntax, notation, axiom, sorry.
-/
import Derived.Test.YtlgoagkgmndchaaDoorChecked
import GoSem.PinnedTables
import GoSem.Claim
import GoSem.ClaimJoined
import GoSem.ClaimMapViews
import Derived.JoinedTies
import Derived.KernelRfl
namespace Go.Proofs.YtlgoagkgmndchaaDoor
/- THE CELL 'sum', in the pinned program and in every row, IS THE sha256 OF THE DUMP (.gsa) THAT YtlgoagkgmndchaaDoorProg.lean LOADS. Nothing in Lean hashes anything: it is a label: what it is worth is what the hold of that sum in a sandbox is worth. -/
noncomputable def Tryd.pinned : Pinned := { name := "ytlgoagkgmndchaadoor", sum := "3f794be2474fc0fc30df261d99b0259bb224c1402b525b1b6d2d907b2ece4feb", checked := Tryd.checked }
namespace Rows
def none {H : Type} : Left H := { results := [], args := [] }

/- WHAT THE LISTED PACKAGE-LEVEL VARIABLES READ AS WHEN THE CALL BEGINS. Each datum BY PROGRAM (the guide's laid-datum.mjs) off the statement by which the dump's own 'gosem.cut.vars' lays the variable. In a bare row this is a premise. The card (YtlgoagkgmndchaaDoorCards.lean) ties it to the program's text. -/
def laid_unicode_utf8_acceptRanges {H : Type} : DataW H := .agg [.agg [.lit (.int .u8 128), .lit (.int .u8 191)], .agg [.lit (.int .u8 160), .lit (.int .u8 191)], .agg [.lit (.int .u8 128), .lit (.int .u8 159)], .agg [.lit (.int .u8 144), .lit (.int .u8 191)], .agg [.lit (.int .u8 128), .lit (.int .u8 143)], .agg [.lit (.int .u8 0), .lit (.int .u8 0)], .agg [.lit (.int .u8 0), .lit (.int .u8 0)], .agg [.lit (.int .u8 0), .lit (.int .u8 0)], .agg [.lit (.int .u8 0), .lit (.int .u8 0)], .agg [.lit (.int .u8 0), .lit (.int .u8 0)], .agg [.lit (.int .u8 0), .lit (.int .u8 0)], .agg [.lit (.int .u8 0), .lit (.int .u8 0)], .agg [.lit (.int .u8 0), .lit (.int .u8 0)], .agg [.lit (.int .u8 0), .lit (.int .u8 0)], .agg [.lit (.int .u8 0), .lit (.int .u8 0)], .agg [.lit (.int .u8 0), .lit (.int .u8 0)]]
/-- One of Go's own tables, pinned by name: the form's constant. -/
def laid_unicode_utf8_first : DataW Unit := Go.Pinned.utf8First

/-- 'unicodetextlaw06.CharsetChecks': WHATEVER THE INPUT: true; the input reads as it did. -/
def charsetChecksSpec : ChangeSpec := { name := "charsetChecks", fn := fun _ => fun
  | [d] => { results := [.lit (.bool true)], args := [d] }
  | _ => none }
def charsetChecksRow : OpenClaim := { program := "ytlgoagkgmndchaadoor", sum := "3f794be2474fc0fc30df261d99b0259bb224c1402b525b1b6d2d907b2ece4feb", func := "unicodetext/unicodetextlaw06.CharsetChecks", spec := "charsetChecks", inPlace := ["internal/bytealg.CountString", "internal/bytealg.IndexByteString", "internal/bytealg.IndexString", "internal/abi.NoEscape"], named := ["unicode/utf8.first", "unicode/utf8.acceptRanges", "internal/bytealg.MaxLen"], apart := false, laid := [("unicode/utf8.acceptRanges", laid_unicode_utf8_acceptRanges), ("unicode/utf8.first", laid_unicode_utf8_first)] }
def CharsetChecksSaid : Prop := charsetChecksRow.holds Tryd.pinned (OpenSpec.ofChange charsetChecksSpec)

/-- ITS FALSE NEIGHBOUR: 'it returns false'. Refute it at one input. -/
def charsetChecksWrong : ChangeSpec := { name := "charsetChecks", fn := fun _ => fun
  | [d] => { results := [.lit (.bool false)], args := [d] }
  | _ => none }
def CharsetChecksWrongFalsely : Prop := charsetChecksRow.holds Tryd.pinned (OpenSpec.ofChange charsetChecksWrong)

/-- 'unicodetextlaw06.CharsetEncodes': WHATEVER THE INPUT: true; the input reads as it did. -/
def charsetEncodesSpec : ChangeSpec := { name := "charsetEncodes", fn := fun _ => fun
  | [d1, d2, d3] => { results := [.lit (.bool true)], args := [d1, d2, d3] }
  | _ => none }
def charsetEncodesRow : OpenClaim := { program := "ytlgoagkgmndchaadoor", sum := "3f794be2474fc0fc30df261d99b0259bb224c1402b525b1b6d2d907b2ece4feb", func := "unicodetext/unicodetextlaw06.CharsetEncodes", spec := "charsetEncodes", inPlace := ["internal/bytealg.CountString", "internal/bytealg.IndexByteString", "internal/bytealg.IndexString", "internal/abi.NoEscape"], named := ["unicode/utf8.first", "unicode/utf8.acceptRanges", "internal/bytealg.MaxLen"], apart := false, laid := [("unicode/utf8.acceptRanges", laid_unicode_utf8_acceptRanges), ("unicode/utf8.first", laid_unicode_utf8_first)] }
def CharsetEncodesSaid : Prop := charsetEncodesRow.holds Tryd.pinned (OpenSpec.ofChange charsetEncodesSpec)

/-- ITS FALSE NEIGHBOUR: 'it returns false'. Refute it at one input. -/
def charsetEncodesWrong : ChangeSpec := { name := "charsetEncodes", fn := fun _ => fun
  | [d1, d2, d3] => { results := [.lit (.bool false)], args := [d1, d2, d3] }
  | _ => none }
def CharsetEncodesWrongFalsely : Prop := charsetEncodesRow.holds Tryd.pinned (OpenSpec.ofChange charsetEncodesWrong)

/-- 'unicodetextlaw06.CharsetParses': WHATEVER THE INPUT: true; the input reads as it did. -/
def charsetParsesSpec : ChangeSpec := { name := "charsetParses", fn := fun _ => fun
  | [d] => { results := [.lit (.bool true)], args := [d] }
  | _ => none }
def charsetParsesRow : OpenClaim := { program := "ytlgoagkgmndchaadoor", sum := "3f794be2474fc0fc30df261d99b0259bb224c1402b525b1b6d2d907b2ece4feb", func := "unicodetext/unicodetextlaw06.CharsetParses", spec := "charsetParses", inPlace := ["internal/bytealg.CountString", "internal/bytealg.IndexByteString", "internal/bytealg.IndexString", "internal/abi.NoEscape"], named := ["unicode/utf8.first", "unicode/utf8.acceptRanges", "internal/bytealg.MaxLen"], apart := false, laid := [("unicode/utf8.acceptRanges", laid_unicode_utf8_acceptRanges), ("unicode/utf8.first", laid_unicode_utf8_first)] }
def CharsetParsesSaid : Prop := charsetParsesRow.holds Tryd.pinned (OpenSpec.ofChange charsetParsesSpec)

/-- ITS FALSE NEIGHBOUR: 'it returns false'. Refute it at one input. -/
def charsetParsesWrong : ChangeSpec := { name := "charsetParses", fn := fun _ => fun
  | [d] => { results := [.lit (.bool false)], args := [d] }
  | _ => none }
def CharsetParsesWrongFalsely : Prop := charsetParsesRow.holds Tryd.pinned (OpenSpec.ofChange charsetParsesWrong)

/-- 'unicodetextlaw06.CharsetTexts': WHATEVER THE INPUT: true; the input reads as it did. -/
def charsetTextsSpec : ChangeSpec := { name := "charsetTexts", fn := fun _ => fun
  | [d] => { results := [.lit (.bool true)], args := [d] }
  | _ => none }
def charsetTextsRow : OpenClaim := { program := "ytlgoagkgmndchaadoor", sum := "3f794be2474fc0fc30df261d99b0259bb224c1402b525b1b6d2d907b2ece4feb", func := "unicodetext/unicodetextlaw06.CharsetTexts", spec := "charsetTexts", inPlace := ["internal/bytealg.CountString", "internal/bytealg.IndexByteString", "internal/bytealg.IndexString", "internal/abi.NoEscape"], named := ["unicode/utf8.first", "unicode/utf8.acceptRanges", "internal/bytealg.MaxLen"], apart := false, laid := [("unicode/utf8.acceptRanges", laid_unicode_utf8_acceptRanges), ("unicode/utf8.first", laid_unicode_utf8_first)] }
def CharsetTextsSaid : Prop := charsetTextsRow.holds Tryd.pinned (OpenSpec.ofChange charsetTextsSpec)

/-- ITS FALSE NEIGHBOUR: 'it returns false'. Refute it at one input. -/
def charsetTextsWrong : ChangeSpec := { name := "charsetTexts", fn := fun _ => fun
  | [d] => { results := [.lit (.bool false)], args := [d] }
  | _ => none }
def CharsetTextsWrongFalsely : Prop := charsetTextsRow.holds Tryd.pinned (OpenSpec.ofChange charsetTextsWrong)

/-- 'unicodetextlaw06.CharsetRestores': WHATEVER THE INPUT: true; the input reads as it did. -/
def charsetRestoresSpec : ChangeSpec := { name := "charsetRestores", fn := fun _ => fun
  | [d] => { results := [.lit (.bool true)], args := [d] }
  | _ => none }
def charsetRestoresRow : OpenClaim := { program := "ytlgoagkgmndchaadoor", sum := "3f794be2474fc0fc30df261d99b0259bb224c1402b525b1b6d2d907b2ece4feb", func := "unicodetext/unicodetextlaw06.CharsetRestores", spec := "charsetRestores", inPlace := ["internal/bytealg.CountString", "internal/bytealg.IndexByteString", "internal/bytealg.IndexString", "internal/abi.NoEscape"], named := ["unicode/utf8.first", "unicode/utf8.acceptRanges", "internal/bytealg.MaxLen"], apart := false, laid := [("unicode/utf8.acceptRanges", laid_unicode_utf8_acceptRanges), ("unicode/utf8.first", laid_unicode_utf8_first)] }
def CharsetRestoresSaid : Prop := charsetRestoresRow.holds Tryd.pinned (OpenSpec.ofChange charsetRestoresSpec)

/-- ITS FALSE NEIGHBOUR: 'it returns false'. Refute it at one input. -/
def charsetRestoresWrong : ChangeSpec := { name := "charsetRestores", fn := fun _ => fun
  | [d] => { results := [.lit (.bool false)], args := [d] }
  | _ => none }
def CharsetRestoresWrongFalsely : Prop := charsetRestoresRow.holds Tryd.pinned (OpenSpec.ofChange charsetRestoresWrong)

/- THE SECOND FORM. 'bulk': how many values and letters a reading holds, each counted each time it is reached (what is shared counts as often as it is met; a slice's spare places count too). A statement '..UptoSaid' is the law's where the arguments, and the package variables that the reading takes, are together of bulk at most 1048576: NARROWER than '..Said'. Prove '..Said' where nothing that the law and all that it calls make is longer than what came in: it says more and counts as full. Else prove '..UptoSaid'. A law counts once. -/
mutual
def uptoBulk {H : Type} : DataW H → Nat
  | .lit (.string bytes) => bytes.length + 1
  | .lit _ => 1
  | .nil => 1
  | .ptr d => uptoBulk d + 1
  | .slice elems spare => uptoBulkAll elems + uptoBulkAll spare + 1
  | .agg parts => uptoBulkAll parts + 1
  | .iface _ d => uptoBulk d + 1
  | .map entries => uptoBulkEntries entries + 1
  | .held _ => 1
def uptoBulkAll {H : Type} : List (DataW H) → Nat
  | [] => 0
  | d :: r => uptoBulk d + uptoBulkAll r
def uptoBulkEntries {H : Type} : List (Lit × DataW H) → Nat
  | [] => 0
  | x :: r => uptoBulkEntry x + uptoBulkEntries r
def uptoBulkEntry {H : Type} : Lit × DataW H → Nat
  | (.string bytes, d) => bytes.length + uptoBulk d + 1
  | (_, d) => uptoBulk d + 1
 end
def uptoSmall : (H : Type) → List (DataW H) → Bool := fun _ ds => decide (uptoBulkAll ds ≤ 1048576)
def OpenSpec.upto (s : _root_.Go.ChangeSpec) : _root_.Go.OpenSpec := { _root_.Go.OpenSpec.ofChange s with cond := some uptoSmall }

/-- 'unicodetextlaw06.CharsetChecks', WHERE WHAT IT READS IS OF BULK AT MOST 1048576: true; the input reads as it did. -/
def charsetChecksUptoRow : OpenClaim := { program := "ytlgoagkgmndchaadoor", sum := "3f794be2474fc0fc30df261d99b0259bb224c1402b525b1b6d2d907b2ece4feb", func := "unicodetext/unicodetextlaw06.CharsetChecks", spec := "charsetChecks", inPlace := ["internal/bytealg.CountString", "internal/bytealg.IndexByteString", "internal/bytealg.IndexString", "internal/abi.NoEscape"], named := ["unicode/utf8.first", "unicode/utf8.acceptRanges", "internal/bytealg.MaxLen"], apart := false, laid := [("unicode/utf8.acceptRanges", laid_unicode_utf8_acceptRanges), ("unicode/utf8.first", laid_unicode_utf8_first)], narrowed := true }
def CharsetChecksUptoSaid : Prop := charsetChecksUptoRow.holds Tryd.pinned (OpenSpec.upto charsetChecksSpec)

/-- 'unicodetextlaw06.CharsetEncodes', WHERE WHAT IT READS IS OF BULK AT MOST 1048576: true; the input reads as it did. -/
def charsetEncodesUptoRow : OpenClaim := { program := "ytlgoagkgmndchaadoor", sum := "3f794be2474fc0fc30df261d99b0259bb224c1402b525b1b6d2d907b2ece4feb", func := "unicodetext/unicodetextlaw06.CharsetEncodes", spec := "charsetEncodes", inPlace := ["internal/bytealg.CountString", "internal/bytealg.IndexByteString", "internal/bytealg.IndexString", "internal/abi.NoEscape"], named := ["unicode/utf8.first", "unicode/utf8.acceptRanges", "internal/bytealg.MaxLen"], apart := false, laid := [("unicode/utf8.acceptRanges", laid_unicode_utf8_acceptRanges), ("unicode/utf8.first", laid_unicode_utf8_first)], narrowed := true }
def CharsetEncodesUptoSaid : Prop := charsetEncodesUptoRow.holds Tryd.pinned (OpenSpec.upto charsetEncodesSpec)

/-- 'unicodetextlaw06.CharsetParses', WHERE WHAT IT READS IS OF BULK AT MOST 1048576: true; the input reads as it did. -/
def charsetParsesUptoRow : OpenClaim := { program := "ytlgoagkgmndchaadoor", sum := "3f794be2474fc0fc30df261d99b0259bb224c1402b525b1b6d2d907b2ece4feb", func := "unicodetext/unicodetextlaw06.CharsetParses", spec := "charsetParses", inPlace := ["internal/bytealg.CountString", "internal/bytealg.IndexByteString", "internal/bytealg.IndexString", "internal/abi.NoEscape"], named := ["unicode/utf8.first", "unicode/utf8.acceptRanges", "internal/bytealg.MaxLen"], apart := false, laid := [("unicode/utf8.acceptRanges", laid_unicode_utf8_acceptRanges), ("unicode/utf8.first", laid_unicode_utf8_first)], narrowed := true }
def CharsetParsesUptoSaid : Prop := charsetParsesUptoRow.holds Tryd.pinned (OpenSpec.upto charsetParsesSpec)

/-- 'unicodetextlaw06.CharsetTexts', WHERE WHAT IT READS IS OF BULK AT MOST 1048576: true; the input reads as it did. -/
def charsetTextsUptoRow : OpenClaim := { program := "ytlgoagkgmndchaadoor", sum := "3f794be2474fc0fc30df261d99b0259bb224c1402b525b1b6d2d907b2ece4feb", func := "unicodetext/unicodetextlaw06.CharsetTexts", spec := "charsetTexts", inPlace := ["internal/bytealg.CountString", "internal/bytealg.IndexByteString", "internal/bytealg.IndexString", "internal/abi.NoEscape"], named := ["unicode/utf8.first", "unicode/utf8.acceptRanges", "internal/bytealg.MaxLen"], apart := false, laid := [("unicode/utf8.acceptRanges", laid_unicode_utf8_acceptRanges), ("unicode/utf8.first", laid_unicode_utf8_first)], narrowed := true }
def CharsetTextsUptoSaid : Prop := charsetTextsUptoRow.holds Tryd.pinned (OpenSpec.upto charsetTextsSpec)

/-- 'unicodetextlaw06.CharsetRestores', WHERE WHAT IT READS IS OF BULK AT MOST 1048576: true; the input reads as it did. -/
def charsetRestoresUptoRow : OpenClaim := { program := "ytlgoagkgmndchaadoor", sum := "3f794be2474fc0fc30df261d99b0259bb224c1402b525b1b6d2d907b2ece4feb", func := "unicodetext/unicodetextlaw06.CharsetRestores", spec := "charsetRestores", inPlace := ["internal/bytealg.CountString", "internal/bytealg.IndexByteString", "internal/bytealg.IndexString", "internal/abi.NoEscape"], named := ["unicode/utf8.first", "unicode/utf8.acceptRanges", "internal/bytealg.MaxLen"], apart := false, laid := [("unicode/utf8.acceptRanges", laid_unicode_utf8_acceptRanges), ("unicode/utf8.first", laid_unicode_utf8_first)], narrowed := true }
def CharsetRestoresUptoSaid : Prop := charsetRestoresUptoRow.holds Tryd.pinned (OpenSpec.upto charsetRestoresSpec)

end Rows
end Go.Proofs.YtlgoagkgmndchaaDoor

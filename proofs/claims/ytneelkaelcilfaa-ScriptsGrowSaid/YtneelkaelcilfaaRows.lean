/-
  No cell of these rows narrows 'for every input' (looked for: loops, veiled, ifaces, maps, wideKeys, modest, calm, conditions, laid).
  DERIVED. THE GIVEN ROWS OF THIS SEAT. 7 by the template 'for every input the law returns true; each argument reads behind the call as it read before'; 0 by the template 'total and deterministic' (their statements: YtneelkaelcilfaaTotals.lean).
  GIVEN WITH THE SEED: the statements are not yours to turn. If you find one false, say at which input.
  Laid BY PROGRAM, IN A SANDBOX (cutbox-rows.mjs): the forced cells as the released guide's own fill.sh prints them over the translation 32344e9f916128e0… (all of the seat's roots in one cut). By AI agents, Wed Nov 11 2026. No macro, syntax, notation, axiom, sorry.
-/
import Derived.Test.YtneelkaelcilfaaChecked
import GoSem.Claim
import GoSem.ClaimJoined
import GoSem.ClaimMapViews
import Derived.JoinedTies
import Derived.KernelRfl
namespace Go.Proofs.Ytneelkaelcilfaa
/- THE CELL 'sum', in the pinned program and in every row, IS THE sha256 OF THE DUMP (.gsa) THAT YtneelkaelcilfaaProg.lean LOADS. Nothing in Lean hashes anything: it is a label: what it is worth is what the hold of that sum in a sandbox is worth. -/
noncomputable def Try.pinned : Pinned := { name := "ytneelkaelcilfaa", sum := "32344e9f916128e00ac0dcbadeaf97d4ee7bdab1047691f6a126bc87cfdabd03", checked := Try.checked }
namespace Rows
def none {H : Type} : Left H := { results := [], args := [] }

/-- 'unicodetextlaw40.ScriptsResolved': WHATEVER THE INPUT: true; the input reads as it did. -/
def scriptsResolvedSpec : ChangeSpec := { name := "scriptsResolved", fn := fun _ => fun
  | [d1, d2] => { results := [.lit (.bool true)], args := [d1, d2] }
  | _ => none }
def scriptsResolvedRow : OpenClaim := { program := "ytneelkaelcilfaa", sum := "32344e9f916128e00ac0dcbadeaf97d4ee7bdab1047691f6a126bc87cfdabd03", func := "unicodetext/unicodetextlaw40.ScriptsResolved", spec := "scriptsResolved", unfollowed := true, recurses := true, apart := false }
def ScriptsResolvedSaid : Prop := scriptsResolvedRow.holds Try.pinned (OpenSpec.ofChange scriptsResolvedSpec)

/-- ITS FALSE NEIGHBOUR: 'it returns false'. Refute it at one input. -/
def scriptsResolvedWrong : ChangeSpec := { name := "scriptsResolved", fn := fun _ => fun
  | [d1, d2] => { results := [.lit (.bool false)], args := [d1, d2] }
  | _ => none }
def ScriptsResolvedWrongFalsely : Prop := scriptsResolvedRow.holds Try.pinned (OpenSpec.ofChange scriptsResolvedWrong)

/-- 'unicodetextlaw40.ScriptsOf': WHATEVER THE INPUT: true; the input reads as it did. -/
def scriptsOfSpec : ChangeSpec := { name := "scriptsOf", fn := fun _ => fun
  | [d1, d2] => { results := [.lit (.bool true)], args := [d1, d2] }
  | _ => none }
def scriptsOfRow : OpenClaim := { program := "ytneelkaelcilfaa", sum := "32344e9f916128e00ac0dcbadeaf97d4ee7bdab1047691f6a126bc87cfdabd03", func := "unicodetext/unicodetextlaw40.ScriptsOf", spec := "scriptsOf", unfollowed := true, recurses := true, apart := false }
def ScriptsOfSaid : Prop := scriptsOfRow.holds Try.pinned (OpenSpec.ofChange scriptsOfSpec)

/-- ITS FALSE NEIGHBOUR: 'it returns false'. Refute it at one input. -/
def scriptsOfWrong : ChangeSpec := { name := "scriptsOf", fn := fun _ => fun
  | [d1, d2] => { results := [.lit (.bool false)], args := [d1, d2] }
  | _ => none }
def ScriptsOfWrongFalsely : Prop := scriptsOfRow.holds Try.pinned (OpenSpec.ofChange scriptsOfWrong)

/-- 'unicodetextlaw40.ScriptsRuns': WHATEVER THE INPUT: true; the input reads as it did. -/
def scriptsRunsSpec : ChangeSpec := { name := "scriptsRuns", fn := fun _ => fun
  | [d1, d2] => { results := [.lit (.bool true)], args := [d1, d2] }
  | _ => none }
def scriptsRunsRow : OpenClaim := { program := "ytneelkaelcilfaa", sum := "32344e9f916128e00ac0dcbadeaf97d4ee7bdab1047691f6a126bc87cfdabd03", func := "unicodetext/unicodetextlaw40.ScriptsRuns", spec := "scriptsRuns", unfollowed := true, recurses := true, apart := false }
def ScriptsRunsSaid : Prop := scriptsRunsRow.holds Try.pinned (OpenSpec.ofChange scriptsRunsSpec)

/-- ITS FALSE NEIGHBOUR: 'it returns false'. Refute it at one input. -/
def scriptsRunsWrong : ChangeSpec := { name := "scriptsRuns", fn := fun _ => fun
  | [d1, d2] => { results := [.lit (.bool false)], args := [d1, d2] }
  | _ => none }
def ScriptsRunsWrongFalsely : Prop := scriptsRunsRow.holds Try.pinned (OpenSpec.ofChange scriptsRunsWrong)

/-- 'unicodetextlaw40.ScriptsLevels': WHATEVER THE INPUT: true; the input reads as it did. -/
def scriptsLevelsSpec : ChangeSpec := { name := "scriptsLevels", fn := fun _ => fun
  | [d1, d2, d3] => { results := [.lit (.bool true)], args := [d1, d2, d3] }
  | _ => none }
def scriptsLevelsRow : OpenClaim := { program := "ytneelkaelcilfaa", sum := "32344e9f916128e00ac0dcbadeaf97d4ee7bdab1047691f6a126bc87cfdabd03", func := "unicodetext/unicodetextlaw40.ScriptsLevels", spec := "scriptsLevels", unfollowed := true, recurses := true, apart := false }
def ScriptsLevelsSaid : Prop := scriptsLevelsRow.holds Try.pinned (OpenSpec.ofChange scriptsLevelsSpec)

/-- ITS FALSE NEIGHBOUR: 'it returns false'. Refute it at one input. -/
def scriptsLevelsWrong : ChangeSpec := { name := "scriptsLevels", fn := fun _ => fun
  | [d1, d2, d3] => { results := [.lit (.bool false)], args := [d1, d2, d3] }
  | _ => none }
def ScriptsLevelsWrongFalsely : Prop := scriptsLevelsRow.holds Try.pinned (OpenSpec.ofChange scriptsLevelsWrong)

/-- 'unicodetextlaw40.ScriptsCover': WHATEVER THE INPUT: true; the input reads as it did. -/
def scriptsCoverSpec : ChangeSpec := { name := "scriptsCover", fn := fun _ => fun
  | [d1, d2] => { results := [.lit (.bool true)], args := [d1, d2] }
  | _ => none }
def scriptsCoverRow : OpenClaim := { program := "ytneelkaelcilfaa", sum := "32344e9f916128e00ac0dcbadeaf97d4ee7bdab1047691f6a126bc87cfdabd03", func := "unicodetext/unicodetextlaw40.ScriptsCover", spec := "scriptsCover", unfollowed := true, recurses := true, apart := false }
def ScriptsCoverSaid : Prop := scriptsCoverRow.holds Try.pinned (OpenSpec.ofChange scriptsCoverSpec)

/-- ITS FALSE NEIGHBOUR: 'it returns false'. Refute it at one input. -/
def scriptsCoverWrong : ChangeSpec := { name := "scriptsCover", fn := fun _ => fun
  | [d1, d2] => { results := [.lit (.bool false)], args := [d1, d2] }
  | _ => none }
def ScriptsCoverWrongFalsely : Prop := scriptsCoverRow.holds Try.pinned (OpenSpec.ofChange scriptsCoverWrong)

/-- 'unicodetextlaw40.ScriptsIgnores': WHATEVER THE INPUT: true; the input reads as it did. -/
def scriptsIgnoresSpec : ChangeSpec := { name := "scriptsIgnores", fn := fun _ => fun
  | [d1, d2, d3] => { results := [.lit (.bool true)], args := [d1, d2, d3] }
  | _ => none }
def scriptsIgnoresRow : OpenClaim := { program := "ytneelkaelcilfaa", sum := "32344e9f916128e00ac0dcbadeaf97d4ee7bdab1047691f6a126bc87cfdabd03", func := "unicodetext/unicodetextlaw40.ScriptsIgnores", spec := "scriptsIgnores", unfollowed := true, recurses := true, apart := false }
def ScriptsIgnoresSaid : Prop := scriptsIgnoresRow.holds Try.pinned (OpenSpec.ofChange scriptsIgnoresSpec)

/-- ITS FALSE NEIGHBOUR: 'it returns false'. Refute it at one input. -/
def scriptsIgnoresWrong : ChangeSpec := { name := "scriptsIgnores", fn := fun _ => fun
  | [d1, d2, d3] => { results := [.lit (.bool false)], args := [d1, d2, d3] }
  | _ => none }
def ScriptsIgnoresWrongFalsely : Prop := scriptsIgnoresRow.holds Try.pinned (OpenSpec.ofChange scriptsIgnoresWrong)

/-- 'unicodetextlaw40.ScriptsGrow': WHATEVER THE INPUT: true; the input reads as it did. -/
def scriptsGrowSpec : ChangeSpec := { name := "scriptsGrow", fn := fun _ => fun
  | [d1, d2, d3] => { results := [.lit (.bool true)], args := [d1, d2, d3] }
  | _ => none }
def scriptsGrowRow : OpenClaim := { program := "ytneelkaelcilfaa", sum := "32344e9f916128e00ac0dcbadeaf97d4ee7bdab1047691f6a126bc87cfdabd03", func := "unicodetext/unicodetextlaw40.ScriptsGrow", spec := "scriptsGrow", unfollowed := true, recurses := true, apart := false }
def ScriptsGrowSaid : Prop := scriptsGrowRow.holds Try.pinned (OpenSpec.ofChange scriptsGrowSpec)

/-- ITS FALSE NEIGHBOUR: 'it returns false'. Refute it at one input. -/
def scriptsGrowWrong : ChangeSpec := { name := "scriptsGrow", fn := fun _ => fun
  | [d1, d2, d3] => { results := [.lit (.bool false)], args := [d1, d2, d3] }
  | _ => none }
def ScriptsGrowWrongFalsely : Prop := scriptsGrowRow.holds Try.pinned (OpenSpec.ofChange scriptsGrowWrong)

/- THE SECOND FORM. 'bulk': how many values and letters a reading holds, each counted each time it is reached (what is shared counts as often as it is met; a slice's spare places count too). A statement '..UptoSaid' is the law's where the arguments, and the package variables that the reading takes, are together of bulk at most 1048576: NARROWER than '..Said'. Prove '..Said' where nothing that the law and all that it calls make is longer than what came in: it says more and counts as full. Else prove '..UptoSaid'. A law counts once. -/
mutual
def uptoBulk {H : Type} : DataW H → Nat
  | .lit (.string bytes) => bytes.length + 1
  | .lit _ => 1
  | .nil => 1
  | .ptr d => uptoBulk d + 1
  | .slice elems spare => uptoBulkAll elems + uptoBulkAll spare + 1
  | .agg parts => uptoBulkAll parts + 1
  | .iface _ d => uptoBulk d + 1
  | .map entries => uptoBulkEntries entries + 1
  | .held _ => 1
def uptoBulkAll {H : Type} : List (DataW H) → Nat
  | [] => 0
  | d :: r => uptoBulk d + uptoBulkAll r
def uptoBulkEntries {H : Type} : List (Lit × DataW H) → Nat
  | [] => 0
  | x :: r => uptoBulkEntry x + uptoBulkEntries r
def uptoBulkEntry {H : Type} : Lit × DataW H → Nat
  | (.string bytes, d) => bytes.length + uptoBulk d + 1
  | (_, d) => uptoBulk d + 1
 end
def uptoSmall : (H : Type) → List (DataW H) → Bool := fun _ ds => decide (uptoBulkAll ds ≤ 1048576)
def OpenSpec.upto (s : _root_.Go.ChangeSpec) : _root_.Go.OpenSpec := { _root_.Go.OpenSpec.ofChange s with cond := some uptoSmall }

/-- 'unicodetextlaw40.ScriptsResolved', WHERE WHAT IT READS IS OF BULK AT MOST 1048576: true; the input reads as it did. -/
def scriptsResolvedUptoRow : OpenClaim := { program := "ytneelkaelcilfaa", sum := "32344e9f916128e00ac0dcbadeaf97d4ee7bdab1047691f6a126bc87cfdabd03", func := "unicodetext/unicodetextlaw40.ScriptsResolved", spec := "scriptsResolved", unfollowed := true, recurses := true, apart := false, narrowed := true }
def ScriptsResolvedUptoSaid : Prop := scriptsResolvedUptoRow.holds Try.pinned (OpenSpec.upto scriptsResolvedSpec)

/-- 'unicodetextlaw40.ScriptsOf', WHERE WHAT IT READS IS OF BULK AT MOST 1048576: true; the input reads as it did. -/
def scriptsOfUptoRow : OpenClaim := { program := "ytneelkaelcilfaa", sum := "32344e9f916128e00ac0dcbadeaf97d4ee7bdab1047691f6a126bc87cfdabd03", func := "unicodetext/unicodetextlaw40.ScriptsOf", spec := "scriptsOf", unfollowed := true, recurses := true, apart := false, narrowed := true }
def ScriptsOfUptoSaid : Prop := scriptsOfUptoRow.holds Try.pinned (OpenSpec.upto scriptsOfSpec)

/-- 'unicodetextlaw40.ScriptsRuns', WHERE WHAT IT READS IS OF BULK AT MOST 1048576: true; the input reads as it did. -/
def scriptsRunsUptoRow : OpenClaim := { program := "ytneelkaelcilfaa", sum := "32344e9f916128e00ac0dcbadeaf97d4ee7bdab1047691f6a126bc87cfdabd03", func := "unicodetext/unicodetextlaw40.ScriptsRuns", spec := "scriptsRuns", unfollowed := true, recurses := true, apart := false, narrowed := true }
def ScriptsRunsUptoSaid : Prop := scriptsRunsUptoRow.holds Try.pinned (OpenSpec.upto scriptsRunsSpec)

/-- 'unicodetextlaw40.ScriptsLevels', WHERE WHAT IT READS IS OF BULK AT MOST 1048576: true; the input reads as it did. -/
def scriptsLevelsUptoRow : OpenClaim := { program := "ytneelkaelcilfaa", sum := "32344e9f916128e00ac0dcbadeaf97d4ee7bdab1047691f6a126bc87cfdabd03", func := "unicodetext/unicodetextlaw40.ScriptsLevels", spec := "scriptsLevels", unfollowed := true, recurses := true, apart := false, narrowed := true }
def ScriptsLevelsUptoSaid : Prop := scriptsLevelsUptoRow.holds Try.pinned (OpenSpec.upto scriptsLevelsSpec)

/-- 'unicodetextlaw40.ScriptsCover', WHERE WHAT IT READS IS OF BULK AT MOST 1048576: true; the input reads as it did. -/
def scriptsCoverUptoRow : OpenClaim := { program := "ytneelkaelcilfaa", sum := "32344e9f916128e00ac0dcbadeaf97d4ee7bdab1047691f6a126bc87cfdabd03", func := "unicodetext/unicodetextlaw40.ScriptsCover", spec := "scriptsCover", unfollowed := true, recurses := true, apart := false, narrowed := true }
def ScriptsCoverUptoSaid : Prop := scriptsCoverUptoRow.holds Try.pinned (OpenSpec.upto scriptsCoverSpec)

/-- 'unicodetextlaw40.ScriptsIgnores', WHERE WHAT IT READS IS OF BULK AT MOST 1048576: true; the input reads as it did. -/
def scriptsIgnoresUptoRow : OpenClaim := { program := "ytneelkaelcilfaa", sum := "32344e9f916128e00ac0dcbadeaf97d4ee7bdab1047691f6a126bc87cfdabd03", func := "unicodetext/unicodetextlaw40.ScriptsIgnores", spec := "scriptsIgnores", unfollowed := true, recurses := true, apart := false, narrowed := true }
def ScriptsIgnoresUptoSaid : Prop := scriptsIgnoresUptoRow.holds Try.pinned (OpenSpec.upto scriptsIgnoresSpec)

/-- 'unicodetextlaw40.ScriptsGrow', WHERE WHAT IT READS IS OF BULK AT MOST 1048576: true; the input reads as it did. -/
def scriptsGrowUptoRow : OpenClaim := { program := "ytneelkaelcilfaa", sum := "32344e9f916128e00ac0dcbadeaf97d4ee7bdab1047691f6a126bc87cfdabd03", func := "unicodetext/unicodetextlaw40.ScriptsGrow", spec := "scriptsGrow", unfollowed := true, recurses := true, apart := false, narrowed := true }
def ScriptsGrowUptoSaid : Prop := scriptsGrowUptoRow.holds Try.pinned (OpenSpec.upto scriptsGrowSpec)

end Rows
end Go.Proofs.Ytneelkaelcilfaa

-- Laid by hprint.py (this session's program, over the kit's print) for the seat Ytneelkaelcilfaa. Lean checks it.
import Derived.Test.YtneelkaelcilfaaPAx0
import Derived.Test.YtneelkaelcilfaaPAx2
import Derived.Test.YtneelkaelcilfaaPAx5
import Derived.Test.YtneelkaelcilfaaPAx7
import Derived.Test.YtneelkaelcilfaaPAx8
import Derived.Test.YtneelkaelcilfaaPAx10
import Derived.Test.YtneelkaelcilfaaPAx11
import Derived.Test.YtneelkaelcilfaaPAx30
import Derived.Test.YtneelkaelcilfaaPAx32
import Derived.Test.YtneelkaelcilfaaPAx33
namespace Go.Proofs.Ytneelkaelcilfaa.PA
open Go.RowKit Go.Proofs.YtneelkaelcilfaaW.PrintWords Go.Proofs.YtneelkaelcilfaaW.PrintLast Go.Proofs.YtneelkaelcilfaaW.PrintMore
attribute [local go_sem] max2_int min2_int max_two min_two max_three min_three max_four min_four   -- for this text's walks alone
set_option linter.unusedVariables false
set_option linter.unusedSimpArgs false

/-! ### prelude lawres -/
theorem scriptsResolved_true (names : List ByteArray) (spans : List Sp) (text : List Int) (h1 : sizesB names = true) (h2 : intsB text = true) : unicodetextlaw40_ScriptsResolved.f 20000 names spans text = some true := by
  unfold unicodetextlaw40_ScriptsResolved.f
  rw [few_f, Option.bind_some]
  by_cases h : fewB names spans text = true
  · have ht := few_text h
    have hp := pre_few h1 h2 h
    have e1 : scripts_Resolved.f names spans text = some (resolvedR (reals names spans text)) := if_pos hp
    have e2 := refres_f names spans text ht 20000 (by omega)
    have e3 : scripts_Of.f names spans text = some (ofB (reals names spans text)) := if_pos hp
    have hl : (resolvedR (reals names spans text)).length = (ofB (reals names spans text)).length := by unfold resolvedR; rw [List.length_map]
    have hol := of_len names spans text
    rw [if_pos h, e1, Option.bind_some, e2, Option.bind_some, same_f _ (by omega) 20000 (by omega), Option.bind_some, if_pos rfl, e3, Option.bind_some, if_pos (by rw [hl]), alive_f _ (by omega)]; rfl
  · rw [if_neg h, alive_f _ (by omega)]; rfl

end Go.Proofs.Ytneelkaelcilfaa.PA

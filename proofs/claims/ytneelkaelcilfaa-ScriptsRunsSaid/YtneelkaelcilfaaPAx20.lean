-- Laid by hprint.py (this session's program, over the kit's print) for the seat Ytneelkaelcilfaa. Lean checks it.
import Derived.Test.YtneelkaelcilfaaPAx0
import Derived.Test.YtneelkaelcilfaaPAx2
import Derived.Test.YtneelkaelcilfaaPAx5
import Derived.Test.YtneelkaelcilfaaPAx7
import Derived.Test.YtneelkaelcilfaaPAx9
import Derived.Test.YtneelkaelcilfaaPAx10
import Derived.Test.YtneelkaelcilfaaPAx11
import Derived.Test.YtneelkaelcilfaaPAx18
import Derived.Test.YtneelkaelcilfaaPAx19
namespace Go.Proofs.Ytneelkaelcilfaa.PA
open Go.RowKit Go.Proofs.YtneelkaelcilfaaW.PrintWords Go.Proofs.YtneelkaelcilfaaW.PrintLast Go.Proofs.YtneelkaelcilfaaW.PrintMore
attribute [local go_sem] max2_int min2_int max_two min_two max_three min_three max_four min_four   -- for this text's walks alone
set_option linter.unusedVariables false
set_option linter.unusedSimpArgs false

/-! ### prelude lawruns -/
theorem scriptsRuns_true (names : List ByteArray) (spans : List Sp) (text : List Int) (h1 : sizesB names = true) (h2 : intsB text = true) : unicodetextlaw40_ScriptsRuns.f 20000 names spans text = some true := by
  unfold unicodetextlaw40_ScriptsRuns.f
  rw [few_f, Option.bind_some]
  by_cases h : fewB names spans text = true
  · have ht := few_text h
    have hp := pre_few h1 h2 h
    have e1 : scripts_resolved.f names spans text = some (resolvedB (reals names spans text)) := if_pos hp
    have hrl := resolved_len names spans text
    have e2 : scripts_runs_string.f 20000 (resolvedB (reals names spans text)) = some (runsB (resolvedB (reals names spans text))) := runs_f _ (by omega) 20000 (by omega)
    have e3 := refruns_f names spans text (by omega) 20000 (by omega)
    have hl := runsB_len (resolvedB (reals names spans text))
    rw [if_pos h]
    unfold scripts_Runs.f
    rw [e1, Option.bind_some, e2, Option.bind_some, Option.bind_some, e3, Option.bind_some, same_f _ (by omega) 20000 (by omega), Option.bind_some, if_pos rfl, alive_f _ (by omega)]; rfl
  · rw [if_neg h, alive_f _ (by omega)]; rfl

end Go.Proofs.Ytneelkaelcilfaa.PA

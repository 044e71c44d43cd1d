-- Laid by hprint.py (this session's program, over the kit's print) for the seat Ytneelkaelcilfaa. Lean checks it.
import Derived.Test.YtneelkaelcilfaaPOx0
import Derived.Test.YtneelkaelcilfaaPOx2
import Derived.Test.YtneelkaelcilfaaPOx4
import Derived.Test.YtneelkaelcilfaaPOx6
import Derived.Test.YtneelkaelcilfaaPOx7
import Derived.Test.YtneelkaelcilfaaPOx9
import Derived.Test.YtneelkaelcilfaaPOx10
import Derived.Test.YtneelkaelcilfaaPOx11
namespace Go.Proofs.Ytneelkaelcilfaa.PO
open Go.RowKit Go.Proofs.YtneelkaelcilfaaW.PrintWords Go.Proofs.YtneelkaelcilfaaW.PrintLast Go.Proofs.YtneelkaelcilfaaW.PrintMore
attribute [local go_sem] max2_int min2_int max_two min_two max_three min_three max_four min_four   -- for this text's walks alone
set_option linter.unusedVariables false
set_option linter.unusedSimpArgs false

/-! ### prelude lawof -/
theorem scriptsOf_true (names : List ByteArray) (spans : List Sp) (text : List Int) (h1 : sizesB names = true) (h2 : intsB text = true) : unicodetextlaw40_ScriptsOf.f 20000 names spans text = some true := by
  unfold unicodetextlaw40_ScriptsOf.f
  rw [few_f, Option.bind_some]
  by_cases h : fewB names spans text = true
  · have ht := few_text h
    have hp := pre_few h1 h2 h
    have e1 : scripts_Of.f names spans text = some (ofB (reals names spans text)) := if_pos hp
    have e2 := of_f names spans text (by omega) 20000 (by omega)
    have hl := of_len names spans text
    rw [if_pos h, e1, Option.bind_some, e2, Option.bind_some, strings_f _ (by omega) 20000 (by omega), Option.bind_some, if_pos rfl]
    unfold scripts_Mixed.f unicodetextref40_Mixed.f
    rw [e1, e2]
    simp only [Option.bind_some]
    rw [if_pos (by simp), alive_f _ (by omega)]; rfl
  · rw [if_neg h, alive_f _ (by omega)]; rfl

end Go.Proofs.Ytneelkaelcilfaa.PO

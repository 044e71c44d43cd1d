-- Laid by hprint.py (this session's program, over the kit's print) for the seat YtlgoagkgmndchaaDoor. Lean checks it.
import Derived.Test.YtlgoagkgmndchaaDoorPAx0
import Derived.Test.YtlgoagkgmndchaaDoorPAx2
import Derived.Test.YtlgoagkgmndchaaDoorPAx6
import Derived.Test.YtlgoagkgmndchaaDoorPAx23
import Derived.Test.YtlgoagkgmndchaaDoorPAx24
namespace Go.Proofs.YtlgoagkgmndchaaDoor.PA
open Go.RowKit Go.Proofs.YtlgoagkgmndchaaDoorW.PrintWords Go.Proofs.YtlgoagkgmndchaaDoorW.PrintLast Go.Proofs.YtlgoagkgmndchaaDoorW.PrintMore
attribute [local go_sem] max2_int min2_int max_two min_two max_three min_three max_four min_four   -- for this text's walks alone
set_option linter.unusedVariables false
set_option linter.unusedSimpArgs false

/-! ### prelude lawtexts -/
theorem charsetTexts_true (l : List Int) (h : intsB l = true) : unicodetextlaw06_CharsetTexts.f 20000 l = some true := by
  unfold unicodetextlaw06_CharsetTexts.f unicodetextlaw06_few.f
  rw [Option.bind_some, ptext_f l h, Option.bind_some, rtext_f l _ (by omega), Option.bind_some, calive_f, Option.bind_some, if_pos rfl, if_pos rfl]
  split <;> rfl

end Go.Proofs.YtlgoagkgmndchaaDoor.PA

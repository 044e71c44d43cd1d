-- Laid by hprint.py (this session's program, over the kit's print) for the seat YtlgoagkgmndchaaDoor. Lean checks it.
import Derived.Test.YtlgoagkgmndchaaDoorPAx0
import Derived.Test.YtlgoagkgmndchaaDoorPAx2
import Derived.Test.YtlgoagkgmndchaaDoorPAx6
import Derived.Test.YtlgoagkgmndchaaDoorPAx11
import Derived.Test.YtlgoagkgmndchaaDoorPAx12
namespace Go.Proofs.YtlgoagkgmndchaaDoor.PA
open Go.RowKit Go.Proofs.YtlgoagkgmndchaaDoorW.PrintWords Go.Proofs.YtlgoagkgmndchaaDoorW.PrintLast Go.Proofs.YtlgoagkgmndchaaDoorW.PrintMore
attribute [local go_sem] max2_int min2_int max_two min_two max_three min_three max_four min_four   -- for this text's walks alone
set_option linter.unusedVariables false
set_option linter.unusedSimpArgs false

/-! ### prelude lawencodes -/
theorem charsetEncodes_true (l t : List Int) (p : Int) (h1 : intsB l = true) (h2 : intsB t = true) : unicodetextlaw06_CharsetEncodes.f 20000 l t p = some true := by
  have ha : unicodetextlaw06_CharsetEncodes.j0 20000 t p true l = some true := by rw [unicodetextlaw06_CharsetEncodes.j0, if_pos rfl, calive_f]; rfl
  unfold unicodetextlaw06_CharsetEncodes.f unicodetextlaw06_few.f
  rw [Option.bind_some]
  split
  · by_cases ht : t.length ≤ 40
    · obtain ⟨r, hr⟩ := enc_some l t p h1 h2 (by omega)
      rw [decide_eq_false (by omega), unicodetextlaw06_CharsetEncodes.j0, if_neg (by decide), renc_f l t p h1 h2 (by omega) _ (by omega), hr, Option.bind_some, Option.bind_some, if_pos rfl, if_pos (by simp), calive_f]; rfl
    · rw [decide_eq_true (by omega)]; exact ha
  · exact ha

end Go.Proofs.YtlgoagkgmndchaaDoor.PA

-- Laid by hprint.py (this session's program, over the kit's print) for the seat YtlgoagkgmndchaaDoor. Lean checks it.
import Derived.Test.YtlgoagkgmndchaaDoorPAx0
import Derived.Test.YtlgoagkgmndchaaDoorPAx5
import Derived.Test.YtlgoagkgmndchaaDoorPAx6
import Derived.Test.YtlgoagkgmndchaaDoorPAx17
import Derived.Test.YtlgoagkgmndchaaDoorPAx18
import Derived.Test.YtlgoagkgmndchaaDoorPAx19
import Derived.Test.YtlgoagkgmndchaaDoorPAx20
namespace Go.Proofs.YtlgoagkgmndchaaDoor.PA
open Go.RowKit Go.Proofs.YtlgoagkgmndchaaDoorW.PrintWords Go.Proofs.YtlgoagkgmndchaaDoorW.PrintLast Go.Proofs.YtlgoagkgmndchaaDoorW.PrintMore
attribute [local go_sem] max2_int min2_int max_two min_two max_three min_three max_four min_four   -- for this text's walks alone
set_option linter.unusedVariables false
set_option linter.unusedSimpArgs false

/-! ### prelude lawparses -/
theorem charsetParses_true (s : ByteArray) : unicodetextlaw06_CharsetParses.f 20000 s = some true := by
  have ha : unicodetextlaw06_CharsetParses.j0 20000 s true = some true := by rw [unicodetextlaw06_CharsetParses.j0, if_pos rfl, calive_f]; rfl
  have fin : ∀ r : List Int × Int × Int, charset_Parse.f s = some r → unicodetextref06_Parse.f 19999 s = some r → r.1.length ≤ 256 → unicodetextlaw06_CharsetParses.j0 20000 s false = some true := by
    intro r h1 h2 h3
    rw [unicodetextlaw06_CharsetParses.j0, if_neg (by decide), h1, Option.bind_some, h2, Option.bind_some, equal_f r.1 (by omega) _ (by omega), Option.bind_some, if_pos rfl, if_pos (by simp), calive_f]; rfl
  unfold unicodetextlaw06_CharsetParses.f
  by_cases h3 : s.size ≤ 3000
  · obtain ⟨r, h1, h2, hr⟩ := par_both s h3 19999 (by decide)
    rw [if_neg (by omega)]
    exact fin r h1 h2 hr
  · rw [if_pos (by omega)]
    by_cases h6 : s.size ≤ 65536
    · rw [decide_eq_true (by omega)]; exact ha
    · rw [decide_eq_false (by omega)]
      refine fin ([], 2, 0) ?_ ?_ (Nat.zero_le _)
      · unfold charset_Parse.f; rw [if_pos (by omega)]
      · unfold unicodetextref06_Parse.f; rw [if_pos (by omega)]

end Go.Proofs.YtlgoagkgmndchaaDoor.PA

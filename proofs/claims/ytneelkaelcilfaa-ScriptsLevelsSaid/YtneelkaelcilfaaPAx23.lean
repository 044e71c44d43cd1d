-- Laid by hprint.py (this session's program, over the kit's print) for the seat Ytneelkaelcilfaa. Lean checks it.
import Derived.Test.YtneelkaelcilfaaPAx0
import Derived.Test.YtneelkaelcilfaaPAx2
import Derived.Test.YtneelkaelcilfaaPAx5
import Derived.Test.YtneelkaelcilfaaPAx7
import Derived.Test.YtneelkaelcilfaaPAx9
import Derived.Test.YtneelkaelcilfaaPAx10
import Derived.Test.YtneelkaelcilfaaPAx11
import Derived.Test.YtneelkaelcilfaaPAx21
import Derived.Test.YtneelkaelcilfaaPAx22
namespace Go.Proofs.Ytneelkaelcilfaa.PA
open Go.RowKit Go.Proofs.YtneelkaelcilfaaW.PrintWords Go.Proofs.YtneelkaelcilfaaW.PrintLast Go.Proofs.YtneelkaelcilfaaW.PrintMore
attribute [local go_sem] max2_int min2_int max_two min_two max_three min_three max_four min_four   -- for this text's walks alone
set_option linter.unusedVariables false
set_option linter.unusedSimpArgs false

/-! ### prelude lawlev -/
theorem lev_l0 (names : List ByteArray) (spans : List Sp) (allowed : List (List ByteArray)) (text : List Int) (hp : scrPre names text = true) (ht : text.length ≤ 40) (ha : allowed.length ≤ 10) : ∀ (k i : Nat), i ≤ allowed.length → allowed.length - i + 6000 < k → (∀ j, j < i → (allowed.getD j []).length ≤ 10) →
    unicodetextlaw40_ScriptsLevels.l0 k allowed text (i : Int) names spans = some true := by
  intro k
  induction k with
  | zero => intro i h1 h2; omega
  | succ k ih =>
    intro i h1 h2 h3
    rw [unicodetextlaw40_ScriptsLevels.l0]
    by_cases hi : i < allowed.length
    · have e : rd_L5 allowed (i : Int) = allowed.getD i [] := rfl
      rw [if_pos (by omega), if_pos (by omega), e]
      by_cases hb : (allowed.getD i []).length ≤ 10
      · rw [if_neg (by omega), wr64 _ (by omega) (by omega)]
        refine ih (i + 1) hi (by omega) fun j hj => ?_
        by_cases e2 : j = i
        · rw [e2]; exact hb
        · exact h3 j (by omega)
      · rw [if_pos (by omega), alive_f _ (by omega)]; rfl
    · have hm : ∀ m ∈ allowed, m.length ≤ 1000 := by
        intro m hmem
        obtain ⟨j, hj, rfl⟩ := List.mem_iff_getElem.1 hmem
        have := h3 j (by omega)
        rw [List.getD_eq_getElem?_getD, List.getElem?_eq_getElem hj] at this
        exact Nat.le_trans this (by decide)
      have e1 : scripts_Level.f names spans allowed text = some (levelB names spans allowed text) := if_pos hp
      rw [if_neg (by omega), e1, Option.bind_some, level_f names spans allowed text (by omega) (by omega) hm k (by omega), Option.bind_some, if_pos rfl, alive_f _ (by omega)]; rfl
theorem scriptsLevels_true (names : List ByteArray) (spans : List Sp) (allowed : List (List ByteArray)) (text : List Int) (h1 : sizesB names = true) (h2 : intsB text = true) : unicodetextlaw40_ScriptsLevels.f 20000 names spans allowed text = some true := by
  unfold unicodetextlaw40_ScriptsLevels.f
  have ha : ∀ b, b = true → unicodetextlaw40_ScriptsLevels.j0 20000 allowed text b names spans = some true := by
    intro b hb
    rw [hb, unicodetextlaw40_ScriptsLevels.j0, if_pos rfl, alive_f _ (by omega)]; rfl
  rw [few_f, Option.bind_some]
  by_cases h : fewB names spans text = true
  · rw [if_pos h]
    by_cases h3 : allowed.length ≤ 10
    · rw [decide_eq_false (by omega), unicodetextlaw40_ScriptsLevels.j0, if_neg (by decide)]
      exact lev_l0 names spans allowed text (pre_few h1 h2 h) (few_text h) h3 19999 0 (Nat.zero_le _) (by omega) (fun j hj => absurd hj (Nat.not_lt_zero _))
    · exact ha _ (decide_eq_true (by omega))
  · rw [if_neg h]; exact ha true rfl

end Go.Proofs.Ytneelkaelcilfaa.PA

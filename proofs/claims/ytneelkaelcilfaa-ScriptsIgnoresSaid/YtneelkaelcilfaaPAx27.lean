-- Laid by hprint.py (this session's program, over the kit's print) for the seat Ytneelkaelcilfaa. Lean checks it.
import Derived.Test.YtneelkaelcilfaaPAx0
import Derived.Test.YtneelkaelcilfaaPAx2
import Derived.Test.YtneelkaelcilfaaPAx5
import Derived.Test.YtneelkaelcilfaaPAx7
import Derived.Test.YtneelkaelcilfaaPAx8
import Derived.Test.YtneelkaelcilfaaPAx9
import Derived.Test.YtneelkaelcilfaaPAx10
import Derived.Test.YtneelkaelcilfaaPAx11
import Derived.Test.YtneelkaelcilfaaPAx16
import Derived.Test.YtneelkaelcilfaaPAx26
namespace Go.Proofs.Ytneelkaelcilfaa.PA
open Go.RowKit Go.Proofs.YtneelkaelcilfaaW.PrintWords Go.Proofs.YtneelkaelcilfaaW.PrintLast Go.Proofs.YtneelkaelcilfaaW.PrintMore
attribute [local go_sem] max2_int min2_int max_two min_two max_three min_three max_four min_four   -- for this text's walks alone
set_option linter.unusedVariables false
set_option linter.unusedSimpArgs false

/-! ### prelude lawign -/
def weave (c : Int) (text : List Int) : List Int := text.flatMap fun x => [c, x]
theorem weave_snoc (c x : Int) (text : List Int) : weave c (text ++ [x]) = weave c text ++ [c, x] := by unfold weave; rw [List.flatMap_append]; rfl
theorem weave_len (c : Int) : ∀ text : List Int, (weave c text).length = 2 * text.length := by
  intro text
  induction text with
  | nil => rfl
  | cons x r ih => unfold weave at ih ⊢; rw [List.flatMap_cons, List.length_append, ih]; simp only [List.length_cons, List.length_nil]; omega
theorem weave_mem (c : Int) (text : List Int) (z : Int) : z ∈ weave c text ++ [c] ↔ z = c ∨ z ∈ text := by
  unfold weave
  rw [List.mem_append, List.mem_flatMap, List.mem_singleton]
  constructor
  · rintro (⟨x, hx, hz⟩ | h)
    · simp only [List.mem_cons, List.not_mem_nil, or_false] at hz
      rcases hz with h | h
      · exact .inl h
      · exact .inr (h ▸ hx)
    · exact .inl h
  · rintro (h | h)
    · exact .inr h
    · exact .inl ⟨z, h, by simp⟩
theorem weave_of (names : List ByteArray) (spans : List Sp) (text : List Int) (c : Int) (hc : realOf names spans c = noneS) : ofB (reals names spans (weave c text ++ [c])) = ofB (reals names spans text) := by
  refine SortedB.unique (ofB_sorted _) (ofB_sorted _) fun x => ?_
  rw [ofB_mem, ofB_mem]
  unfold reals
  rw [List.mem_map, List.mem_map]
  constructor
  · rintro ⟨⟨z, hz, rfl⟩, hn⟩
    rcases (weave_mem c text z).1 hz with rfl | h
    · exact absurd hc hn
    · exact ⟨⟨z, h, rfl⟩, hn⟩
  · rintro ⟨⟨z, hz, rfl⟩, hn⟩
    exact ⟨⟨z, (weave_mem c text z).2 (.inr hz), rfl⟩, hn⟩
theorem weave_level (names : List ByteArray) (spans : List Sp) (text : List Int) (c : Int) (hc : realOf names spans c = noneS) : levelB names spans [] text = levelB names spans [] (weave c text ++ [c]) ∨ levelB names spans [] text = 1 := by
  unfold levelB
  rw [weave_of names spans text c hc]
  by_cases h : text.any highI = false
  · exact .inr (if_pos h)
  · left
    have h2 : ¬ (weave c text ++ [c]).any highI = false := by
      intro h3
      apply h
      rw [List.any_eq_false] at h3 ⊢
      intro x hx
      exact h3 x ((weave_mem c text x).2 (.inr hx))
    rw [if_neg h, if_neg h2]
theorem intsB_iff (l : List Int) : intsB l = true ↔ ∀ x ∈ l, -9223372036854775808 ≤ x ∧ x ≤ 9223372036854775807 := by
  unfold intsB
  rw [List.all_eq_true]
  simp only [Bool.and_eq_true, decide_eq_true_eq]
theorem ign_l0 (names : List ByteArray) (spans : List Sp) (text : List Int) (c : Int) (h1 : sizesB names = true) (h2 : intsB text = true) (h3 : -9223372036854775808 ≤ c ∧ c ≤ 9223372036854775807) (ht : text.length ≤ 40) (hc : realOf names spans c = noneS) : ∀ (k i : Nat), i ≤ text.length → text.length - i + 6000 < k →
    unicodetextlaw40_ScriptsIgnores.l0 k text c (weave c (text.take i)) (i : Int) names spans = some true := by
  intro k
  induction k with
  | zero => intro i h4 h5; omega
  | succ k ih =>
    intro i h4 h5
    rw [unicodetextlaw40_ScriptsIgnores.l0]
    have hwl := weave_len c (text.take i)
    rw [List.length_take] at hwl
    by_cases hi : i < text.length
    · have e : rd text (i : Int) = text.getD i 0 := rfl
      rw [if_pos (by omega), if_pos (by omega), Option.bind_some, if_pos (by rw [hwl]; show _ + 2 < _; omega), wr64 _ (by omega) (by omega), e]
      have := ih (i + 1) hi (by omega)
      have e2 : text.take (i + 1) = text.take i ++ [text.getD i 0] := by
        rw [List.take_succ_eq_append_getElem hi, List.getD_eq_getElem?_getD, List.getElem?_eq_getElem hi]; rfl
      rw [e2, weave_snoc] at this
      exact this
    · have e0 : text.take i = text := List.take_of_length_le (by omega)
      rw [e0] at hwl ⊢
      have hi2 : intsB (weave c text ++ [c]) = true := by
        rw [intsB_iff] at h2 ⊢
        intro x hx
        rcases (weave_mem c text x).1 hx with rfl | h
        · exact h3
        · exact h2 x h
      have hlm : (weave c text ++ [c]).length ≤ 100 := by rw [List.length_append, List.length_singleton, weave_len]; omega
      have p1 : scrPre names text = true := by unfold scrPre; rw [h1, h2, decide_eq_true (by omega)]; rfl
      have p2 : scrPre names (weave c text ++ [c]) = true := by unfold scrPre; rw [h1, hi2, decide_eq_true (by omega)]; rfl
      have a1 : scripts_Level.f names spans [] text = some (levelB names spans [] text) := if_pos p1
      have a2 : scripts_Level.f names spans [] (weave c text ++ [c]) = some (levelB names spans [] (weave c text ++ [c])) := if_pos p2
      have a3 : scripts_Of.f names spans (weave c text ++ [c]) = some (ofB (reals names spans (weave c text ++ [c]))) := if_pos p2
      have a4 : scripts_Of.f names spans text = some (ofB (reals names spans text)) := if_pos p1
      have hl := of_len names spans text
      rw [if_neg (by omega), if_pos (by omega), Option.bind_some, a1, Option.bind_some, a2, Option.bind_some, a3, Option.bind_some, a4, Option.bind_some, weave_of names spans text c hc, strings_f _ (by omega) k (by omega), Option.bind_some, if_pos rfl]
      rcases weave_level names spans text c hc with h | h
      · rw [if_pos h, alive_f _ (by omega)]; rfl
      · by_cases h6 : levelB names spans [] text = levelB names spans [] (weave c text ++ [c])
        · rw [if_pos h6, alive_f _ (by omega)]; rfl
        · rw [if_neg h6, if_pos h, alive_f _ (by omega)]; rfl
theorem scriptsIgnores_true (names : List ByteArray) (spans : List Sp) (text : List Int) (c : Int) (h1 : sizesB names = true) (h2 : intsB text = true) (h3 : -9223372036854775808 ≤ c ∧ c ≤ 9223372036854775807) : unicodetextlaw40_ScriptsIgnores.f 20000 names spans text c = some true := by
  unfold unicodetextlaw40_ScriptsIgnores.f
  have ha : unicodetextlaw40_ScriptsIgnores.j0 20000 text c true names spans = some true := by
    rw [unicodetextlaw40_ScriptsIgnores.j0, if_pos rfl, alive_f _ (by omega)]; rfl
  rw [few_f, Option.bind_some]
  by_cases h : fewB names spans text = true
  · rw [if_pos h]
    unfold unicodetextref10_Name.f
    rw [Option.bind_some, real_name, Option.bind_some]
    by_cases hc : realOf names spans c = noneS
    · have e : notNone (realOf names spans c) = false := by unfold notNone; rw [decide_eq_true hc]; rfl
      rw [e, unicodetextlaw40_ScriptsIgnores.j0, if_neg (by decide)]
      exact ign_l0 names spans text c h1 h2 h3 (few_text h) hc 19999 0 (Nat.zero_le _) (by have := few_text h; omega)
    · have e : notNone (realOf names spans c) = true := (notNone_iff _).2 hc
      rw [e]; exact ha
  · rw [if_neg h]; exact ha

end Go.Proofs.Ytneelkaelcilfaa.PA

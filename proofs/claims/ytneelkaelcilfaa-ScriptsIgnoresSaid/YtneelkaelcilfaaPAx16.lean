-- Laid by hprint.py (this session's program, over the kit's print) for the seat Ytneelkaelcilfaa. Lean checks it.
import Derived.Test.YtneelkaelcilfaaPAx0
import Derived.Test.YtneelkaelcilfaaPAx2
import Derived.Test.YtneelkaelcilfaaPAx5
import Derived.Test.YtneelkaelcilfaaPAx6
import Derived.Test.YtneelkaelcilfaaPAx7
import Derived.Test.YtneelkaelcilfaaPAx9
import Derived.Test.YtneelkaelcilfaaPAx11
import Derived.Test.YtneelkaelcilfaaPAx12
import Derived.Test.YtneelkaelcilfaaPAx15
namespace Go.Proofs.Ytneelkaelcilfaa.PA
open Go.RowKit Go.Proofs.YtneelkaelcilfaaW.PrintWords Go.Proofs.YtneelkaelcilfaaW.PrintLast Go.Proofs.YtneelkaelcilfaaW.PrintMore
attribute [local go_sem] max2_int min2_int max_two min_two max_three min_three max_four min_four   -- for this text's walks alone
set_option linter.unusedVariables false
set_option linter.unusedSimpArgs false

/-! ### prelude pscript -/
/-- the last real script of a list's front, else x -/
def lastB (l : List ByteArray) (x : ByteArray) : ByteArray := l.foldl (fun a s => if s = noneS then a else s) x
theorem fillB_at : ∀ (l : List ByteArray) (x : ByteArray) (i : Nat), i < l.length → (fillB x l).getD i ByteArray.empty = lastB (l.take (i + 1)) x := by
  intro l
  induction l with
  | nil => intro x i hi; exact absurd hi (Nat.not_lt_zero _)
  | cons s r ih =>
    intro x i hi
    rw [fillB]
    cases i with
    | zero => rfl
    | succ i =>
      rw [List.getD_cons_succ, ih _ i (by rw [List.length_cons] at hi; omega)]; rfl
theorem lastB_snoc (l : List ByteArray) (s x : ByteArray) : lastB (l ++ [s]) x = if s = noneS then lastB l x else s := by
  unfold lastB; rw [List.foldl_append]; rfl
theorem firstB_none_front : ∀ (l : List ByteArray) (n : Nat), (∀ y ∈ l.take n, y = noneS) → firstB (l.drop n) = firstB l := by
  intro l
  induction l with
  | nil => intro n _; rw [List.drop_nil]
  | cons s r ih =>
    intro n h
    cases n with
    | zero => rfl
    | succ n =>
      have hs : s = noneS := h s (by rw [List.take_succ_cons]; exact List.mem_cons_self ..)
      rw [List.drop_succ_cons, firstB, if_pos hs]
      exact ih n (fun y hy => h y (by rw [List.take_succ_cons]; exact List.mem_cons_of_mem _ hy))
theorem lastB_none (l : List ByteArray) (x : ByteArray) (h : ∀ y ∈ l, y = noneS) : lastB l x = x := by
  induction l generalizing x with
  | nil => rfl
  | cons s r ih =>
    unfold lastB
    rw [List.foldl_cons, if_pos (h s (List.mem_cons_self ..))]
    exact ih x (fun y hy => h y (List.mem_cons_of_mem _ hy))
theorem real_name (names : List ByteArray) (spans : List Sp) (c : Int) : unicodetextref40_Real.f (nameOf names spans c) = some (notNone (realOf names spans c)) := real_f _ (nameOf_ne _ _ _)
theorem notNone_iff (s : ByteArray) : notNone s = true ↔ s ≠ noneS := by unfold notNone; simp
theorem reals_at (names : List ByteArray) (spans : List Sp) (text : List Int) (i : Nat) (h : i < text.length) : (reals names spans text).getD i ByteArray.empty = realOf names spans (text.getD i 0) := by
  unfold reals
  rw [List.getD_eq_getElem?_getD, List.getElem?_map, List.getD_eq_getElem?_getD, List.getElem?_eq_getElem h]; rfl
theorem script_l1 (names : List ByteArray) (spans : List Sp) (text : List Int) (hl : text.length ≤ 1000) : ∀ (k i : Nat), i ≤ text.length → text.length - i < k →
    unicodetextref40_Script.l1 k text (i : Int) names spans = some (firstB ((reals names spans text).drop i)) := by
  intro k
  induction k with
  | zero => intro i h1 h2; omega
  | succ k ih =>
    intro i h1 h2
    rw [unicodetextref40_Script.l1]
    by_cases hi : i < text.length
    · have hn : unicodetextref10_Name.f names spans (rd text (i : Int)) = some (nameOf names spans (text.getD i 0)) := rfl
      have hrl : i < (reals names spans text).length := by unfold reals; rw [List.length_map]; exact hi
      rw [if_pos (by omega), if_pos (by omega), hn, Option.bind_some, real_name, Option.bind_some, wr64 _ (by omega) (by omega), drop_at _ ByteArray.empty i hrl, reals_at _ _ _ _ hi, firstB]
      by_cases hr : notNone (realOf names spans (text.getD i 0)) = true
      · rw [if_pos hr, if_neg ((notNone_iff _).1 hr)]
        exact congrArg some (realS_of hr).symm
      · rw [if_neg hr, if_pos (by unfold notNone at hr; simpa using hr)]
        exact ih (i + 1) hi (by omega)
    · rw [if_neg (by omega), List.drop_of_length_le (by unfold reals; rw [List.length_map]; omega)]; rfl
theorem script_l0 (names : List ByteArray) (spans : List Sp) (text : List Int) (hl : text.length ≤ 1000) (m : Nat) (hm : m < text.length) : ∀ (k j : Nat), j ≤ m + 1 → j + 1001 < k → (∀ y ∈ ((reals names spans text).take (m + 1)).drop j, y = noneS) →
    unicodetextref40_Script.l0 k text (m : Int) ((j : Int) - 1) names spans = some (lastB ((reals names spans text).take j) (firstB ((reals names spans text).drop (m + 1)))) := by
  intro k
  induction k with
  | zero => intro j h1 h2; omega
  | succ k ih =>
    intro j h1 h2 h3
    rw [unicodetextref40_Script.l0]
    have hrl : (reals names spans text).length = text.length := by unfold reals; rw [List.length_map]
    cases j with
    | zero =>
      rw [if_neg (by omega), wr64 _ (by omega) (by omega)]
      have := script_l1 names spans text hl k (m + 1) hm (by omega)
      rw [show ((m : Int) + 1) = ((m + 1 : Nat) : Int) from rfl, this]; rfl
    | succ j =>
      have e : ((j + 1 : Nat) : Int) - 1 = (j : Int) := by omega
      have hj : j < text.length := by omega
      have hn : unicodetextref10_Name.f names spans (rd text (j : Int)) = some (nameOf names spans (text.getD j 0)) := rfl
      rw [e, if_pos (by omega), if_pos (by omega), if_pos (by omega), hn, Option.bind_some, real_name, Option.bind_some, wr64 _ (by omega) (by omega)]
      have htk : (reals names spans text).take (j + 1) = (reals names spans text).take j ++ [realOf names spans (text.getD j 0)] := by
        rw [List.take_succ_eq_append_getElem (by omega), ← reals_at _ _ _ _ hj]
        rw [List.getD_eq_getElem?_getD, List.getElem?_eq_getElem (by omega)]; rfl
      rw [htk, lastB_snoc]
      by_cases hr : notNone (realOf names spans (text.getD j 0)) = true
      · rw [if_pos hr, if_neg ((notNone_iff _).1 hr)]
        exact congrArg some (realS_of hr).symm
      · have hno : realOf names spans (text.getD j 0) = noneS := by unfold notNone at hr; simpa using hr
        rw [if_neg hr, if_pos hno]
        refine ih j (by omega) (by omega) ?_
        intro y hy
        have hjl : j < ((reals names spans text).take (m + 1)).length := by rw [List.length_take]; omega
        rw [drop_at _ ByteArray.empty j hjl] at hy
        rcases List.mem_cons.1 hy with hy | hy
        · rw [hy, List.getD_eq_getElem?_getD, List.getElem?_take, if_pos (by omega), ← List.getD_eq_getElem?_getD, reals_at _ _ _ _ hj, hno]
        · exact h3 y hy
theorem lastB_mem : ∀ (l : List ByteArray) (x y : ByteArray), (∃ z ∈ l, z ≠ noneS) → lastB l x = lastB l y := by
  intro l
  induction l with
  | nil => intro x y h; obtain ⟨z, hz, _⟩ := h; cases hz
  | cons s r ih =>
    intro x y h
    unfold lastB
    rw [List.foldl_cons, List.foldl_cons]
    by_cases hs : s = noneS
    · rw [if_pos hs, if_pos hs]
      refine ih x y ?_
      obtain ⟨z, hz, hz2⟩ := h
      rcases List.mem_cons.1 hz with rfl | hz
      · exact absurd hs hz2
      · exact ⟨z, hz, hz2⟩
    · rw [if_neg hs, if_neg hs]
theorem script_f (names : List ByteArray) (spans : List Sp) (text : List Int) (hl : text.length ≤ 1000) (m : Nat) (hm : m < text.length) (k : Nat) (hk : 2100 ≤ k) :
    unicodetextref40_Script.f k names spans text (m : Int) = some ((resolvedB (reals names spans text)).getD m ByteArray.empty) := by
  have hrl : (reals names spans text).length = text.length := by unfold reals; rw [List.length_map]
  have h := script_l0 names spans text hl m hm k (m + 1) (Nat.le_refl _) (by omega) (by
    intro y hy; rw [List.drop_of_length_le (by rw [List.length_take]; omega)] at hy; cases hy)
  unfold unicodetextref40_Script.f
  rw [show ((m + 1 : Nat) : Int) - 1 = (m : Int) by omega] at h
  rw [h]
  unfold resolvedB
  rw [fillB_at _ _ _ (by omega)]
  by_cases hx : ∃ z ∈ (reals names spans text).take (m + 1), z ≠ noneS
  · rw [lastB_mem _ _ _ hx]
  · have hx' : ∀ y ∈ (reals names spans text).take (m + 1), y = noneS := fun y hy => Classical.byContradiction fun h => hx ⟨y, hy, h⟩
    rw [firstB_none_front _ _ hx']

end Go.Proofs.Ytneelkaelcilfaa.PA

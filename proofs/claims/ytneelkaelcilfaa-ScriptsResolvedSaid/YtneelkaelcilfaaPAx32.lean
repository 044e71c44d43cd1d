-- Laid by hprint.py (this session's program, over the kit's print) for the seat Ytneelkaelcilfaa. Lean checks it.
import Derived.Test.YtneelkaelcilfaaPAx0
import Derived.Test.YtneelkaelcilfaaPAx2
import Derived.Test.YtneelkaelcilfaaPAx5
import Derived.Test.YtneelkaelcilfaaPAx7
import Derived.Test.YtneelkaelcilfaaPAx8
import Derived.Test.YtneelkaelcilfaaPAx10
import Derived.Test.YtneelkaelcilfaaPAx12
import Derived.Test.YtneelkaelcilfaaPAx15
import Derived.Test.YtneelkaelcilfaaPAx16
import Derived.Test.YtneelkaelcilfaaPAx18
import Derived.Test.YtneelkaelcilfaaPAx30
import Derived.Test.YtneelkaelcilfaaPAx31
namespace Go.Proofs.Ytneelkaelcilfaa.PA
open Go.RowKit Go.Proofs.YtneelkaelcilfaaW.PrintWords Go.Proofs.YtneelkaelcilfaaW.PrintLast Go.Proofs.YtneelkaelcilfaaW.PrintMore
attribute [local go_sem] max2_int min2_int max_two min_two max_three min_three max_four min_four   -- for this text's walks alone
set_option linter.unusedVariables false
set_option linter.unusedSimpArgs false

/-! ### prelude presolved -/
theorem growR_covers (ls : List ByteArray) : ∀ (r : List ByteArray) (lo i : Nat) (x : ByteArray), ls.drop i = r → ls.getD lo ByteArray.empty = x → ∀ y, y = x ∨ y ∈ r → ∃ q ∈ growR r lo i x, atB ls q = y := by
  intro r
  induction r with
  | nil =>
    intro lo i x _ hx y hy
    rcases hy with rfl | hy
    · exact ⟨⟨lo, i⟩, List.mem_singleton.2 rfl, hx⟩
    · cases hy
  | cons z r ih =>
    intro lo i x hd hx y hy
    have hi : i < ls.length := by have := congrArg List.length hd; rw [List.length_drop, List.length_cons] at this; omega
    have h3 := drop_at ls ByteArray.empty i hi
    rw [hd] at h3
    have hz : ls.getD i ByteArray.empty = z := (List.cons.inj h3).1.symm
    have hd' : ls.drop (i + 1) = r := (List.cons.inj h3).2.symm
    rw [growR]
    by_cases hzx : z = x
    · rw [if_pos hzx]
      refine ih lo (i + 1) x hd' hx y ?_
      rcases hy with hy | hy
      · exact .inl hy
      · rcases List.mem_cons.1 hy with hy | hy
        · exact .inl (hy.trans hzx)
        · exact .inr hy
    · rw [if_neg hzx]
      rcases hy with hy | hy
      · exact ⟨⟨lo, i⟩, List.mem_cons_self .., hx.trans hy.symm⟩
      · have hy2 : y = z ∨ y ∈ r := List.mem_cons.1 hy
        obtain ⟨q, hq, he⟩ := ih i (i + 1) z hd' hz y hy2
        exact ⟨q, List.mem_cons_of_mem _ hq, he⟩
theorem runsB_covers (ls : List ByteArray) (y : ByteArray) (hy : y ∈ ls) : ∃ q ∈ runsB ls, atB ls q = y := by
  cases ls with
  | nil => cases hy
  | cons x r => exact growR_covers (x :: r) r 0 1 x rfl rfl y (List.mem_cons.1 hy)
/-- a real script stands in the resolved list too -/
theorem fillB_mem : ∀ (l : List ByteArray) (x s : ByteArray), s ∈ l → s ≠ noneS → s ∈ fillB x l := by
  intro l
  induction l with
  | nil => intro x s h; cases h
  | cons a r ih =>
    intro x s h hs
    rw [fillB]
    rcases List.mem_cons.1 h with h | h
    · rw [if_neg (by rw [← h]; exact hs), h]; exact List.mem_cons_self ..
    · exact List.mem_cons_of_mem _ (ih _ s h hs)
theorem firstR_some (rl : List ByteArray) (s : ByteArray) (h : s ∈ ofB rl) : ∃ q, firstR (resolvedB rl) (runsB (resolvedB rl)) s = some q := by
  obtain ⟨h1, h2⟩ := (ofB_mem rl s).1 h
  obtain ⟨q, hq, he⟩ := runsB_covers _ s (fillB_mem rl _ s h1 h2)
  unfold firstR
  cases hf : (runsB (resolvedB rl)).find? fun q => decide (atB (resolvedB rl) q = s) with
  | some q => exact ⟨q, rfl⟩
  | none =>
    have := List.find?_eq_none.1 hf q hq
    exact absurd (decide_eq_true he) this
theorem refres_loops (names : List ByteArray) (spans : List Sp) (text : List Int) (hl : text.length ≤ 1000) (ls : List ByteArray) (hls : ls = resolvedB (reals names spans text)) (rs : List Rg) (hrs : rs = runsB ls) (ns : List ByteArray) (hns : ns = ofB (reals names spans text)) : ∀ (k : Nat),
    (∀ (i : Nat) (acc : List Rg), i ≤ ns.length → acc.length ≤ i → (ns.length - i) * (rs.length + 2) + 2200 < k →
      unicodetextref40_Resolved.l0 k text ns rs acc (i : Int) names spans = some (acc ++ (ns.drop i).map fun s => (firstR ls rs s).getD z38)) ∧
    (∀ (i j : Nat) (acc : List Rg), i < ns.length → acc.length ≤ i → j ≤ rs.length → (∀ q ∈ rs.take j, atB ls q ≠ ns.getD i ByteArray.empty) → (ns.length - (i + 1)) * (rs.length + 2) + (rs.length - j) + 2201 < k →
      unicodetextref40_Resolved.l1 k text ns rs acc (i : Int) (j : Int) names spans = some (acc ++ (ns.drop i).map fun s => (firstR ls rs s).getD z38)) := by
  have hlen : ls.length = text.length := by rw [hls, resolved_len]
  have hnl : ns.length ≤ 1000 := by
    rw [hns]
    refine Nat.le_trans (ofB_length _) ?_
    unfold reals; rw [List.length_map]; exact hl
  have hrl : rs.length ≤ 1000 := by rw [hrs]; have := runsB_len ls; omega
  intro k
  induction k with
  | zero => exact ⟨fun i acc _ _ h => absurd h (Nat.not_lt_zero _), fun i j acc _ _ _ _ h => absurd h (Nat.not_lt_zero _)⟩
  | succ k ih =>
    refine ⟨fun i acc h1 h2 h3 => ?_, fun i j acc h1 h2 h3 h4 h5 => ?_⟩
    · rw [unicodetextref40_Resolved.l0]
      by_cases hi : i < ns.length
      · rw [if_pos (by omega)]
        have hm : (ns.length - i) * (rs.length + 2) = (ns.length - (i + 1)) * (rs.length + 2) + (rs.length + 2) := by
          rw [show ns.length - i = (ns.length - (i + 1)) + 1 by omega, Nat.succ_mul]
        exact ih.2 i 0 acc hi h2 (Nat.zero_le _) (by intro q hq; rw [List.take_zero] at hq; cases hq) (by omega)
      · rw [if_neg (by omega), List.drop_of_length_le (by omega), List.map_nil, List.append_nil]
    · rw [unicodetextref40_Resolved.l1]
      have hd := drop_at ns ByteArray.empty i h1
      by_cases hj : j < rs.length
      · have hqm : rs.getD j z38 ∈ rs := by
          rw [List.getD_eq_getElem?_getD, List.getElem?_eq_getElem hj]; exact List.getElem_mem hj
        have hin := runsB_in ls _ (by rw [← hrs]; exact hqm)
        have e : rd_T38 rs (j : Int) = rs.getD j z38 := rfl
        have hdj := drop_at rs z38 j hj
        obtain ⟨q, hq⟩ : ∃ q, q = rs.getD j z38 := ⟨_, rfl⟩
        rw [← hq] at hqm hin e hdj
        have hs : unicodetextref40_Script.f k names spans text q.f0 = some (atB ls q) := by
          have h6 := script_f names spans text hl q.f0.toNat (by omega) k (by omega)
          rw [← hls, show ((q.f0.toNat : Nat) : Int) = q.f0 by omega] at h6
          exact h6
        have hsplit : rs = rs.take j ++ q :: rs.drop (j + 1) := by rw [← hdj, List.take_append_drop]
        rw [if_pos (by omega), if_pos (by omega), e, hs, Option.bind_some, if_pos (by omega), if_pos (by omega), rdOf_nat]
        by_cases he : atB ls q = ns.getD i ByteArray.empty
        · rw [if_pos (by rw [he]), if_pos (by omega), w64 _ (by omega) (by omega)]
          have h7 := ih.1 (i + 1) (acc ++ [q]) h1 (by rw [List.length_append, List.length_singleton]; omega) (by omega)
          have hf : firstR ls rs (ns.getD i ByteArray.empty) = some q := by
            rw [hsplit]
            unfold firstR
            rw [List.find?_append, List.find?_cons, decide_eq_true he]
            have : (rs.take j).find? (fun q => decide (atB ls q = ns.getD i ByteArray.empty)) = none := by
              rw [List.find?_eq_none]; intro y hy; rw [decide_eq_true_eq]; exact h4 y hy
            rw [this]; rfl
          rw [hd, List.map_cons, hf]
          refine Eq.trans h7 ?_
          rw [List.append_assoc]; rfl
        · rw [if_neg (fun e2 => he ((bs_eq _ _).1 e2)), w64 _ (by omega) (by omega)]
          refine ih.2 i (j + 1) acc h1 h2 hj ?_ (by omega)
          intro y hy
          rw [List.take_succ_eq_append_getElem hj] at hy
          rcases List.mem_append.1 hy with hy | hy
          · exact h4 y hy
          · rw [List.mem_singleton] at hy
            rw [hy]
            have : rs[j] = q := by rw [hq, List.getD_eq_getElem?_getD, List.getElem?_eq_getElem hj]; rfl
            rw [this]; exact he
      · exfalso
        have hmem : ns.getD i ByteArray.empty ∈ ns := by
          rw [List.getD_eq_getElem?_getD, List.getElem?_eq_getElem h1]; exact List.getElem_mem h1
        rw [hns] at hmem
        obtain ⟨h8, h9⟩ := (ofB_mem _ _).1 hmem
        obtain ⟨q, hq, he⟩ := runsB_covers (resolvedB (reals names spans text)) _ (fillB_mem _ _ _ h8 h9)
        rw [← hls, ← hrs] at hq
        rw [← hls, ← hns] at he
        refine h4 q ?_ he
        rw [List.take_of_length_le (by omega)]; exact hq
theorem refres_f (names : List ByteArray) (spans : List Sp) (text : List Int) (hl : text.length ≤ 40) (k : Nat) (hk : 10000 ≤ k) : unicodetextref40_Resolved.f k names spans text = some (resolvedR (reals names spans text)) := by
  unfold unicodetextref40_Resolved.f
  rw [of_f names spans text (by omega) k (by omega), Option.bind_some, refruns_f names spans text (by omega) k (by omega), Option.bind_some]
  have hnl : (ofB (reals names spans text)).length ≤ 40 := by
    refine Nat.le_trans (ofB_length _) ?_
    unfold reals; rw [List.length_map]; exact hl
  have hrl : (runsB (resolvedB (reals names spans text))).length ≤ 40 := by
    have := runsB_len (resolvedB (reals names spans text)); rw [resolved_len] at this; omega
  have hmul : (ofB (reals names spans text)).length * ((runsB (resolvedB (reals names spans text))).length + 2) ≤ 40 * 42 := Nat.mul_le_mul hnl (by omega)
  exact (refres_loops names spans text (by omega) _ rfl _ rfl _ rfl k).1 0 [] (Nat.zero_le _) (Nat.zero_le _) (by rw [Nat.sub_zero]; omega)

end Go.Proofs.Ytneelkaelcilfaa.PA

-- Laid by hprint.py (this session's program, over the kit's print) for the seat Ytneelkaelcilfaa. Lean checks it.
import Derived.Test.YtneelkaelcilfaaPAx0
import Derived.Test.YtneelkaelcilfaaPAx2
import Derived.Test.YtneelkaelcilfaaPAx5
import Derived.Test.YtneelkaelcilfaaPAx7
import Derived.Test.YtneelkaelcilfaaPAx10
import Derived.Test.YtneelkaelcilfaaPAx16
import Derived.Test.YtneelkaelcilfaaPAx17
namespace Go.Proofs.Ytneelkaelcilfaa.PA
open Go.RowKit Go.Proofs.YtneelkaelcilfaaW.PrintWords Go.Proofs.YtneelkaelcilfaaW.PrintLast Go.Proofs.YtneelkaelcilfaaW.PrintMore
attribute [local go_sem] max2_int min2_int max_two min_two max_three min_three max_four min_four   -- for this text's walks alone
set_option linter.unusedVariables false
set_option linter.unusedSimpArgs false

/-! ### prelude pruns -/
theorem refruns_l0 (names : List ByteArray) (spans : List Sp) (text : List Int) (hl : text.length ≤ 1000) (ls : List ByteArray) (hls : ls = resolvedB (reals names spans text)) (hlen : ls.length = text.length) : ∀ (r : List ByteArray) (lo i : Nat) (x : ByteArray) (done : List Rg) (k : Nat), ls.drop i = r → 1 ≤ i → i ≤ ls.length → ls.getD (i - 1) ByteArray.empty = x → done.length ≤ i → r.length + 2200 < k →
    unicodetextref40_Runs.l0 k text (done ++ [⟨lo, i⟩]) (i : Int) names spans = some (done ++ growR r lo i x) := by
  intro r
  induction r with
  | nil =>
    intro lo i x done k hd h1 h2 hx hdn hk
    have hi : ls.length ≤ i := by have := congrArg List.length hd; rw [List.length_drop, List.length_nil] at this; omega
    cases k with
    | zero => exact absurd hk (Nat.not_lt_zero _)
    | succ k =>
      rw [unicodetextref40_Runs.l0, if_neg (by omega)]; rfl
  | cons y r ih =>
    intro lo i x done k hd h1 h2 hx hdn hk
    have hi : i < ls.length := by have := congrArg List.length hd; rw [List.length_drop, List.length_cons] at this; omega
    have hy : ls.getD i ByteArray.empty = y := by
      have h3 := drop_at ls ByteArray.empty i hi
      rw [hd] at h3
      exact (List.cons.inj h3).1.symm
    have hd' : ls.drop (i + 1) = r := by
      have h3 := drop_at ls ByteArray.empty i hi
      rw [hd] at h3
      exact (List.cons.inj h3).2.symm
    cases k with
    | zero => exact absurd hk (Nat.not_lt_zero _)
    | succ k =>
      rw [List.length_cons] at hk
      have hwi : wrap64 ((i : Int) + 1) = ((i + 1 : Nat) : Int) := by rw [w64 _ (by omega) (by omega)]; rfl
      have hwp : wrap64 ((i : Int) - 1) = ((i - 1 : Nat) : Int) := by rw [w64 _ (by omega) (by omega)]; omega
      have ha : (done ++ [(⟨lo, i⟩ : Rg)]).length = done.length + 1 := by rw [List.length_append, List.length_singleton]
      have hwa : wrap64 (((done ++ [(⟨lo, i⟩ : Rg)]).length : Int) - 1) = (done.length : Int) := by rw [ha, w64 _ (by omega) (by omega)]; omega
      have s1 := script_f names spans text hl i (by omega) k (by omega)
      have s2 := script_f names spans text hl (i - 1) (by omega) k (by omega)
      rw [← hls] at s1 s2
      rw [hy] at s1
      rw [hx] at s2
      rw [unicodetextref40_Runs.l0, if_pos (by omega), if_pos (by omega), hwp, s1, Option.bind_some, s2, Option.bind_some]
      unfold growR
      by_cases hyx : y = x
      · rw [if_pos hyx, if_pos (by rw [hyx]), hwa, if_pos (by omega), if_pos (by omega), hwi]
        have hs := set_last done (⟨lo, i⟩ : Rg) (⟨lo, ((i + 1 : Nat) : Int)⟩ : Rg) z38 done.length (by rw [ha])
        have e3 : (rd_T38 (done ++ [(⟨lo, i⟩ : Rg)]) (done.length : Int)) = ⟨lo, i⟩ := hs.2
        rw [e3]
        have e4 : ((done.length : Int)).toNat = done.length := rfl
        rw [e4, hs.1]
        exact ih lo (i + 1) x done k hd' (by omega) hi (by rw [Nat.add_sub_cancel, hy, hyx]) (by omega) (by omega)
      · rw [if_neg hyx, if_neg (fun h => hyx ((bs_eq y x).1 h)), if_pos (by omega), hwi]
        have := ih i (i + 1) y (done ++ [(⟨lo, i⟩ : Rg)]) k hd' (by omega) hi (by rw [Nat.add_sub_cancel, hy]) (by rw [ha]; omega) (by omega)
        rw [this, List.append_assoc]; rfl
theorem resolved_len (names : List ByteArray) (spans : List Sp) (text : List Int) : (resolvedB (reals names spans text)).length = text.length := by
  have : ∀ (l : List ByteArray) (x : ByteArray), (fillB x l).length = l.length := by
    intro l
    induction l with
    | nil => intro x; rfl
    | cons s r ih => intro x; rw [fillB, List.length_cons, List.length_cons, ih]
  unfold resolvedB
  rw [this]; unfold reals; rw [List.length_map]
theorem refruns_f (names : List ByteArray) (spans : List Sp) (text : List Int) (hl : text.length ≤ 1000) (k : Nat) (hk : 3300 ≤ k) : unicodetextref40_Runs.f k names spans text = some (runsB (resolvedB (reals names spans text))) := by
  obtain ⟨ls, hls⟩ : ∃ ls, ls = resolvedB (reals names spans text) := ⟨_, rfl⟩
  have hlen : ls.length = text.length := by rw [hls, resolved_len]
  unfold unicodetextref40_Runs.f
  rw [← hls]
  cases k with
  | zero => omega
  | succ k =>
    cases hc : ls with
    | nil =>
      rw [hc] at hlen
      rw [unicodetextref40_Runs.l0, if_neg (by rw [← hlen]; simp)]; rfl
    | cons x r =>
      have hpos : 0 < text.length := by rw [← hlen, hc, List.length_cons]; omega
      have hwi : wrap64 ((0 : Int) + 1) = ((1 : Nat) : Int) := by rw [w64 _ (by omega) (by omega)]; rfl
      rw [unicodetextref40_Runs.l0, if_pos (by omega), if_neg (by omega), if_pos (by simp), hwi]
      have hr : r.length ≤ 1000 := by have := hlen; rw [hc, List.length_cons] at this; omega
      have := refruns_l0 names spans text hl ls hls hlen r 0 1 x [] k (by rw [hc]; rfl) (Nat.le_refl _) (by rw [hlen]; omega) (by rw [hc]; rfl) (by simp) (by omega)
      rw [List.nil_append] at this
      rw [List.nil_append]
      exact this

end Go.Proofs.Ytneelkaelcilfaa.PA

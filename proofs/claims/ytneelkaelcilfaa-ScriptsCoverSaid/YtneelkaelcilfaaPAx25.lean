-- Laid by hprint.py (this session's program, over the kit's print) for the seat Ytneelkaelcilfaa. Lean checks it.
import Derived.Test.YtneelkaelcilfaaPAx0
import Derived.Test.YtneelkaelcilfaaPAx2
import Derived.Test.YtneelkaelcilfaaPAx5
import Derived.Test.YtneelkaelcilfaaPAx7
import Derived.Test.YtneelkaelcilfaaPAx8
import Derived.Test.YtneelkaelcilfaaPAx9
import Derived.Test.YtneelkaelcilfaaPAx10
import Derived.Test.YtneelkaelcilfaaPAx11
import Derived.Test.YtneelkaelcilfaaPAx16
import Derived.Test.YtneelkaelcilfaaPAx18
import Derived.Test.YtneelkaelcilfaaPAx24
namespace Go.Proofs.Ytneelkaelcilfaa.PA
open Go.RowKit Go.Proofs.YtneelkaelcilfaaW.PrintWords Go.Proofs.YtneelkaelcilfaaW.PrintLast Go.Proofs.YtneelkaelcilfaaW.PrintMore
attribute [local go_sem] max2_int min2_int max_two min_two max_three min_three max_four min_four   -- for this text's walks alone
set_option linter.unusedVariables false
set_option linter.unusedSimpArgs false

/-! ### prelude lawcov -/
theorem cov_real (rl : List ByteArray) (i : Nat) (hi : i < rl.length) (h : rl.getD i ByteArray.empty ≠ noneS) : (resolvedB rl).getD i ByteArray.empty = rl.getD i ByteArray.empty := by
  unfold resolvedB
  rw [fillB_at rl _ i hi, List.take_succ_eq_append_getElem hi, lastB_snoc]
  rw [List.getD_eq_getElem?_getD, List.getElem?_eq_getElem hi] at h ⊢
  have h' : ¬ rl[i] = noneS := h
  rw [if_neg h']; rfl
theorem cov_none (rl : List ByteArray) (i : Nat) (hi : i + 1 < rl.length) (h : rl.getD (i + 1) ByteArray.empty = noneS) : (resolvedB rl).getD (i + 1) ByteArray.empty = (resolvedB rl).getD i ByteArray.empty := by
  unfold resolvedB
  rw [fillB_at rl _ (i + 1) hi, fillB_at rl _ i (by omega), List.take_succ_eq_append_getElem hi, lastB_snoc]
  rw [List.getD_eq_getElem?_getD, List.getElem?_eq_getElem hi] at h
  have h' : rl[i + 1] = noneS := h
  rw [if_pos h']
/-- a front without real scripts is told by the first real one behind it -/
theorem cov_front (rl : List ByteArray) (j : Nat) (h0 : 0 < j) (hj : j < rl.length) (h : ∀ y ∈ rl.take j, y = noneS) (hr : rl.getD j ByteArray.empty ≠ noneS) : (resolvedB rl).getD 0 ByteArray.empty = (resolvedB rl).getD j ByteArray.empty := by
  rw [cov_real rl j hj hr]
  unfold resolvedB
  rw [fillB_at rl _ 0 (by omega), lastB_none _ _ (fun y hy => h y (List.mem_of_mem_take (i := 1) (by rw [List.take_take, Nat.min_eq_left (by omega)]; exact hy)))]
  rw [← firstB_none_front rl j h, drop_at rl ByteArray.empty j hj, firstB, if_neg hr]
theorem grow_head (ls : List ByteArray) : ∀ (r : List ByteArray) (lo j : Nat) (x : ByteArray), ls.drop j = r → lo < j → j ≤ ls.length → (∀ m, lo ≤ m → m < j → ls.getD m ByteArray.empty = x) →
    ∃ e, lo < e ∧ e ≤ ls.length ∧ (∀ m, lo ≤ m → m < e → ls.getD m ByteArray.empty = x) ∧ ((e = ls.length ∧ growR r lo j x = [⟨lo, e⟩]) ∨ (e < ls.length ∧ ls.getD e ByteArray.empty ≠ x ∧ growR r lo j x = ⟨lo, e⟩ :: growR (ls.drop (e + 1)) e (e + 1) (ls.getD e ByteArray.empty))) := by
  intro r
  induction r with
  | nil =>
    intro lo j x hd h1 h2 h3
    have : ls.length ≤ j := by have := congrArg List.length hd; rw [List.length_drop, List.length_nil] at this; omega
    exact ⟨j, h1, h2, h3, .inl ⟨by omega, rfl⟩⟩
  | cons y r ih =>
    intro lo j x hd h1 h2 h3
    have hj : j < ls.length := by have := congrArg List.length hd; rw [List.length_drop, List.length_cons] at this; omega
    have h4 := drop_at ls ByteArray.empty j hj
    rw [hd] at h4
    obtain ⟨hy, hr⟩ := List.cons.inj h4
    have eg : growR (y :: r) lo j x = if y = x then growR r lo (j + 1) x else ⟨lo, j⟩ :: growR r j (j + 1) y := rfl
    rw [eg]
    by_cases hyx : y = x
    · rw [if_pos hyx]
      refine ih lo (j + 1) x hr.symm (by omega) hj fun m h5 h6 => ?_
      by_cases e : m = j
      · rw [e, ← hy, hyx]
      · exact h3 m h5 (by omega)
    · rw [if_neg hyx]
      exact ⟨j, h1, h2, h3, .inr ⟨hj, by rw [← hy]; exact hyx, by rw [hr, ← hy]⟩⟩
theorem covIntsB (l : List Int) : intsB l = true ↔ ∀ x ∈ l, -9223372036854775808 ≤ x ∧ x ≤ 9223372036854775807 := by
  unfold intsB
  rw [List.all_eq_true]
  simp only [Bool.and_eq_true, decide_eq_true_eq]
theorem sub_getD (l : List ByteArray) (lo e : Nat) (x : ByteArray) (hx : x ∈ (l.take e).drop lo) : ∃ m, lo ≤ m ∧ m < e ∧ m < l.length ∧ l.getD m ByteArray.empty = x := by
  obtain ⟨j, hj, rfl⟩ := List.mem_iff_getElem.1 hx
  rw [List.length_drop, List.length_take] at hj
  refine ⟨lo + j, by omega, by omega, by omega, ?_⟩
  rw [List.getElem_drop, List.getElem_take, List.getD_eq_getElem?_getD, List.getElem?_eq_getElem (by omega)]; rfl
theorem getD_sub (l : List ByteArray) (lo e m : Nat) (h1 : lo ≤ m) (h2 : m < e) (h3 : m < l.length) : l.getD m ByteArray.empty ∈ (l.take e).drop lo := by
  refine List.mem_iff_getElem.2 ⟨m - lo, by rw [List.length_drop, List.length_take]; omega, ?_⟩
  rw [List.getElem_drop, List.getElem_take, List.getD_eq_getElem?_getD, List.getElem?_eq_getElem h3]
  have : lo + (m - lo) = m := by omega
  simp only [this]; rfl
theorem nodup_same {l : List ByteArray} (h : SortedB l) (x : ByteArray) (hx : ∀ y ∈ l, y = x) : l = [] ∨ l = [x] := by
  match l, h, hx with
  | [], _, _ => exact .inl rfl
  | [a], _, hx => right; rw [hx a (by simp)]
  | a :: b :: r, h, hx =>
    have h1 := hx a (by simp)
    have h2 := hx b (by simp)
    have := h.nodup
    rw [h1, h2] at this
    exact absurd (List.mem_cons_self ..) (List.nodup_cons.1 this).1
theorem cov_l0 (names : List ByteArray) (spans : List Sp) (text : List Int) (h1 : sizesB names = true) (h2 : intsB text = true) (ht : text.length ≤ 40) (rl : List ByteArray) (hrl : rl = reals names spans text) (ls : List ByteArray) (hls : ls = resolvedB rl) (rs : List Rg) (hrs : rs = runsB ls) (hrn : rs.length ≤ 1000) :
    ∀ (k i lo : Nat) (last : ByteArray), lo < text.length → rs.drop i = growR (ls.drop (lo + 1)) lo (lo + 1) (ls.getD lo ByteArray.empty) → (lo = 0 ∧ i = 0 ∧ last = noneS ∨ 0 < lo ∧ last = ls.getD (lo - 1) ByteArray.empty ∧ last ≠ ls.getD lo ByteArray.empty) → 2 * (text.length - lo) + 1000 < k →
    unicodetextlaw40_ScriptsCover.l0 k text rs (lo : Int) last (i : Int) names spans = some true := by
  have hln : ls.length = text.length := by rw [hls, hrl, resolved_len]
  have hrn2 : rl.length = text.length := by rw [hrl, reals_len]
  intro k
  induction k using Nat.strongRecOn with
  | _ k ihs =>
  intro i lo last g1 g2 g3 g4
  obtain ⟨k, rfl⟩ : ∃ m, k = m + 2 := ⟨k - 2, by omega⟩
  have ih := ihs k (by omega)
  obtain ⟨e, e1, e2, e3, e4⟩ := grow_head ls _ lo (lo + 1) (ls.getD lo ByteArray.empty) rfl (by omega) (by omega) (fun m h5 h6 => by rw [show m = lo from by omega])
  have hil : i < rs.length := by
    by_cases hc : i < rs.length
    · exact hc
    · rw [List.drop_of_length_le (by omega)] at g2
      rcases e4 with ⟨_, e5⟩ | ⟨_, _, e5⟩ <;> rw [e5] at g2 <;> cases g2
  have hq : rs.getD i z38 = ⟨lo, e⟩ := by
    have h5 := drop_at rs z38 i hil
    rw [g2] at h5
    rcases e4 with ⟨_, e5⟩ | ⟨_, _, e5⟩ <;> rw [e5] at h5 <;> exact (List.cons.inj h5).1.symm
  have hq2 : rd_T38 rs (i : Int) = ⟨lo, e⟩ := hq
  have htl : rs.drop (i + 1) = if e < ls.length then growR (ls.drop (e + 1)) e (e + 1) (ls.getD e ByteArray.empty) else [] := by
    have h5 := drop_at rs z38 i hil
    rw [g2] at h5
    rcases e4 with ⟨e6, e5⟩ | ⟨e6, _, e5⟩
    · rw [e5] at h5; rw [if_neg (by omega)]; exact (List.cons.inj h5).2.symm
    · rw [e5] at h5; rw [if_pos e6]; exact (List.cons.inj h5).2.symm
  rw [unicodetextlaw40_ScriptsCover.l0, if_pos (by omega), if_pos (by omega), hq2]
  show (if (lo : Int) = (lo : Int) then (if (e : Int) ≤ (lo : Int) then _ else (unicodetextlaw40_ScriptsCover.j1 (k + 1) text rs (lo : Int) last (i : Int) (decide ((e : Int) > (text.length : Int))) names spans)) else _) = _
  rw [if_pos rfl, if_neg (by omega), decide_eq_false (by omega), unicodetextlaw40_ScriptsCover.j1, if_neg (by decide), if_pos (by omega), if_pos (by omega), if_pos (by omega), hq2]
  show (if (lo : Int) ≤ (e : Int) then (if (e : Int) ≤ (text.length : Int) then ((scripts_Of.f names spans ((text.take ((e : Int)).toNat).drop ((lo : Int)).toNat)).bind fun t426 => (if (t426.length : Int) = 0 then (if (rs.length : Int) = 1 then (if (e : Int) = (text.length : Int) then ((unicodetextlaw40_alive.f k).bind fun t430 => (some t430)) else (some false)) else (some false)) else (if (t426.length : Int) = 1 then (if 0 < (t426.length : Int) then (if (rdOf ByteArray.empty t426 0).toList = last.toList then (some false) else (unicodetextlaw40_ScriptsCover.l0 k text rs (e : Int) (rdOf ByteArray.empty t426 0) (wrap64 ((i : Int) + 1)) names spans)) else (none)) else (some false)))) else (none)) else (none)) = _
  have hsub : intsB ((text.take e).drop lo) = true := by
    rw [covIntsB] at h2 ⊢
    exact fun x hx => h2 x (List.mem_of_mem_take (List.mem_of_mem_drop hx))
  have hp : scrPre names ((text.take e).drop lo) = true := by
    unfold scrPre; rw [h1, hsub, decide_eq_true (by rw [List.length_drop, List.length_take]; omega)]; rfl
  have ho : scripts_Of.f names spans ((text.take e).drop lo) = some (ofB ((rl.take e).drop lo)) := by
    have : reals names spans ((text.take e).drop lo) = (rl.take e).drop lo := by rw [hrl]; unfold reals; rw [List.map_drop, List.map_take]
    rw [← this]; exact if_pos hp
  have t1 : ((e : Int)).toNat = e := rfl
  have t2 : ((lo : Int)).toNat = lo := rfl
  rw [if_pos (by omega), if_pos (by omega), t1, t2, ho, Option.bind_some]
  have hall : ∀ y ∈ ofB ((rl.take e).drop lo), y = ls.getD lo ByteArray.empty := by
    intro y hy
    obtain ⟨hy1, hy2⟩ := (ofB_mem _ _).1 hy
    obtain ⟨m, m1, m2, m3, rfl⟩ := sub_getD rl lo e y hy1
    have := cov_real rl m m3 hy2
    rw [← hls, e3 m m1 m2] at this
    exact this.symm
  rcases nodup_same (ofB_sorted _) _ hall with hz | hz
  · -- no real script in this run: it is the whole text
    have hnone : ∀ m, lo ≤ m → m < e → rl.getD m ByteArray.empty = noneS := by
      intro m m1 m2
      by_cases hc : rl.getD m ByteArray.empty = noneS
      · exact hc
      · have := (ofB_mem ((rl.take e).drop lo) (rl.getD m ByteArray.empty)).2 ⟨getD_sub rl lo e m m1 m2 (by omega), hc⟩
        rw [hz] at this; cases this
    have hlo : lo = 0 := by
      rcases g3 with ⟨g5, _⟩ | ⟨g5, g6, g7⟩
      · exact g5
      · exfalso
        have := cov_none rl (lo - 1) (by omega) (by rw [show lo - 1 + 1 = lo from by omega]; exact hnone lo (Nat.le_refl _) (by omega))
        rw [← hls, show lo - 1 + 1 = lo from by omega] at this
        exact g7 (by rw [g6, this])
    subst hlo
    have hi0 : i = 0 := by
      rcases g3 with ⟨_, g6, _⟩ | ⟨g5, _⟩
      · exact g6
      · omega
    subst hi0
    have hel : e = ls.length := by
      rcases e4 with ⟨e5, _⟩ | ⟨e5, e6, _⟩
      · exact e5
      · exfalso
        have hne : rl.getD e ByteArray.empty ≠ noneS := by
          intro hc
          have := cov_none rl (e - 1) (by omega) (by rw [show e - 1 + 1 = e from by omega]; exact hc)
          rw [← hls, show e - 1 + 1 = e from by omega, e3 (e - 1) (by omega) (by omega)] at this
          exact e6 this
        have := cov_front rl e (by omega) (by omega) (fun y hy => by
          obtain ⟨m, m1, m2, m3, rfl⟩ := sub_getD rl 0 e y (by rw [List.drop_zero]; exact hy)
          exact hnone m m1 m2) hne
        rw [← hls] at this
        exact e6 this.symm
    have hr1 : rs.length = 1 := by
      rw [if_neg (by omega)] at htl
      have := congrArg List.length htl
      rw [List.length_drop, List.length_nil] at this
      omega
    rw [hz, if_pos (show ((([] : List ByteArray).length : Nat) : Int) = 0 from rfl), if_pos (by omega), if_pos (by omega), alive_f _ (by omega)]; rfl
  · have hx : ls.getD lo ByteArray.empty ≠ noneS := ((ofB_mem _ _).1 (by rw [hz]; exact List.mem_cons_self ..)).2
    have hl1 : (([ls.getD lo ByteArray.empty] : List ByteArray).length : Int) = 1 := rfl
    have hr0 : rdOf ByteArray.empty [ls.getD lo ByteArray.empty] 0 = ls.getD lo ByteArray.empty := rfl
    have hne : ¬ (ls.getD lo ByteArray.empty).toList = last.toList := by
      rw [bs_eq]
      rcases g3 with ⟨_, _, g6⟩ | ⟨_, _, g6⟩
      · rw [g6]; exact hx
      · exact fun h => g6 h.symm
    rw [hz, hl1, if_neg (by decide), if_pos rfl, if_pos (by decide), hr0, if_neg hne, wr64 _ (by omega) (by omega)]
    by_cases hel : e < ls.length
    · rw [if_pos hel] at htl
      have hd : ls.getD (e - 1) ByteArray.empty = ls.getD lo ByteArray.empty := e3 (e - 1) (by omega) (by omega)
      have hde : ls.getD e ByteArray.empty ≠ ls.getD lo ByteArray.empty := by
        rcases e4 with ⟨e5, _⟩ | ⟨_, e6, _⟩
        · omega
        · exact e6
      exact ih (i + 1) e _ (by omega) htl (.inr ⟨by omega, hd.symm, fun h => hde h.symm⟩) (by omega)
    · rw [if_neg hel] at htl
      have hr1 : rs.length = i + 1 := by
        have := congrArg List.length htl
        rw [List.length_drop, List.length_nil] at this
        omega
      obtain ⟨k', rfl⟩ : ∃ m, k = m + 1 := ⟨k - 1, by omega⟩
      rw [unicodetextlaw40_ScriptsCover.l0, if_neg (by omega), if_pos (by omega), alive_f _ (by omega)]; rfl
theorem scriptsCover_true (names : List ByteArray) (spans : List Sp) (text : List Int) (h1 : sizesB names = true) (h2 : intsB text = true) : unicodetextlaw40_ScriptsCover.f 20000 names spans text = some true := by
  unfold unicodetextlaw40_ScriptsCover.f
  rw [few_f, Option.bind_some]
  by_cases h : fewB names spans text = true
  · have ht := few_text h
    have hp := pre_few h1 h2 h
    have e1 : scripts_resolved.f names spans text = some (resolvedB (reals names spans text)) := if_pos hp
    have hrl := resolved_len names spans text
    have e2 : scripts_runs_string.f 20000 (resolvedB (reals names spans text)) = some (runsB (resolvedB (reals names spans text))) := runs_f _ (by omega) 20000 (by omega)
    have hl := runsB_len (resolvedB (reals names spans text))
    rw [if_pos h]
    unfold scripts_Runs.f
    rw [e1, Option.bind_some, e2, Option.bind_some, Option.bind_some]
    by_cases h0 : text.length = 0
    · have : resolvedB (reals names spans text) = [] := List.eq_nil_of_length_eq_zero (by omega)
      rw [this]
      show unicodetextlaw40_ScriptsCover.l0 (19999 + 1) text [] 0 ⟨#[]⟩ 0 names spans = _
      rw [unicodetextlaw40_ScriptsCover.l0, if_neg (by decide), if_pos (by omega), alive_f _ (by omega)]; rfl
    · refine cov_l0 names spans text h1 h2 ht _ rfl _ rfl _ rfl (by omega) 20000 0 0 noneS (by omega) ?_ (.inl ⟨rfl, rfl, rfl⟩) (by omega)
      rw [List.drop_zero]
      have h3 := drop_at (resolvedB (reals names spans text)) ByteArray.empty 0 (by omega)
      rw [List.drop_zero] at h3
      conv => lhs; rw [h3]
      rfl
  · rw [if_neg h, alive_f _ (by omega)]; rfl

end Go.Proofs.Ytneelkaelcilfaa.PA

-- Laid by hprint.py (this session's program, over the kit's print) for the seat YtlgoagkgmndchaaDoor. Lean checks it.
import Derived.Test.YtlgoagkgmndchaaDoorPAx0
import Derived.Test.YtlgoagkgmndchaaDoorPAx2
import Derived.Test.YtlgoagkgmndchaaDoorPAx4
import Derived.Test.YtlgoagkgmndchaaDoorPAx5
import Derived.Test.YtlgoagkgmndchaaDoorPAx6
import Derived.Test.YtlgoagkgmndchaaDoorPAx14
import Derived.Test.YtlgoagkgmndchaaDoorPAx19
import Derived.Test.YtlgoagkgmndchaaDoorPAx22
import Derived.Test.YtlgoagkgmndchaaDoorPAx23
import Derived.Test.YtlgoagkgmndchaaDoorPAx26
namespace Go.Proofs.YtlgoagkgmndchaaDoor.PA
open Go.RowKit Go.Proofs.YtlgoagkgmndchaaDoorW.PrintWords Go.Proofs.YtlgoagkgmndchaaDoorW.PrintLast Go.Proofs.YtlgoagkgmndchaaDoorW.PrintMore
attribute [local go_sem] max2_int min2_int max_two min_two max_three min_three max_four min_four   -- for this text's walks alone
set_option linter.unusedVariables false
set_option linter.unusedSimpArgs false

/-! ### prelude lawrestores -/
def linesO (l : List Int) : List (Option (Nat × Int)) := (entsL l 0).map some ++ [none]
theorem filt_some (ps : List (Nat × Int)) : (ps.map some).filterMap id = ps := by
  induction ps with
  | nil => rfl
  | cons p r ih =>
    show p :: (r.map some).filterMap id = p :: r
    rw [ih]
theorem filt_lines (l : List Int) : (linesO l).filterMap id = entsL l 0 := by
  unfold linesO
  rw [List.filterMap_append, filt_some]
  exact List.append_nil _
theorem filt_rev (l : List Int) : (none :: (linesO l).reverse).filterMap id = (entsL l 0).reverse := by
  show (linesO l).reverse.filterMap id = _
  rw [List.filterMap_reverse, filt_lines]
theorem lines_of_text (l : List Int) (hl : l.length = 256) : linesB ⟨(textG l 0 []).toArray⟩ = (linesO l).map lineO := by
  rw [linesB_eq]
  show (linesL (textG l 0 [])).map mkB = _
  rw [textG_ents, List.nil_append, lines_text (entsL l 0) (fun p hp => by have := (ents_mem l 0 p).1 hp; omega)]
  unfold linesO
  rw [List.map_append, List.map_append, List.map_map, List.map_map]
  rfl
theorem line_small (l : List Int) : ∀ x ∈ (linesO l).map lineO, x.size ≤ 10 := by
  intro x hx
  obtain ⟨o, _, rfl⟩ := List.mem_map.1 hx
  cases o with
  | none => exact Nat.zero_le _
  | some p =>
    show (mkB (lineC p)).size ≤ 10
    have := hexB_size p.2
    unfold mkB lineC
    rw [bsize, List.length_cons, List.length_cons, List.length_cons, data_length]; omega
theorem line_no (l : List Int) (hl : l.length = 256) : ∀ x ∈ (linesO l).map lineO, ∀ b ∈ x.data.toList, b ≠ 10 := by
  intro x hx
  obtain ⟨o, ho, rfl⟩ := List.mem_map.1 hx
  cases o with
  | none => intro b hb; cases hb
  | some p =>
    refine lineC_ne p ?_
    unfold linesO at ho
    rcases List.mem_append.1 ho with q | q
    · obtain ⟨p', hp', e⟩ := List.mem_map.1 q
      cases e
      have := (ents_mem l 0 p).1 hp'; omega
    · rw [List.mem_singleton] at q; cases q
def turnB (L : List ByteArray) : List UInt8 := L.reverse.flatMap fun a => 10 :: a.data.toList
theorem turnB_snoc (L : List ByteArray) (a : ByteArray) : turnB (L ++ [a]) = 10 :: (a.data.toList ++ turnB L) := by
  unfold turnB
  rw [List.reverse_append]
  rfl
theorem turnB_len : ∀ L : List ByteArray, (∀ x ∈ L, x.size ≤ 10) → (turnB L.reverse).length ≤ 11 * L.length := by
  intro L
  induction L with
  | nil => intro _; exact Nat.le_refl _
  | cons a r ih =>
    intro h
    have h1 := ih (fun x hx => h x (List.mem_cons_of_mem _ hx))
    have h2 := h a (List.mem_cons_self ..)
    rw [List.reverse_cons, turnB_snoc, List.length_cons, List.length_append, List.length_cons, data_length]; omega
theorem lines_of_turn (l : List Int) (hl : l.length = 256) : linesB ⟨(turnB ((linesO l).map lineO)).toArray⟩ = (none :: (linesO l).reverse).map lineO := by
  have hn := line_no l hl
  rw [linesB_eq]
  show (linesL (turnB ((linesO l).map lineO))).map mkB = _
  have e : turnB ((linesO l).map lineO) = ((((linesO l).map lineO).reverse).map fun x => x.data.toList).flatMap fun a => 10 :: a := by
    unfold turnB
    rw [List.flatMap_map]
  rw [e, lines_turned _ (fun a ha => by
    obtain ⟨x, hx, rfl⟩ := List.mem_map.1 ha
    exact hn x (List.mem_reverse.1 hx)), List.map_cons, map_mk, List.map_cons, ← List.map_reverse]
  rfl
theorem parse_of {l : List Int} (h : checkB l = 0) (s : ByteArray) (hs : s.size ≤ 65536) (M : List (Option (Nat × Int))) (hM : linesB s = M.map lineO) (hm : ∀ p, p ∈ M.filterMap id ↔ p ∈ entsL l 0) (hw : (M.filterMap id).Pairwise (fun p q => p.1 ≠ q.1 ∧ p.2 ≠ q.2)) : charset_Parse.f s = some (l, 0, 0) := by
  unfold charset_Parse.f
  rw [if_neg (by omega), hM]
  exact par_lines h M hm hw
theorem restore_l0 {l : List Int} (hl : l.length = 256) (s : ByteArray) (L : List ByteArray) (hL : L.length ≤ 300) (hsm : ∀ x ∈ L, x.size ≤ 10) (h1 : charset_Parse.f s = some (l, 0, 0)) (h2 : charset_Parse.f ⟨(turnB L).toArray⟩ = some (l, 0, 0)) :
    ∀ (n i : Nat), i ≤ L.length → L.length - i = n → ∀ k, n + 1000 < k → unicodetextlaw06_CharsetRestores.l0 k s ⟨(turnB (L.take i)).toArray⟩ L (i : Int) l = some true := by
  intro n
  induction n with
  | zero =>
    intro i hi1 hi2 k hk
    obtain ⟨k, rfl⟩ : ∃ m, k = m + 1 := ⟨k - 1, by omega⟩
    have he : unicodetextref01_Equal.f k l l = some true := equal_f l (by omega) k (by omega)
    have hc : ((0 : Int) == 0 && ((0 : Int) == 0)) = true := rfl
    rw [unicodetextlaw06_CharsetRestores.l0, if_neg (by omega), List.take_of_length_le (by omega), h1, Option.bind_some, h2, Option.bind_some, if_pos hc, if_pos hc, he, Option.bind_some, if_pos rfl, Option.bind_some, if_pos rfl, calive_f]; rfl
  | succ n ih =>
    intro i hi1 hi2 k hk
    obtain ⟨k, rfl⟩ : ∃ m, k = m + 1 := ⟨k - 1, by omega⟩
    have hi : i < L.length := by omega
    have hw : wrap64 ((i : Int) + 1) = ((i + 1 : Nat) : Int) := by unfold wrap64; omega
    have hm : L.getD i ByteArray.empty ∈ L := by
      rw [List.getD_eq_getElem?_getD, List.getElem?_eq_getElem hi]; exact List.getElem_mem hi
    have hsz := hsm _ hm
    have ht : L.take (i + 1) = L.take i ++ [L.getD i ByteArray.empty] := by
      rw [List.take_succ_eq_append_getElem hi, List.getD_eq_getElem?_getD, List.getElem?_eq_getElem hi]; rfl
    have hlen : (turnB (L.take i)).length ≤ 11 * (L.take i).length := by
      have := turnB_len (L.take i).reverse (fun x hx => hsm x (List.mem_of_mem_take (List.mem_reverse.1 hx)))
      rw [List.reverse_reverse, List.length_reverse] at this; exact this
    rw [List.length_take] at hlen
    have hn := ih (i + 1) (by omega) (by omega) k (by omega)
    rw [ht, turnB_snoc] at hn
    rw [unicodetextlaw06_CharsetRestores.l0, if_pos (by omega), if_pos (by omega), rdOf_nat, hw]
    generalize L.getD i ByteArray.empty = x at hsz hn
    have z2 : ((⟨#[10]⟩ : ByteArray) ++ x).size + (⟨(turnB (L.take i)).toArray⟩ : ByteArray).size ≤ 9223372036854775807 := by
      have hbs := bsize (turnB (L.take i))
      rw [ByteArray.size_append, hbs]; show 1 + x.size + _ ≤ _; omega
    have e : ((⟨#[10]⟩ : ByteArray) ++ x) ++ (⟨(turnB (L.take i)).toArray⟩ : ByteArray) = ⟨(10 :: (x.data.toList ++ turnB (L.take i))).toArray⟩ := by
      apply ByteArray.ext
      rw [ByteArray.data_append, ByteArray.data_append]; simp
    rw [if_pos (by omega), if_pos z2, e]
    exact hn
theorem charsetRestores_true (l : List Int) (h : intsB l = true) : unicodetextlaw06_CharsetRestores.f 20000 l = some true := by
  unfold unicodetextlaw06_CharsetRestores.f unicodetextlaw06_few.f
  rw [Option.bind_some]
  split
  · rw [ptext_f l h, Option.bind_some]
    by_cases hc : checkB l = 0
    · have hl := check_len hc
      obtain ⟨_, _, hd⟩ := check_ok hc
      have hpw := ents_pw l [] 0 hd
      have hLt := lines_of_text l hl
      have hLu := lines_of_turn l hl
      have hcnt : ((linesO l).map lineO).length ≤ 300 := by
        have e : ∀ (m : List Int) (i : Nat), (entsL m i).length ≤ m.length := by
          intro m
          induction m with
          | nil => intro i; exact Nat.le_refl _
          | cons x r ih =>
            intro i
            have := ih (i + 1)
            rw [entsL]
            split
            · rw [List.length_cons]; omega
            · rw [List.length_cons, List.length_cons]; omega
        have := e l 0
        unfold linesO
        rw [List.length_map, List.length_append, List.length_map, List.length_singleton]; omega
      have hts : ∀ (m : List Int) (i : Nat) (acc : List UInt8), (textG m i acc).length ≤ acc.length + 11 * m.length := by
        intro m
        induction m with
        | nil => intro i acc; exact Nat.le_refl _
        | cons x r ih =>
          intro i acc
          have h1 := ih (i + 1) (if x = -1 then acc else acc ++ (lineT i x).data.toList)
          have h2 := lineT_size i x
          rw [textG, List.length_cons]
          refine Nat.le_trans h1 ?_
          split
          · omega
          · rw [List.length_append, data_length]; omega
      have hs := hts l 0 []
      rw [List.length_nil] at hs
      have hsz : (⟨(textG l 0 []).toArray⟩ : ByteArray).size ≤ 3000 := by rw [bsize]; omega
      have hsmall := line_small l
      have hturn : (turnB ((linesO l).map lineO)).length ≤ 11 * ((linesO l).map lineO).length := by
        have := turnB_len ((linesO l).map lineO).reverse (fun x hx => hsmall x (List.mem_reverse.1 hx))
        rw [List.reverse_reverse, List.length_reverse] at this; exact this
      rw [if_pos hc]
      have p1 := parse_of hc ⟨(textG l 0 []).toArray⟩ (by omega) (linesO l) hLt (fun p => by rw [filt_lines]) (by rw [filt_lines]; exact hpw)
      have p2 := parse_of hc ⟨(turnB ((linesO l).map lineO)).toArray⟩ (by rw [bsize]; omega) (none :: (linesO l).reverse) hLu (fun p => by rw [filt_rev, List.mem_reverse]) (by
        rw [filt_rev, List.pairwise_reverse]
        exact hpw.imp fun q => ⟨q.1.symm, q.2.symm⟩)
      have hsp := rsplit_f ⟨(textG l 0 []).toArray⟩ (by omega) 20000 (by omega)
      rw [hLt] at hsp
      have hfin := restore_l0 hl ⟨(textG l 0 []).toArray⟩ ((linesO l).map lineO) hcnt hsmall p1 p2 _ 0 (Nat.zero_le _) rfl 20000 (by omega)
      rw [List.take_zero] at hfin
      show (if (0 : Int) = 0 then _ else _) = _
      rw [if_pos rfl]
      show ((unicodetextref06_Split.f 20000 ⟨(textG l 0 []).toArray⟩).bind _) = _
      rw [hsp, Option.bind_some]
      exact hfin
    · rw [if_neg hc]
      show (if checkB l = 0 then _ else _) = _
      rw [if_neg hc]
      have e0 : (⟨#[]⟩ : ByteArray).toList = [] := by rw [ByteArray.toList_eq]
      show (if (⟨#[]⟩ : ByteArray).toList = [] then _ else _) = _
      rw [if_pos e0, rcheck_f l _ (by omega), Option.bind_some]
      show (if checkB l = checkB l then _ else _) = _
      rw [if_pos rfl, calive_f]; rfl
  · rw [calive_f]; rfl

end Go.Proofs.YtlgoagkgmndchaaDoor.PA

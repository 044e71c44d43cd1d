-- Laid by hprint.py (this session's program, over the kit's print) for the seat YtlgoagkgmndchaaDoor. Lean checks it.
import Derived.Test.YtlgoagkgmndchaaDoorPAx0
import Derived.Test.YtlgoagkgmndchaaDoorPAx2
import Derived.Test.YtlgoagkgmndchaaDoorPAx4
import Derived.Test.YtlgoagkgmndchaaDoorPAx6
import Derived.Test.YtlgoagkgmndchaaDoorPAx9
import Derived.Test.YtlgoagkgmndchaaDoorPAx22
namespace Go.Proofs.YtlgoagkgmndchaaDoor.PA
open Go.RowKit Go.Proofs.YtlgoagkgmndchaaDoorW.PrintWords Go.Proofs.YtlgoagkgmndchaaDoorW.PrintLast Go.Proofs.YtlgoagkgmndchaaDoorW.PrintMore
attribute [local go_sem] max2_int min2_int max_two min_two max_three min_three max_four min_four   -- for this text's walks alone
set_option linter.unusedVariables false
set_option linter.unusedSimpArgs false

/-! ### prelude ctext -/
theorem bapp2 (a : List UInt8) (s : ByteArray) : (⟨a.toArray⟩ : ByteArray) ++ s = ⟨(a ++ s.data.toList).toArray⟩ := by
  apply ByteArray.ext
  rw [ByteArray.data_append]; simp
theorem hex8_parts (i : Nat) : (⟨#[dgU ((i / 16 : Nat) : Int)]⟩ : ByteArray) ++ ⟨#[dgU ((i % 16 : Nat) : Int)]⟩ = hex8 i := by
  unfold hex8
  rw [show (i : Int) / 16 = ((i / 16 : Nat) : Int) from by omega, show (i : Int) % 16 = ((i % 16 : Nat) : Int) from by omega]
  exact bapp [_] [_]
theorem tz1 (i : Nat) : (hex8 i).size + 1 ≤ 9223372036854775807 := by
  show 2 + 1 ≤ 9223372036854775807; omega
theorem tz2 (i : Nat) (x : Int) : (hex8 i ++ (⟨#[32]⟩ : ByteArray)).size + (hexB x).size ≤ 9223372036854775807 := by
  have := hexB_size x
  rw [ByteArray.size_append]; show 2 + 1 + (hexB x).size ≤ _; omega
theorem tz3 (i : Nat) (x : Int) : (hex8 i ++ (⟨#[32]⟩ : ByteArray) ++ hexB x).size + 1 ≤ 9223372036854775807 := by
  have := hexB_size x
  rw [ByteArray.size_append, ByteArray.size_append]; show 2 + 1 + (hexB x).size + 1 ≤ _; omega
theorem tz4 (acc : List UInt8) (i : Nat) (x : Int) (h : acc.length ≤ 1000000) : (⟨acc.toArray⟩ : ByteArray).size + (lineT i x).size ≤ 9223372036854775807 := by
  have h2 := lineT_size i x
  have h1 := bsize acc
  generalize (⟨acc.toArray⟩ : ByteArray).size = a at h1 ⊢
  generalize (lineT i x).size = b at h2 ⊢
  omega
theorem tel (i : Nat) (x : Int) : hex8 i ++ (⟨#[32]⟩ : ByteArray) ++ hexB x ++ (⟨#[10]⟩ : ByteArray) = lineT i x := rfl
theorem hex_split (i : Nat) (hi : i < 256) : ∃ q m : Nat, q < 16 ∧ m < 16 ∧ wrap64 (Int.tdiv (i : Int) 16) = (q : Int) ∧ Int.tmod (i : Int) 16 = (m : Int) ∧ (⟨#[dgU (q : Int)]⟩ : ByteArray) ++ ⟨#[dgU (m : Int)]⟩ = hex8 i :=
  ⟨i / 16, i % 16, by omega, by omega, by rw [Int.tdiv_eq_ediv_of_nonneg (by omega)]; unfold wrap64; omega, by rw [Int.tmod_eq_emod_of_nonneg (by omega)]; omega, hex8_parts i⟩
theorem wrap_small (q : Nat) (h : q < 16) : wrap64 ((q : Int) + 1) = ((q + 1 : Nat) : Int) := by unfold wrap64; omega
theorem small_ints (q : Nat) (h : q < 16) : (0 : Int) ≤ (q : Int) ∧ (q : Int) ≤ ((q + 1 : Nat) : Int) ∧ ((q + 1 : Nat) : Int) ≤ 16 := by omega
theorem rtext_l0 {l : List Int} (h : checkB l = 0) : ∀ (n i : Nat), i ≤ 256 → 256 - i = n → ∀ (acc : List UInt8) (k : Nat), acc.length ≤ 20 * i → n + 300 < k → unicodetextref06_Text.l0 k ⟨acc.toArray⟩ (i : Int) l = some (⟨(textG (l.drop i) i acc).toArray⟩, 0) := by
  obtain ⟨hl, hb, hd⟩ := check_ok h
  intro n
  induction n with
  | zero =>
    intro i h1 h2 acc k ha hk
    obtain ⟨k, rfl⟩ : ∃ m, k = m + 1 := ⟨k - 1, by omega⟩
    rw [unicodetextref06_Text.l0, if_neg (by omega), List.drop_of_length_le (by omega), textG]
  | succ n ih =>
    intro i h1 h2 acc k ha hk
    obtain ⟨k, rfl⟩ : ∃ m, k = m + 1 := ⟨k - 1, by omega⟩
    have hi : i < l.length := by omega
    have hw : wrap64 ((i : Int) + 1) = ((i + 1 : Nat) : Int) := by unfold wrap64; omega
    have hm : l.getD i 0 ∈ l := by
      rw [List.getD_eq_getElem?_getD, List.getElem?_eq_getElem hi]; exact List.getElem_mem hi
    have hnb := not_bad (Bool.eq_false_iff.2 (List.any_eq_false.1 hb _ hm))
    rw [unicodetextref06_Text.l0, if_pos (by omega), if_pos (by omega), if_pos (by omega), rd_nat, drop_at l 0 i hi, textG, hw]
    generalize l.getD i 0 = x at hnb ⊢
    by_cases hx : x = -1
    · rw [if_neg (by omega), if_pos hx]
      exact ih (i + 1) (by omega) (by omega) acc k (by omega) (by omega)
    · have h0 : x ≥ 0 := by
        rcases hnb with q | q
        · exact absurd q hx
        · exact (scalar_bounds q).1
      have ha2 : acc.length ≤ 1000000 := by omega
      have hi256 : i < 256 := by omega
      have hk20 : 20 < k := by omega
      have hnext : ∀ b : List UInt8, b.length ≤ 20 → unicodetextref06_Text.l0 k ⟨(acc ++ b).toArray⟩ ((i + 1 : Nat) : Int) l = some (⟨(textG (l.drop (i + 1)) (i + 1) (acc ++ b)).toArray⟩, 0) := fun b hb => ih (i + 1) (by omega) (by omega) _ k (by rw [List.length_append]; omega) (by omega)
      obtain ⟨q, m, hq16, hm16, hq, hr, h8p⟩ := hex_split i hi256
      have hq1 := wrap_small q hq16
      have hr1 := wrap_small m hm16
      obtain ⟨g1, g2, g3⟩ := small_ints q hq16
      obtain ⟨g4, g5, g6⟩ := small_ints m hm16
      rw [if_neg hx]
      refine (if_pos h0).trans ?_
      rw [hq, hr, hq1, hr1]
      refine (if_pos g1).trans ((if_pos g2).trans ((if_pos g3).trans ((if_pos g4).trans ((if_pos g5).trans ((if_pos g6).trans ?_)))))
      rw [Int.toNat_natCast, Int.toNat_natCast, Int.toNat_natCast, Int.toNat_natCast, hexd ⟨q, hq16⟩, hexd ⟨m, hm16⟩]
      refine (if_pos (bsum [_] [_] (by simp) (by simp))).trans ?_
      rw [h8p]
      refine (if_pos (tz1 i)).trans ?_
      rw [rhex_f x k hk20, Option.bind_some]
      refine (if_pos (tz2 i x)).trans ((if_pos (tz3 i x)).trans ?_)
      rw [tel]
      refine (if_pos (tz4 acc i x ha2)).trans ?_
      rw [bapp2]
      exact hnext _ (by rw [data_length]; exact Nat.le_trans (lineT_size i x) (by decide))
theorem rtext_f (l : List Int) (k : Nat) (hk : 2000 < k) : unicodetextref06_Text.f k l = some (if checkB l = 0 then (⟨(textG l 0 []).toArray⟩, 0) else (⟨#[]⟩, checkB l)) := by
  unfold unicodetextref06_Text.f
  rw [rcheck_f l k (by omega), Option.bind_some]
  by_cases h : checkB l = 0
  · rw [if_pos h, if_pos h]
    have := rtext_l0 h 256 0 (Nat.zero_le _) rfl [] k (Nat.zero_le _) (by omega)
    rw [List.drop_zero] at this
    exact this
  · rw [if_neg h, if_neg h]
theorem ptext_f (l : List Int) (h : intsB l = true) : charset_Text.f l = some (if checkB l = 0 then (⟨(textG l 0 []).toArray⟩, 0) else (⟨#[]⟩, checkB l)) := by
  unfold charset_Text.f
  rw [if_pos h]
  split <;> rfl

end Go.Proofs.YtlgoagkgmndchaaDoor.PA

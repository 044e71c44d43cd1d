-- Laid by hprint.py (this session's program, over the kit's print) for the seat YtlgoagkgmndchaaDoor. Lean checks it.
import Derived.Test.YtlgoagkgmndchaaDoorPAx0
import Derived.Test.YtlgoagkgmndchaaDoorPAx2
import Derived.Test.YtlgoagkgmndchaaDoorPAx4
import Derived.Test.YtlgoagkgmndchaaDoorPAx5
import Derived.Test.YtlgoagkgmndchaaDoorPAx6
import Derived.Test.YtlgoagkgmndchaaDoorPAx9
import Derived.Test.YtlgoagkgmndchaaDoorPAx14
import Derived.Test.YtlgoagkgmndchaaDoorPAx15
namespace Go.Proofs.YtlgoagkgmndchaaDoor.PA
open Go.RowKit Go.Proofs.YtlgoagkgmndchaaDoorW.PrintWords Go.Proofs.YtlgoagkgmndchaaDoorW.PrintLast Go.Proofs.YtlgoagkgmndchaaDoorW.PrintMore
attribute [local go_sem] max2_int min2_int max_two min_two max_three min_three max_four min_four   -- for this text's walks alone
set_option linter.unusedVariables false
set_option linter.unusedSimpArgs false

/-! ### prelude cline -/
theorem digit6_20 : ∀ b : Fin 256, unicodetextref06_digit.f 20 (b.val : Int) = some (digI b.val) := by decide +kernel
theorem digit1_20 : ∀ b : Fin 256, unicodetextref01_digit.f 20 (b.val : Int) = some (digI b.val) := by decide +kernel
theorem digit6_f (b : Int) (h0 : 0 ≤ b) (h1 : b ≤ 255) (k : Nat) (hk : 20 ≤ k) : unicodetextref06_digit.f k b = some (digI b) := by
  obtain ⟨d, rfl⟩ := fin_of h0 h1
  exact at_rounds (fun k => unicodetextref06_digit.mono _ k) hk (digit6_20 d)
theorem digit1_f (b : Int) (h0 : 0 ≤ b) (h1 : b ≤ 255) (k : Nat) (hk : 20 ≤ k) : unicodetextref01_digit.f k b = some (digI b) := by
  obtain ⟨d, rfl⟩ := fin_of h0 h1
  exact at_rounds (fun k => unicodetextref01_digit.mono _ k) hk (digit1_20 d)
theorem rparse_l0 (s : ByteArray) (hs : s.size ≤ 6) : ∀ (n i : Nat), i ≤ s.size → s.size - i = n → ∀ (c : Int) (k : Nat), 0 ≤ c → c < ((16 ^ i : Nat) : Int) → n + 50 < k → unicodetextref01_Parse.l0 k s c (i : Int) = some (endP s (valL (s.data.toList.drop i) c)) := by
  intro n
  induction n with
  | zero =>
    intro i h1 h2 c k h0 hc hk
    obtain ⟨k, rfl⟩ : ∃ m, k = m + 1 := ⟨k - 1, by omega⟩
    rw [unicodetextref01_Parse.l0, if_neg (by omega), List.drop_of_length_le (by rw [data_length]; omega), valL, endP, rhex_f c k (by omega), Option.bind_some]
    by_cases e : hexB c = s
    · rw [if_pos e, if_pos (by rw [e])]
    · rw [if_neg e, if_neg (fun q => e ((bs_eq _ _).1 q))]
  | succ n ih =>
    intro i h1 h2 c k h0 hc hk
    obtain ⟨k, rfl⟩ : ∃ m, k = m + 1 := ⟨k - 1, by omega⟩
    have hi : i < s.size := by omega
    have hlt := (s[i]'hi).toNat_lt
    have hw : wrap64 ((i : Int) + 1) = ((i + 1 : Nat) : Int) := by unfold wrap64; omega
    have hd := digI_lt ((s[i]'hi).toNat : Int)
    have hp := pow16 (i := i) (by omega)
    rw [unicodetextref01_Parse.l0, if_pos (by omega), if_pos (by omega), bt_byte s i hi, digit1_f _ (by omega) (by omega) k (by omega), Option.bind_some, hw, bdrop s i hi, valL]
    by_cases h : digI ((s[i]'hi).toNat : Int) < 0
    · rw [if_pos h, if_pos h, endP]
    · have hps : 16 ^ (i + 1) = 16 ^ i * 16 := Nat.pow_succ 16 i
      rw [if_neg h, if_neg h, Option.bind_some, cw64 (16 * c) (by omega) (by omega), cw64 _ (by omega) (by omega)]
      exact ih (i + 1) (by omega) (by omega) _ k (by omega) (by rw [hps]; generalize 16 ^ i = P at hc hp ⊢; omega) (by omega)
theorem rparse_f (s : ByteArray) (k : Nat) (hk : 100 < k) : unicodetextref01_Parse.f k s = some (parseS s) := by
  obtain ⟨k, rfl⟩ : ∃ m, k = m + 1 := ⟨k - 1, by omega⟩
  unfold unicodetextref01_Parse.f parseS
  by_cases h4 : s.size < 4
  · rw [if_pos (by omega), unicodetextref01_Parse.j0, if_pos rfl, if_neg (by omega)]
  · rw [if_neg (by omega), unicodetextref01_Parse.j0]
    by_cases h6 : s.size ≤ 6
    · rw [decide_eq_false (by omega), if_neg (by decide), if_pos (by omega)]
      have := rparse_l0 s h6 s.size 0 (Nat.zero_le _) rfl 0 k (by decide) (by decide) (by omega)
      rw [List.drop_zero] at this
      exact this
    · rw [decide_eq_true (by omega), if_pos rfl, if_neg (by omega)]
/-- both readings of a line say the same -/
theorem line_both (x : ByteArray) (hx : x.size ≤ 100000) (k : Nat) (hk : 300 < k) : ∃ (a b a' b' : Int) (ok : Bool), charset_line.f 100 x = some (a, b, ok) ∧ unicodetextref06_line.f k x = some (a', b', ok) ∧ (ok = true → a' = a ∧ b' = b ∧ 0 ≤ a ∧ a < 256 ∧ scalarB b = true) := by
  obtain ⟨k, rfl⟩ : ∃ m, k = m + 1 := ⟨k - 1, by omega⟩
  unfold charset_line.f unicodetextref06_line.f
  have b0 := bt_range x 0
  have b1 := bt_range x 1
  have d0 := digI_lt (bt x 0)
  have d1 := digI_lt (bt x 1)
  by_cases h4 : x.size < 4
  · rw [if_pos (by omega), if_pos (by omega), charset_line.j0, if_pos rfl, unicodetextref06_line.j0, if_pos rfl]
    exact ⟨_, _, _, _, _, rfl, rfl, fun h => by cases h⟩
  · have rj : unicodetextref06_line.j0 (k + 1) x true = some (0, 0, false) := by rw [unicodetextref06_line.j0, if_pos rfl]
    have pj : charset_line.j0 100 x true = some (0, 0, false) := by rw [charset_line.j0, if_pos rfl]
    rw [if_neg (by omega), if_pos (by omega), if_neg (by omega), if_pos (by omega), digit6_f _ b0.1 b0.2 (k + 1) (by omega), Option.bind_some, rj]
    by_cases h32 : bt x 2 = 32
    · rw [h32]
      have hpj : charset_line.j0 100 x (32 != (32 : Int)) = some (wrap64 (wrap64 (16 * digI (bt x 0)) + digI (bt x 1)), (parseS (x.extract 3 x.size)).1, decide (0 ≤ digI (bt x 0)) && (decide (0 ≤ digI (bt x 1)) && (decide ((parseS (x.extract 3 x.size)).2 = 0) && scalarB (parseS (x.extract 3 x.size)).1))) := by
        rw [show (32 != (32 : Int)) = false from rfl, charset_line.j0, if_neg (by decide), if_pos (by omega), idx_f _ b0.1 b0.2, Option.bind_some, if_pos (by omega), idx_f _ b1.1 b1.2, Option.bind_some, if_pos (by omega), pparse_f _ _ (by omega), Option.bind_some]
        by_cases q0 : 0 ≤ digI (bt x 0)
        · rw [if_pos q0, decide_eq_true q0, Bool.true_and]
          by_cases q1 : 0 ≤ digI (bt x 1)
          · rw [if_pos q1, decide_eq_true q1, Bool.true_and]
            by_cases q2 : (parseS (x.extract 3 x.size)).2 = 0
            · rw [if_pos q2, decide_eq_true q2, Bool.true_and, scalar_f, Option.bind_some]
            · rw [if_neg q2, decide_eq_false q2, Bool.false_and]
          · rw [if_neg q1, decide_eq_false q1, Bool.false_and]
        · rw [if_neg q0, decide_eq_false q0, Bool.false_and]
      rw [hpj]
      by_cases q0 : digI (bt x 0) < 0
      · rw [if_pos q0, decide_eq_false (by omega), Bool.false_and]
        exact ⟨_, _, _, _, _, rfl, rfl, fun h => by cases h⟩
      · rw [if_neg q0, if_pos (by omega), digit6_f _ b1.1 b1.2 (k + 1) (by omega), Option.bind_some, decide_eq_true (by omega), Bool.true_and]
        by_cases q1 : digI (bt x 1) < 0
        · rw [if_pos q1, decide_eq_false (by omega), Bool.false_and]
          exact ⟨_, _, _, _, _, rfl, rfl, fun h => by cases h⟩
        · rw [if_neg q1, if_pos (by omega), decide_eq_true (by omega), Bool.true_and, show (32 != (32 : Int)) = false from rfl, unicodetextref06_line.j0, if_neg (by decide), if_pos (by omega), rparse_f _ k (by omega), Option.bind_some, if_pos (by omega), digit6_f _ b0.1 b0.2 k (by omega), Option.bind_some, if_pos (by omega), digit6_f _ b1.1 b1.2 k (by omega), Option.bind_some]
          have e : wrap64 (wrap64 (16 * digI (bt x 0)) + digI (bt x 1)) = 16 * digI (bt x 0) + digI (bt x 1) := by rw [cw64 (16 * _) (by omega) (by omega), cw64 _ (by omega) (by omega)]
          by_cases q2 : (parseS (x.extract 3 x.size)).2 = 0
          · rw [if_pos q2, decide_eq_true q2, Bool.true_and, rscalar_f, Option.bind_some]
            exact ⟨_, _, _, _, _, rfl, rfl, fun h => ⟨rfl, rfl, by rw [e]; omega, by rw [e]; omega, h⟩⟩
          · rw [if_neg q2, decide_eq_false q2, Bool.false_and]
            exact ⟨_, _, _, _, _, rfl, rfl, fun h => by cases h⟩
    · have hne : (bt x 2 != 32) = true := bne_iff_ne.2 h32
      rw [hne, pj]
      by_cases q0 : digI (bt x 0) < 0
      · rw [if_pos q0]
        exact ⟨_, _, _, _, _, rfl, rfl, fun h => by cases h⟩
      · rw [if_neg q0, if_pos (by omega), digit6_f _ b1.1 b1.2 (k + 1) (by omega), Option.bind_some]
        by_cases q1 : digI (bt x 1) < 0
        · rw [if_pos q1]
          exact ⟨_, _, _, _, _, rfl, rfl, fun h => by cases h⟩
        · rw [if_neg q1, if_pos (by omega)]
          exact ⟨_, _, _, _, _, rfl, rfl, fun h => by cases h⟩

end Go.Proofs.YtlgoagkgmndchaaDoor.PA

-- Laid by hprint.py (this session's program, over the kit's print) for the seat YtlgoagkgmndchaaDoor. Lean checks it.
import Derived.Test.YtlgoagkgmndchaaDoorPAx0
import Derived.Test.YtlgoagkgmndchaaDoorPAx2
import Derived.Test.YtlgoagkgmndchaaDoorPAx4
import Derived.Test.YtlgoagkgmndchaaDoorPAx5
import Derived.Test.YtlgoagkgmndchaaDoorPAx6
import Derived.Test.YtlgoagkgmndchaaDoorPAx9
import Derived.Test.YtlgoagkgmndchaaDoorPAx10
namespace Go.Proofs.YtlgoagkgmndchaaDoor.PA
open Go.RowKit Go.Proofs.YtlgoagkgmndchaaDoorW.PrintWords Go.Proofs.YtlgoagkgmndchaaDoorW.PrintLast Go.Proofs.YtlgoagkgmndchaaDoorW.PrintMore
attribute [local go_sem] max2_int min2_int max_two min_two max_three min_three max_four min_four   -- for this text's walks alone
set_option linter.unusedVariables false
set_option linter.unusedSimpArgs false

/-! ### prelude cenc -/
theorem byteOf_eq {l : List Int} (h : checkB l = 0) (x : Int) : byteOf l x = if 0 ≤ byteR l x then some (byteR l x) else none := by
  obtain ⟨hl, hb, hd⟩ := check_ok h
  unfold byteOf byteR
  by_cases h0 : 0 ≤ x
  · cases ha : (l.any fun z => decide (z = x)) with
    | true =>
      have := byteL_in l 0 x h0 ha
      rw [byteG_in l [] 0 none x h0 hd ha, if_pos (by omega)]
    | false => rw [byteG_out l 0 none x ha, byteL_out l 0 x ha, if_neg (by decide)]
  · rw [byteL_neg l 0 x h0, if_neg (by decide)]
    by_cases e : x = -1
    · rw [e]; exact byteG_neg l 0 none
    · refine byteG_out l 0 none x ?_
      cases ha : (l.any fun z => decide (z = x)) with
      | false => rfl
      | true =>
        have hm := any_in ha
        have hbx : badI x = false := Bool.eq_false_iff.2 (List.any_eq_false.1 hb x hm)
        rcases not_bad hbx with q | q
        · exact absurd q e
        · exact absurd (scalar_bounds q).1 h0
theorem byteR_lt {l : List Int} (hl : l.length = 256) (x : Int) : byteR l x < 256 := by
  unfold byteR
  by_cases h0 : 0 ≤ x
  · cases ha : (l.any fun z => decide (z = x)) with
    | true => have := byteL_in l 0 x h0 ha; omega
    | false => rw [byteL_out l 0 x ha]; decide
  · rw [byteL_neg l 0 x h0]; decide
theorem one_eq {t : Int} (h0 : 0 ≤ t) (h1 : t < 256) : strOfNums ([t % 256] : List Int) = ⟨#[UInt8.ofNat t.toNat]⟩ := by
  have e : t % 256 = t := by omega
  rw [e]; rfl
theorem gB_in {l : List Int} (h : checkB l = 0) {x : Int} (h0 : 0 ≤ byteR l x) : gB (byteOf l) x = [UInt8.ofNat (byteR l x).toNat] := by
  unfold gB; rw [byteOf_eq h x, if_pos h0]
theorem gB_out {l : List Int} (h : checkB l = 0) {x : Int} (h0 : ¬ 0 ≤ byteR l x) : gB (byteOf l) x = [] := by
  unfold gB; rw [byteOf_eq h x, if_neg h0]
theorem some_in {l : List Int} (h : checkB l = 0) {x : Int} (h0 : 0 ≤ byteR l x) : (byteOf l x).isSome = true := by rw [byteOf_eq h x, if_pos h0]; rfl
theorem some_out {l : List Int} (h : checkB l = 0) {x : Int} (h0 : ¬ 0 ≤ byteR l x) : (byteOf l x).isSome = false := by rw [byteOf_eq h x, if_neg h0]; rfl
theorem instead_f {l : List Int} (h : checkB l = 0) (k : Nat) (hk : 300 < k) : unicodetextref06_instead.f k l = some ⟨(replB (byteOf l)).toArray⟩ := by
  have hl := check_len h
  unfold unicodetextref06_instead.f replB
  have b63 := byteR_lt hl 63
  have b26 := byteR_lt hl 26
  rw [byte_f l 63 (by omega) k (by omega), Option.bind_some]
  by_cases h0 : 0 ≤ byteR l 63
  · rw [if_neg (by omega), some_in h h0, if_pos rfl, one_eq h0 b63, gB_in h h0]
  · rw [if_pos (by omega), byte_f l 26 (by omega) k (by omega), Option.bind_some, some_out h h0, if_neg Bool.false_ne_true]
    by_cases h1 : 0 ≤ byteR l 26
    · rw [if_neg (by omega), one_eq h1 b26, gB_in h h1]
    · rw [if_pos (by omega), gB_out h h1]
theorem written_l0 {l : List Int} (h : checkB l = 0) (s : ByteArray) (hs : s.size ≤ 1000) : ∀ (n i : Nat), i ≤ s.size → s.size - i = n → ∀ (acc : List UInt8) (k : Nat), acc.length ≤ i → n + 300 < k → unicodetextref06_written.l0 k s ⟨acc.toArray⟩ (i : Int) l = some ⟨(acc ++ ((s.data.toList.drop i).flatMap fun b => gB (byteOf l) (b.toNat : Int))).toArray⟩ := by
  have hl := check_len h
  intro n
  induction n with
  | zero =>
    intro i h1 h2 acc k ha hk
    obtain ⟨k, rfl⟩ : ∃ m, k = m + 1 := ⟨k - 1, by omega⟩
    rw [unicodetextref06_written.l0, if_neg (by omega), List.drop_of_length_le (by rw [data_length]; omega), List.flatMap_nil, List.append_nil]
  | succ n ih =>
    intro i h1 h2 acc k ha hk
    obtain ⟨k, rfl⟩ : ∃ m, k = m + 1 := ⟨k - 1, by omega⟩
    have hi : i < s.size := by omega
    have hlt := (s[i]'hi).toNat_lt
    have hw : wrap64 ((i : Int) + 1) = ((i + 1 : Nat) : Int) := by unfold wrap64; omega
    rw [unicodetextref06_written.l0, if_pos (by omega), if_pos (by omega), bt_byte s i hi, cw64 ((s[i]'hi).toNat : Int) (by omega) (by omega), byte_f l _ (by omega) k (by omega), Option.bind_some, hw, bdrop s i hi, List.flatMap_cons]
    by_cases h0 : 0 ≤ byteR l ((s[i]'hi).toNat : Int)
    · rw [if_pos h0, Option.bind_some, one_eq h0 (byteR_lt hl _), if_pos (bsum _ _ (by omega) (by simp)), bapp, gB_in h h0, ih (i + 1) (by omega) (by omega) _ k (by rw [List.length_append]; simp; omega) (by omega), List.append_assoc]
    · rw [if_neg h0, gB_out h h0, List.nil_append, ih (i + 1) (by omega) (by omega) acc k (by omega) (by omega)]
theorem written_f {l : List Int} (h : checkB l = 0) (s : ByteArray) (hs : s.size ≤ 1000) (k : Nat) (hk : 1300 < k) : unicodetextref06_written.f k l s = some ⟨(s.data.toList.flatMap fun b => gB (byteOf l) (b.toNat : Int)).toArray⟩ := by
  have := written_l0 h s hs s.size 0 (Nat.zero_le _) rfl [] k (Nat.le_refl _) (by omega)
  rw [List.drop_zero, List.nil_append] at this
  exact this
theorem written3_f (x : Int) (k : Nat) (hk : 20 < k) : unicodetextref03_Written.f k x = some (escS x) := by
  unfold unicodetextref03_Written.f
  have hx := hexB_size x
  rw [rhex_f x k hk, Option.bind_some, if_pos (by omega), if_pos (by rw [ByteArray.size_append]; show 3 + (hexB x).size + 1 ≤ _; omega)]
  rfl
theorem escS_size (x : Int) : (escS x).size ≤ 11 := by
  have hx := hexB_size x
  unfold escS
  rw [ByteArray.size_append, ByteArray.size_append]; show 3 + (hexB x).size + 1 ≤ 11; omega
theorem flat_len (g : Int → Option Int) : ∀ s : List UInt8, (s.flatMap fun b => gB g (b.toNat : Int)).length ≤ s.length := by
  intro s
  induction s with
  | nil => exact Nat.le_refl _
  | cons a r ih =>
    have := gB_len g (a.toNat : Int)
    rw [List.flatMap_cons, List.length_append, List.length_cons]; omega
theorem escB_len (g : Int → Option Int) (x : Int) : (escB g x).length ≤ 11 := by
  have h1 := flat_len g (escS x).data.toList
  have h2 := escS_size x
  rw [data_length] at h1
  exact Nat.le_trans h1 h2
theorem replB_len (g : Int → Option Int) : (replB g).length ≤ 1 := by unfold replB; split <;> exact gB_len _ _
theorem renc_l0 {l : List Int} (h : checkB l = 0) (t : List Int) (p : Int) (hp : 1 ≤ p ∧ p ≤ 4) (ht : t.length ≤ 1000) : ∀ (n i : Nat), i ≤ t.length → t.length - i = n → ∀ (acc : List UInt8) (k : Nat), acc.length ≤ 20 * i → n + 2000 < k → unicodetextref06_Encode.l0 k t p ⟨acc.toArray⟩ (i : Int) l = some (encG (byteOf l) p (t.drop i) i acc) := by
  have hl := check_len h
  intro n
  induction n with
  | zero =>
    intro i h1 h2 acc k ha hk
    obtain ⟨k, rfl⟩ : ∃ m, k = m + 1 := ⟨k - 1, by omega⟩
    rw [unicodetextref06_Encode.l0, if_neg (by omega), List.drop_of_length_le (by omega), encG]
  | succ n ih =>
    intro i h1 h2 acc k ha hk
    obtain ⟨k, rfl⟩ : ∃ m, k = m + 1 := ⟨k - 1, by omega⟩
    have hi : i < t.length := by omega
    have hw : wrap64 ((i : Int) + 1) = ((i + 1 : Nat) : Int) := by unfold wrap64; omega
    have next : ∀ b : List UInt8, b.length ≤ 20 → unicodetextref06_Encode.l0 k t p ((⟨acc.toArray⟩ : ByteArray) ++ ⟨b.toArray⟩) ((i + 1 : Nat) : Int) l = some (encG (byteOf l) p (t.drop (i + 1)) (i + 1) (acc ++ b)) := fun b hb => by
      rw [bapp]; exact ih (i + 1) (by omega) (by omega) _ k (by rw [List.length_append]; omega) (by omega)
    rw [unicodetextref06_Encode.l0, if_pos (by omega), if_pos (by omega), rd_nat, byte_f l _ (by omega) k (by omega), Option.bind_some, drop_at t 0 i hi, encG, hw]
    generalize t.getD i 0 = x
    have lr := replB_len (byteOf l)
    have le := escB_len (byteOf l) x
    by_cases h0 : 0 ≤ byteR l x
    · rw [if_pos h0, Option.bind_some, one_eq h0 (byteR_lt hl x), some_in h h0, if_pos rfl, gB_in h h0, if_pos (bsum acc [_] (by omega) (by simp)), next [_] (by simp)]
    · rw [if_neg h0, some_out h h0, if_neg Bool.false_ne_true]
      by_cases p1 : p = 1
      · rw [if_pos p1, if_pos p1]
      · rw [if_neg p1, if_neg p1]
        by_cases p2 : p = 2
        · rw [if_pos p2, if_pos p2, instead_f h k (by omega), Option.bind_some, if_pos (bsum acc _ (by omega) (by omega)), next _ (by omega)]
        · rw [if_neg p2, if_neg p2]
          by_cases p4 : p = 4
          · rw [if_pos p4, if_pos p4, written3_f x k (by omega), Option.bind_some, written_f h (escS x) (by have := escS_size x; omega) k (by omega), Option.bind_some]
            show (if _ + (⟨(escB (byteOf l) x).toArray⟩ : ByteArray).size ≤ _ then unicodetextref06_Encode.l0 k t p (_ ++ (⟨(escB (byteOf l) x).toArray⟩ : ByteArray)) _ l else none) = _
            rw [if_pos (bsum acc _ (by omega) (by omega)), next _ (by omega)]
          · have hn := next [] (by decide)
            rw [bapp, List.append_nil] at hn
            rw [if_neg p4, if_neg p4]; exact hn
theorem rpolicy_f (p : Int) : unicodetextref03_Policy.f p = some (decide (1 ≤ p ∧ p ≤ 4)) := by
  unfold unicodetextref03_Policy.f
  by_cases h1 : 1 ≤ p <;> by_cases h2 : p ≤ 4 <;> simp [h1, h2]
theorem renc_f (l t : List Int) (p : Int) (hl : intsB l = true) (ht : intsB t = true) (hn : t.length ≤ 1000) (k : Nat) (hk : 4000 < k) : unicodetextref06_Encode.f k l t p = charset_Encode.f l t p := by
  unfold unicodetextref06_Encode.f charset_Encode.f
  have hc : intsB l = true ∧ intsB t = true ∧ t.length ≤ 1000 := ⟨hl, ht, hn⟩
  rw [rcheck_f l k (by omega), Option.bind_some, if_pos hc]
  by_cases h : checkB l = 0
  · rw [if_pos h, if_pos h, rpolicy_f, Option.bind_some]
    by_cases hp : 1 ≤ p ∧ p ≤ 4
    · rw [decide_eq_true hp, if_pos rfl, if_pos hp]
      have := renc_l0 h t p hp hn t.length 0 (Nat.zero_le _) rfl [] k (Nat.zero_le _) (by omega)
      rw [List.drop_zero] at this
      exact this
    · rw [decide_eq_false hp, if_neg (by decide), if_neg hp]
  · rw [if_neg h, if_neg h]
theorem enc_some (l t : List Int) (p : Int) (hl : intsB l = true) (ht : intsB t = true) (hn : t.length ≤ 1000) : ∃ r, charset_Encode.f l t p = some r := by
  unfold charset_Encode.f
  rw [if_pos ⟨hl, ht, hn⟩]
  split
  · split
    · exact ⟨_, rfl⟩
    · exact ⟨_, rfl⟩
  · exact ⟨_, rfl⟩

end Go.Proofs.YtlgoagkgmndchaaDoor.PA

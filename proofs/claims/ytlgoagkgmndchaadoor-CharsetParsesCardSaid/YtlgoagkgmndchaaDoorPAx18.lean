-- Laid by hprint.py (this session's program, over the kit's print) for the seat YtlgoagkgmndchaaDoor. Lean checks it.
import Derived.Test.YtlgoagkgmndchaaDoorPAx0
import Derived.Test.YtlgoagkgmndchaaDoorPAx2
import Derived.Test.YtlgoagkgmndchaaDoorPAx4
import Derived.Test.YtlgoagkgmndchaaDoorPAx5
import Derived.Test.YtlgoagkgmndchaaDoorPAx14
import Derived.Test.YtlgoagkgmndchaaDoorPAx16
import Derived.Test.YtlgoagkgmndchaaDoorPAx17
namespace Go.Proofs.YtlgoagkgmndchaaDoor.PA
open Go.RowKit Go.Proofs.YtlgoagkgmndchaaDoorW.PrintWords Go.Proofs.YtlgoagkgmndchaaDoorW.PrintLast Go.Proofs.YtlgoagkgmndchaaDoorW.PrintMore
attribute [local go_sem] max2_int min2_int max_two min_two max_three min_three max_four min_four   -- for this text's walks alone
set_option linter.unusedVariables false
set_option linter.unusedSimpArgs false

/-! ### prelude cparse -/
theorem any_set (p : Int → Bool) : ∀ (l : List Int) (n : Nat) (y : Int), n < l.length → p (l.getD n 0) = false → (l.set n y).any p = (l.any p || p y) := by
  intro l
  induction l with
  | nil => intro n y h; exact absurd h (Nat.not_lt_zero _)
  | cons a r ih =>
    intro n y h hp
    cases n with
    | zero =>
      have hp' : p a = false := hp
      rw [List.set_cons_zero, List.any_cons, List.any_cons, hp', Bool.false_or, Bool.or_comm]
    | succ n =>
      have hp' : p (r.getD n 0) = false := hp
      rw [List.set_cons_succ, List.any_cons, List.any_cons, ih n y (Nat.lt_of_succ_lt_succ h) hp', Bool.or_assoc]
def ParInv (codes seen : List Int) : Prop := codes.length = 256 ∧ (∀ x ∈ codes, x = -1 ∨ 0 ≤ x) ∧ ∀ x : Int, 0 ≤ x → (seen.any fun y => decide (y = x)) = (codes.any fun y => decide (y = x))
theorem rpar_l1 (L : List ByteArray) (hL : L.length ≤ 100000) (hs : ∀ x ∈ L, x.size ≤ 100000) : ∀ (n i : Nat), i ≤ L.length → L.length - i = n → ∀ (codes seen : List Int) (k : Nat), ParInv codes seen → n + 700 < k →
    ∃ r : List Int × Int × Int, unicodetextref06_Parse.l1 k L (i : Int) codes = some r ∧ parseG (L.drop i) i codes seen = some r ∧ r.1.length ≤ 256 := by
  intro n
  induction n with
  | zero =>
    intro i h1 h2 codes seen k hI hk
    obtain ⟨k, rfl⟩ : ∃ m, k = m + 1 := ⟨k - 1, by omega⟩
    refine ⟨(codes, 0, 0), ?_, ?_, Nat.le_of_eq hI.1⟩
    · rw [unicodetextref06_Parse.l1, if_neg (by omega)]
    · rw [List.drop_of_length_le (by omega), parseG]
  | succ n ih =>
    intro i h1 h2 codes seen k hI hk
    obtain ⟨k, rfl⟩ : ∃ m, k = m + 1 := ⟨k - 1, by omega⟩
    have hi : i < L.length := by omega
    have hw : wrap64 ((i : Int) + 1) = ((i + 1 : Nat) : Int) := by unfold wrap64; omega
    have hd : L.drop i = L.getD i ByteArray.empty :: L.drop (i + 1) := drop_at L ByteArray.empty i hi
    have hm : L.getD i ByteArray.empty ∈ L := by
      rw [List.getD_eq_getElem?_getD, List.getElem?_eq_getElem hi]; exact List.getElem_mem hi
    have hsz := hs _ hm
    rw [unicodetextref06_Parse.l1, if_pos (by omega), if_pos (by omega), rdOf_nat, hd, parseG, hw]
    generalize L.getD i ByteArray.empty = x at hsz ⊢
    by_cases he : x.toList = []
    · rw [if_pos he, if_pos he]
      exact ih (i + 1) (by omega) (by omega) codes seen k hI (by omega)
    · rw [if_neg he, if_neg he]
      obtain ⟨a, b, a', b', ok, e1, e2, hok⟩ := line_both x hsz k (by omega)
      rw [e1, e2, Option.bind_some, Option.bind_some]
      cases ok with
      | false => exact ⟨([], 3, ((i + 1 : Nat) : Int)), rfl, rfl, Nat.zero_le _⟩
      | true =>
        obtain ⟨rfl, rfl, ha0, ha1, hsb⟩ := hok rfl
        have hb := scalar_bounds hsb
        show ∃ r : List Int × Int × Int, (if 0 ≤ a' then (if a' < (codes.length : Int) then (if (rd codes a') ≥ 0 then (some (([] : List Int), 5, ((i + 1 : Nat) : Int))) else ((unicodetextref06_Byte.f k codes b').bind fun t219 => (if t219 ≥ 0 then (some (([] : List Int), 5, ((i + 1 : Nat) : Int))) else (unicodetextref06_Parse.l1 k L ((i + 1 : Nat) : Int) (codes.set (a' : Int).toNat b'))))) else (none)) else (none)) = some r ∧ (if 0 ≤ a' ∧ a' < 256 ∧ -9223372036854775808 ≤ b' ∧ b' ≤ 9223372036854775807 then (if codes.getD a'.toNat 0 = -1 ∧ (seen.any fun y => decide (y = b')) = false then parseG (L.drop (i + 1)) (i + 1) (codes.set a'.toNat b') (seen ++ [b']) else some ([], 5, ((i + 1 : Nat) : Int))) else none) = some r ∧ r.1.length ≤ 256
        obtain ⟨hlen, hmem, hany⟩ := hI
        have hat : a'.toNat < codes.length := by omega
        have hgm : codes.getD a'.toNat 0 ∈ codes := by
          rw [List.getD_eq_getElem?_getD, List.getElem?_eq_getElem hat]; exact List.getElem_mem hat
        have hrd : rd codes a' = codes.getD a'.toNat 0 := rfl
        have hc4 : 0 ≤ a' ∧ a' < 256 ∧ -9223372036854775808 ≤ b' ∧ b' ≤ 9223372036854775807 := ⟨ha0, ha1, by omega, by omega⟩
        have hal : a' < (codes.length : Int) := by omega
        rw [if_pos ha0, if_pos hal, if_pos hc4, hrd, byte_f codes b' (by omega) k (by omega), Option.bind_some]
        by_cases hc : codes.getD a'.toNat 0 ≥ 0
        · rw [if_pos hc, if_neg (fun q => by have := q.1; omega)]
          exact ⟨_, rfl, rfl, Nat.zero_le _⟩
        · have hc1 : codes.getD a'.toNat 0 = -1 := by
            rcases hmem _ hgm with q | q
            · exact q
            · exact absurd q hc
          rw [if_neg hc]
          have hsn := hany b' hb.1
          unfold byteR
          cases hca : (codes.any fun y => decide (y = b')) with
          | true =>
            have := byteL_in codes 0 b' hb.1 hca
            rw [if_pos (by omega), if_neg (fun q => by rw [hsn, hca] at q; exact absurd q.2 (by decide))]
            exact ⟨_, rfl, rfl, Nat.zero_le _⟩
          | false =>
            rw [byteL_out codes 0 b' hca, if_neg (by decide), if_pos ⟨hc1, by rw [hsn, hca]⟩]
            refine ih (i + 1) (by omega) (by omega) _ _ k ⟨by rw [List.length_set]; exact hlen, fun x hx => ?_, fun x hx => ?_⟩ (by omega)
            · rcases List.mem_or_eq_of_mem_set hx with q | q
              · exact hmem x q
              · right; rw [q]; exact hb.1
            · rw [any_snoc, any_set (fun y => decide (y = x)) codes _ b' hat (by show decide (codes.getD a'.toNat 0 = x) = false; rw [hc1]; exact decide_eq_false (by omega)), hany x hx]
theorem rep_set (n : Nat) : ∀ i : Nat, (List.replicate i (-1 : Int) ++ List.replicate (n + 1) 0).set i (-1) = List.replicate (i + 1) (-1) ++ List.replicate n 0 := by
  intro i
  induction i with
  | zero => rfl
  | succ i ih => rw [List.replicate_succ, List.cons_append, List.set_cons_succ, ih]; rfl
theorem rfill (s : ByteArray) (R : Option (List Int × Int × Int)) (M : Nat) (hR : ∀ k, M ≤ k → ((unicodetextref06_Split.f k s).bind fun t210 => (unicodetextref06_Parse.l1 k t210 0 (List.replicate 256 (-1)))) = R) :
    ∀ (n i : Nat), i ≤ 256 → 256 - i = n → ∀ k, n + M < k → unicodetextref06_Parse.l0 k s (i : Int) (List.replicate i (-1) ++ List.replicate n 0) = R := by
  intro n
  induction n with
  | zero =>
    intro i h1 h2 k hk
    obtain ⟨k, rfl⟩ : ∃ m, k = m + 1 := ⟨k - 1, by omega⟩
    obtain rfl : i = 256 := by omega
    rw [unicodetextref06_Parse.l0, if_neg (by decide), List.replicate_zero, List.append_nil]
    exact hR k (by omega)
  | succ n ih =>
    intro i h1 h2 k hk
    obtain ⟨k, rfl⟩ : ∃ m, k = m + 1 := ⟨k - 1, by omega⟩
    have hw : wrap64 ((i : Int) + 1) = ((i + 1 : Nat) : Int) := by unfold wrap64; omega
    rw [unicodetextref06_Parse.l0, if_pos (by omega), if_pos (by omega), if_pos (by rw [List.length_append, List.length_replicate, List.length_replicate]; omega), hw, Int.toNat_natCast, rep_set]
    exact ih (i + 1) (by omega) (by omega) k (by omega)
theorem lines_small (s : ByteArray) : ∀ x ∈ linesB s, x.size ≤ s.size := by
  have key : ∀ l : List UInt8, ∀ x ∈ linesL l, x.length ≤ l.length := by
    intro l
    induction l with
    | nil => intro x hx; rw [linesL, List.mem_singleton] at hx; rw [hx]; exact Nat.le_refl _
    | cons b r ih =>
      intro x hx
      by_cases h : b = 10
      · rw [h, linesL_nl] at hx
        rcases List.mem_cons.1 hx with q | q
        · rw [q]; exact Nat.zero_le _
        · have := ih x q; rw [List.length_cons]; omega
      · rw [linesL_other h] at hx
        cases hL : linesL r with
        | nil => exact absurd hL (linesL_ne r)
        | cons u v =>
          rw [hL] at hx ih
          rcases List.mem_cons.1 hx with q | q
          · have := ih u (List.mem_cons_self ..); rw [q, List.length_append, List.length_cons, List.length_cons, List.length_nil]; omega
          · have := ih x (List.mem_cons_of_mem _ q); rw [List.length_cons]; omega
  intro x hx
  rw [linesB_eq] at hx
  obtain ⟨y, hy, rfl⟩ := List.mem_map.1 hx
  have := key _ y hy
  rw [data_length] at this
  unfold mkB
  rw [bsize]; exact this
theorem par_both (s : ByteArray) (hs : s.size ≤ 3000) (k : Nat) (hk : 8000 < k) : ∃ r : List Int × Int × Int, charset_Parse.f s = some r ∧ unicodetextref06_Parse.f k s = some r ∧ r.1.length ≤ 256 := by
  have hll : (linesB s).length ≤ 3001 := by
    rw [lines_len]
    have := Go.Lib.countB_le ⟨#[10]⟩ (by decide) s.size s (Nat.le_refl _)
    omega
  have hsm := lines_small s
  have h0 : ParInv (List.replicate 256 (-1)) [] := ⟨List.length_replicate .., fun x hx => .inl (List.eq_of_mem_replicate hx), fun x hx => by
    rw [List.any_nil]
    symm
    rw [List.any_eq_false]
    intro y hy
    rw [List.eq_of_mem_replicate hy]
    exact fun q => by have := of_decide_eq_true q; omega⟩
  obtain ⟨r, -, hp, hr⟩ := rpar_l1 (linesB s) (by omega) (fun x hx => by have := hsm x hx; omega) (linesB s).length 0 (Nat.zero_le _) rfl _ _ 8000 h0 (by omega)
  rw [List.drop_zero] at hp
  refine ⟨r, ?_, ?_, hr⟩
  · unfold charset_Parse.f
    rw [if_neg (by omega)]; exact hp
  · unfold unicodetextref06_Parse.f
    rw [if_neg (by omega), if_pos (by decide)]
    refine rfill s (some r) 4000 (fun k hk => ?_) 256 0 (Nat.zero_le _) rfl k (by omega)
    obtain ⟨r', hl, hp', -⟩ := rpar_l1 (linesB s) (by omega) (fun x hx => by have := hsm x hx; omega) (linesB s).length 0 (Nat.zero_le _) rfl _ _ k h0 (by omega)
    rw [List.drop_zero, hp] at hp'
    rw [rsplit_f s (by omega) k (by omega), Option.bind_some]
    refine hl.trans ?_
    exact hp'.symm

end Go.Proofs.YtlgoagkgmndchaaDoor.PA

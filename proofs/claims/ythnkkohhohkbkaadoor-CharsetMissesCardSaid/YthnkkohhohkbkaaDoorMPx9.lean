-- Laid by hprint.py (this session's program, over the kit's print) for the seat YthnkkohhohkbkaaDoor. Lean checks it.
import Derived.Test.YthnkkohhohkbkaaDoorMPx0
import Derived.Test.YthnkkohhohkbkaaDoorMPx2
import Derived.Test.YthnkkohhohkbkaaDoorMPx4
import Derived.Test.YthnkkohhohkbkaaDoorMPx5
import Derived.Test.YthnkkohhohkbkaaDoorMPx8
namespace Go.Proofs.YthnkkohhohkbkaaDoor.MP
open Go.RowKit Go.Proofs.YthnkkohhohkbkaaDoorW.PrintWords Go.Proofs.YthnkkohhohkbkaaDoorW.PrintLast Go.Proofs.YthnkkohhohkbkaaDoorW.PrintMore
attribute [local go_sem] max2_int min2_int max_two min_two max_three min_three max_four min_four   -- for this text's walks alone
set_option linter.unusedVariables false
set_option linter.unusedSimpArgs false

/-! ### prelude cmiss -/
def insU (x : Int) : List Int → List Int
  | [] => [x]
  | y :: r => if y < x then y :: insU x r else if y = x then y :: r else x :: y :: r
def missF (l : List Int) : List Int → List Int → List Int
  | [], out => out
  | x :: r, out => missF l r (if 0 ≤ byteR l x then out else insU x out)
theorem insU_len (x : Int) : ∀ l : List Int, (insU x l).length ≤ l.length + 1 := by
  intro l
  induction l with
  | nil => exact Nat.le_refl _
  | cons y r ih =>
    rw [insU]
    split
    · rw [List.length_cons, List.length_cons]; omega
    · split
      · exact Nat.le_succ _
      · exact Nat.le_refl _
theorem insU_mem (x z : Int) : ∀ l : List Int, z ∈ insU x l ↔ z = x ∨ z ∈ l := by
  intro l
  induction l with
  | nil => rw [insU, List.mem_singleton]; simp
  | cons y r ih =>
    rw [insU]
    by_cases h : y < x
    · rw [if_pos h, List.mem_cons, List.mem_cons, ih]
      constructor
      · rintro (q | q | q)
        · exact .inr (.inl q)
        · exact .inl q
        · exact .inr (.inr q)
      · rintro (q | q | q)
        · exact .inr (.inl q)
        · exact .inl q
        · exact .inr (.inr q)
    · rw [if_neg h]
      by_cases e : y = x
      · rw [if_pos e]
        constructor
        · exact .inr
        · rintro (q | q)
          · rw [q, e]; exact List.mem_cons_self ..
          · exact q
      · rw [if_neg e, List.mem_cons]
theorem insU_sorted (x : Int) : ∀ l : List Int, l.Pairwise (· < ·) → (insU x l).Pairwise (· < ·) := by
  intro l
  induction l with
  | nil => intro _; rw [insU]; exact List.pairwise_singleton _ _
  | cons y r ih =>
    intro h
    rw [List.pairwise_cons] at h
    rw [insU]
    by_cases c : y < x
    · rw [if_pos c, List.pairwise_cons]
      refine ⟨fun z hz => ?_, ih h.2⟩
      rcases (insU_mem x z r).1 hz with q | q
      · rw [q]; exact c
      · exact h.1 z q
    · rw [if_neg c]
      by_cases e : y = x
      · rw [if_pos e, List.pairwise_cons]; exact h
      · rw [if_neg e, List.pairwise_cons, List.pairwise_cons]
        refine ⟨fun z hz => ?_, h⟩
        rcases List.mem_cons.1 hz with q | q
        · rw [q]; omega
        · have := h.1 z q; omega
theorem missF_mem (l : List Int) (z : Int) : ∀ (t out : List Int), z ∈ missF l t out ↔ z ∈ out ∨ (z ∈ t ∧ ¬ 0 ≤ byteR l z) := by
  intro t
  induction t with
  | nil => intro out; rw [missF]; simp
  | cons x r ih =>
    intro out
    rw [missF, ih, List.mem_cons]
    by_cases h : 0 ≤ byteR l x
    · rw [if_pos h]
      constructor
      · rintro (q | ⟨q, q2⟩)
        · exact .inl q
        · exact .inr ⟨.inr q, q2⟩
      · rintro (q | ⟨q | q, q2⟩)
        · exact .inl q
        · rw [q] at q2; exact absurd h q2
        · exact .inr ⟨q, q2⟩
    · rw [if_neg h, insU_mem]
      constructor
      · rintro ((q | q) | ⟨q, q2⟩)
        · exact .inr ⟨.inl q, by rw [q]; exact h⟩
        · exact .inl q
        · exact .inr ⟨.inr q, q2⟩
      · rintro (q | ⟨q | q, q2⟩)
        · exact .inl (.inr q)
        · exact .inl (.inl q)
        · exact .inr ⟨q, q2⟩
theorem missF_sorted (l : List Int) : ∀ (t out : List Int), out.Pairwise (· < ·) → (missF l t out).Pairwise (· < ·) := by
  intro t
  induction t with
  | nil => intro out h; exact h
  | cons x r ih =>
    intro out h
    rw [missF]
    refine ih _ ?_
    split
    · exact h
    · exact insU_sorted x out h
theorem sorted_unique : ∀ l m : List Int, l.Pairwise (· < ·) → m.Pairwise (· < ·) → (∀ x, x ∈ l ↔ x ∈ m) → l = m := by
  intro l
  induction l with
  | nil =>
    intro m _ _ h
    cases m with
    | nil => rfl
    | cons b s => exact absurd ((h b).2 (List.mem_cons_self ..)) List.not_mem_nil
  | cons a r ih =>
    intro m hl hm h
    cases m with
    | nil => exact absurd ((h a).1 (List.mem_cons_self ..)) List.not_mem_nil
    | cons b s =>
      rw [List.pairwise_cons] at hl hm
      have hab : a = b := by
        rcases List.mem_cons.1 ((h a).1 (List.mem_cons_self ..)) with q | q
        · exact q
        · rcases List.mem_cons.1 ((h b).2 (List.mem_cons_self ..)) with q2 | q2
          · exact q2.symm
          · have h1 := hm.1 a q
            have h2 := hl.1 b q2
            omega
      subst hab
      rw [ih s hl.2 hm.2 (fun x => ?_)]
      constructor
      · intro hx
        rcases List.mem_cons.1 ((h x).1 (List.mem_cons_of_mem _ hx)) with q | q
        · have := hl.1 x hx; omega
        · exact q
      · intro hx
        rcases List.mem_cons.1 ((h x).2 (List.mem_cons_of_mem _ hx)) with q | q
        · have := hm.1 x hx; omega
        · exact q
theorem compact_upto (d : Array Int) (hs : ∀ i j, i ≤ j → j < d.size → d[i]! ≤ d[j]!) : ∀ m, m ≤ d.size → (Lib.compactUpTo d m).Pairwise (· < ·) ∧ ∀ x, x ∈ Lib.compactUpTo d m ↔ ∃ j, j < m ∧ d[j]! = x := by
  intro m
  induction m with
  | zero =>
    intro _
    refine ⟨List.Pairwise.nil, fun x => ⟨fun h => absurd h List.not_mem_nil, ?_⟩⟩
    rintro ⟨j, hj, _⟩; omega
  | succ m ih =>
    intro hm
    obtain ⟨h1, h2⟩ := ih (by omega)
    rw [Lib.compactUpTo_succ]
    by_cases hk : Lib.keeps d m = true
    · rw [if_pos hk]
      have hlt : ∀ x ∈ Lib.compactUpTo d m, x < d[m]! := by
        intro x hx
        obtain ⟨j, hj, rfl⟩ := (h2 x).1 hx
        have a := hs j (m - 1) (by omega) (by omega)
        have b := hs (m - 1) m (by omega) (by omega)
        have c : d[m]! ≠ d[m - 1]! := by
          intro e
          rw [Lib.keeps_neg (by omega) e] at hk
          cases hk
        omega
      refine ⟨List.pairwise_append.2 ⟨h1, List.pairwise_singleton _ _, fun x hx y hy => ?_⟩, fun x => ?_⟩
      · rw [List.mem_singleton] at hy; rw [hy]; exact hlt x hx
      · rw [List.mem_append, List.mem_singleton, h2]
        constructor
        · rintro (⟨j, hj, e⟩ | e)
          · exact ⟨j, by omega, e⟩
          · exact ⟨m, by omega, e.symm⟩
        · rintro ⟨j, hj, e⟩
          by_cases hjm : j = m
          · right; rw [← e, hjm]
          · exact .inl ⟨j, by omega, e⟩
    · rw [if_neg hk, List.append_nil]
      refine ⟨h1, fun x => ?_⟩
      rw [h2]
      have hm0 : 0 < m := by
        rcases Nat.eq_zero_or_pos m with e | e
        · exact absurd (Lib.keeps_lt_one d m (by omega)) hk
        · exact e
      have he : d[m]! = d[m - 1]! := by
        by_cases c : d[m]! = d[m - 1]!
        · exact c
        · exact absurd (Lib.keeps_pos c) hk
      constructor
      · rintro ⟨j, hj, e⟩; exact ⟨j, by omega, e⟩
      · rintro ⟨j, hj, e⟩
        by_cases hjm : j = m
        · exact ⟨m - 1, by omega, by rw [← he, ← hjm]; exact e⟩
        · exact ⟨j, by omega, e⟩
theorem sortL_sorted (l : List Int) : (sortL l).Pairwise (· ≤ ·) := by
  have := List.pairwise_mergeSort (le := fun x y : Int => decide (x ≤ y)) (fun a b c h1 h2 => by
    rw [decide_eq_true_eq] at h1 h2 ⊢; omega) (fun a b => by
    rw [Bool.or_eq_true, decide_eq_true_eq, decide_eq_true_eq]; omega) l
  exact this.imp fun h => of_decide_eq_true h
theorem compact_sort (l : List Int) : (Lib.compact (sortL l)).Pairwise (· < ·) ∧ ∀ x, x ∈ Lib.compact (sortL l) ↔ x ∈ l := by
  have hs := sortL_sorted l
  have hm : ∀ x, x ∈ sortL l ↔ x ∈ l := fun x => (List.mergeSort_perm l _).mem_iff
  generalize sortL l = s at hs hm
  have hget : ∀ j, j < s.length → s.toArray[j]! = s.getD j 0 := by
    intro j hj
    rw [List.getD_eq_getElem?_getD, List.getElem?_eq_getElem hj]
    simp [hj]
  have h := compact_upto s.toArray (fun i j hij hj => by
    have hj' : j < s.length := by simpa using hj
    rw [hget i (by omega), hget j hj']
    rw [List.getD_eq_getElem?_getD, List.getD_eq_getElem?_getD, List.getElem?_eq_getElem (by omega : i < s.length), List.getElem?_eq_getElem hj']
    by_cases e : i = j
    · subst e; exact Int.le_refl _
    · exact List.pairwise_iff_getElem.1 hs i j (by omega) hj' (by omega)) s.length (by simp)
  refine ⟨h.1, fun x => ?_⟩
  rw [← hm]
  unfold Lib.compact
  rw [h.2]
  constructor
  · rintro ⟨j, hj, e⟩
    rw [hget j hj, List.getD_eq_getElem?_getD, List.getElem?_eq_getElem hj] at e
    rw [← e]; exact List.getElem_mem hj
  · intro hx
    obtain ⟨j, hj, e⟩ := List.mem_iff_getElem.1 hx
    refine ⟨j, hj, ?_⟩
    rw [hget j hj, List.getD_eq_getElem?_getD, List.getElem?_eq_getElem hj]
    exact e
theorem miss_eq {l : List Int} (h : checkB l = 0) (t : List Int) : Lib.compact (sortL (missB l t)) = missF l t [] := by
  have hc := compact_sort (missB l t)
  refine sorted_unique _ _ hc.1 (missF_sorted l t [] List.Pairwise.nil) fun x => ?_
  rw [hc.2, missF_mem]
  unfold missB
  rw [List.mem_filter, byteOf_eq h x]
  constructor
  · rintro ⟨h1, h2⟩
    right
    refine ⟨h1, fun h0 => ?_⟩
    rw [if_pos h0] at h2; cases h2
  · rintro (h0 | ⟨h1, h2⟩)
    · cases h0
    · exact ⟨h1, by rw [if_neg h2]; rfl⟩
theorem rmiss_l1 (l t out : List Int) (i : Nat) (x : Int) (R : Option (List Int)) (M : Nat) (hout : out.length ≤ 1000) (hR : ∀ k, M ≤ k → unicodetextref06_Missing.l0 k t (insU x out) ((i + 1 : Nat) : Int) l = R) (hi : i ≤ 1000) :
    ∀ (n j : Nat), j ≤ out.length → out.length - j = n → insU x out = out.take j ++ insU x (out.drop j) → ∀ k, n + 1 + M ≤ k → unicodetextref06_Missing.l1 k t out (i : Int) x (j : Int) l = R := by
  have hw : wrap64 ((i : Int) + 1) = ((i + 1 : Nat) : Int) := by unfold wrap64; omega
  intro n
  induction n with
  | zero =>
    intro j h1 h2 hU k hk
    obtain ⟨k, rfl⟩ : ∃ m, k = m + 1 := ⟨k - 1, by omega⟩
    have hj : j = out.length := by omega
    have hd : out.drop j = [] := List.drop_of_length_le (by omega)
    have ht : out.take j = out := List.take_of_length_le (by omega)
    have hr := hR k (by omega)
    rw [hU, ht, hd, insU] at hr
    rw [unicodetextref06_Missing.l1, if_neg (by omega), if_pos (by omega), Option.bind_some, if_pos (by omega), if_pos (by omega), Option.bind_some, Int.toNat_natCast, ht, hd, List.nil_append, if_pos (by rw [List.length_nil]; omega), Option.bind_some, if_pos (by omega), Option.bind_some, Option.bind_some, if_pos (by rw [List.length_append, List.length_singleton, List.length_nil]; omega), List.append_nil, hw]
    exact hr
  | succ n ih =>
    intro j h1 h2 hU k hk
    obtain ⟨k, rfl⟩ : ∃ m, k = m + 1 := ⟨k - 1, by omega⟩
    have hj : j < out.length := by omega
    have hwj : wrap64 ((j : Int) + 1) = ((j + 1 : Nat) : Int) := by unfold wrap64; omega
    have hd := drop_at out 0 j hj
    have ht := take_at out j hj
    have hl1 : (out.take j).length ≤ 1000 := by rw [List.length_take]; omega
    have hl2 : (out.drop j).length ≤ 1000 := by rw [List.length_drop]; omega
    rw [unicodetextref06_Missing.l1, if_pos (by omega), if_pos (by omega), rd_nat]
    by_cases c : out.getD j 0 < x
    · rw [if_pos c, hwj]
      refine ih (j + 1) (by omega) (by omega) ?_ k (by omega)
      rw [hU, hd, insU, if_pos c, ht, List.append_assoc]
      rfl
    · have hr := hR k (by omega)
      rw [if_neg c, if_neg (by omega)]
      by_cases e : out.getD j 0 = x
      · have hsame : insU x out = out := by
          rw [hU, hd, insU, if_neg c, if_pos e, ← hd, List.take_append_drop]
        rw [if_pos e, hw, ← hr, hsame]
      · have hnew : insU x out = out.take j ++ [x] ++ out.drop j := by
          rw [hU, hd, insU, if_neg c, if_neg e, List.append_assoc]; rfl
        rw [hnew] at hr
        rw [if_neg e, Option.bind_some, if_pos (by omega), Option.bind_some, Int.toNat_natCast, List.nil_append, if_pos (by rw [List.length_nil]; omega), Option.bind_some, if_pos (by omega), Option.bind_some, Option.bind_some, if_pos (by rw [List.length_append, List.length_singleton]; omega), hw]
        exact hr
theorem rmiss_l0 (l t : List Int) (hl : l.length = 256) (ht : t.length ≤ 500) : ∀ (n i : Nat), i ≤ t.length → t.length - i = n → ∀ (out : List Int) (k : Nat), out.length ≤ i → 1000 * n + 1000 < k → unicodetextref06_Missing.l0 k t out (i : Int) l = some (missF l (t.drop i) out) := by
  intro n
  induction n with
  | zero =>
    intro i h1 h2 out k ho hk
    obtain ⟨k, rfl⟩ : ∃ m, k = m + 1 := ⟨k - 1, by omega⟩
    rw [unicodetextref06_Missing.l0, if_neg (by omega), List.drop_of_length_le (by omega), missF]
  | succ n ih =>
    intro i h1 h2 out k ho hk
    obtain ⟨k, rfl⟩ : ∃ m, k = m + 1 := ⟨k - 1, by omega⟩
    have hi : i < t.length := by omega
    have hw : wrap64 ((i : Int) + 1) = ((i + 1 : Nat) : Int) := by unfold wrap64; omega
    rw [unicodetextref06_Missing.l0, if_pos (by omega), if_pos (by omega), rd_nat, byte_f l _ (by omega) k (by omega), Option.bind_some, drop_at t 0 i hi, missF]
    generalize t.getD i 0 = x
    by_cases h0 : 0 ≤ byteR l x
    · rw [if_pos h0, if_pos h0, hw]
      exact ih (i + 1) (by omega) (by omega) out k (by omega) (by omega)
    · rw [if_neg h0, if_neg h0]
      have hlen := insU_len x out
      exact rmiss_l1 l t out i x (some (missF l (t.drop (i + 1)) (insU x out))) (1000 * n + 1001) (by omega) (fun k' hk' => ih (i + 1) (by omega) (by omega) (insU x out) k' (by omega) (by omega)) (by omega) out.length 0 (Nat.zero_le _) (by omega) (by rw [List.take_zero, List.drop_zero]; rfl) k (by omega)
theorem rmiss_f (l t : List Int) (ht : t.length ≤ 500) (k : Nat) (hk : 1000 * t.length + 3000 < k) : unicodetextref06_Missing.f k l t = some (if checkB l = 0 then missF l t [] else []) := by
  unfold unicodetextref06_Missing.f
  rw [rcheck_f l k (by omega), Option.bind_some]
  by_cases h : checkB l = 0
  · rw [if_pos h, if_pos h]
    have := rmiss_l0 l t (check_len h) ht t.length 0 (Nat.zero_le _) rfl [] k (Nat.le_refl _) (by omega)
    rw [List.drop_zero] at this
    exact this
  · rw [if_neg h, if_neg h]
theorem encG_fail (g : Int → Option Int) : ∀ (t : List Int) (i : Nat) (acc : List UInt8), (encG g 1 t i acc).2.1 = if (t.any fun x => (g x).isNone) = true then 10 else 0 := by
  intro t
  induction t with
  | nil => intro i acc; rfl
  | cons x r ih =>
    intro i acc
    rw [encG, List.any_cons]
    cases hg : g x with
    | some y =>
      have e1 : (some y).isSome = true := rfl
      rw [if_pos e1, ih]; rfl
    | none =>
      have e1 : ¬ (none : Option Int).isSome = true := by decide
      rw [if_neg e1, if_pos rfl]; rfl

end Go.Proofs.YthnkkohhohkbkaaDoor.MP
